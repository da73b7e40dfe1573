/- Proved: the names of package api stand for the document's numbers. Conditions: none; the statement takes no input. -/
import Derived.Test.YtljgfbjmfkjacaaPNamesx1
namespace Go.Proofs.Ytljgfbjmfkjacaa.Pure
open Go.RowKit Go.Proofs.Ytljgfbjmfkjacaa.PNames Go.Proofs.YtljgfbjmfkjacaaW.PrintWords Go.Proofs.YtljgfbjmfkjacaaW.PrintLast

theorem Names : muleteerlaw0_Names.Pure := ⟨71, by decide +kernel⟩

end Go.Proofs.Ytljgfbjmfkjacaa.Pure
