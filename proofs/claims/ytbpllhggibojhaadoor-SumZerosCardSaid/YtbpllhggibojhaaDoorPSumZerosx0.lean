/- What this seat's Go functions compute, as Lean functions, and that they do. Written by a program of this session's (wip/pr/pr.py) by means of the kit's printer, with contracts of ours for some functions; conditions: none beyond each theorem's own. -/
import Derived.Test.YtbpllhggibojhaaDoorProg
import Derived.Below
import Derived.Deep.Draws
import Derived.Deep.AppendLies
import Derived.Maps.AppendAt
import Derived.OwnWalk
import Derived.Laws.BytesArg
import Derived.Laws.MakeOwn
import Derived.Laws.OwnMore
import Derived.Deep.OwnRows
import Derived.Tactics
import Derived.Lib.ConvBytes
import Derived.Laws.Slices
import Derived.WalkKit
import Derived.KernelRfl
import Derived.RowKit3
import Derived.Deep.LoopGhost
import Derived.Deep.QuietTactic
import Derived.BigQuiet
import Derived.WideLaws
import Derived.Deep.DeepCutAuto
import Derived.Deep.CutBlock
import Derived.Deep.RegionHeld3
import Derived.Laws.Rows
import Derived.Lib.AppendStr
import Derived.ArgAppend
import Derived.Laws.IdiomCopy
import Derived.OrdersHeld
import Derived.Laws.BitsLemmas
import Derived.RowKit
import Derived.Test.YtbpllhggibojhaaDoorBaseD
import Derived.Test.YtbpllhggibojhaaDoorWWords
import Derived.Test.YtbpllhggibojhaaDoorWLast
import Derived.Test.YtbpllhggibojhaaDoorWTab
import Derived.Test.YtbpllhggibojhaaDoorWFour
import Derived.Test.YtbpllhggibojhaaDoorWQPut
import Derived.Test.YtbpllhggibojhaaDoorWApart
import Derived.Test.YtbpllhggibojhaaDoorWArr
import Derived.Test.YtbpllhggibojhaaDoorWZeros
import Derived.Test.YtbpllhggibojhaaDoorWFoot
import Derived.Test.YtbpllhggibojhaaDoorWKept
import Derived.Test.YtbpllhggibojhaaDoorWShare
import Derived.Test.YtbpllhggibojhaaDoorWN
import Derived.Test.YtbpllhggibojhaaDoorWFootNe
import Derived.Test.YtbpllhggibojhaaDoorWAt
import Derived.Test.YtbpllhggibojhaaDoorWEqStruct
import Derived.Test.YtbpllhggibojhaaDoorWRepsOne
import Derived.Test.YtbpllhggibojhaaDoorWInv
import Derived.Test.YtbpllhggibojhaaDoorWInvWords
import Derived.Test.YtbpllhggibojhaaDoorWGuard
import Derived.Test.YtbpllhggibojhaaDoorWNEv
import Derived.Test.YtbpllhggibojhaaDoorWMore
namespace Go.Proofs.YtbpllhggibojhaaDoor.PSumZeros
open Go.RowKit Go.Proofs.YtbpllhggibojhaaDoorW.PrintWords Go.Proofs.YtbpllhggibojhaaDoorW.PrintLast Go.Proofs.YtbpllhggibojhaaDoorW.PrintMore
attribute [local go_sem] max2_int min2_int max_two min_two max_three min_three max_four min_four   -- for this text's walks alone
set_option linter.unusedVariables false
set_option linter.unusedSimpArgs false



def errW : Option Int → Value
  | none => .nilIface
  | some c => .iface 0 (.int .i64 c)
theorem errW_none : errW none = .nilIface := rfl
theorem errW_some (c : Int) : errW (some c) = .iface 0 (.int .i64 c) := rfl

theorem info5 : (Tryd.prog.info? 5).map (fun i => (i.zero, i.size, i.bytes)) = some (some (.int .u8 0), 1, 1) := by kernel_rfl
theorem info9 : (Tryd.prog.info? 9).map (fun i => (i.zero, i.size, i.bytes)) = some (some (.string ⟨#[]⟩), 1, 16) := by kernel_rfl
-- the values' own types

end Go.Proofs.YtbpllhggibojhaaDoor.PSumZeros
