/-
  DERIVED. GIVEN WITH THE SEED: THE CARDS: each row of YtjpjdfebkghllaaGreatDoorRows.lean that lists a variable, with what it lists TIED to the program's text (the seventh form; the later family's looks); each row that meets fmt, with fmt's text TOLD by the authors' own Lean function (tested against real Go, not proved from fmt's source: count such statements apart). THE CARD IS WHAT COUNTS. Prove the row's statement (the work); the ties are given (YtjpjdfebkghllaaGreatDoorTie.lean); close each card by the builder's one call (the guide's Derived/Test/ToyasCard.lean, 'card_holds'). Laid BY PROGRAM, IN A SANDBOX (cutbox-door.mjs). By AI agents, Wed Nov 11 2026. No macro, syntax, notation, axiom, sorry.
-/
import Derived.Test.YtjpjdfebkghllaaGreatDoorRows
import GoSem.ClaimSeven
namespace Go.Proofs.YtjpjdfebkghllaaGreatDoor
namespace Rows

/-- THE TIED CARD OF 'muleteerlaw1.CodeAll'. -/
def codeAllCard : Claim7 := { stood := { row := codeAllRow, standIns := [], harness := (true, "e9b465fb626a13ed5d9d7465c6171cb00ab5d2ce09bdd67c63a5c3fdcf50b0ab"), looks := true }, kinds := [], alts := [], laidByText := true, laidKinds := [.data, .data, .data, .data, .sentinel, .sentinel, .pinned], laidTests := true, laidLooks := .later }
def CodeAllCardSaid : Prop := Claim7.holds Tryz.pinned (.plain (OpenSpec.ofChange codeAllSpec)) codeAllCard

/-- THE TIED CARD OF 'muleteerlaw1.CodeSigns'. -/
def codeSignsCard : Claim7 := { stood := { row := codeSignsRow, standIns := [], harness := (true, "e9b465fb626a13ed5d9d7465c6171cb00ab5d2ce09bdd67c63a5c3fdcf50b0ab"), looks := true }, kinds := [], alts := [], laidByText := true, laidKinds := [.data, .data, .data, .data, .sentinel, .sentinel, .pinned], laidTests := true, laidLooks := .later }
def CodeSignsCardSaid : Prop := Claim7.holds Tryz.pinned (.plain (OpenSpec.ofChange codeSignsSpec)) codeSignsCard

/-- THE TIED CARD OF 'muleteerlaw1.OptTorn'. -/
def optTornCard : Claim7 := { stood := { row := optTornRow, standIns := [], harness := (true, "e9b465fb626a13ed5d9d7465c6171cb00ab5d2ce09bdd67c63a5c3fdcf50b0ab"), looks := true }, kinds := [], alts := [], laidByText := true, laidKinds := [.data, .data, .data, .data, .sentinel, .sentinel, .pinned], laidTests := true, laidLooks := .later }
def OptTornCardSaid : Prop := Claim7.holds Tryz.pinned (.plain (OpenSpec.ofChange optTornSpec)) optTornCard

/-- THE TIED CARD OF 'muleteerlaw1.CodeForms'. -/
def codeFormsCard : Claim7 := { stood := { row := codeFormsRow, standIns := [], harness := (true, "e9b465fb626a13ed5d9d7465c6171cb00ab5d2ce09bdd67c63a5c3fdcf50b0ab"), looks := true }, kinds := [], alts := [], laidByText := true, laidKinds := [.data, .data, .data, .data, .sentinel, .sentinel, .pinned], laidTests := true, laidLooks := .later }
def CodeFormsCardSaid : Prop := Claim7.holds Tryz.pinned (.plain (OpenSpec.ofChange codeFormsSpec)) codeFormsCard

/-- THE TIED CARD OF 'muleteerlaw1.CodeRunes'. -/
def codeRunesCard : Claim7 := { stood := { row := codeRunesRow, standIns := [], harness := (true, "e9b465fb626a13ed5d9d7465c6171cb00ab5d2ce09bdd67c63a5c3fdcf50b0ab"), looks := true }, kinds := [], alts := [], laidByText := true, laidKinds := [.data, .data, .data, .data, .sentinel, .sentinel, .pinned], laidTests := true, laidLooks := .later }
def CodeRunesCardSaid : Prop := Claim7.holds Tryz.pinned (.plain (OpenSpec.ofChange codeRunesSpec)) codeRunesCard

/-- THE TIED CARD OF 'muleteerlaw1.CodeReason'. -/
def codeReasonCard : Claim7 := { stood := { row := codeReasonRow, standIns := [], harness := (true, "e9b465fb626a13ed5d9d7465c6171cb00ab5d2ce09bdd67c63a5c3fdcf50b0ab"), looks := true }, kinds := [], alts := [], laidByText := true, laidKinds := [.data, .data, .data, .data, .sentinel, .sentinel, .pinned], laidTests := true, laidLooks := .later }
def CodeReasonCardSaid : Prop := Claim7.holds Tryz.pinned (.plain (OpenSpec.ofChange codeReasonSpec)) codeReasonCard

/-- THE TIED CARD OF 'muleteerlaw1.SumTwo'. -/
def sumTwoCard : Claim7 := { stood := { row := sumTwoRow, standIns := [], harness := (true, "e9b465fb626a13ed5d9d7465c6171cb00ab5d2ce09bdd67c63a5c3fdcf50b0ab"), looks := true }, kinds := [], alts := [], laidByText := true, laidKinds := [.data, .data, .data, .data, .sentinel, .sentinel, .pinned], laidTests := true, laidLooks := .later }
def SumTwoCardSaid : Prop := Claim7.holds Tryz.pinned (.plain (OpenSpec.ofChange sumTwoSpec)) sumTwoCard

/-- THE SECOND FORM's CARD OF 'muleteerlaw1.CodeAll'. -/
def codeAllUptoCard : Claim7 := { stood := { row := codeAllUptoRow, standIns := [], harness := (true, "e9b465fb626a13ed5d9d7465c6171cb00ab5d2ce09bdd67c63a5c3fdcf50b0ab"), looks := true }, kinds := [], alts := [], laidByText := true, laidKinds := [.data, .data, .data, .data, .sentinel, .sentinel, .pinned], laidTests := true, laidLooks := .later }
def CodeAllUptoCardSaid : Prop := Claim7.holds Tryz.pinned (.plain (OpenSpec.upto codeAllSpec)) codeAllUptoCard

/-- THE SECOND FORM's CARD OF 'muleteerlaw1.CodeSigns'. -/
def codeSignsUptoCard : Claim7 := { stood := { row := codeSignsUptoRow, standIns := [], harness := (true, "e9b465fb626a13ed5d9d7465c6171cb00ab5d2ce09bdd67c63a5c3fdcf50b0ab"), looks := true }, kinds := [], alts := [], laidByText := true, laidKinds := [.data, .data, .data, .data, .sentinel, .sentinel, .pinned], laidTests := true, laidLooks := .later }
def CodeSignsUptoCardSaid : Prop := Claim7.holds Tryz.pinned (.plain (OpenSpec.upto codeSignsSpec)) codeSignsUptoCard

/-- THE SECOND FORM's CARD OF 'muleteerlaw1.OptTorn'. -/
def optTornUptoCard : Claim7 := { stood := { row := optTornUptoRow, standIns := [], harness := (true, "e9b465fb626a13ed5d9d7465c6171cb00ab5d2ce09bdd67c63a5c3fdcf50b0ab"), looks := true }, kinds := [], alts := [], laidByText := true, laidKinds := [.data, .data, .data, .data, .sentinel, .sentinel, .pinned], laidTests := true, laidLooks := .later }
def OptTornUptoCardSaid : Prop := Claim7.holds Tryz.pinned (.plain (OpenSpec.upto optTornSpec)) optTornUptoCard

/-- THE SECOND FORM's CARD OF 'muleteerlaw1.CodeForms'. -/
def codeFormsUptoCard : Claim7 := { stood := { row := codeFormsUptoRow, standIns := [], harness := (true, "e9b465fb626a13ed5d9d7465c6171cb00ab5d2ce09bdd67c63a5c3fdcf50b0ab"), looks := true }, kinds := [], alts := [], laidByText := true, laidKinds := [.data, .data, .data, .data, .sentinel, .sentinel, .pinned], laidTests := true, laidLooks := .later }
def CodeFormsUptoCardSaid : Prop := Claim7.holds Tryz.pinned (.plain (OpenSpec.upto codeFormsSpec)) codeFormsUptoCard

/-- THE SECOND FORM's CARD OF 'muleteerlaw1.CodeRunes'. -/
def codeRunesUptoCard : Claim7 := { stood := { row := codeRunesUptoRow, standIns := [], harness := (true, "e9b465fb626a13ed5d9d7465c6171cb00ab5d2ce09bdd67c63a5c3fdcf50b0ab"), looks := true }, kinds := [], alts := [], laidByText := true, laidKinds := [.data, .data, .data, .data, .sentinel, .sentinel, .pinned], laidTests := true, laidLooks := .later }
def CodeRunesUptoCardSaid : Prop := Claim7.holds Tryz.pinned (.plain (OpenSpec.upto codeRunesSpec)) codeRunesUptoCard

/-- THE SECOND FORM's CARD OF 'muleteerlaw1.CodeReason'. -/
def codeReasonUptoCard : Claim7 := { stood := { row := codeReasonUptoRow, standIns := [], harness := (true, "e9b465fb626a13ed5d9d7465c6171cb00ab5d2ce09bdd67c63a5c3fdcf50b0ab"), looks := true }, kinds := [], alts := [], laidByText := true, laidKinds := [.data, .data, .data, .data, .sentinel, .sentinel, .pinned], laidTests := true, laidLooks := .later }
def CodeReasonUptoCardSaid : Prop := Claim7.holds Tryz.pinned (.plain (OpenSpec.upto codeReasonSpec)) codeReasonUptoCard

/-- THE SECOND FORM's CARD OF 'muleteerlaw1.SumTwo'. -/
def sumTwoUptoCard : Claim7 := { stood := { row := sumTwoUptoRow, standIns := [], harness := (true, "e9b465fb626a13ed5d9d7465c6171cb00ab5d2ce09bdd67c63a5c3fdcf50b0ab"), looks := true }, kinds := [], alts := [], laidByText := true, laidKinds := [.data, .data, .data, .data, .sentinel, .sentinel, .pinned], laidTests := true, laidLooks := .later }
def SumTwoUptoCardSaid : Prop := Claim7.holds Tryz.pinned (.plain (OpenSpec.upto sumTwoSpec)) sumTwoUptoCard
end Rows
end Go.Proofs.YtjpjdfebkghllaaGreatDoor
