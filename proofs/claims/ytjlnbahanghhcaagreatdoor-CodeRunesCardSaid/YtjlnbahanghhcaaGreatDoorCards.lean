/-
  DERIVED. GIVEN WITH THE SEED: THE CARDS: each row of YtjlnbahanghhcaaGreatDoorRows.lean that lists a variable, with what it lists TIED to the program's text (the seventh form; the later family's looks); each row that meets fmt, with fmt's text TOLD by the authors' own Lean function (tested against real Go, not proved from fmt's source: count such statements apart). THE CARD IS WHAT COUNTS. Prove the row's statement (the work); the ties are given (YtjlnbahanghhcaaGreatDoorTie.lean); close each card by the builder's one call (the guide's Derived/Test/ToyasCard.lean, 'card_holds'). Laid BY PROGRAM, IN A SANDBOX (cutbox-door.mjs). By AI agents, Wed Nov 11 2026. No macro, syntax, notation, axiom, sorry.
-/
import Derived.Test.YtjlnbahanghhcaaGreatDoorRows
import GoSem.ClaimSeven
namespace Go.Proofs.YtjlnbahanghhcaaGreatDoor
namespace Rows

/-- THE TIED CARD OF 'muleteerlaw1.PktAny'. -/
def pktAnyCard : Claim7 := { stood := { row := pktAnyRow, standIns := [], harness := (true, "c61f58d00015e028108068e52a3a82f94dd8d24d449566641fca9c5d49e2af6b"), looks := true }, kinds := [], alts := [], laidByText := true, laidKinds := [.data, .data, .data, .data, .sentinel, .sentinel, .pinned], laidTests := true, laidLooks := .later }
def PktAnyCardSaid : Prop := Claim7.holds Tryz.pinned (.plain (OpenSpec.ofChange pktAnySpec)) pktAnyCard

/-- THE TIED CARD OF 'muleteerlaw1.PktAll'. -/
def pktAllCard : Claim7 := { stood := { row := pktAllRow, standIns := [], harness := (true, "c61f58d00015e028108068e52a3a82f94dd8d24d449566641fca9c5d49e2af6b"), looks := true }, kinds := [], alts := [], laidByText := true, laidKinds := [.data, .data, .data, .data, .sentinel, .sentinel, .pinned], laidTests := true, laidLooks := .later }
def PktAllCardSaid : Prop := Claim7.holds Tryz.pinned (.plain (OpenSpec.ofChange pktAllSpec)) pktAllCard

/-- THE TIED CARD OF 'muleteerlaw1.SumAll'. -/
def sumAllCard : Claim7 := { stood := { row := sumAllRow, standIns := [], harness := (true, "c61f58d00015e028108068e52a3a82f94dd8d24d449566641fca9c5d49e2af6b"), looks := true }, kinds := [], alts := [], laidByText := true, laidKinds := [.data, .data, .data, .data, .sentinel, .sentinel, .pinned], laidTests := true, laidLooks := .later }
def SumAllCardSaid : Prop := Claim7.holds Tryz.pinned (.plain (OpenSpec.ofChange sumAllSpec)) sumAllCard

/-- THE TIED CARD OF 'muleteerlaw1.CodeSigns'. -/
def codeSignsCard : Claim7 := { stood := { row := codeSignsRow, standIns := [], harness := (true, "c61f58d00015e028108068e52a3a82f94dd8d24d449566641fca9c5d49e2af6b"), looks := true }, kinds := [], alts := [], laidByText := true, laidKinds := [.data, .data, .data, .data, .sentinel, .sentinel, .pinned], laidTests := true, laidLooks := .later }
def CodeSignsCardSaid : Prop := Claim7.holds Tryz.pinned (.plain (OpenSpec.ofChange codeSignsSpec)) codeSignsCard

/-- THE TIED CARD OF 'muleteerlaw1.CodeAll'. -/
def codeAllCard : Claim7 := { stood := { row := codeAllRow, standIns := [], harness := (true, "c61f58d00015e028108068e52a3a82f94dd8d24d449566641fca9c5d49e2af6b"), looks := true }, kinds := [], alts := [], laidByText := true, laidKinds := [.data, .data, .data, .data, .sentinel, .sentinel, .pinned], laidTests := true, laidLooks := .later }
def CodeAllCardSaid : Prop := Claim7.holds Tryz.pinned (.plain (OpenSpec.ofChange codeAllSpec)) codeAllCard

/-- THE TIED CARD OF 'muleteerlaw1.CodeForms'. -/
def codeFormsCard : Claim7 := { stood := { row := codeFormsRow, standIns := [], harness := (true, "c61f58d00015e028108068e52a3a82f94dd8d24d449566641fca9c5d49e2af6b"), looks := true }, kinds := [], alts := [], laidByText := true, laidKinds := [.data, .data, .data, .data, .sentinel, .sentinel, .pinned], laidTests := true, laidLooks := .later }
def CodeFormsCardSaid : Prop := Claim7.holds Tryz.pinned (.plain (OpenSpec.ofChange codeFormsSpec)) codeFormsCard

/-- THE TIED CARD OF 'muleteerlaw1.CodeRunes'. -/
def codeRunesCard : Claim7 := { stood := { row := codeRunesRow, standIns := [], harness := (true, "c61f58d00015e028108068e52a3a82f94dd8d24d449566641fca9c5d49e2af6b"), looks := true }, kinds := [], alts := [], laidByText := true, laidKinds := [.data, .data, .data, .data, .sentinel, .sentinel, .pinned], laidTests := true, laidLooks := .later }
def CodeRunesCardSaid : Prop := Claim7.holds Tryz.pinned (.plain (OpenSpec.ofChange codeRunesSpec)) codeRunesCard

/-- THE TIED CARD OF 'muleteerlaw1.CodeReason'. -/
def codeReasonCard : Claim7 := { stood := { row := codeReasonRow, standIns := [], harness := (true, "c61f58d00015e028108068e52a3a82f94dd8d24d449566641fca9c5d49e2af6b"), looks := true }, kinds := [], alts := [], laidByText := true, laidKinds := [.data, .data, .data, .data, .sentinel, .sentinel, .pinned], laidTests := true, laidLooks := .later }
def CodeReasonCardSaid : Prop := Claim7.holds Tryz.pinned (.plain (OpenSpec.ofChange codeReasonSpec)) codeReasonCard

/-- THE SECOND FORM's CARD OF 'muleteerlaw1.PktAny'. -/
def pktAnyUptoCard : Claim7 := { stood := { row := pktAnyUptoRow, standIns := [], harness := (true, "c61f58d00015e028108068e52a3a82f94dd8d24d449566641fca9c5d49e2af6b"), looks := true }, kinds := [], alts := [], laidByText := true, laidKinds := [.data, .data, .data, .data, .sentinel, .sentinel, .pinned], laidTests := true, laidLooks := .later }
def PktAnyUptoCardSaid : Prop := Claim7.holds Tryz.pinned (.plain (OpenSpec.upto pktAnySpec)) pktAnyUptoCard

/-- THE SECOND FORM's CARD OF 'muleteerlaw1.PktAll'. -/
def pktAllUptoCard : Claim7 := { stood := { row := pktAllUptoRow, standIns := [], harness := (true, "c61f58d00015e028108068e52a3a82f94dd8d24d449566641fca9c5d49e2af6b"), looks := true }, kinds := [], alts := [], laidByText := true, laidKinds := [.data, .data, .data, .data, .sentinel, .sentinel, .pinned], laidTests := true, laidLooks := .later }
def PktAllUptoCardSaid : Prop := Claim7.holds Tryz.pinned (.plain (OpenSpec.upto pktAllSpec)) pktAllUptoCard

/-- THE SECOND FORM's CARD OF 'muleteerlaw1.SumAll'. -/
def sumAllUptoCard : Claim7 := { stood := { row := sumAllUptoRow, standIns := [], harness := (true, "c61f58d00015e028108068e52a3a82f94dd8d24d449566641fca9c5d49e2af6b"), looks := true }, kinds := [], alts := [], laidByText := true, laidKinds := [.data, .data, .data, .data, .sentinel, .sentinel, .pinned], laidTests := true, laidLooks := .later }
def SumAllUptoCardSaid : Prop := Claim7.holds Tryz.pinned (.plain (OpenSpec.upto sumAllSpec)) sumAllUptoCard

/-- THE SECOND FORM's CARD OF 'muleteerlaw1.CodeSigns'. -/
def codeSignsUptoCard : Claim7 := { stood := { row := codeSignsUptoRow, standIns := [], harness := (true, "c61f58d00015e028108068e52a3a82f94dd8d24d449566641fca9c5d49e2af6b"), looks := true }, kinds := [], alts := [], laidByText := true, laidKinds := [.data, .data, .data, .data, .sentinel, .sentinel, .pinned], laidTests := true, laidLooks := .later }
def CodeSignsUptoCardSaid : Prop := Claim7.holds Tryz.pinned (.plain (OpenSpec.upto codeSignsSpec)) codeSignsUptoCard

/-- THE SECOND FORM's CARD OF 'muleteerlaw1.CodeAll'. -/
def codeAllUptoCard : Claim7 := { stood := { row := codeAllUptoRow, standIns := [], harness := (true, "c61f58d00015e028108068e52a3a82f94dd8d24d449566641fca9c5d49e2af6b"), looks := true }, kinds := [], alts := [], laidByText := true, laidKinds := [.data, .data, .data, .data, .sentinel, .sentinel, .pinned], laidTests := true, laidLooks := .later }
def CodeAllUptoCardSaid : Prop := Claim7.holds Tryz.pinned (.plain (OpenSpec.upto codeAllSpec)) codeAllUptoCard

/-- THE SECOND FORM's CARD OF 'muleteerlaw1.CodeForms'. -/
def codeFormsUptoCard : Claim7 := { stood := { row := codeFormsUptoRow, standIns := [], harness := (true, "c61f58d00015e028108068e52a3a82f94dd8d24d449566641fca9c5d49e2af6b"), looks := true }, kinds := [], alts := [], laidByText := true, laidKinds := [.data, .data, .data, .data, .sentinel, .sentinel, .pinned], laidTests := true, laidLooks := .later }
def CodeFormsUptoCardSaid : Prop := Claim7.holds Tryz.pinned (.plain (OpenSpec.upto codeFormsSpec)) codeFormsUptoCard

/-- THE SECOND FORM's CARD OF 'muleteerlaw1.CodeRunes'. -/
def codeRunesUptoCard : Claim7 := { stood := { row := codeRunesUptoRow, standIns := [], harness := (true, "c61f58d00015e028108068e52a3a82f94dd8d24d449566641fca9c5d49e2af6b"), looks := true }, kinds := [], alts := [], laidByText := true, laidKinds := [.data, .data, .data, .data, .sentinel, .sentinel, .pinned], laidTests := true, laidLooks := .later }
def CodeRunesUptoCardSaid : Prop := Claim7.holds Tryz.pinned (.plain (OpenSpec.upto codeRunesSpec)) codeRunesUptoCard

/-- THE SECOND FORM's CARD OF 'muleteerlaw1.CodeReason'. -/
def codeReasonUptoCard : Claim7 := { stood := { row := codeReasonUptoRow, standIns := [], harness := (true, "c61f58d00015e028108068e52a3a82f94dd8d24d449566641fca9c5d49e2af6b"), looks := true }, kinds := [], alts := [], laidByText := true, laidKinds := [.data, .data, .data, .data, .sentinel, .sentinel, .pinned], laidTests := true, laidLooks := .later }
def CodeReasonUptoCardSaid : Prop := Claim7.holds Tryz.pinned (.plain (OpenSpec.upto codeReasonSpec)) codeReasonUptoCard
end Rows
end Go.Proofs.YtjlnbahanghhcaaGreatDoor
