/-
  DERIVED. GIVEN WITH THE SEED: THE CARDS: each row of YthallmapddihgaaGreatDoorRows.lean that lists a variable, with what it lists TIED to the program's text (the seventh form; the later family's looks); each row that meets fmt, with fmt's text TOLD by the authors' own Lean function (tested against real Go, not proved from fmt's source: count such statements apart). THE CARD IS WHAT COUNTS. Prove the row's statement (the work); the ties are given (YthallmapddihgaaGreatDoorTie.lean); close each card by the builder's one call (the guide's Derived/Test/ToyasCard.lean, 'card_holds'). Laid BY PROGRAM, IN A SANDBOX (cutbox-door.mjs). By AI agents, Wed Nov 11 2026. No macro, syntax, notation, axiom, sorry.
-/
import Derived.Test.YthallmapddihgaaGreatDoorRows
import GoSem.ClaimSeven
namespace Go.Proofs.YthallmapddihgaaGreatDoor
namespace Rows

/-- THE TIED CARD OF 'muleteerlaw1.HeadAll'. -/
def headAllCard : Claim7 := { stood := { row := headAllRow, standIns := [], harness := (true, "48de81a51825132a6ff40a37ab35f5c0b9015599e1a130ef5333e8bb1888a7f0"), looks := true }, kinds := [], alts := [], laidByText := true, laidKinds := [.data, .data, .data, .data, .sentinel, .sentinel, .pinned], laidTests := true, laidLooks := .later }
def HeadAllCardSaid : Prop := Claim7.holds Tryz.pinned (.plain (OpenSpec.ofChange headAllSpec)) headAllCard

/-- THE TIED CARD OF 'muleteerlaw1.CodeAll'. -/
def codeAllCard : Claim7 := { stood := { row := codeAllRow, standIns := [], harness := (true, "48de81a51825132a6ff40a37ab35f5c0b9015599e1a130ef5333e8bb1888a7f0"), looks := true }, kinds := [], alts := [], laidByText := true, laidKinds := [.data, .data, .data, .data, .sentinel, .sentinel, .pinned], laidTests := true, laidLooks := .later }
def CodeAllCardSaid : Prop := Claim7.holds Tryz.pinned (.plain (OpenSpec.ofChange codeAllSpec)) codeAllCard

/-- THE TIED CARD OF 'muleteerlaw1.HeadLoose'. -/
def headLooseCard : Claim7 := { stood := { row := headLooseRow, standIns := [], harness := (true, "48de81a51825132a6ff40a37ab35f5c0b9015599e1a130ef5333e8bb1888a7f0"), looks := true }, kinds := [], alts := [], laidByText := true, laidKinds := [.data, .data, .data, .data, .sentinel, .sentinel, .pinned], laidTests := true, laidLooks := .later }
def HeadLooseCardSaid : Prop := Claim7.holds Tryz.pinned (.plain (OpenSpec.ofChange headLooseSpec)) headLooseCard

/-- THE TIED CARD OF 'muleteerlaw1.OptTorn'. -/
def optTornCard : Claim7 := { stood := { row := optTornRow, standIns := [], harness := (true, "48de81a51825132a6ff40a37ab35f5c0b9015599e1a130ef5333e8bb1888a7f0"), looks := true }, kinds := [], alts := [], laidByText := true, laidKinds := [.data, .data, .data, .data, .sentinel, .sentinel, .pinned], laidTests := true, laidLooks := .later }
def OptTornCardSaid : Prop := Claim7.holds Tryz.pinned (.plain (OpenSpec.ofChange optTornSpec)) optTornCard

/-- THE TIED CARD OF 'muleteerlaw1.CodeForms'. -/
def codeFormsCard : Claim7 := { stood := { row := codeFormsRow, standIns := [], harness := (true, "48de81a51825132a6ff40a37ab35f5c0b9015599e1a130ef5333e8bb1888a7f0"), looks := true }, kinds := [], alts := [], laidByText := true, laidKinds := [.data, .data, .data, .data, .sentinel, .sentinel, .pinned], laidTests := true, laidLooks := .later }
def CodeFormsCardSaid : Prop := Claim7.holds Tryz.pinned (.plain (OpenSpec.ofChange codeFormsSpec)) codeFormsCard

/-- THE TIED CARD OF 'muleteerlaw1.PktCover'. -/
def pktCoverCard : Claim7 := { stood := { row := pktCoverRow, standIns := [], harness := (true, "48de81a51825132a6ff40a37ab35f5c0b9015599e1a130ef5333e8bb1888a7f0"), looks := true }, kinds := [], alts := [], laidByText := true, laidKinds := [.data, .data, .data, .data, .sentinel, .sentinel, .pinned], laidTests := true, laidLooks := .later }
def PktCoverCardSaid : Prop := Claim7.holds Tryz.pinned (.plain (OpenSpec.ofChange pktCoverSpec)) pktCoverCard

/-- THE TIED CARD OF 'muleteerlaw1.CodeSigns'. -/
def codeSignsCard : Claim7 := { stood := { row := codeSignsRow, standIns := [], harness := (true, "48de81a51825132a6ff40a37ab35f5c0b9015599e1a130ef5333e8bb1888a7f0"), looks := true }, kinds := [], alts := [], laidByText := true, laidKinds := [.data, .data, .data, .data, .sentinel, .sentinel, .pinned], laidTests := true, laidLooks := .later }
def CodeSignsCardSaid : Prop := Claim7.holds Tryz.pinned (.plain (OpenSpec.ofChange codeSignsSpec)) codeSignsCard

/-- THE TIED CARD OF 'muleteerlaw1.PktAll'. -/
def pktAllCard : Claim7 := { stood := { row := pktAllRow, standIns := [], harness := (true, "48de81a51825132a6ff40a37ab35f5c0b9015599e1a130ef5333e8bb1888a7f0"), looks := true }, kinds := [], alts := [], laidByText := true, laidKinds := [.data, .data, .data, .data, .sentinel, .sentinel, .pinned], laidTests := true, laidLooks := .later }
def PktAllCardSaid : Prop := Claim7.holds Tryz.pinned (.plain (OpenSpec.ofChange pktAllSpec)) pktAllCard

/-- THE TIED CARD OF 'muleteerlaw1.PktAny'. -/
def pktAnyCard : Claim7 := { stood := { row := pktAnyRow, standIns := [], harness := (true, "48de81a51825132a6ff40a37ab35f5c0b9015599e1a130ef5333e8bb1888a7f0"), looks := true }, kinds := [], alts := [], laidByText := true, laidKinds := [.data, .data, .data, .data, .sentinel, .sentinel, .pinned], laidTests := true, laidLooks := .later }
def PktAnyCardSaid : Prop := Claim7.holds Tryz.pinned (.plain (OpenSpec.ofChange pktAnySpec)) pktAnyCard

/-- THE TIED CARD OF 'muleteerlaw1.CodeRunes'. -/
def codeRunesCard : Claim7 := { stood := { row := codeRunesRow, standIns := [], harness := (true, "48de81a51825132a6ff40a37ab35f5c0b9015599e1a130ef5333e8bb1888a7f0"), looks := true }, kinds := [], alts := [], laidByText := true, laidKinds := [.data, .data, .data, .data, .sentinel, .sentinel, .pinned], laidTests := true, laidLooks := .later }
def CodeRunesCardSaid : Prop := Claim7.holds Tryz.pinned (.plain (OpenSpec.ofChange codeRunesSpec)) codeRunesCard

/-- THE TIED CARD OF 'muleteerlaw1.CodeReason'. -/
def codeReasonCard : Claim7 := { stood := { row := codeReasonRow, standIns := [], harness := (true, "48de81a51825132a6ff40a37ab35f5c0b9015599e1a130ef5333e8bb1888a7f0"), looks := true }, kinds := [], alts := [], laidByText := true, laidKinds := [.data, .data, .data, .data, .sentinel, .sentinel, .pinned], laidTests := true, laidLooks := .later }
def CodeReasonCardSaid : Prop := Claim7.holds Tryz.pinned (.plain (OpenSpec.ofChange codeReasonSpec)) codeReasonCard

/-- THE SECOND FORM's CARD OF 'muleteerlaw1.HeadAll'. -/
def headAllUptoCard : Claim7 := { stood := { row := headAllUptoRow, standIns := [], harness := (true, "48de81a51825132a6ff40a37ab35f5c0b9015599e1a130ef5333e8bb1888a7f0"), looks := true }, kinds := [], alts := [], laidByText := true, laidKinds := [.data, .data, .data, .data, .sentinel, .sentinel, .pinned], laidTests := true, laidLooks := .later }
def HeadAllUptoCardSaid : Prop := Claim7.holds Tryz.pinned (.plain (OpenSpec.upto headAllSpec)) headAllUptoCard

/-- THE SECOND FORM's CARD OF 'muleteerlaw1.CodeAll'. -/
def codeAllUptoCard : Claim7 := { stood := { row := codeAllUptoRow, standIns := [], harness := (true, "48de81a51825132a6ff40a37ab35f5c0b9015599e1a130ef5333e8bb1888a7f0"), looks := true }, kinds := [], alts := [], laidByText := true, laidKinds := [.data, .data, .data, .data, .sentinel, .sentinel, .pinned], laidTests := true, laidLooks := .later }
def CodeAllUptoCardSaid : Prop := Claim7.holds Tryz.pinned (.plain (OpenSpec.upto codeAllSpec)) codeAllUptoCard

/-- THE SECOND FORM's CARD OF 'muleteerlaw1.HeadLoose'. -/
def headLooseUptoCard : Claim7 := { stood := { row := headLooseUptoRow, standIns := [], harness := (true, "48de81a51825132a6ff40a37ab35f5c0b9015599e1a130ef5333e8bb1888a7f0"), looks := true }, kinds := [], alts := [], laidByText := true, laidKinds := [.data, .data, .data, .data, .sentinel, .sentinel, .pinned], laidTests := true, laidLooks := .later }
def HeadLooseUptoCardSaid : Prop := Claim7.holds Tryz.pinned (.plain (OpenSpec.upto headLooseSpec)) headLooseUptoCard

/-- THE SECOND FORM's CARD OF 'muleteerlaw1.OptTorn'. -/
def optTornUptoCard : Claim7 := { stood := { row := optTornUptoRow, standIns := [], harness := (true, "48de81a51825132a6ff40a37ab35f5c0b9015599e1a130ef5333e8bb1888a7f0"), looks := true }, kinds := [], alts := [], laidByText := true, laidKinds := [.data, .data, .data, .data, .sentinel, .sentinel, .pinned], laidTests := true, laidLooks := .later }
def OptTornUptoCardSaid : Prop := Claim7.holds Tryz.pinned (.plain (OpenSpec.upto optTornSpec)) optTornUptoCard

/-- THE SECOND FORM's CARD OF 'muleteerlaw1.CodeForms'. -/
def codeFormsUptoCard : Claim7 := { stood := { row := codeFormsUptoRow, standIns := [], harness := (true, "48de81a51825132a6ff40a37ab35f5c0b9015599e1a130ef5333e8bb1888a7f0"), looks := true }, kinds := [], alts := [], laidByText := true, laidKinds := [.data, .data, .data, .data, .sentinel, .sentinel, .pinned], laidTests := true, laidLooks := .later }
def CodeFormsUptoCardSaid : Prop := Claim7.holds Tryz.pinned (.plain (OpenSpec.upto codeFormsSpec)) codeFormsUptoCard

/-- THE SECOND FORM's CARD OF 'muleteerlaw1.PktCover'. -/
def pktCoverUptoCard : Claim7 := { stood := { row := pktCoverUptoRow, standIns := [], harness := (true, "48de81a51825132a6ff40a37ab35f5c0b9015599e1a130ef5333e8bb1888a7f0"), looks := true }, kinds := [], alts := [], laidByText := true, laidKinds := [.data, .data, .data, .data, .sentinel, .sentinel, .pinned], laidTests := true, laidLooks := .later }
def PktCoverUptoCardSaid : Prop := Claim7.holds Tryz.pinned (.plain (OpenSpec.upto pktCoverSpec)) pktCoverUptoCard

/-- THE SECOND FORM's CARD OF 'muleteerlaw1.CodeSigns'. -/
def codeSignsUptoCard : Claim7 := { stood := { row := codeSignsUptoRow, standIns := [], harness := (true, "48de81a51825132a6ff40a37ab35f5c0b9015599e1a130ef5333e8bb1888a7f0"), looks := true }, kinds := [], alts := [], laidByText := true, laidKinds := [.data, .data, .data, .data, .sentinel, .sentinel, .pinned], laidTests := true, laidLooks := .later }
def CodeSignsUptoCardSaid : Prop := Claim7.holds Tryz.pinned (.plain (OpenSpec.upto codeSignsSpec)) codeSignsUptoCard

/-- THE SECOND FORM's CARD OF 'muleteerlaw1.PktAll'. -/
def pktAllUptoCard : Claim7 := { stood := { row := pktAllUptoRow, standIns := [], harness := (true, "48de81a51825132a6ff40a37ab35f5c0b9015599e1a130ef5333e8bb1888a7f0"), looks := true }, kinds := [], alts := [], laidByText := true, laidKinds := [.data, .data, .data, .data, .sentinel, .sentinel, .pinned], laidTests := true, laidLooks := .later }
def PktAllUptoCardSaid : Prop := Claim7.holds Tryz.pinned (.plain (OpenSpec.upto pktAllSpec)) pktAllUptoCard

/-- THE SECOND FORM's CARD OF 'muleteerlaw1.PktAny'. -/
def pktAnyUptoCard : Claim7 := { stood := { row := pktAnyUptoRow, standIns := [], harness := (true, "48de81a51825132a6ff40a37ab35f5c0b9015599e1a130ef5333e8bb1888a7f0"), looks := true }, kinds := [], alts := [], laidByText := true, laidKinds := [.data, .data, .data, .data, .sentinel, .sentinel, .pinned], laidTests := true, laidLooks := .later }
def PktAnyUptoCardSaid : Prop := Claim7.holds Tryz.pinned (.plain (OpenSpec.upto pktAnySpec)) pktAnyUptoCard

/-- THE SECOND FORM's CARD OF 'muleteerlaw1.CodeRunes'. -/
def codeRunesUptoCard : Claim7 := { stood := { row := codeRunesUptoRow, standIns := [], harness := (true, "48de81a51825132a6ff40a37ab35f5c0b9015599e1a130ef5333e8bb1888a7f0"), looks := true }, kinds := [], alts := [], laidByText := true, laidKinds := [.data, .data, .data, .data, .sentinel, .sentinel, .pinned], laidTests := true, laidLooks := .later }
def CodeRunesUptoCardSaid : Prop := Claim7.holds Tryz.pinned (.plain (OpenSpec.upto codeRunesSpec)) codeRunesUptoCard

/-- THE SECOND FORM's CARD OF 'muleteerlaw1.CodeReason'. -/
def codeReasonUptoCard : Claim7 := { stood := { row := codeReasonUptoRow, standIns := [], harness := (true, "48de81a51825132a6ff40a37ab35f5c0b9015599e1a130ef5333e8bb1888a7f0"), looks := true }, kinds := [], alts := [], laidByText := true, laidKinds := [.data, .data, .data, .data, .sentinel, .sentinel, .pinned], laidTests := true, laidLooks := .later }
def CodeReasonUptoCardSaid : Prop := Claim7.holds Tryz.pinned (.plain (OpenSpec.upto codeReasonSpec)) codeReasonUptoCard
end Rows
end Go.Proofs.YthallmapddihgaaGreatDoor
