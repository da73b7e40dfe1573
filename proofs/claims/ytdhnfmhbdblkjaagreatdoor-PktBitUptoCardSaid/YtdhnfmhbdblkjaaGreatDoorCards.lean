/-
  DERIVED. GIVEN WITH THE SEED: THE CARDS: each row of YtdhnfmhbdblkjaaGreatDoorRows.lean that lists a variable, with what it lists TIED to the program's text (the seventh form; the later family's looks); each row that meets fmt, with fmt's text TOLD by the authors' own Lean function (tested against real Go, not proved from fmt's source: count such statements apart). THE CARD IS WHAT COUNTS. Prove the row's statement (the work); the ties are given (YtdhnfmhbdblkjaaGreatDoorTie.lean); close each card by the builder's one call (the guide's Derived/Test/ToyasCard.lean, 'card_holds'). Laid BY PROGRAM, IN A SANDBOX (cutbox-door.mjs). By AI agents, Wed Nov 11 2026. No macro, syntax, notation, axiom, sorry.
-/
import Derived.Test.YtdhnfmhbdblkjaaGreatDoorRows
import GoSem.ClaimSeven
namespace Go.Proofs.YtdhnfmhbdblkjaaGreatDoor
namespace Rows

/-- THE TIED CARD OF 'muleteerlaw1.HeadAll'. -/
def headAllCard : Claim7 := { stood := { row := headAllRow, standIns := [], harness := (true, "57edb9bf9dcf9854667919fb797fcbfb49d92497730a748b2ae4811701b5970e"), looks := true }, kinds := [], alts := [], laidByText := true, laidKinds := [.data, .data, .data, .data, .sentinel, .sentinel, .pinned], laidTests := true, laidLooks := .later }
def HeadAllCardSaid : Prop := Claim7.holds Tryz.pinned (.plain (OpenSpec.ofChange headAllSpec)) headAllCard

/-- THE TIED CARD OF 'muleteerlaw1.HeadPrefix'. -/
def headPrefixCard : Claim7 := { stood := { row := headPrefixRow, standIns := [], harness := (true, "57edb9bf9dcf9854667919fb797fcbfb49d92497730a748b2ae4811701b5970e"), looks := true }, kinds := [], alts := [], laidByText := true, laidKinds := [.data, .data, .data, .data, .sentinel, .sentinel, .pinned], laidTests := true, laidLooks := .later }
def HeadPrefixCardSaid : Prop := Claim7.holds Tryz.pinned (.plain (OpenSpec.ofChange headPrefixSpec)) headPrefixCard

/-- THE TIED CARD OF 'muleteerlaw1.PktAll'. -/
def pktAllCard : Claim7 := { stood := { row := pktAllRow, standIns := [], harness := (true, "57edb9bf9dcf9854667919fb797fcbfb49d92497730a748b2ae4811701b5970e"), looks := true }, kinds := [], alts := [], laidByText := true, laidKinds := [.data, .data, .data, .data, .sentinel, .sentinel, .pinned], laidTests := true, laidLooks := .later }
def PktAllCardSaid : Prop := Claim7.holds Tryz.pinned (.plain (OpenSpec.ofChange pktAllSpec)) pktAllCard

/-- THE TIED CARD OF 'muleteerlaw1.SumAll'. -/
def sumAllCard : Claim7 := { stood := { row := sumAllRow, standIns := [], harness := (true, "57edb9bf9dcf9854667919fb797fcbfb49d92497730a748b2ae4811701b5970e"), looks := true }, kinds := [], alts := [], laidByText := true, laidKinds := [.data, .data, .data, .data, .sentinel, .sentinel, .pinned], laidTests := true, laidLooks := .later }
def SumAllCardSaid : Prop := Claim7.holds Tryz.pinned (.plain (OpenSpec.ofChange sumAllSpec)) sumAllCard

/-- THE TIED CARD OF 'muleteerlaw1.PktNone'. -/
def pktNoneCard : Claim7 := { stood := { row := pktNoneRow, standIns := [], harness := (true, "57edb9bf9dcf9854667919fb797fcbfb49d92497730a748b2ae4811701b5970e"), looks := true }, kinds := [], alts := [], laidByText := true, laidKinds := [.data, .data, .data, .data, .sentinel, .sentinel, .pinned], laidTests := true, laidLooks := .later }
def PktNoneCardSaid : Prop := Claim7.holds Tryz.pinned (.plain (OpenSpec.ofChange pktNoneSpec)) pktNoneCard

/-- THE TIED CARD OF 'muleteerlaw1.PktAny'. -/
def pktAnyCard : Claim7 := { stood := { row := pktAnyRow, standIns := [], harness := (true, "57edb9bf9dcf9854667919fb797fcbfb49d92497730a748b2ae4811701b5970e"), looks := true }, kinds := [], alts := [], laidByText := true, laidKinds := [.data, .data, .data, .data, .sentinel, .sentinel, .pinned], laidTests := true, laidLooks := .later }
def PktAnyCardSaid : Prop := Claim7.holds Tryz.pinned (.plain (OpenSpec.ofChange pktAnySpec)) pktAnyCard

/-- THE TIED CARD OF 'muleteerlaw1.PktBit'. -/
def pktBitCard : Claim7 := { stood := { row := pktBitRow, standIns := [], harness := (true, "57edb9bf9dcf9854667919fb797fcbfb49d92497730a748b2ae4811701b5970e"), looks := true }, kinds := [], alts := [], laidByText := true, laidKinds := [.data, .data, .data, .data, .sentinel, .sentinel, .pinned], laidTests := true, laidLooks := .later }
def PktBitCardSaid : Prop := Claim7.holds Tryz.pinned (.plain (OpenSpec.ofChange pktBitSpec)) pktBitCard

/-- THE TIED CARD OF 'muleteerlaw1.PktCover'. -/
def pktCoverCard : Claim7 := { stood := { row := pktCoverRow, standIns := [], harness := (true, "57edb9bf9dcf9854667919fb797fcbfb49d92497730a748b2ae4811701b5970e"), looks := true }, kinds := [], alts := [], laidByText := true, laidKinds := [.data, .data, .data, .data, .sentinel, .sentinel, .pinned], laidTests := true, laidLooks := .later }
def PktCoverCardSaid : Prop := Claim7.holds Tryz.pinned (.plain (OpenSpec.ofChange pktCoverSpec)) pktCoverCard

/-- THE TIED CARD OF 'muleteerlaw1.HeadLoose'. -/
def headLooseCard : Claim7 := { stood := { row := headLooseRow, standIns := [], harness := (true, "57edb9bf9dcf9854667919fb797fcbfb49d92497730a748b2ae4811701b5970e"), looks := true }, kinds := [], alts := [], laidByText := true, laidKinds := [.data, .data, .data, .data, .sentinel, .sentinel, .pinned], laidTests := true, laidLooks := .later }
def HeadLooseCardSaid : Prop := Claim7.holds Tryz.pinned (.plain (OpenSpec.ofChange headLooseSpec)) headLooseCard

/-- THE SECOND FORM's CARD OF 'muleteerlaw1.HeadAll'. -/
def headAllUptoCard : Claim7 := { stood := { row := headAllUptoRow, standIns := [], harness := (true, "57edb9bf9dcf9854667919fb797fcbfb49d92497730a748b2ae4811701b5970e"), looks := true }, kinds := [], alts := [], laidByText := true, laidKinds := [.data, .data, .data, .data, .sentinel, .sentinel, .pinned], laidTests := true, laidLooks := .later }
def HeadAllUptoCardSaid : Prop := Claim7.holds Tryz.pinned (.plain (OpenSpec.upto headAllSpec)) headAllUptoCard

/-- THE SECOND FORM's CARD OF 'muleteerlaw1.HeadPrefix'. -/
def headPrefixUptoCard : Claim7 := { stood := { row := headPrefixUptoRow, standIns := [], harness := (true, "57edb9bf9dcf9854667919fb797fcbfb49d92497730a748b2ae4811701b5970e"), looks := true }, kinds := [], alts := [], laidByText := true, laidKinds := [.data, .data, .data, .data, .sentinel, .sentinel, .pinned], laidTests := true, laidLooks := .later }
def HeadPrefixUptoCardSaid : Prop := Claim7.holds Tryz.pinned (.plain (OpenSpec.upto headPrefixSpec)) headPrefixUptoCard

/-- THE SECOND FORM's CARD OF 'muleteerlaw1.PktAll'. -/
def pktAllUptoCard : Claim7 := { stood := { row := pktAllUptoRow, standIns := [], harness := (true, "57edb9bf9dcf9854667919fb797fcbfb49d92497730a748b2ae4811701b5970e"), looks := true }, kinds := [], alts := [], laidByText := true, laidKinds := [.data, .data, .data, .data, .sentinel, .sentinel, .pinned], laidTests := true, laidLooks := .later }
def PktAllUptoCardSaid : Prop := Claim7.holds Tryz.pinned (.plain (OpenSpec.upto pktAllSpec)) pktAllUptoCard

/-- THE SECOND FORM's CARD OF 'muleteerlaw1.SumAll'. -/
def sumAllUptoCard : Claim7 := { stood := { row := sumAllUptoRow, standIns := [], harness := (true, "57edb9bf9dcf9854667919fb797fcbfb49d92497730a748b2ae4811701b5970e"), looks := true }, kinds := [], alts := [], laidByText := true, laidKinds := [.data, .data, .data, .data, .sentinel, .sentinel, .pinned], laidTests := true, laidLooks := .later }
def SumAllUptoCardSaid : Prop := Claim7.holds Tryz.pinned (.plain (OpenSpec.upto sumAllSpec)) sumAllUptoCard

/-- THE SECOND FORM's CARD OF 'muleteerlaw1.PktNone'. -/
def pktNoneUptoCard : Claim7 := { stood := { row := pktNoneUptoRow, standIns := [], harness := (true, "57edb9bf9dcf9854667919fb797fcbfb49d92497730a748b2ae4811701b5970e"), looks := true }, kinds := [], alts := [], laidByText := true, laidKinds := [.data, .data, .data, .data, .sentinel, .sentinel, .pinned], laidTests := true, laidLooks := .later }
def PktNoneUptoCardSaid : Prop := Claim7.holds Tryz.pinned (.plain (OpenSpec.upto pktNoneSpec)) pktNoneUptoCard

/-- THE SECOND FORM's CARD OF 'muleteerlaw1.PktAny'. -/
def pktAnyUptoCard : Claim7 := { stood := { row := pktAnyUptoRow, standIns := [], harness := (true, "57edb9bf9dcf9854667919fb797fcbfb49d92497730a748b2ae4811701b5970e"), looks := true }, kinds := [], alts := [], laidByText := true, laidKinds := [.data, .data, .data, .data, .sentinel, .sentinel, .pinned], laidTests := true, laidLooks := .later }
def PktAnyUptoCardSaid : Prop := Claim7.holds Tryz.pinned (.plain (OpenSpec.upto pktAnySpec)) pktAnyUptoCard

/-- THE SECOND FORM's CARD OF 'muleteerlaw1.PktBit'. -/
def pktBitUptoCard : Claim7 := { stood := { row := pktBitUptoRow, standIns := [], harness := (true, "57edb9bf9dcf9854667919fb797fcbfb49d92497730a748b2ae4811701b5970e"), looks := true }, kinds := [], alts := [], laidByText := true, laidKinds := [.data, .data, .data, .data, .sentinel, .sentinel, .pinned], laidTests := true, laidLooks := .later }
def PktBitUptoCardSaid : Prop := Claim7.holds Tryz.pinned (.plain (OpenSpec.upto pktBitSpec)) pktBitUptoCard

/-- THE SECOND FORM's CARD OF 'muleteerlaw1.PktCover'. -/
def pktCoverUptoCard : Claim7 := { stood := { row := pktCoverUptoRow, standIns := [], harness := (true, "57edb9bf9dcf9854667919fb797fcbfb49d92497730a748b2ae4811701b5970e"), looks := true }, kinds := [], alts := [], laidByText := true, laidKinds := [.data, .data, .data, .data, .sentinel, .sentinel, .pinned], laidTests := true, laidLooks := .later }
def PktCoverUptoCardSaid : Prop := Claim7.holds Tryz.pinned (.plain (OpenSpec.upto pktCoverSpec)) pktCoverUptoCard

/-- THE SECOND FORM's CARD OF 'muleteerlaw1.HeadLoose'. -/
def headLooseUptoCard : Claim7 := { stood := { row := headLooseUptoRow, standIns := [], harness := (true, "57edb9bf9dcf9854667919fb797fcbfb49d92497730a748b2ae4811701b5970e"), looks := true }, kinds := [], alts := [], laidByText := true, laidKinds := [.data, .data, .data, .data, .sentinel, .sentinel, .pinned], laidTests := true, laidLooks := .later }
def HeadLooseUptoCardSaid : Prop := Claim7.holds Tryz.pinned (.plain (OpenSpec.upto headLooseSpec)) headLooseUptoCard
end Rows
end Go.Proofs.YtdhnfmhbdblkjaaGreatDoor
