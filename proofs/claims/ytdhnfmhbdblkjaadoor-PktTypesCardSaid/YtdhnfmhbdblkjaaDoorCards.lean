/-
  DERIVED. GIVEN WITH THE SEED: THE CARDS: each row of YtdhnfmhbdblkjaaDoorRows.lean that lists a variable, with what it lists TIED to the program's text (the seventh form; the later family's looks); each row that meets fmt, with fmt's text TOLD by the authors' own Lean function (tested against real Go, not proved from fmt's source: count such statements apart). THE CARD IS WHAT COUNTS. Prove the row's statement (the work); the ties are given (YtdhnfmhbdblkjaaDoorTie.lean); close each card by the builder's one call (the guide's Derived/Test/ToyasCard.lean, 'card_holds'). Laid BY PROGRAM, IN A SANDBOX (cutbox-door.mjs). By AI agents, Wed Nov 11 2026. No macro, syntax, notation, axiom, sorry.
-/
import Derived.Test.YtdhnfmhbdblkjaaDoorRows
import GoSem.ClaimSeven
namespace Go.Proofs.YtdhnfmhbdblkjaaDoor
namespace Rows

/-- THE TIED CARD OF 'muleteerlaw1.PktTypes'. -/
def pktTypesCard : Claim7 := { stood := { row := pktTypesRow, standIns := [], harness := (true, "6831f6e3259611752e61214b586ca964822994f63ec94338d2d1ea03c1102162"), looks := true }, kinds := [], alts := [], laidByText := true, laidKinds := [.data, .data, .data, .data, .sentinel, .sentinel, .pinned], laidTests := true, laidLooks := .later }
def PktTypesCardSaid : Prop := Claim7.holds Tryd.pinned (.plain (OpenSpec.ofChange pktTypesSpec)) pktTypesCard

/-- THE TIED CARD OF 'muleteerlaw1.PktLarge'. -/
def pktLargeCard : Claim7 := { stood := { row := pktLargeRow, standIns := [], harness := (true, "6831f6e3259611752e61214b586ca964822994f63ec94338d2d1ea03c1102162"), looks := true }, kinds := [], alts := [], laidByText := true, laidKinds := [.data, .data, .data, .data, .sentinel, .sentinel, .pinned], laidTests := true, laidLooks := .later }
def PktLargeCardSaid : Prop := Claim7.holds Tryd.pinned (.plain (OpenSpec.ofChange pktLargeSpec)) pktLargeCard

/-- THE TIED CARD OF 'muleteerlaw1.SumBit'. -/
def sumBitCard : Claim7 := { stood := { row := sumBitRow, standIns := [], harness := (true, "6831f6e3259611752e61214b586ca964822994f63ec94338d2d1ea03c1102162"), looks := true }, kinds := [], alts := [], laidByText := true, laidKinds := [.data, .data, .data, .data, .sentinel, .sentinel, .pinned], laidTests := true, laidLooks := .later }
def SumBitCardSaid : Prop := Claim7.holds Tryd.pinned (.plain (OpenSpec.ofChange sumBitSpec)) sumBitCard

/-- THE SECOND FORM's CARD OF 'muleteerlaw1.PktTypes'. -/
def pktTypesUptoCard : Claim7 := { stood := { row := pktTypesUptoRow, standIns := [], harness := (true, "6831f6e3259611752e61214b586ca964822994f63ec94338d2d1ea03c1102162"), looks := true }, kinds := [], alts := [], laidByText := true, laidKinds := [.data, .data, .data, .data, .sentinel, .sentinel, .pinned], laidTests := true, laidLooks := .later }
def PktTypesUptoCardSaid : Prop := Claim7.holds Tryd.pinned (.plain (OpenSpec.upto pktTypesSpec)) pktTypesUptoCard

/-- THE SECOND FORM's CARD OF 'muleteerlaw1.PktLarge'. -/
def pktLargeUptoCard : Claim7 := { stood := { row := pktLargeUptoRow, standIns := [], harness := (true, "6831f6e3259611752e61214b586ca964822994f63ec94338d2d1ea03c1102162"), looks := true }, kinds := [], alts := [], laidByText := true, laidKinds := [.data, .data, .data, .data, .sentinel, .sentinel, .pinned], laidTests := true, laidLooks := .later }
def PktLargeUptoCardSaid : Prop := Claim7.holds Tryd.pinned (.plain (OpenSpec.upto pktLargeSpec)) pktLargeUptoCard

/-- THE SECOND FORM's CARD OF 'muleteerlaw1.SumBit'. -/
def sumBitUptoCard : Claim7 := { stood := { row := sumBitUptoRow, standIns := [], harness := (true, "6831f6e3259611752e61214b586ca964822994f63ec94338d2d1ea03c1102162"), looks := true }, kinds := [], alts := [], laidByText := true, laidKinds := [.data, .data, .data, .data, .sentinel, .sentinel, .pinned], laidTests := true, laidLooks := .later }
def SumBitUptoCardSaid : Prop := Claim7.holds Tryd.pinned (.plain (OpenSpec.upto sumBitSpec)) sumBitUptoCard
end Rows
end Go.Proofs.YtdhnfmhbdblkjaaDoor
