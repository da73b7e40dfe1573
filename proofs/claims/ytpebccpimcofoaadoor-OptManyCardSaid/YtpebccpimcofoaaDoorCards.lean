/-
  DERIVED. GIVEN WITH THE SEED: THE CARDS: each row of YtpebccpimcofoaaDoorRows.lean that lists a variable, with what it lists TIED to the program's text (the seventh form; the later family's looks); each row that meets fmt, with fmt's text TOLD by the authors' own Lean function (tested against real Go, not proved from fmt's source: count such statements apart). THE CARD IS WHAT COUNTS. Prove the row's statement (the work); the ties are given (YtpebccpimcofoaaDoorTie.lean); close each card by the builder's one call (the guide's Derived/Test/ToyasCard.lean, 'card_holds'). Laid BY PROGRAM, IN A SANDBOX (cutbox-door.mjs). By AI agents, Wed Nov 11 2026. No macro, syntax, notation, axiom, sorry.
-/
import Derived.Test.YtpebccpimcofoaaDoorRows
import GoSem.ClaimSeven
namespace Go.Proofs.YtpebccpimcofoaaDoor
namespace Rows

/-- THE TIED CARD OF 'muleteerlaw1.HeadSizes'. -/
def headSizesCard : Claim7 := { stood := { row := headSizesRow, standIns := [], harness := (true, "338c9b67bf70c6229b78a68c79a8f7c21885e301020ecdbf7fd45ad6712a7a2e"), looks := true }, kinds := [], alts := [], laidByText := true, laidKinds := [.data, .data, .data, .data, .sentinel, .sentinel, .pinned], laidTests := true, laidLooks := .later }
def HeadSizesCardSaid : Prop := Claim7.holds Tryd.pinned (.plain (OpenSpec.ofChange headSizesSpec)) headSizesCard

/-- THE TIED CARD OF 'muleteerlaw1.OptMany'. -/
def optManyCard : Claim7 := { stood := { row := optManyRow, standIns := [], harness := (true, "338c9b67bf70c6229b78a68c79a8f7c21885e301020ecdbf7fd45ad6712a7a2e"), looks := true }, kinds := [], alts := [], laidByText := true, laidKinds := [.data, .data, .data, .data, .sentinel, .sentinel, .pinned], laidTests := true, laidLooks := .later }
def OptManyCardSaid : Prop := Claim7.holds Tryd.pinned (.plain (OpenSpec.ofChange optManySpec)) optManyCard

/-- THE TIED CARD OF 'muleteerlaw1.PktTypes'. -/
def pktTypesCard : Claim7 := { stood := { row := pktTypesRow, standIns := [], harness := (true, "338c9b67bf70c6229b78a68c79a8f7c21885e301020ecdbf7fd45ad6712a7a2e"), looks := true }, kinds := [], alts := [], laidByText := true, laidKinds := [.data, .data, .data, .data, .sentinel, .sentinel, .pinned], laidTests := true, laidLooks := .later }
def PktTypesCardSaid : Prop := Claim7.holds Tryd.pinned (.plain (OpenSpec.ofChange pktTypesSpec)) pktTypesCard

/-- THE TIED CARD OF 'muleteerlaw1.PktLarge'. -/
def pktLargeCard : Claim7 := { stood := { row := pktLargeRow, standIns := [], harness := (true, "338c9b67bf70c6229b78a68c79a8f7c21885e301020ecdbf7fd45ad6712a7a2e"), looks := true }, kinds := [], alts := [], laidByText := true, laidKinds := [.data, .data, .data, .data, .sentinel, .sentinel, .pinned], laidTests := true, laidLooks := .later }
def PktLargeCardSaid : Prop := Claim7.holds Tryd.pinned (.plain (OpenSpec.ofChange pktLargeSpec)) pktLargeCard

/-- THE TIED CARD OF 'muleteerlaw1.SumBit'. -/
def sumBitCard : Claim7 := { stood := { row := sumBitRow, standIns := [], harness := (true, "338c9b67bf70c6229b78a68c79a8f7c21885e301020ecdbf7fd45ad6712a7a2e"), looks := true }, kinds := [], alts := [], laidByText := true, laidKinds := [.data, .data, .data, .data, .sentinel, .sentinel, .pinned], laidTests := true, laidLooks := .later }
def SumBitCardSaid : Prop := Claim7.holds Tryd.pinned (.plain (OpenSpec.ofChange sumBitSpec)) sumBitCard

/-- THE SECOND FORM's CARD OF 'muleteerlaw1.HeadSizes'. -/
def headSizesUptoCard : Claim7 := { stood := { row := headSizesUptoRow, standIns := [], harness := (true, "338c9b67bf70c6229b78a68c79a8f7c21885e301020ecdbf7fd45ad6712a7a2e"), looks := true }, kinds := [], alts := [], laidByText := true, laidKinds := [.data, .data, .data, .data, .sentinel, .sentinel, .pinned], laidTests := true, laidLooks := .later }
def HeadSizesUptoCardSaid : Prop := Claim7.holds Tryd.pinned (.plain (OpenSpec.upto headSizesSpec)) headSizesUptoCard

/-- THE SECOND FORM's CARD OF 'muleteerlaw1.OptMany'. -/
def optManyUptoCard : Claim7 := { stood := { row := optManyUptoRow, standIns := [], harness := (true, "338c9b67bf70c6229b78a68c79a8f7c21885e301020ecdbf7fd45ad6712a7a2e"), looks := true }, kinds := [], alts := [], laidByText := true, laidKinds := [.data, .data, .data, .data, .sentinel, .sentinel, .pinned], laidTests := true, laidLooks := .later }
def OptManyUptoCardSaid : Prop := Claim7.holds Tryd.pinned (.plain (OpenSpec.upto optManySpec)) optManyUptoCard

/-- THE SECOND FORM's CARD OF 'muleteerlaw1.PktTypes'. -/
def pktTypesUptoCard : Claim7 := { stood := { row := pktTypesUptoRow, standIns := [], harness := (true, "338c9b67bf70c6229b78a68c79a8f7c21885e301020ecdbf7fd45ad6712a7a2e"), looks := true }, kinds := [], alts := [], laidByText := true, laidKinds := [.data, .data, .data, .data, .sentinel, .sentinel, .pinned], laidTests := true, laidLooks := .later }
def PktTypesUptoCardSaid : Prop := Claim7.holds Tryd.pinned (.plain (OpenSpec.upto pktTypesSpec)) pktTypesUptoCard

/-- THE SECOND FORM's CARD OF 'muleteerlaw1.PktLarge'. -/
def pktLargeUptoCard : Claim7 := { stood := { row := pktLargeUptoRow, standIns := [], harness := (true, "338c9b67bf70c6229b78a68c79a8f7c21885e301020ecdbf7fd45ad6712a7a2e"), looks := true }, kinds := [], alts := [], laidByText := true, laidKinds := [.data, .data, .data, .data, .sentinel, .sentinel, .pinned], laidTests := true, laidLooks := .later }
def PktLargeUptoCardSaid : Prop := Claim7.holds Tryd.pinned (.plain (OpenSpec.upto pktLargeSpec)) pktLargeUptoCard

/-- THE SECOND FORM's CARD OF 'muleteerlaw1.SumBit'. -/
def sumBitUptoCard : Claim7 := { stood := { row := sumBitUptoRow, standIns := [], harness := (true, "338c9b67bf70c6229b78a68c79a8f7c21885e301020ecdbf7fd45ad6712a7a2e"), looks := true }, kinds := [], alts := [], laidByText := true, laidKinds := [.data, .data, .data, .data, .sentinel, .sentinel, .pinned], laidTests := true, laidLooks := .later }
def SumBitUptoCardSaid : Prop := Claim7.holds Tryd.pinned (.plain (OpenSpec.upto sumBitSpec)) sumBitUptoCard
end Rows
end Go.Proofs.YtpebccpimcofoaaDoor
