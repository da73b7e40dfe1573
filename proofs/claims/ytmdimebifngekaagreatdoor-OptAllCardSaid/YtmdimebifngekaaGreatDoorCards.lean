/-
  DERIVED. GIVEN WITH THE SEED: THE CARDS: each row of YtmdimebifngekaaGreatDoorRows.lean that lists a variable, with what it lists TIED to the program's text (the seventh form; the later family's looks); each row that meets fmt, with fmt's text TOLD by the authors' own Lean function (tested against real Go, not proved from fmt's source: count such statements apart). THE CARD IS WHAT COUNTS. Prove the row's statement (the work); the ties are given (YtmdimebifngekaaGreatDoorTie.lean); close each card by the builder's one call (the guide's Derived/Test/ToyasCard.lean, 'card_holds'). Laid BY PROGRAM, IN A SANDBOX (cutbox-door.mjs). By AI agents, Wed Nov 11 2026. No macro, syntax, notation, axiom, sorry.
-/
import Derived.Test.YtmdimebifngekaaGreatDoorRows
import GoSem.ClaimSeven
namespace Go.Proofs.YtmdimebifngekaaGreatDoor
namespace Rows

/-- THE TIED CARD OF 'muleteerlaw1.FixRoot'. -/
def fixRootCard : Claim7 := { stood := { row := fixRootRow, standIns := [], harness := (true, "2da84186353ba83f65c1531c8e3b70bc206b5c57fd39a2d32f62c1ef515bf15b"), looks := true }, kinds := [], alts := [], laidByText := true, laidKinds := [.data, .data, .data, .data, .sentinel, .sentinel, .pinned], laidTests := true, laidLooks := .later }
def FixRootCardSaid : Prop := Claim7.holds Tryz.pinned (.plain (OpenSpec.ofChange fixRootSpec)) fixRootCard

/-- THE TIED CARD OF 'muleteerlaw1.FixQuot'. -/
def fixQuotCard : Claim7 := { stood := { row := fixQuotRow, standIns := [], harness := (true, "2da84186353ba83f65c1531c8e3b70bc206b5c57fd39a2d32f62c1ef515bf15b"), looks := true }, kinds := [], alts := [], laidByText := true, laidKinds := [.data, .data, .data, .data, .sentinel, .sentinel, .pinned], laidTests := true, laidLooks := .later }
def FixQuotCardSaid : Prop := Claim7.holds Tryz.pinned (.plain (OpenSpec.ofChange fixQuotSpec)) fixQuotCard

/-- THE TIED CARD OF 'muleteerlaw1.FixAll'. -/
def fixAllCard : Claim7 := { stood := { row := fixAllRow, standIns := [], harness := (true, "2da84186353ba83f65c1531c8e3b70bc206b5c57fd39a2d32f62c1ef515bf15b"), looks := true }, kinds := [], alts := [], laidByText := true, laidKinds := [.data, .data, .data, .data, .sentinel, .sentinel, .pinned], laidTests := true, laidLooks := .later }
def FixAllCardSaid : Prop := Claim7.holds Tryz.pinned (.plain (OpenSpec.ofChange fixAllSpec)) fixAllCard

/-- THE TIED CARD OF 'muleteerlaw1.FixEdges'. -/
def fixEdgesCard : Claim7 := { stood := { row := fixEdgesRow, standIns := [], harness := (true, "2da84186353ba83f65c1531c8e3b70bc206b5c57fd39a2d32f62c1ef515bf15b"), looks := true }, kinds := [], alts := [], laidByText := true, laidKinds := [.data, .data, .data, .data, .sentinel, .sentinel, .pinned], laidTests := true, laidLooks := .later }
def FixEdgesCardSaid : Prop := Claim7.holds Tryz.pinned (.plain (OpenSpec.ofChange fixEdgesSpec)) fixEdgesCard

/-- THE TIED CARD OF 'muleteerlaw1.FixOrder'. -/
def fixOrderCard : Claim7 := { stood := { row := fixOrderRow, standIns := [], harness := (true, "2da84186353ba83f65c1531c8e3b70bc206b5c57fd39a2d32f62c1ef515bf15b"), looks := true }, kinds := [], alts := [], laidByText := true, laidKinds := [.data, .data, .data, .data, .sentinel, .sentinel, .pinned], laidTests := true, laidLooks := .later }
def FixOrderCardSaid : Prop := Claim7.holds Tryz.pinned (.plain (OpenSpec.ofChange fixOrderSpec)) fixOrderCard

/-- THE TIED CARD OF 'muleteerlaw1.SeqAll'. -/
def seqAllCard : Claim7 := { stood := { row := seqAllRow, standIns := [], harness := (true, "2da84186353ba83f65c1531c8e3b70bc206b5c57fd39a2d32f62c1ef515bf15b"), looks := true }, kinds := [], alts := [], laidByText := true, laidKinds := [.data, .data, .data, .data, .sentinel, .sentinel, .pinned], laidTests := true, laidLooks := .later }
def SeqAllCardSaid : Prop := Claim7.holds Tryz.pinned (.plain (OpenSpec.ofChange seqAllSpec)) seqAllCard

/-- THE TIED CARD OF 'muleteerlaw1.SeqShort'. -/
def seqShortCard : Claim7 := { stood := { row := seqShortRow, standIns := [], harness := (true, "2da84186353ba83f65c1531c8e3b70bc206b5c57fd39a2d32f62c1ef515bf15b"), looks := true }, kinds := [], alts := [], laidByText := true, laidKinds := [.data, .data, .data, .data, .sentinel, .sentinel, .pinned], laidTests := true, laidLooks := .later }
def SeqShortCardSaid : Prop := Claim7.holds Tryz.pinned (.plain (OpenSpec.ofChange seqShortSpec)) seqShortCard

/-- THE TIED CARD OF 'muleteerlaw1.SeqOrder'. -/
def seqOrderCard : Claim7 := { stood := { row := seqOrderRow, standIns := [], harness := (true, "2da84186353ba83f65c1531c8e3b70bc206b5c57fd39a2d32f62c1ef515bf15b"), looks := true }, kinds := [], alts := [], laidByText := true, laidKinds := [.data, .data, .data, .data, .sentinel, .sentinel, .pinned], laidTests := true, laidLooks := .later }
def SeqOrderCardSaid : Prop := Claim7.holds Tryz.pinned (.plain (OpenSpec.ofChange seqOrderSpec)) seqOrderCard

/-- THE TIED CARD OF 'muleteerlaw1.OptAll'. -/
def optAllCard : Claim7 := { stood := { row := optAllRow, standIns := [], harness := (true, "2da84186353ba83f65c1531c8e3b70bc206b5c57fd39a2d32f62c1ef515bf15b"), looks := true }, kinds := [], alts := [], laidByText := true, laidKinds := [.data, .data, .data, .data, .sentinel, .sentinel, .pinned], laidTests := true, laidLooks := .later }
def OptAllCardSaid : Prop := Claim7.holds Tryz.pinned (.plain (OpenSpec.ofChange optAllSpec)) optAllCard

/-- THE TIED CARD OF 'muleteerlaw1.OptNumber'. -/
def optNumberCard : Claim7 := { stood := { row := optNumberRow, standIns := [], harness := (true, "2da84186353ba83f65c1531c8e3b70bc206b5c57fd39a2d32f62c1ef515bf15b"), looks := true }, kinds := [], alts := [], laidByText := true, laidKinds := [.data, .data, .data, .data, .sentinel, .sentinel, .pinned], laidTests := true, laidLooks := .later }
def OptNumberCardSaid : Prop := Claim7.holds Tryz.pinned (.plain (OpenSpec.ofChange optNumberSpec)) optNumberCard

/-- THE TIED CARD OF 'muleteerlaw1.HeadAll'. -/
def headAllCard : Claim7 := { stood := { row := headAllRow, standIns := [], harness := (true, "2da84186353ba83f65c1531c8e3b70bc206b5c57fd39a2d32f62c1ef515bf15b"), looks := true }, kinds := [], alts := [], laidByText := true, laidKinds := [.data, .data, .data, .data, .sentinel, .sentinel, .pinned], laidTests := true, laidLooks := .later }
def HeadAllCardSaid : Prop := Claim7.holds Tryz.pinned (.plain (OpenSpec.ofChange headAllSpec)) headAllCard

/-- THE TIED CARD OF 'muleteerlaw1.HeadPrefix'. -/
def headPrefixCard : Claim7 := { stood := { row := headPrefixRow, standIns := [], harness := (true, "2da84186353ba83f65c1531c8e3b70bc206b5c57fd39a2d32f62c1ef515bf15b"), looks := true }, kinds := [], alts := [], laidByText := true, laidKinds := [.data, .data, .data, .data, .sentinel, .sentinel, .pinned], laidTests := true, laidLooks := .later }
def HeadPrefixCardSaid : Prop := Claim7.holds Tryz.pinned (.plain (OpenSpec.ofChange headPrefixSpec)) headPrefixCard

/-- THE SECOND FORM's CARD OF 'muleteerlaw1.FixRoot'. -/
def fixRootUptoCard : Claim7 := { stood := { row := fixRootUptoRow, standIns := [], harness := (true, "2da84186353ba83f65c1531c8e3b70bc206b5c57fd39a2d32f62c1ef515bf15b"), looks := true }, kinds := [], alts := [], laidByText := true, laidKinds := [.data, .data, .data, .data, .sentinel, .sentinel, .pinned], laidTests := true, laidLooks := .later }
def FixRootUptoCardSaid : Prop := Claim7.holds Tryz.pinned (.plain (OpenSpec.upto fixRootSpec)) fixRootUptoCard

/-- THE SECOND FORM's CARD OF 'muleteerlaw1.FixQuot'. -/
def fixQuotUptoCard : Claim7 := { stood := { row := fixQuotUptoRow, standIns := [], harness := (true, "2da84186353ba83f65c1531c8e3b70bc206b5c57fd39a2d32f62c1ef515bf15b"), looks := true }, kinds := [], alts := [], laidByText := true, laidKinds := [.data, .data, .data, .data, .sentinel, .sentinel, .pinned], laidTests := true, laidLooks := .later }
def FixQuotUptoCardSaid : Prop := Claim7.holds Tryz.pinned (.plain (OpenSpec.upto fixQuotSpec)) fixQuotUptoCard

/-- THE SECOND FORM's CARD OF 'muleteerlaw1.FixAll'. -/
def fixAllUptoCard : Claim7 := { stood := { row := fixAllUptoRow, standIns := [], harness := (true, "2da84186353ba83f65c1531c8e3b70bc206b5c57fd39a2d32f62c1ef515bf15b"), looks := true }, kinds := [], alts := [], laidByText := true, laidKinds := [.data, .data, .data, .data, .sentinel, .sentinel, .pinned], laidTests := true, laidLooks := .later }
def FixAllUptoCardSaid : Prop := Claim7.holds Tryz.pinned (.plain (OpenSpec.upto fixAllSpec)) fixAllUptoCard

/-- THE SECOND FORM's CARD OF 'muleteerlaw1.FixEdges'. -/
def fixEdgesUptoCard : Claim7 := { stood := { row := fixEdgesUptoRow, standIns := [], harness := (true, "2da84186353ba83f65c1531c8e3b70bc206b5c57fd39a2d32f62c1ef515bf15b"), looks := true }, kinds := [], alts := [], laidByText := true, laidKinds := [.data, .data, .data, .data, .sentinel, .sentinel, .pinned], laidTests := true, laidLooks := .later }
def FixEdgesUptoCardSaid : Prop := Claim7.holds Tryz.pinned (.plain (OpenSpec.upto fixEdgesSpec)) fixEdgesUptoCard

/-- THE SECOND FORM's CARD OF 'muleteerlaw1.FixOrder'. -/
def fixOrderUptoCard : Claim7 := { stood := { row := fixOrderUptoRow, standIns := [], harness := (true, "2da84186353ba83f65c1531c8e3b70bc206b5c57fd39a2d32f62c1ef515bf15b"), looks := true }, kinds := [], alts := [], laidByText := true, laidKinds := [.data, .data, .data, .data, .sentinel, .sentinel, .pinned], laidTests := true, laidLooks := .later }
def FixOrderUptoCardSaid : Prop := Claim7.holds Tryz.pinned (.plain (OpenSpec.upto fixOrderSpec)) fixOrderUptoCard

/-- THE SECOND FORM's CARD OF 'muleteerlaw1.SeqAll'. -/
def seqAllUptoCard : Claim7 := { stood := { row := seqAllUptoRow, standIns := [], harness := (true, "2da84186353ba83f65c1531c8e3b70bc206b5c57fd39a2d32f62c1ef515bf15b"), looks := true }, kinds := [], alts := [], laidByText := true, laidKinds := [.data, .data, .data, .data, .sentinel, .sentinel, .pinned], laidTests := true, laidLooks := .later }
def SeqAllUptoCardSaid : Prop := Claim7.holds Tryz.pinned (.plain (OpenSpec.upto seqAllSpec)) seqAllUptoCard

/-- THE SECOND FORM's CARD OF 'muleteerlaw1.SeqShort'. -/
def seqShortUptoCard : Claim7 := { stood := { row := seqShortUptoRow, standIns := [], harness := (true, "2da84186353ba83f65c1531c8e3b70bc206b5c57fd39a2d32f62c1ef515bf15b"), looks := true }, kinds := [], alts := [], laidByText := true, laidKinds := [.data, .data, .data, .data, .sentinel, .sentinel, .pinned], laidTests := true, laidLooks := .later }
def SeqShortUptoCardSaid : Prop := Claim7.holds Tryz.pinned (.plain (OpenSpec.upto seqShortSpec)) seqShortUptoCard

/-- THE SECOND FORM's CARD OF 'muleteerlaw1.SeqOrder'. -/
def seqOrderUptoCard : Claim7 := { stood := { row := seqOrderUptoRow, standIns := [], harness := (true, "2da84186353ba83f65c1531c8e3b70bc206b5c57fd39a2d32f62c1ef515bf15b"), looks := true }, kinds := [], alts := [], laidByText := true, laidKinds := [.data, .data, .data, .data, .sentinel, .sentinel, .pinned], laidTests := true, laidLooks := .later }
def SeqOrderUptoCardSaid : Prop := Claim7.holds Tryz.pinned (.plain (OpenSpec.upto seqOrderSpec)) seqOrderUptoCard

/-- THE SECOND FORM's CARD OF 'muleteerlaw1.OptAll'. -/
def optAllUptoCard : Claim7 := { stood := { row := optAllUptoRow, standIns := [], harness := (true, "2da84186353ba83f65c1531c8e3b70bc206b5c57fd39a2d32f62c1ef515bf15b"), looks := true }, kinds := [], alts := [], laidByText := true, laidKinds := [.data, .data, .data, .data, .sentinel, .sentinel, .pinned], laidTests := true, laidLooks := .later }
def OptAllUptoCardSaid : Prop := Claim7.holds Tryz.pinned (.plain (OpenSpec.upto optAllSpec)) optAllUptoCard

/-- THE SECOND FORM's CARD OF 'muleteerlaw1.OptNumber'. -/
def optNumberUptoCard : Claim7 := { stood := { row := optNumberUptoRow, standIns := [], harness := (true, "2da84186353ba83f65c1531c8e3b70bc206b5c57fd39a2d32f62c1ef515bf15b"), looks := true }, kinds := [], alts := [], laidByText := true, laidKinds := [.data, .data, .data, .data, .sentinel, .sentinel, .pinned], laidTests := true, laidLooks := .later }
def OptNumberUptoCardSaid : Prop := Claim7.holds Tryz.pinned (.plain (OpenSpec.upto optNumberSpec)) optNumberUptoCard

/-- THE SECOND FORM's CARD OF 'muleteerlaw1.HeadAll'. -/
def headAllUptoCard : Claim7 := { stood := { row := headAllUptoRow, standIns := [], harness := (true, "2da84186353ba83f65c1531c8e3b70bc206b5c57fd39a2d32f62c1ef515bf15b"), looks := true }, kinds := [], alts := [], laidByText := true, laidKinds := [.data, .data, .data, .data, .sentinel, .sentinel, .pinned], laidTests := true, laidLooks := .later }
def HeadAllUptoCardSaid : Prop := Claim7.holds Tryz.pinned (.plain (OpenSpec.upto headAllSpec)) headAllUptoCard

/-- THE SECOND FORM's CARD OF 'muleteerlaw1.HeadPrefix'. -/
def headPrefixUptoCard : Claim7 := { stood := { row := headPrefixUptoRow, standIns := [], harness := (true, "2da84186353ba83f65c1531c8e3b70bc206b5c57fd39a2d32f62c1ef515bf15b"), looks := true }, kinds := [], alts := [], laidByText := true, laidKinds := [.data, .data, .data, .data, .sentinel, .sentinel, .pinned], laidTests := true, laidLooks := .later }
def HeadPrefixUptoCardSaid : Prop := Claim7.holds Tryz.pinned (.plain (OpenSpec.upto headPrefixSpec)) headPrefixUptoCard
end Rows
end Go.Proofs.YtmdimebifngekaaGreatDoor
