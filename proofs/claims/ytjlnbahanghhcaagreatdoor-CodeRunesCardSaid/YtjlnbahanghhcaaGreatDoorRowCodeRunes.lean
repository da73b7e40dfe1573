/- CodeRunes, out of the row's condition. -/
import Derived.Test.YtjlnbahanghhcaaGreatDoorWalkCodeRunes
import Derived.Test.YtjlnbahanghhcaaGreatDoorRowU8
namespace Go.Proofs.YtjlnbahanghhcaaGreatDoor
open Go.RowKit
theorem CodeRunes_row (HB0 : ∀ W : World, Calls Tryz.prog 11 #[] W fun e w' => e = .returned (.bool true) ∧ Below W.heap.size W w') (s : ByteArray) (hs : s.size ≤ 140737488351232) (M : Int) (h0 : -9223372036854775808 ≤ M) (h1 : M < 9223372036854775808) (W : World) (hl : laidMetH Tryz.prog theLaid W) :
    Calls Tryz.prog 9 #[.string s, .int .i64 M] W fun e w' => e = .returned (.bool true) ∧ Below W.heap.size W w' :=
  CodeRunes_walk HB0 s hs M h0 (by omega) W (utf8_tabs W hl)
end Go.Proofs.YtjlnbahanghhcaaGreatDoor
