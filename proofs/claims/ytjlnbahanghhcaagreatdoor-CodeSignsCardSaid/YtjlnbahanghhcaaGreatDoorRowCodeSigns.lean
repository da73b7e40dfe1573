/- CodeSigns: the walk, at what the row brings. -/
import Derived.Test.YtjlnbahanghhcaaGreatDoorWalkCodeSigns
import Derived.Test.YtjlnbahanghhcaaGreatDoorRowTab
namespace Go.Proofs.YtjlnbahanghhcaaGreatDoor
open Go.RowKit
set_option linter.unusedVariables false
theorem CodeSigns_row (HB0 : ∀ W : World, Calls Tryz.prog 11 #[] W fun e w' => e = .returned (.bool true) ∧ Below W.heap.size W w') (a b c d : Int) (ha : 0 ≤ a ∧ a ≤ 255) (hb : 0 ≤ b ∧ b ≤ 255) (hc : 0 ≤ c ∧ c ≤ 255) (hd : 0 ≤ d ∧ d ≤ 255) (w : World) (hl : laidMetH Tryz.prog theLaid w) :
    Calls Tryz.prog 6 #[.int .u8 a, .int .u8 b, .int .u8 c, .int .u8 d] w fun e w' => e = .returned (.bool true) ∧ Below w.heap.size w w' := by
  obtain ⟨a, rfl⟩ := Int.eq_ofNat_of_zero_le ha.1
  obtain ⟨b, rfl⟩ := Int.eq_ofNat_of_zero_le hb.1
  obtain ⟨c, rfl⟩ := Int.eq_ofNat_of_zero_le hc.1
  obtain ⟨d, rfl⟩ := Int.eq_ofNat_of_zero_le hd.1
  exact CodeSigns_walk HB0 a b c d (by omega) (by omega) (by omega) (by omega) w (tab10 w hl)
end Go.Proofs.YtjlnbahanghhcaaGreatDoor
