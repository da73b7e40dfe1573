/- The contracts of the document's HasAck and Size. -/
import Derived.Test.YtjlnbahanghhcaaGreatDoorBaseA
namespace Go.Proofs.YtjlnbahanghhcaaGreatDoor
open Go.RowKit
set_option linter.unusedVariables false
set_option linter.unusedSimpArgs false

theorem ref_HasAck (t : Int) (w : World) : Calls Tryz.prog 55 #[.int .i64 t] w fun e w' => e = .returned (.bool (ackB t)) ∧ w = w' := by
  go_enter Tryz.func55, Tryz.ntmps55
  go_wp2
  all_goals go_ret
  all_goals exact ⟨ret_bool (by unfold ackB; rw [Bool.eq_iff_iff]; simp only [Bool.or_eq_true, Bool.and_eq_true, Bool.not_eq_true', Bool.false_eq_true, false_iff, true_iff, decide_eq_true_eq, decide_eq_false_iff_not, beq_iff_eq, bne_iff_ne, ne_eq] at * <;> omega), rfl⟩
theorem ref_Size (t : Int) (x : Bool) (w : World) : Calls Tryz.prog 19 #[.int .i64 t, .bool x] w fun e w' => e = .returned (.int .i64 (sizeB t x)) ∧ w = w' := by
  by_cases h : 0 ≤ t ∧ t ≤ 9
  · have h10 : t = 0 ∨ t = 1 ∨ t = 2 ∨ t = 3 ∨ t = 4 ∨ t = 5 ∨ t = 6 ∨ t = 7 ∨ t = 8 ∨ t = 9 := by omega
    rcases h10 with rfl | rfl | rfl | rfl | rfl | rfl | rfl | rfl | rfl | rfl <;> cases x
    all_goals
      clear h
      go_enter Tryz.func19, Tryz.ntmps19
      go_wp2_with (go_at_call 55; refine (ref_HasAck _ _).mono ?_; rintro e w' ⟨rfl, rfl⟩)
      all_goals go_ret
      all_goals exact ⟨ret_int (by first | rfl | decide), rfl⟩
  · have e : sizeB t x = 0 := by
      unfold sizeB; rw [if_pos]
      left; unfold isB; exact decide_eq_false h
    rw [e]
    clear e
    by_cases h0 : t < 0
    · clear h
      go_enter Tryz.func19, Tryz.ntmps19
      go_wp2
      all_goals go_ret
      all_goals exact ⟨rfl, rfl⟩
    · have h9 : 9 < t := by omega
      have h0' : 0 ≤ t := by omega
      clear h h0
      go_enter Tryz.func19, Tryz.ntmps19
      go_wp2
      all_goals go_ret
      all_goals exact ⟨rfl, rfl⟩
end Go.Proofs.YtjlnbahanghhcaaGreatDoor
