/- The contract of the document's MayOpt (printed by wip/gen/mk_lawmay.py). -/
import Derived.Test.YtjlnbahanghhcaaGreatDoorBaseD
import Derived.BigGuardPart
import Derived.Laws.StructEq
namespace Go.Proofs.YtjlnbahanghhcaaGreatDoor
open Go.RowKit
set_option linter.unusedVariables false
set_option linter.unusedSimpArgs false

set_option maxHeartbeats 4000000 in
set_option maxRecDepth 100000 in
theorem ref_MayOpt (t : Int) (d : ByteArray) (w : World) (hd9 : d.size ≤ 9223372036854775807) : Calls Tryz.prog 57 #[.agg #[.int .i64 t, .string d]] w fun e w' => e = .returned (.bool (mayO ⟨t, d⟩)) ∧ Below w.heap.size w w' := by
  have fin : ∀ (a : Bool) (W : World), (a = true ↔ (0 ≤ t ∧ t ≤ 255 ∧ (d.size = 0 ∨ (32 ≤ t ∧ d.size ≤ 253)))) → W = w.alloc (.cells #[.int .i64 t, .string d] 50) → Ending.returned (.bool a) = Ending.returned (.bool (mayO ⟨t, d⟩)) ∧ Below w.heap.size w W := fun a W h hW => ⟨ret_bool (by unfold mayO; rw [Bool.eq_iff_iff, h]; simp), hW ▸ (Below.refl _ _).alloc (Nat.le_refl _) _⟩
  have FIN := hide fin
  clear fin
  by_cases hd : d.size = 0
  · obtain rfl : d = ⟨#[]⟩ := by
      apply ByteArray.ext
      exact Array.eq_empty_of_size_eq_zero hd
    clear hd
    go_enter Tryz.func57, Tryz.ntmps57
    go_wp2
    all_goals go_ret
    all_goals (refine FIN.out _ _ ?_ rfl; have hz : (⟨#[]⟩ : ByteArray).size = 0 := rfl; clear FIN; simp only [hz, true_or, and_true, Bool.or_eq_true, Bool.and_eq_true, Bool.false_eq_true, false_iff, true_iff, decide_eq_true_eq, beq_iff_eq] at *; omega)
  · have hl : d.toList ≠ [] := by
      intro h; apply hd
      rw [ByteArray.toList_eq] at h
      have h3 : d.data.toList.length = 0 := by rw [h]; rfl
      rw [Array.length_toList] at h3
      exact h3
    have e1 : (d.toList == []) = false := beq_eq_false_iff_ne.2 hl
    have e2 : (!d.toList.isEmpty) = true := by cases h : d.toList with | nil => exact absurd h hl | cons a l => rfl
    have e3 : d.toList.isEmpty = false := by cases h : d.toList with | nil => exact absurd h hl | cons a l => rfl
    have HD := hide hd
    clear hd hl
    go_enter Tryz.func57, Tryz.ntmps57
    go_wp2
    all_goals go_ret
    all_goals (refine FIN.out _ _ ?_ rfl; have hd := HD.out; clear FIN; simp only [e1, e3, Bool.or_eq_true, Bool.and_eq_true, Bool.false_eq_true, false_iff, true_iff, decide_eq_true_eq, decide_eq_false_iff_not] at *; omega)
end Go.Proofs.YtjlnbahanghhcaaGreatDoor
