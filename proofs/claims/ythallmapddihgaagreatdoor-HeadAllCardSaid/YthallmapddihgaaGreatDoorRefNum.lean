/- The contract of the document's Number: bytes as a number. -/
import Derived.Test.YthallmapddihgaaGreatDoorBaseD
namespace Go.Proofs.YthallmapddihgaaGreatDoor
open Go.RowKit
set_option linter.unusedVariables false
set_option linter.unusedSimpArgs false
set_option maxHeartbeats 1000000 in
set_option maxRecDepth 1000000 in
theorem ref_Number (s : ByteArray) (hs : s.size ≤ 8) (w : World) : Calls Tryz.prog 61 #[.string s] w fun e w' => e = .returned (.int .u64 (num s.data.toList : Nat)) ∧ w = w' := by
  have hl : s.data.toList.length = s.size := by rw [Array.length_toList]; rfl
  replace hl := hide hl
  go_enter Tryz.func61, Tryz.ntmps61
  go_wp2
  go_loop [3, 4] (fun u x => ∃ i m : Nat, i ≤ s.size ∧ x = .int .i64 i ∧ u = .int .u64 m ∧ Hid (m = num (s.data.toList.take i))) (fun _ x => s.size - (intOf x).toNat)
  case atStart => exact ⟨0, 0, by omega, rfl, rfl, hide (by simp [num])⟩
  case round =>
    obtain ⟨i, m, hi, rfl, rfl, H⟩ := hrel
    by_cases h : i < s.size
    · have hm : m < 72057594037927936 := by
        rw [H.out]
        refine Nat.lt_of_lt_of_le (num_lt _) (Nat.le_trans (pow_256 _ 7 ?_) (by decide))
        rw [List.length_take, hl.out]; omega
      have h256 := s[i].toNat_lt
      have hsn := hide (take_byte s i h)
      go_wp2
      go_round
      case rel => exact ⟨i + 1, m * 256 + s[i].toNat, by omega, by go_num, by go_num, hide (by rw [hsn.out, num_snoc, ← H.out])⟩
      case measure => simp [intOf]; omega
    · have HM : Hid (m = num s.data.toList) := hide (by rw [H.out, List.take_of_length_le (by rw [hl.out]; omega)])
      go_wp2
      go_ret
      exact ⟨ret_int (by rw [HM.out]), rfl⟩
end Go.Proofs.YthallmapddihgaaGreatDoor
