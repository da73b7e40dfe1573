/- The contract of Text: a text's begin. -/
import Derived.Test.YtjlnbahanghhcaaGreatDoorBaseA
namespace Go.Proofs.YtjlnbahanghhcaaGreatDoor
open Go.RowKit
set_option linter.unusedVariables false
set_option linter.unusedSimpArgs false
theorem extract_all (s : ByteArray) : s.extract 0 s.size = s := by
  apply ByteArray.ext
  rw [ByteArray.data_extract]; exact Array.extract_eq_self_of_le (Nat.le_refl _)

theorem law_Text (s : ByteArray) (n : Nat) (w : World) (hs : s.size ≤ 140737488351232) : Calls Tryz.prog 12 #[.string s, .int .i64 n] w fun e w' => e = .returned (.string (s.extract 0 (min s.size n))) ∧ w = w' := by
  rcases Nat.lt_or_ge n s.size with h | h
  · have h1 : decide ((n : Int) < (s.size : Int)) = true := by simpa using h
    have h2 : min s.size n = n := by omega
    have H2 := hide h2
    clear h2
    go_enter Tryz.func12, Tryz.ntmps12
    go_wp2
    go_ret
    exact ⟨by rw [H2.out]; first | rfl | (show Ending.returned (Value.string (s.extract 0 (min (s.size : Int) (n : Int)).toNat)) = _; rw [show (min (s.size : Int) (n : Int)).toNat = n from by omega]), rfl⟩
  · have h1 : decide ((n : Int) < (s.size : Int)) = false := by simpa using h
    have h2 : min s.size n = s.size := by omega
    have H2 := hide h2
    clear h2
    go_enter Tryz.func12, Tryz.ntmps12
    go_wp2
    go_ret
    exact ⟨by rw [H2.out, extract_all]; first | rfl | (show Ending.returned (Value.string (s.extract 0 (min (s.size : Int) (n : Int)).toNat)) = _; rw [show (min (s.size : Int) (n : Int)).toNat = s.size from by omega, extract_all]), rfl⟩
end Go.Proofs.YtjlnbahanghhcaaGreatDoor
