/- Small facts on numbers that the plain laws share. No walk. -/
import Derived.Test.YtjlnbahanghhcaaGreatDoorWWords
import Derived.Test.YtjlnbahanghhcaaGreatDoorWMore
import Derived.Laws.BitsLemmas
namespace Go.Proofs.YtjlnbahanghhcaaGreatDoor
open Go.RowKit Go.Proofs.YtjlnbahanghhcaaGreatDoorW.PrintWords Go.Proofs.YtjlnbahanghhcaaGreatDoorW.PrintMore
set_option linter.unusedVariables false
theorem wfu64 {a : Int} (h : (Lit.int .u64 a).wf = true) : 0 ≤ a ∧ a < 18446744073709551616 := by
  have h' : 0 ≤ a ∧ a ≤ 18446744073709551615 := by simpa [Lit.wf, IntKind.min, IntKind.max, IntKind.signed, IntKind.bits] using h
  omega
theorem wfi64 {a : Int} (h : (Lit.int .i64 a).wf = true) : -9223372036854775808 ≤ a ∧ a < 9223372036854775808 := by
  have h' : -9223372036854775808 ≤ a ∧ a ≤ 9223372036854775807 := by simpa [Lit.wf, IntKind.min, IntKind.max, IntKind.signed, IntKind.bits] using h
  omega
theorem wfu32 {a : Int} (h : (Lit.int .u32 a).wf = true) : 0 ≤ a ∧ a < 4294967296 := by
  have h' : 0 ≤ a ∧ a ≤ 4294967295 := by simpa [Lit.wf, IntKind.min, IntKind.max, IntKind.signed, IntKind.bits] using h
  omega
theorem wfu8 {a : Int} (h : (Lit.int .u8 a).wf = true) : 0 ≤ a ∧ a < 256 := by
  have h' : 0 ≤ a ∧ a ≤ 255 := by simpa [Lit.wf, IntKind.min, IntKind.max, IntKind.signed, IntKind.bits] using h
  omega
theorem tmod_spec (a : Int) (n : Nat) : (0 ≤ a → Int.tmod a n = a % n) ∧ (a < 0 → Int.tmod a n = -((-a) % n)) := by
  refine ⟨fun h => Int.tmod_eq_emod_of_nonneg h, fun h => ?_⟩
  rw [show a = -(-a) from by omega, Int.neg_tmod, Int.tmod_eq_emod_of_nonneg (by omega), Int.neg_neg]
theorem wrap64_eq (a : Int) : wrap64 a = (a + 9223372036854775808) % 18446744073709551616 - 9223372036854775808 := by unfold wrap64; omega
theorem tmod_range (a n : Int) (hn : 0 < n) : -n < Int.tmod a n ∧ Int.tmod a n < n := by
  rcases Int.lt_or_le a 0 with h | h
  · rw [show a = -(-a) from by omega, Int.neg_tmod, Int.tmod_eq_emod_of_nonneg (by omega)]
    have := Int.emod_nonneg (-a) (by omega : n ≠ 0)
    have := Int.emod_lt_of_pos (-a) hn
    omega
  · rw [Int.tmod_eq_emod_of_nonneg h]
    have := Int.emod_nonneg a (by omega : n ≠ 0)
    have := Int.emod_lt_of_pos a hn
    omega
/-- '(a%n + n) % n'. -/
theorem tmod_pos (a n : Int) (hn : 0 < n) (h2 : n < 4611686018427387904) : 0 ≤ Int.tmod (wrap64 (Int.tmod a n + n)) n ∧ Int.tmod (wrap64 (Int.tmod a n + n)) n < n := by
  have h := tmod_range a n hn
  have hw : wrap64 (Int.tmod a n + n) = Int.tmod a n + n := by rw [wrap64_eq]; omega
  rw [hw]
  refine ⟨?_, (tmod_range _ n hn).2⟩
  rw [Int.tmod_eq_emod_of_nonneg (by omega)]
  exact Int.emod_nonneg _ (by omega)
theorem text_cut (s : ByteArray) (n : Nat) : (if 0 ≤ (mn (s.size : Int) (n : Int)) then (if (mn (s.size : Int) (n : Int)) ≤ (s.size : Int) then (some (s.extract 0 ((mn (s.size : Int) (n : Int)) : Int).toNat)) else (none)) else (none)) = some (s.extract 0 (min s.size n)) := by
  have hm : mn (s.size : Int) (n : Int) = ((min s.size n : Nat) : Int) := by unfold mn; split <;> omega
  rw [hm, if_pos (by omega), if_pos (by omega), Int.toNat_natCast]
end Go.Proofs.YtjlnbahanghhcaaGreatDoor
