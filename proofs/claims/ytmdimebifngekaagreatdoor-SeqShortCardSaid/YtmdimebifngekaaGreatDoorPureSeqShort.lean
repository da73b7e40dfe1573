/- SeqShort's plain law: a short number near a long one is that long one again. -/
import Derived.Test.YtmdimebifngekaaGreatDoorPSeqShortx1
import Derived.Test.YtmdimebifngekaaGreatDoorPureKit
import Derived.Laws.BitsAllLaws
namespace Go.Proofs.YtmdimebifngekaaGreatDoor.Pure
set_option linter.unusedVariables false
open Go.RowKit Go.Proofs.YtmdimebifngekaaGreatDoor.PSeqShort Go.Proofs.YtmdimebifngekaaGreatDoorW.PrintWords Go.Proofs.YtmdimebifngekaaGreatDoorW.PrintLast

theorem obind {α β : Type} {x : Option α} {a : α} {f : α → Option β} {r : Option β} (h : x = some a) (k : f a = r) : x.bind f = r := by subst h; exact k
theorem of_some (a : Int) (h0 : 0 ≤ a) (h1 : a < 18446744073709551616) : seq_Of.f a = some (a % 281474976710656) := by unfold seq_Of.f; rw [if_pos ⟨h0, h1⟩]
theorem of_wrap (a : Int) : seq_Of.f (IntKind.u64.wrap a) = some (a % 281474976710656) := by
  have := IntKind.wrap_u64 a
  rw [of_some _ (by omega) (by omega), this]
  congr 1; omega
theorem add_some (a n : Int) : seq_Add.f a n = some ((a + n) % 281474976710656) := by
  unfold seq_Add.f
  refine obind (of_wrap _) ?_
  have := IntKind.wrap_u64 n
  rw [this]; congr 1; omega
def dist (a b : Int) : Int := if (a - b) % 281474976710656 ≥ 140737488355328 then (a - b) % 281474976710656 - 281474976710656 else (a - b) % 281474976710656
theorem dist_eq (a b : Int) : dist a b = if (a - b) % 281474976710656 ≥ 140737488355328 then (a - b) % 281474976710656 - 281474976710656 else (a - b) % 281474976710656 := rfl
theorem diff_some (a b : Int) : seq_Diff.f a b = some (dist a b) := by
  unfold seq_Diff.f dist
  refine obind (of_wrap _) ?_
  have h0 : 0 ≤ (a - b) % 281474976710656 ∧ (a - b) % 281474976710656 < 281474976710656 := by omega
  generalize (a - b) % 281474976710656 = m at *
  have hw : wrap64 m = m := by rw [wrap64_eq]; omega
  rw [hw]
  split
  · congr 1; rw [wrap64_eq]; omega
  · rfl
theorem rseq_some (a : Int) (h0 : 0 ≤ a) : muleteerref1_Seq.f a = some (a % 281474976710656) := by
  unfold muleteerref1_Seq.f; rw [Int.tmod_eq_emod_of_nonneg h0]
theorem rseq_wrap (a : Int) : muleteerref1_Seq.f (IntKind.u64.wrap a) = some (a % 281474976710656) := by
  have := IntKind.wrap_u64 a
  rw [rseq_some _ (by omega), this]; congr 1; omega
theorem rstep_some (a n : Int) (ha : 0 ≤ a) (hn : -9223372036854775808 ≤ n ∧ n < 9223372036854775808) : muleteerref1_Step.f a n = some ((a + n) % 281474976710656) := by
  unfold muleteerref1_Step.f
  have ht := tmod_spec n 281474976710656
  have hr := tmod_range n 281474976710656 (by omega)
  have ht' : (0 ≤ n → Int.tmod n 281474976710656 = n % 281474976710656) ∧ (n < 0 → Int.tmod n 281474976710656 = -((-n) % 281474976710656)) := ht
  generalize Int.tmod n 281474976710656 = t at *
  split
  · refine obind (rseq_some a ha) (obind (rseq_wrap _) ?_)
    have e1 := wrap64_eq (t + 281474976710656)
    have e2 := IntKind.wrap_u64 (wrap64 (t + 281474976710656))
    rw [e2]; congr 1; omega
  · refine obind (rseq_some a ha) (obind (rseq_wrap _) ?_)
    have e2 := IntKind.wrap_u64 t
    rw [e2]; congr 1; omega
theorem and24 (a : Int) (h0 : 0 ≤ a) (h1 : a < 18446744073709551616) : Go.bits .and .u64 a 16777215 = a % 16777216 := by
  obtain ⟨n, rfl⟩ := Int.eq_ofNat_of_zero_le h0
  have h := u64_and_nat n 16777215 (by omega) (by decide)
  rw [show (16777215 : Int) = ((16777215 : Nat) : Int) from rfl, h]
  have := Nat.and_two_pow_sub_one_eq_mod n 24
  rw [show (16777215 : Nat) = 2 ^ 24 - 1 from rfl, this]; rfl
/-- how far a short number is from a long one's. -/
def near (s n : Int) : Int := if (s - n) % 16777216 ≥ 8388608 then (s - n) % 16777216 - 16777216 else (s - n) % 16777216
theorem near_eq (s n : Int) : near s n = if (s - n) % 16777216 ≥ 8388608 then (s - n) % 16777216 - 16777216 else (s - n) % 16777216 := rfl
theorem long_some (s n : Int) (hs : 0 ≤ s ∧ s < 4294967296) (hn : 0 ≤ n ∧ n < 18446744073709551616) : seq_Long.f s n = some ((n + near s n) % 281474976710656) := by
  unfold seq_Long.f near
  have e1 := IntKind.wrap_u64 s
  have e2 := IntKind.wrap_u64 (IntKind.u64.wrap s - n)
  rw [and24 _ (by omega) (by omega)]
  have e3 : IntKind.u64.wrap (IntKind.u64.wrap s - n) % 16777216 = (s - n) % 16777216 := by omega
  rw [e3]
  clear e1 e2 e3
  have h0 : 0 ≤ (s - n) % 16777216 ∧ (s - n) % 16777216 < 16777216 := by omega
  generalize (s - n) % 16777216 = m at *
  have w1 : wrap64 m = m := by rw [wrap64_eq]; omega
  have w2 : wrap64 (m - 16777216) = m - 16777216 := by rw [wrap64_eq]; omega
  rw [w1, w2]
  by_cases h : m ≥ 8388608
  · rw [if_pos h, if_pos h]; exact obind (add_some _ _) rfl
  · rw [if_neg h, if_neg h]; exact obind (add_some _ _) rfl
theorem rlong_some (s n : Int) (hs : 0 ≤ s ∧ s < 4294967296) (hn : 0 ≤ n ∧ n < 18446744073709551616) : muleteerref1_Long.f s n = some ((n + near s n) % 281474976710656) := by
  unfold muleteerref1_Long.f near
  refine obind (rseq_some n hn.1) ?_
  rw [Int.tmod_eq_emod_of_nonneg hs.1, Int.tmod_eq_emod_of_nonneg (by omega : 0 ≤ n % 281474976710656)]
  have e1 : wrap64 (s % 16777216) = s % 16777216 := by rw [wrap64_eq]; omega
  have e2 : wrap64 (n % 281474976710656 % 16777216) = n % 281474976710656 % 16777216 := by rw [wrap64_eq]; omega
  have e3 : wrap64 (s % 16777216 - n % 281474976710656 % 16777216) = s % 16777216 - n % 281474976710656 % 16777216 := by rw [wrap64_eq]; omega
  have e4 : wrap64 (s % 16777216 - n % 281474976710656 % 16777216 + 16777216) = s % 16777216 - n % 281474976710656 % 16777216 + 16777216 := by rw [wrap64_eq]; omega
  rw [e1, e2, e3, e4, Int.tmod_eq_emod_of_nonneg (by omega)]
  have e5 : (s % 16777216 - n % 281474976710656 % 16777216 + 16777216) % 16777216 = (s - n) % 16777216 := by omega
  rw [e5]
  clear e1 e2 e3 e4 e5
  have h0 : 0 ≤ (s - n) % 16777216 ∧ (s - n) % 16777216 < 16777216 := by omega
  generalize (s - n) % 16777216 = m at *
  have w2 : wrap64 (m - 16777216) = m - 16777216 := by rw [wrap64_eq]; omega
  rw [w2]
  by_cases h : m ≥ 8388608
  · rw [if_pos h, if_pos h]; exact obind (rstep_some _ _ hn.1 (by omega)) rfl
  · rw [if_neg h, if_neg h]; exact obind (rstep_some _ _ hn.1 (by omega)) rfl
theorem short_some (a : Int) (ha : 0 ≤ a ∧ a < 18446744073709551616) : seq_Short.f a = some (a % 16777216) := by
  unfold seq_Short.f
  rw [and24 _ ha.1 ha.2]; congr 1; omega
theorem short1 (k : Nat) (n d : Int) (hn : 0 ≤ n ∧ n < 18446744073709551616) (hd : -9223372036854775808 ≤ d ∧ d < 9223372036854775808) : muleteerlaw1_SeqShort.j1 (k + 1) n d false = some true := by
  simp only [muleteerlaw1_SeqShort.j1, Bool.false_eq_true, if_false]
  have hr := tmod_range d 8388608 (by omega)
  generalize Int.tmod d 8388608 = m at *
  refine obind (rstep_some n m hn.1 (by omega)) ?_
  refine obind (short_some _ (by omega)) ?_
  refine (if_pos ?_).trans ?_
  · rw [Int.tmod_eq_emod_of_nonneg (by omega)]; omega
  refine obind (short_some _ (by omega)) ?_
  refine obind (long_some _ n (by omega) hn) ?_
  have e : (n + near ((n + m) % 281474976710656 % 16777216) n) % 281474976710656 = (n + m) % 281474976710656 := by
    have := near_eq ((n + m) % 281474976710656 % 16777216) n
    have h2 : near ((n + m) % 281474976710656 % 16777216) n = m := by omega
    rw [h2]
  rw [e, beq_self_eq_true]
theorem SeqShort : muleteerlaw1_SeqShort.Pure := by
  intro a0 a1 a2 w0 w1 w2
  have h0 := wfu32 w0; have h1 := wfu64 w1; have h2 := wfi64 w2
  refine ⟨2, ?_⟩
  unfold muleteerlaw1_SeqShort.f
  refine obind (x := muleteerlaw1_begun.f) rfl ?_
  refine (if_pos rfl).trans ?_
  refine obind (long_some a0 a1 h0 h1) (obind (rlong_some a0 a1 h0 h1) ((if_pos rfl).trans ?_))
  refine (if_neg (by omega)).trans ?_
  have hn := near_eq a0 a1
  have e1 : ((Int.tmod ((a1 + near a0 a1) % 281474976710656) 16777216 % 4294967296) != Int.tmod a0 16777216) = false := by
    rw [Int.tmod_eq_emod_of_nonneg (by omega), Int.tmod_eq_emod_of_nonneg h0.1, bne_eq_false_iff_eq]
    omega
  rw [e1]
  simp only [muleteerlaw1_SeqShort.j0, Bool.false_eq_true, if_false]
  refine obind (diff_some _ _) ?_
  have hd := dist_eq ((a1 + near a0 a1) % 281474976710656) a1
  refine (if_neg (by omega)).trans ?_
  rw [decide_eq_false (by omega)]
  exact short1 0 a1 a2 h1 h2
end Go.Proofs.YtmdimebifngekaaGreatDoor.Pure
