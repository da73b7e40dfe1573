/- SeqAll's plain law: numbers that go round: further on, how far, which first, within. -/
import Derived.Test.YtmdimebifngekaaGreatDoorPSeqAllx1
import Derived.Test.YtmdimebifngekaaGreatDoorPureKit
namespace Go.Proofs.YtmdimebifngekaaGreatDoor.Pure
set_option linter.unusedVariables false
open Go.RowKit Go.Proofs.YtmdimebifngekaaGreatDoor.PSeqAll Go.Proofs.YtmdimebifngekaaGreatDoorW.PrintWords Go.Proofs.YtmdimebifngekaaGreatDoorW.PrintLast

theorem obind {α β : Type} {x : Option α} {a : α} {f : α → Option β} {r : Option β} (h : x = some a) (k : f a = r) : x.bind f = r := by subst h; exact k
theorem of_some (a : Int) (h0 : 0 ≤ a) (h1 : a < 18446744073709551616) : seq_Of.f a = some (a % 281474976710656) := by unfold seq_Of.f; rw [if_pos ⟨h0, h1⟩]
theorem of_wrap (a : Int) : seq_Of.f (IntKind.u64.wrap a) = some (a % 281474976710656) := by
  have := IntKind.wrap_u64 a
  rw [of_some _ (by omega) (by omega), this]
  congr 1; omega
theorem add_some (a n : Int) : seq_Add.f a n = some ((a + n) % 281474976710656) := by
  unfold seq_Add.f
  refine obind (of_wrap _) ?_
  have := IntKind.wrap_u64 n
  rw [this]; congr 1; omega
theorem in_some (a s b : Int) : seq_In.f a s b = some (decide ((s - a) % 281474976710656 ≤ (b - a) % 281474976710656)) := by
  unfold seq_In.f
  exact obind (of_wrap _) (obind (of_wrap _) rfl)
def dist (a b : Int) : Int := if (a - b) % 281474976710656 ≥ 140737488355328 then (a - b) % 281474976710656 - 281474976710656 else (a - b) % 281474976710656
theorem dist_eq (a b : Int) : dist a b = if (a - b) % 281474976710656 ≥ 140737488355328 then (a - b) % 281474976710656 - 281474976710656 else (a - b) % 281474976710656 := rfl
theorem diff_some (a b : Int) : seq_Diff.f a b = some (dist a b) := by
  unfold seq_Diff.f dist
  refine obind (of_wrap _) ?_
  have h0 : 0 ≤ (a - b) % 281474976710656 ∧ (a - b) % 281474976710656 < 281474976710656 := by omega
  generalize (a - b) % 281474976710656 = m at *
  have hw : wrap64 m = m := by rw [wrap64_eq]; omega
  rw [hw]
  split
  · congr 1; rw [wrap64_eq]; omega
  · rfl
theorem less_some (a b : Int) : seq_Less.f a b = some (decide (dist a b < 0)) := by
  unfold seq_Less.f
  exact obind (diff_some a b) rfl
theorem rseq_some (a : Int) (h0 : 0 ≤ a) : muleteerref1_Seq.f a = some (a % 281474976710656) := by
  unfold muleteerref1_Seq.f; rw [Int.tmod_eq_emod_of_nonneg h0]
theorem rseq_wrap (a : Int) : muleteerref1_Seq.f (IntKind.u64.wrap a) = some (a % 281474976710656) := by
  have := IntKind.wrap_u64 a
  rw [rseq_some _ (by omega), this]; congr 1; omega
theorem rstep_some (a n : Int) (ha : 0 ≤ a) (hn : -9223372036854775808 ≤ n ∧ n < 9223372036854775808) : muleteerref1_Step.f a n = some ((a + n) % 281474976710656) := by
  unfold muleteerref1_Step.f
  have ht := tmod_spec n 281474976710656
  have hr := tmod_range n 281474976710656 (by omega)
  have ht' : (0 ≤ n → Int.tmod n 281474976710656 = n % 281474976710656) ∧ (n < 0 → Int.tmod n 281474976710656 = -((-n) % 281474976710656)) := ht
  generalize Int.tmod n 281474976710656 = t at *
  split
  · refine obind (rseq_some a ha) (obind (rseq_wrap _) ?_)
    have e1 := wrap64_eq (t + 281474976710656)
    have e2 := IntKind.wrap_u64 (wrap64 (t + 281474976710656))
    rw [e2]; congr 1; omega
  · refine obind (rseq_some a ha) (obind (rseq_wrap _) ?_)
    have e2 := IntKind.wrap_u64 t
    rw [e2]; congr 1; omega
theorem rdiff_some (a b : Int) (ha : 0 ≤ a) (hb : 0 ≤ b) : muleteerref1_Diff.f a b = some (dist a b) := by
  unfold muleteerref1_Diff.f
  refine obind (rseq_some a ha) (obind (rseq_some b hb) ?_)
  have e : Int.tmod (IntKind.u64.wrap (IntKind.u64.wrap (a % 281474976710656 + 281474976710656) - b % 281474976710656)) 281474976710656 = (a - b) % 281474976710656 := by
    have e1 := IntKind.wrap_u64 (a % 281474976710656 + 281474976710656)
    have e2 := IntKind.wrap_u64 (IntKind.u64.wrap (a % 281474976710656 + 281474976710656) - b % 281474976710656)
    rw [Int.tmod_eq_emod_of_nonneg (by omega)]
    omega
  rw [e]
  unfold dist
  have h0 : 0 ≤ (a - b) % 281474976710656 ∧ (a - b) % 281474976710656 < 281474976710656 := by omega
  generalize (a - b) % 281474976710656 = m at *
  have hw : wrap64 m = m := by rw [wrap64_eq]; omega
  rw [hw]
  split
  · congr 1; rw [wrap64_eq]; omega
  · rfl
theorem rless_some (a b : Int) (ha : 0 ≤ a) (hb : 0 ≤ b) : muleteerref1_Less.f a b = some (decide (dist a b < 0)) := by
  unfold muleteerref1_Less.f
  exact obind (rdiff_some a b ha hb) rfl
theorem rin_some (a s b : Int) (ha : 0 ≤ a) : muleteerref1_In.f a s b = some (decide ((s - a) % 281474976710656 ≤ (b - a) % 281474976710656)) := by
  unfold muleteerref1_In.f
  refine obind (rseq_some a ha) (obind (rseq_wrap _) (obind (rseq_some a ha) (obind (rseq_wrap _) ?_)))
  have e1 := IntKind.wrap_u64 (s + 281474976710656)
  have e2 := IntKind.wrap_u64 (b + 281474976710656)
  congr 1; rw [decide_eq_decide]; omega
theorem SeqAll : muleteerlaw1_SeqAll.Pure := by
  intro a0 a1 a2 a3 w0 w1 w2 w3
  have h0 := wfu64 w0; have h1 := wfu64 w1; have h3 := wfi64 w3
  refine obind (x := muleteerlaw1_begun.f) rfl ?_
  refine (if_pos rfl).trans ?_
  refine obind (of_some a0 h0.1 h0.2) (obind (rseq_some a0 h0.1) ?_)
  refine (if_pos rfl).trans ?_
  refine obind (add_some a0 a3) (obind (rstep_some a0 a3 h0.1 h3) ?_)
  refine (if_pos rfl).trans ?_
  refine obind (diff_some a0 a1) (obind (rdiff_some a0 a1 h0.1 h1.1) ?_)
  refine (if_pos rfl).trans ?_
  refine obind (less_some a0 a1) (obind (rless_some a0 a1 h0.1 h1.1) ?_)
  rw [beq_self_eq_true]
  refine (if_pos rfl).trans ?_
  refine obind (in_some a0 a1 a2) (obind (rin_some a0 a1 a2 h0.1) ?_)
  rw [beq_self_eq_true]
  refine (if_pos rfl).trans ?_
  refine obind (diff_some a0 a1) (obind (add_some _ _) (obind (rseq_some a0 h0.1) ?_))
  have e : (a1 + dist a0 a1) % 281474976710656 = a0 % 281474976710656 := by
    have := dist_eq a0 a1
    generalize dist a0 a1 = d at *
    omega
  rw [e, beq_self_eq_true]
end Go.Proofs.YtmdimebifngekaaGreatDoor.Pure
