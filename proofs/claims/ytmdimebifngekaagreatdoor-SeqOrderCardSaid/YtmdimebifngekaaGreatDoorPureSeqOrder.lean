/- SeqOrder's plain law: of three numbers near one another the order goes on; within is between. -/
import Derived.Test.YtmdimebifngekaaGreatDoorPSeqOrderx1
import Derived.Test.YtmdimebifngekaaGreatDoorPureKit
namespace Go.Proofs.YtmdimebifngekaaGreatDoor.Pure
set_option linter.unusedVariables false
open Go.RowKit Go.Proofs.YtmdimebifngekaaGreatDoor.PSeqOrder Go.Proofs.YtmdimebifngekaaGreatDoorW.PrintWords Go.Proofs.YtmdimebifngekaaGreatDoorW.PrintLast

theorem obind {α β : Type} {x : Option α} {a : α} {f : α → Option β} {r : Option β} (h : x = some a) (k : f a = r) : x.bind f = r := by subst h; exact k
theorem of_some (a : Int) (h0 : 0 ≤ a) (h1 : a < 18446744073709551616) : seq_Of.f a = some (a % 281474976710656) := by unfold seq_Of.f; rw [if_pos ⟨h0, h1⟩]
theorem of_wrap (a : Int) : seq_Of.f (IntKind.u64.wrap a) = some (a % 281474976710656) := by
  have := IntKind.wrap_u64 a
  rw [of_some _ (by omega) (by omega), this]
  congr 1; omega
theorem add_some (a n : Int) : seq_Add.f a n = some ((a + n) % 281474976710656) := by
  unfold seq_Add.f
  refine obind (of_wrap _) ?_
  have := IntKind.wrap_u64 n
  rw [this]; congr 1; omega
theorem in_some (a s b : Int) : seq_In.f a s b = some (decide ((s - a) % 281474976710656 ≤ (b - a) % 281474976710656)) := by
  unfold seq_In.f
  exact obind (of_wrap _) (obind (of_wrap _) rfl)
def dist (a b : Int) : Int := if (a - b) % 281474976710656 ≥ 140737488355328 then (a - b) % 281474976710656 - 281474976710656 else (a - b) % 281474976710656
theorem dist_eq (a b : Int) : dist a b = if (a - b) % 281474976710656 ≥ 140737488355328 then (a - b) % 281474976710656 - 281474976710656 else (a - b) % 281474976710656 := rfl
theorem diff_some (a b : Int) : seq_Diff.f a b = some (dist a b) := by
  unfold seq_Diff.f dist
  refine obind (of_wrap _) ?_
  have h0 : 0 ≤ (a - b) % 281474976710656 ∧ (a - b) % 281474976710656 < 281474976710656 := by omega
  generalize (a - b) % 281474976710656 = m at *
  have hw : wrap64 m = m := by rw [wrap64_eq]; omega
  rw [hw]
  split
  · congr 1; rw [wrap64_eq]; omega
  · rfl
theorem less_some (a b : Int) : seq_Less.f a b = some (decide (dist a b < 0)) := by
  unfold seq_Less.f
  exact obind (diff_some a b) rfl
theorem dist_on (a n : Int) (h0 : 0 ≤ n) (h1 : n < 140737488355328) : dist a ((a + n) % 281474976710656) = -n := by
  have := dist_eq a ((a + n) % 281474976710656)
  omega
theorem dist_back (a x y : Int) (h0 : 0 ≤ y) (h1 : y < 140737488355328) : dist ((a + x) % 281474976710656) (((a + x) % 281474976710656 + y) % 281474976710656) = -y := dist_on _ y h0 h1
theorem max_two (k : Nat) (a b c : Int) (hc : 0 ≤ c ∧ c < 281474976710656) (h1 : dist a c < 0 ∨ dist a c = 0 ∧ dist a b = 0 ∧ (a - c) % 281474976710656 = 0) (h2 : ¬ dist c b < 0) (ha : 0 ≤ a ∧ a < 18446744073709551616) : seq_Max.f (k + 3) a [c, b] = some c := by
  unfold seq_Max.f
  have l2 : (([c, b] : List Int).length : Int) = 2 := rfl
  rw [l2]
  have w1 : wrap64 (0 + 1) = 1 := by rw [wrap64_eq]; omega
  have w2 : wrap64 (1 + 1) = 2 := by rw [wrap64_eq]; omega
  have r0 : rd [c, b] 0 = c := rfl
  have r1 : rd [c, b] 1 = b := rfl
  have last : ∀ s : Int, 0 ≤ s → s < 18446744073709551616 → s % 281474976710656 = c → seq_Max.l0 (k + 1) s [c, b] 2 2 = some c := fun s s0 s1 s2 => by
    simp only [seq_Max.l0]
    rw [if_neg (by omega)]
    exact obind (of_some s s0 s1) (congrArg some s2)
  rcases h1 with h1 | ⟨h1, h3, h4⟩
  · simp only [seq_Max.l0, l2]
    rw [if_pos (by omega), if_pos (by omega), if_pos (by omega), r0, w1]
    refine obind (less_some a c) ?_
    rw [decide_eq_true h1]
    refine (if_pos rfl).trans ?_
    rw [if_pos (by omega), if_pos (by omega), if_pos (by omega), r1, w2]
    refine obind (less_some c b) ?_
    rw [decide_eq_false h2]
    refine (if_neg Bool.false_ne_true).trans ?_
    have := last c (by omega) (by omega) (by omega)
    simp only [seq_Max.l0] at this
    exact this
  · simp only [seq_Max.l0, l2]
    rw [if_pos (by omega), if_pos (by omega), if_pos (by omega), r0, w1]
    refine obind (less_some a c) ?_
    rw [decide_eq_false (by omega)]
    refine (if_neg Bool.false_ne_true).trans ?_
    rw [if_pos (by omega), if_pos (by omega), if_pos (by omega), r1, w2]
    refine obind (less_some a b) ?_
    rw [decide_eq_false (by omega)]
    refine (if_neg Bool.false_ne_true).trans ?_
    have := last a (by omega) (by omega) (by omega)
    simp only [seq_Max.l0] at this
    exact this
theorem order1 (k : Nat) (a x y : Int) (ha : 0 ≤ a ∧ a < 18446744073709551616) (hx : 0 ≤ x ∧ x < 35184372088832) (hy : 0 ≤ y ∧ y < 35184372088832) : muleteerlaw1_SeqOrder.j1 (k + 4) a x y = some true := by
  simp only [muleteerlaw1_SeqOrder.j1]
  have hb : 0 ≤ (a + x) % 281474976710656 ∧ (a + x) % 281474976710656 < 281474976710656 := by omega
  have ec : ((a + x) % 281474976710656 + y) % 281474976710656 = (a + (x + y)) % 281474976710656 := by omega
  refine obind (add_some a x) (obind (add_some a x) (obind (add_some _ y) ?_))
  have d1 := dist_on a x hx.1 (by omega)
  have d2 := dist_on ((a + x) % 281474976710656) y hy.1 (by omega)
  have d3 := dist_on a (x + y) (by omega) (by omega)
  rw [← ec] at d3
  have i1 : decide (((a + x) % 281474976710656 - a) % 281474976710656 ≤ (((a + x) % 281474976710656 + y) % 281474976710656 - a) % 281474976710656) = true := decide_eq_true (by omega)
  have i2 : y ≠ 0 → decide ((((a + x) % 281474976710656 + y) % 281474976710656 - a) % 281474976710656 ≤ ((a + x) % 281474976710656 - a) % 281474976710656) = false := fun h => decide_eq_false (by omega)
  have d4 : dist (((a + x) % 281474976710656 + y) % 281474976710656) ((a + x) % 281474976710656) = y := by
    have := dist_eq (((a + x) % 281474976710656 + y) % 281474976710656) ((a + x) % 281474976710656)
    omega
  have hmax : seq_Max.f (k + 3) a [((a + x) % 281474976710656 + y) % 281474976710656, (a + x) % 281474976710656] = some (((a + x) % 281474976710656 + y) % 281474976710656) :=
    max_two k a _ _ (by omega) (by omega) (by omega) ha
  have hc0 : 0 ≤ ((a + x) % 281474976710656 + y) % 281474976710656 := by omega
  refine obind (less_some _ _) ?_
  rw [d1]
  have e1 : (decide (-x < 0) == decide (x > 0)) = true := by rw [beq_iff_eq, decide_eq_decide]; omega
  have e2 : (decide (-y < 0) == decide (y > 0)) = true := by rw [beq_iff_eq, decide_eq_decide]; omega
  refine (if_pos e1).trans ?_
  refine obind (less_some _ _) ?_
  rw [d2]
  refine (if_pos e2).trans ?_
  refine obind (less_some _ _) ?_
  rw [d3]
  have fin : ((seq_In.f a ((a + x) % 281474976710656) (((a + x) % 281474976710656 + y) % 281474976710656)).bind fun t116 => (if t116 = true then (if y = 0 then ((seq_Max.f (k + 3) a (([((a + x) % 281474976710656 + y) % 281474976710656, (a + x) % 281474976710656] : List Int))).bind fun t120 => (some (t120 == ((a + x) % 281474976710656 + y) % 281474976710656))) else ((seq_In.f a (((a + x) % 281474976710656 + y) % 281474976710656) ((a + x) % 281474976710656)).bind fun t121 => (if t121 = true then (some false) else ((seq_Max.f (k + 3) a (([((a + x) % 281474976710656 + y) % 281474976710656, (a + x) % 281474976710656] : List Int))).bind fun t125 => (some (t125 == ((a + x) % 281474976710656 + y) % 281474976710656)))))) else (some false))) = some true := by
    refine obind (in_some _ _ _) ?_
    rw [i1]
    refine (if_pos rfl).trans ?_
    by_cases h : y = 0
    · exact (if_pos h).trans (obind hmax (congrArg some (beq_self_eq_true _)))
    · refine (if_neg h).trans ?_
      refine obind (in_some _ _ _) ?_
      rw [i2 h]
      exact (if_neg Bool.false_ne_true).trans (obind hmax (congrArg some (beq_self_eq_true _)))
  by_cases hx0 : x > 0
  · refine (if_pos hx0).trans ?_
    have e3 : (decide (-(x + y) < 0) == true) = true := by rw [beq_iff_eq, decide_eq_true_eq]; omega
    exact (if_pos e3).trans fin
  · refine (if_neg hx0).trans ?_
    have e3 : (decide (-(x + y) < 0) == decide (y > 0)) = true := by rw [beq_iff_eq, decide_eq_decide]; omega
    exact (if_pos e3).trans fin
theorem order0 (k : Nat) (a x y : Int) (ha : 0 ≤ a ∧ a < 18446744073709551616) (hx : 0 ≤ x ∧ x < 35184372088832) (hy : -35184372088832 < y ∧ y < 35184372088832) : muleteerlaw1_SeqOrder.j0 (k + 5) a x y = some true := by
  simp only [muleteerlaw1_SeqOrder.j0]
  have w := wrap64_eq (-y)
  by_cases h : y < 0
  · exact (if_pos h).trans (order1 k a x _ ha hx (by omega))
  · exact (if_neg h).trans (order1 k a x _ ha hx (by omega))
theorem SeqOrder : muleteerlaw1_SeqOrder.Pure := by
  intro a0 a1 a2 w0 w1 w2
  have h0 := wfu64 w0
  have t1 := tmod_range a1 35184372088832 (by omega)
  have t2 := tmod_range a2 35184372088832 (by omega)
  refine ⟨5, ?_⟩
  unfold muleteerlaw1_SeqOrder.f
  refine obind (x := muleteerlaw1_begun.f) rfl ?_
  refine (if_pos rfl).trans ?_
  generalize Int.tmod a1 35184372088832 = x at *
  generalize Int.tmod a2 35184372088832 = y at *
  have w := wrap64_eq (-x)
  by_cases h : x < 0
  · exact (if_pos h).trans (order0 0 a0 _ y h0 (by omega) t2)
  · exact (if_neg h).trans (order0 0 a0 _ y h0 (by omega) t2)
end Go.Proofs.YtmdimebifngekaaGreatDoor.Pure
