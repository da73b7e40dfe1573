/- FixRoot's plain law: a root's square is no more than the number, the next one's is. -/
import Derived.Test.YtmdimebifngekaaGreatDoorPFixRootx1
import Derived.Test.YtmdimebifngekaaGreatDoorPureKit
namespace Go.Proofs.YtmdimebifngekaaGreatDoor.Pure
set_option linter.unusedVariables false
open Go.RowKit Go.Proofs.YtmdimebifngekaaGreatDoor.PFixRoot Go.Proofs.YtmdimebifngekaaGreatDoorW.PrintWords Go.Proofs.YtmdimebifngekaaGreatDoorW.PrintLast

theorem obind {α β : Type} {x : Option α} {a : α} {f : α → Option β} {r : Option β} (h : x = some a) (k : f a = r) : x.bind f = r := by subst h; exact k
theorem u64_of {n : Nat} (h : n < 18446744073709551616) : u64 (n : Int) = true := by unfold u64; exact decide_eq_true ⟨by omega, by omega⟩
theorem wrapN {n : Nat} (h : n < 18446744073709551616) : IntKind.u64.wrap (n : Int) = (n : Int) := by rw [IntKind.wrap_u64]; omega
theorem wide_some (a b : Nat) (ha : a < 18446744073709551616) (hb : b < 18446744073709551616) : muleteerref1_Wide.f a b = some (((a * b / 18446744073709551616 : Nat) : Int), ((a * b % 18446744073709551616 : Nat) : Int)) := by
  obtain ⟨e1, e2⟩ := Fix.wide_halves a b ha hb
  have t1 : ∀ n : Nat, Int.tdiv (n : Int) 4294967296 = ((n / 4294967296 : Nat) : Int) := fun n => by rw [Int.tdiv_eq_ediv_of_nonneg (by omega)]; omega
  have t2 : ∀ n : Nat, Int.tmod (n : Int) 4294967296 = ((n % 4294967296 : Nat) : Int) := fun n => by rw [Int.tmod_eq_emod_of_nonneg (by omega)]; omega
  have hah : a / 4294967296 < 4294967296 := by omega
  have hal : a % 4294967296 < 4294967296 := by omega
  have hbh : b / 4294967296 < 4294967296 := by omega
  have hbl : b % 4294967296 < 4294967296 := by omega
  rw [← e1, ← e2]
  clear e1 e2
  unfold muleteerref1_Wide.f
  simp only [t1, t2]
  generalize a / 4294967296 = ah at *
  generalize a % 4294967296 = al at *
  generalize b / 4294967296 = bh at *
  generalize b % 4294967296 = bl at *
  have m1 : ah * bh ≤ 4294967295 * 4294967295 := Nat.mul_le_mul (by omega) (by omega)
  have m2 := Fix.wide_small al bl 4294967295 hal hbl (by omega)
  have m3 := Fix.wide_small ah bl 4294967295 hah hbl (by omega)
  have m4 := Fix.wide_small al bh 4294967295 hal hbh (by omega)
  simp only [← Int.natCast_mul]
  have b1 : al * bl / 4294967296 < 4294967296 := by omega
  rw [wrapN (n := ah) (by omega), wrapN (n := bh) (by omega), ← Int.natCast_mul, ← Int.natCast_mul, ← Int.natCast_mul, wrapN (n := al * bl) (by omega), wrapN (n := ah * bl) (by omega), wrapN (n := al * bh) (by omega), wrapN (n := ah * bh) (by omega)]
  simp only [t1, t2]
  rw [wrapN (n := al * bl / 4294967296) (by omega), ← Int.natCast_add, wrapN (n := ah * bl + al * bl / 4294967296) (by omega)]
  simp only [t1, t2]
  have hmid : ah * bl + al * bl / 4294967296 < 18446744073709551616 := by omega
  generalize ah * bl + al * bl / 4294967296 = mid at *
  rw [wrapN (n := mid / 4294967296) (by omega), ← Int.natCast_add, ← Int.natCast_add, wrapN (n := al * bh + mid % 4294967296) (by omega)]
  simp only [t1, t2]
  have hmid2 : al * bh + mid % 4294967296 < 18446744073709551616 := by omega
  generalize al * bh + mid % 4294967296 = mid2 at *
  rw [wrapN (n := ah * bh + mid / 4294967296) (by omega), wrapN (n := mid2 / 4294967296) (by omega), ← Int.natCast_add, wrapN (n := ah * bh + mid / 4294967296 + mid2 / 4294967296) (by omega)]
  have e : ((mid2 % 4294967296 : Nat) : Int) * 4294967296 = ((mid2 % 4294967296 * 4294967296 : Nat) : Int) := by omega
  rw [e, wrapN (n := mid2 % 4294967296 * 4294967296) (by omega), ← Int.natCast_add, wrapN (n := mid2 % 4294967296 * 4294967296 + al * bl % 4294967296) (by omega)]
theorem over_some (M N : Nat) : muleteerref1_Over.f ((M / 18446744073709551616 : Nat) : Int) ((M % 18446744073709551616 : Nat) : Int) ((N / 18446744073709551616 : Nat) : Int) ((N % 18446744073709551616 : Nat) : Int) = some (decide (N < M)) := by
  unfold muleteerref1_Over.f
  split
  · congr 1; symm; rw [decide_eq_true_eq]; omega
  · split
    · congr 1; rw [decide_eq_decide]; omega
    · congr 1; symm; rw [decide_eq_false_iff_not]; omega
theorem sm_some (a b : Nat) (ha : a < 18446744073709551616) (hb : b < 18446744073709551616) : fix_SqrtMul.f a b = some ((Fix.root (a * b) : Nat) : Int) := by
  unfold fix_SqrtMul.f
  rw [if_pos ⟨u64_of ha, u64_of hb⟩]
  simp
theorem FixRoot : muleteerlaw1_FixRoot.Pure := by
  intro a0 a1 w0 w1
  have h0 := wfu64 w0; have h1 := wfu64 w1
  obtain ⟨a, rfl⟩ := Int.eq_ofNat_of_zero_le h0.1
  obtain ⟨b, rfl⟩ := Int.eq_ofNat_of_zero_le h1.1
  clear w0 w1
  have ha : a < 18446744073709551616 := by omega
  have hb : b < 18446744073709551616 := by omega
  have hr := Fix.root_lt (a * b)
  obtain ⟨s1, s2⟩ := Fix.root_spec (a * b) (Fix.prod_bound a b ha hb)
  have hrr := Fix.root_sq a ha
  have eba := congrArg Fix.root (Nat.mul_comm b a)
  refine obind (x := muleteerlaw1_begun.f) rfl ?_
  refine (if_pos rfl).trans ?_
  refine obind (sm_some a b ha hb) ?_
  refine obind (wide_some a b ha hb) ?_
  refine obind (wide_some _ _ hr hr) ?_
  refine obind (over_some _ _) ?_
  rw [decide_eq_false (Nat.not_lt.2 s1)]
  refine (if_neg Bool.false_ne_true).trans ?_
  by_cases hq : Fix.root (a * b) = 18446744073709551615
  · exact if_pos (by omega)
  refine (if_neg (by omega)).trans ?_
  have e : IntKind.u64.wrap ((Fix.root (a * b) : Nat) + 1 : Int) = ((Fix.root (a * b) + 1 : Nat) : Int) := by rw [IntKind.wrap_u64]; omega
  rw [e]
  refine obind (wide_some _ _ (by omega) (by omega)) ?_
  refine obind (over_some _ _) ?_
  rw [decide_eq_true s2]
  refine (if_pos rfl).trans ?_
  refine obind (sm_some a b ha hb) ?_
  refine obind (sm_some b a hb ha) ?_
  rw [eba]
  refine (if_pos rfl).trans ?_
  refine obind (sm_some a a ha ha) ?_
  rw [hrr, beq_self_eq_true]
end Go.Proofs.YtmdimebifngekaaGreatDoor.Pure
