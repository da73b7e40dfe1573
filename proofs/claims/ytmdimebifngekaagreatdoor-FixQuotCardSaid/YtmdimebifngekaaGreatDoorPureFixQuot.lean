/- FixQuot's plain law: a quotient by itself is no more than the product, one more of it is. -/
import Derived.Test.YtmdimebifngekaaGreatDoorPFixQuotx1
import Derived.Test.YtmdimebifngekaaGreatDoorPureKit
namespace Go.Proofs.YtmdimebifngekaaGreatDoor.Pure
set_option linter.unusedVariables false
open Go.RowKit Go.Proofs.YtmdimebifngekaaGreatDoor.PFixQuot Go.Proofs.YtmdimebifngekaaGreatDoorW.PrintWords Go.Proofs.YtmdimebifngekaaGreatDoorW.PrintLast

theorem obind {α β : Type} {x : Option α} {a : α} {f : α → Option β} {r : Option β} (h : x = some a) (k : f a = r) : x.bind f = r := by subst h; exact k
theorem u64_of {n : Nat} (h : n < 18446744073709551616) : u64 (n : Int) = true := by unfold u64; exact decide_eq_true ⟨by omega, by omega⟩
theorem wrapN {n : Nat} (h : n < 18446744073709551616) : IntKind.u64.wrap (n : Int) = (n : Int) := by rw [IntKind.wrap_u64]; omega
theorem wide_some (a b : Nat) (ha : a < 18446744073709551616) (hb : b < 18446744073709551616) : muleteerref1_Wide.f a b = some (((a * b / 18446744073709551616 : Nat) : Int), ((a * b % 18446744073709551616 : Nat) : Int)) := by
  obtain ⟨e1, e2⟩ := Fix.wide_halves a b ha hb
  have t1 : ∀ n : Nat, Int.tdiv (n : Int) 4294967296 = ((n / 4294967296 : Nat) : Int) := fun n => by rw [Int.tdiv_eq_ediv_of_nonneg (by omega)]; omega
  have t2 : ∀ n : Nat, Int.tmod (n : Int) 4294967296 = ((n % 4294967296 : Nat) : Int) := fun n => by rw [Int.tmod_eq_emod_of_nonneg (by omega)]; omega
  have hah : a / 4294967296 < 4294967296 := by omega
  have hal : a % 4294967296 < 4294967296 := by omega
  have hbh : b / 4294967296 < 4294967296 := by omega
  have hbl : b % 4294967296 < 4294967296 := by omega
  rw [← e1, ← e2]
  clear e1 e2
  unfold muleteerref1_Wide.f
  simp only [t1, t2]
  generalize a / 4294967296 = ah at *
  generalize a % 4294967296 = al at *
  generalize b / 4294967296 = bh at *
  generalize b % 4294967296 = bl at *
  have m1 : ah * bh ≤ 4294967295 * 4294967295 := Nat.mul_le_mul (by omega) (by omega)
  have m2 := Fix.wide_small al bl 4294967295 hal hbl (by omega)
  have m3 := Fix.wide_small ah bl 4294967295 hah hbl (by omega)
  have m4 := Fix.wide_small al bh 4294967295 hal hbh (by omega)
  simp only [← Int.natCast_mul]
  have b1 : al * bl / 4294967296 < 4294967296 := by omega
  rw [wrapN (n := ah) (by omega), wrapN (n := bh) (by omega), ← Int.natCast_mul, ← Int.natCast_mul, ← Int.natCast_mul, wrapN (n := al * bl) (by omega), wrapN (n := ah * bl) (by omega), wrapN (n := al * bh) (by omega), wrapN (n := ah * bh) (by omega)]
  simp only [t1, t2]
  rw [wrapN (n := al * bl / 4294967296) (by omega), ← Int.natCast_add, wrapN (n := ah * bl + al * bl / 4294967296) (by omega)]
  simp only [t1, t2]
  have hmid : ah * bl + al * bl / 4294967296 < 18446744073709551616 := by omega
  generalize ah * bl + al * bl / 4294967296 = mid at *
  rw [wrapN (n := mid / 4294967296) (by omega), ← Int.natCast_add, ← Int.natCast_add, wrapN (n := al * bh + mid % 4294967296) (by omega)]
  simp only [t1, t2]
  have hmid2 : al * bh + mid % 4294967296 < 18446744073709551616 := by omega
  generalize al * bh + mid % 4294967296 = mid2 at *
  rw [wrapN (n := ah * bh + mid / 4294967296) (by omega), wrapN (n := mid2 / 4294967296) (by omega), ← Int.natCast_add, wrapN (n := ah * bh + mid / 4294967296 + mid2 / 4294967296) (by omega)]
  have e : ((mid2 % 4294967296 : Nat) : Int) * 4294967296 = ((mid2 % 4294967296 * 4294967296 : Nat) : Int) := by omega
  rw [e, wrapN (n := mid2 % 4294967296 * 4294967296) (by omega), ← Int.natCast_add, wrapN (n := mid2 % 4294967296 * 4294967296 + al * bl % 4294967296) (by omega)]
theorem over_some (M N : Nat) : muleteerref1_Over.f ((M / 18446744073709551616 : Nat) : Int) ((M % 18446744073709551616 : Nat) : Int) ((N / 18446744073709551616 : Nat) : Int) ((N % 18446744073709551616 : Nat) : Int) = some (decide (N < M)) := by
  unfold muleteerref1_Over.f
  split
  · congr 1; symm; rw [decide_eq_true_eq]; omega
  · split
    · congr 1; rw [decide_eq_decide]; omega
    · congr 1; symm; rw [decide_eq_false_iff_not]; omega
theorem md_some (a b c : Nat) (ha : a < 18446744073709551616) (hb : b < 18446744073709551616) (hc : c < 18446744073709551616) : fix_MulDiv.f a b c = some ((Fix.quot a b c : Nat) : Int) := by
  unfold fix_MulDiv.f
  rw [if_pos ⟨u64_of ha, u64_of hb, u64_of hc⟩]
  rw [Int.toNat_natCast, Int.toNat_natCast, Int.toNat_natCast]
theorem FixQuot : muleteerlaw1_FixQuot.Pure := by
  intro a0 a1 a2 w0 w1 w2
  have h0 := wfu64 w0; have h1 := wfu64 w1; have h2 := wfu64 w2
  obtain ⟨a, rfl⟩ := Int.eq_ofNat_of_zero_le h0.1
  obtain ⟨b, rfl⟩ := Int.eq_ofNat_of_zero_le h1.1
  obtain ⟨c, rfl⟩ := Int.eq_ofNat_of_zero_le h2.1
  clear w0 w1 w2
  have ha : a < 18446744073709551616 := by omega
  have hb : b < 18446744073709551616 := by omega
  have hc : c < 18446744073709551616 := by omega
  have hq := Fix.quot_lt a b c
  have s1 := Fix.quot_mul_le a b c
  have e0 : Fix.quot b a c = Fix.quot a b c := by unfold Fix.quot; rw [Nat.mul_comm b a]
  refine obind (x := muleteerlaw1_begun.f) rfl ?_
  refine (if_pos rfl).trans ?_
  refine obind (md_some a b c ha hb hc) ?_
  refine obind (wide_some a b ha hb) ?_
  by_cases hc0 : c = 0
  · refine (if_pos (by omega)).trans ?_
    rw [Fix.quot_top a b c (by omega)]; exact congrArg some (beq_self_eq_true _)
  refine (if_neg (by omega)).trans ?_
  refine obind (wide_some _ c hq hc) ?_
  refine obind (over_some _ _) ?_
  rw [decide_eq_false (Nat.not_lt.2 s1)]
  refine (if_neg Bool.false_ne_true).trans ?_
  by_cases hq1 : Fix.quot a b c = 18446744073709551615
  · exact if_pos (by omega)
  refine (if_neg (by omega)).trans ?_
  have hlt : a * b / 18446744073709551616 < c := by
    rcases Nat.lt_or_ge (a * b / 18446744073709551616) c with h | h
    · exact h
    · exact absurd (Fix.quot_top a b c (Nat.not_lt.2 h)) hq1
  have e : IntKind.u64.wrap ((Fix.quot a b c : Nat) + 1 : Int) = ((Fix.quot a b c + 1 : Nat) : Int) := by rw [IntKind.wrap_u64]; omega
  rw [e]
  refine obind (wide_some _ c (by omega) hc) ?_
  refine obind (over_some _ _) ?_
  rw [decide_eq_true (Fix.quot_next a b c hlt)]
  refine (if_pos rfl).trans ?_
  refine obind (md_some b a c hb ha hc) ?_
  rw [e0]
  refine (if_pos rfl).trans ?_
  refine obind (md_some a c c ha hc hc) ?_
  rw [Fix.quot_self a c ha (by omega), beq_self_eq_true]
end Go.Proofs.YtmdimebifngekaaGreatDoor.Pure
