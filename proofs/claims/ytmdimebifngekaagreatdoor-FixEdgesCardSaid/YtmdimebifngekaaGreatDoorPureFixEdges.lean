/- FixEdges' plain law: sums and products that do not fit, quotients that do not. -/
import Derived.Test.YtmdimebifngekaaGreatDoorPFixEdgesx1
import Derived.Test.YtmdimebifngekaaGreatDoorPureKit
namespace Go.Proofs.YtmdimebifngekaaGreatDoor.Pure
set_option linter.unusedVariables false
open Go.RowKit Go.Proofs.YtmdimebifngekaaGreatDoor.PFixEdges Go.Proofs.YtmdimebifngekaaGreatDoorW.PrintWords Go.Proofs.YtmdimebifngekaaGreatDoorW.PrintLast Go.Proofs.YtmdimebifngekaaGreatDoorW.PrintMore

theorem obind {α β : Type} {x : Option α} {a : α} {f : α → Option β} {r : Option β} (h : x = some a) (k : f a = r) : x.bind f = r := by subst h; exact k
theorem u64_of {n : Nat} (h : n < 18446744073709551616) : u64 (n : Int) = true := by unfold u64; exact decide_eq_true ⟨by omega, by omega⟩
theorem md_some (a b c : Nat) (ha : a < 18446744073709551616) (hb : b < 18446744073709551616) (hc : c < 18446744073709551616) : fix_MulDiv.f a b c = some ((Fix.quot a b c : Nat) : Int) := by
  unfold fix_MulDiv.f
  rw [if_pos ⟨u64_of ha, u64_of hb, u64_of hc⟩]
  rw [Int.toNat_natCast, Int.toNat_natCast, Int.toNat_natCast]
theorem sm_some (a b : Nat) (ha : a < 18446744073709551616) (hb : b < 18446744073709551616) : fix_SqrtMul.f a b = some ((Fix.root (a * b) : Nat) : Int) := by
  unfold fix_SqrtMul.f
  rw [if_pos ⟨u64_of ha, u64_of hb⟩]
  rw [Int.toNat_natCast, Int.toNat_natCast]
theorem fadd_some (a b : Nat) (ha : a < 18446744073709551616) (hb : b < 18446744073709551616) : fix_Add.f a b = some ((Fix.sum a b : Nat) : Int) := by
  unfold fix_Add.f Fix.sum
  rw [if_pos ⟨u64_of ha, u64_of hb⟩]
  by_cases h : a + b < 18446744073709551616
  · rw [if_pos h, if_pos (by omega), Int.natCast_add]
  · rw [if_neg h, if_neg (by omega)]; rfl
theorem sub_some (a b : Nat) (ha : a < 18446744073709551616) (hb : b < 18446744073709551616) : fix_Sub.f a b = some ((a - b : Nat) : Int) := by
  unfold fix_Sub.f mn
  congr 1
  split
  · rw [IntKind.wrap_u64]; omega
  · rw [IntKind.wrap_u64]; omega
theorem mul_some (a b : Nat) (ha : a < 18446744073709551616) (hb : b < 18446744073709551616) : fix_Mul.f a b = some ((Fix.prod a b : Nat) : Int) := by
  unfold fix_Mul.f Fix.prod
  have hm : bits_Mul64.f a b = some (((a * b / 18446744073709551616 : Nat) : Int), ((a * b % 18446744073709551616 : Nat) : Int)) := by
    unfold bits_Mul64.f
    rw [if_pos ⟨u64_of ha, u64_of hb⟩, Int.toNat_natCast, Int.toNat_natCast]
  refine obind hm ?_
  by_cases h : a * b < 18446744073709551616
  · rw [if_pos h]; refine (if_neg (by omega)).trans ?_; exact congrArg some (congrArg Nat.cast (Nat.mod_eq_of_lt h))
  · rw [if_neg h]; exact if_pos (by omega)
theorem shl1 (i : Nat) (hi : i ≤ 63) : shl .u64 1 (i : Int) = ((2 ^ i : Nat) : Int) := by
  have hlt : 2 ^ i < 18446744073709551616 := by
    rw [show (18446744073709551616 : Nat) = 2 ^ 64 from by decide]; exact Nat.pow_lt_pow_right (by omega) (by omega)
  unfold shl
  rw [Int.toNat_natCast, Nat.min_eq_left (show i ≤ IntKind.u64.bits from Nat.le_trans hi (by decide)), IntKind.wrap_u64, Int.one_mul]
  have e : (2 : Int) ^ i = ((2 ^ i : Nat) : Int) := by rw [Int.natCast_pow]; rfl
  have h0 : (0 : Int) ≤ ((2 ^ i : Nat) : Int) := Int.natCast_nonneg _
  rw [e]; omega
theorem two_lt (i : Nat) (h : i < 64) : 2 ^ i < 18446744073709551616 := by
  rw [show (18446744073709551616 : Nat) = 2 ^ 64 from by decide]; exact Nat.pow_lt_pow_right (by omega) h
theorem edges1 (k x y a : Nat) (hx : x < 18446744073709551616) (hy : y < 18446744073709551616) (hy0 : 0 < y) (ha : a < 18446744073709551616) : muleteerlaw1_FixEdges.j1 (k + 1) a x y false = some true := by
  simp only [muleteerlaw1_FixEdges.j1, Bool.false_eq_true, if_false]
  refine obind (md_some x y y hx hy hy) ?_
  rw [Fix.quot_self x y hx hy0]
  refine (if_pos rfl).trans ?_
  refine obind (md_some x a 1 hx ha (by omega)) (obind (mul_some x a hx ha) ?_)
  have e : Fix.quot x a 1 = Fix.prod x a := by
    unfold Fix.quot Fix.prod
    by_cases h : x * a < 18446744073709551616
    · rw [if_pos h, if_pos (by omega), Nat.div_one]
    · rw [if_neg h, if_neg (by omega)]
  rw [e]
  refine (if_pos rfl).trans ?_
  refine obind (sm_some x x hx hx) ?_
  rw [Fix.root_sq x hx]
  refine (if_pos rfl).trans ?_
  by_cases h0 : a = 0
  · exact if_pos (by omega)
  · refine (if_neg (by omega)).trans ?_
    refine obind (md_some a a a ha ha ha) ?_
    rw [Fix.quot_self a a ha (by omega), beq_self_eq_true]
theorem edges0 (k x y a want : Nat) (hx : x < 18446744073709551616) (hy : y < 18446744073709551616) (hy0 : 0 < y) (ha : a < 18446744073709551616) (hw : Fix.prod x y = want) : muleteerlaw1_FixEdges.j0 (k + 2) a x y want = some true := by
  simp only [muleteerlaw1_FixEdges.j0]
  refine obind (mul_some x y hx hy) ?_
  rw [hw]
  refine (if_pos rfl).trans ?_
  have e : IntKind.u64.wrap (18446744073709551615 - (a : Int)) = ((18446744073709551615 - a : Nat) : Int) := by rw [IntKind.wrap_u64]; omega
  rw [e]
  refine obind (fadd_some _ a (by omega) ha) ?_
  have e2 : Fix.sum (18446744073709551615 - a) a = 18446744073709551615 := by unfold Fix.sum; rw [if_pos (by omega)]; omega
  rw [e2]
  refine (if_pos rfl).trans ?_
  refine obind (sub_some a 18446744073709551615 ha (by omega)) ?_
  refine (if_pos (by omega)).trans ?_
  exact edges1 k x y a hx hy hy0 ha
theorem FixEdges : muleteerlaw1_FixEdges.Pure := by
  intro a0 a1 a2 w0 w1 w2
  have h2 := wfu64 w2
  obtain ⟨a, rfl⟩ := Int.eq_ofNat_of_zero_le h2.1
  have ha : a < 18446744073709551616 := by omega
  have t0 := tmod_pos a0 64 (by omega) (by omega)
  have t1 := tmod_pos a1 64 (by omega) (by omega)
  clear w0 w1 w2
  refine ⟨2, ?_⟩
  unfold muleteerlaw1_FixEdges.f
  generalize Int.tmod (wrap64 (Int.tmod a0 64 + 64)) 64 = m at *
  generalize Int.tmod (wrap64 (Int.tmod a1 64 + 64)) 64 = n at *
  obtain ⟨i, rfl⟩ := Int.eq_ofNat_of_zero_le t0.1
  obtain ⟨j, rfl⟩ := Int.eq_ofNat_of_zero_le t1.1
  have hw : wrap64 ((i : Int) + (j : Int)) = ((i + j : Nat) : Int) := by rw [wrap64_eq]; omega
  have hi := two_lt i (by omega)
  have hj := two_lt j (by omega)
  refine obind (x := muleteerlaw1_begun.f) rfl ?_
  refine (if_pos rfl).trans ((if_pos t0.1).trans ((if_pos t1.1).trans ?_))
  rw [hw, shl1 i (by omega), shl1 j (by omega)]
  by_cases h : i + j < 64
  · refine (if_pos (by omega)).trans ((if_pos (by omega)).trans ?_)
    rw [shl1 (i + j) (by omega)]
    exact edges0 0 _ _ a _ hi hj (Nat.two_pow_pos j) ha (by unfold Fix.prod; rw [← Nat.pow_add, if_pos (two_lt _ h)])
  · refine (if_neg (by omega)).trans ?_
    refine edges0 0 _ _ a 18446744073709551615 hi hj (Nat.two_pow_pos j) ha ?_
    unfold Fix.prod
    rw [← Nat.pow_add, if_neg]
    have : 2 ^ 64 ≤ 2 ^ (i + j) := Nat.pow_le_pow_right (by omega) (by omega)
    rw [show (18446744073709551616 : Nat) = 2 ^ 64 from by decide]
    omega
end Go.Proofs.YtmdimebifngekaaGreatDoor.Pure
