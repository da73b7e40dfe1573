/- FixOrder's plain law: greater numbers never have lesser sums, products, roots; a greater divisor never a greater quotient. -/
import Derived.Test.YtmdimebifngekaaGreatDoorPFixOrderx1
import Derived.Test.YtmdimebifngekaaGreatDoorPureKit
namespace Go.Proofs.YtmdimebifngekaaGreatDoor.Pure
set_option linter.unusedVariables false
open Go.RowKit Go.Proofs.YtmdimebifngekaaGreatDoor.PFixOrder Go.Proofs.YtmdimebifngekaaGreatDoorW.PrintWords Go.Proofs.YtmdimebifngekaaGreatDoorW.PrintLast Go.Proofs.YtmdimebifngekaaGreatDoorW.PrintMore

theorem obind {α β : Type} {x : Option α} {a : α} {f : α → Option β} {r : Option β} (h : x = some a) (k : f a = r) : x.bind f = r := by subst h; exact k
theorem u64_of {n : Nat} (h : n < 18446744073709551616) : u64 (n : Int) = true := by unfold u64; exact decide_eq_true ⟨by omega, by omega⟩
theorem md_some (a b c : Nat) (ha : a < 18446744073709551616) (hb : b < 18446744073709551616) (hc : c < 18446744073709551616) : fix_MulDiv.f a b c = some ((Fix.quot a b c : Nat) : Int) := by
  unfold fix_MulDiv.f
  rw [if_pos ⟨u64_of ha, u64_of hb, u64_of hc⟩]
  rw [Int.toNat_natCast, Int.toNat_natCast, Int.toNat_natCast]
theorem sm_some (a b : Nat) (ha : a < 18446744073709551616) (hb : b < 18446744073709551616) : fix_SqrtMul.f a b = some ((Fix.root (a * b) : Nat) : Int) := by
  unfold fix_SqrtMul.f
  rw [if_pos ⟨u64_of ha, u64_of hb⟩]
  rw [Int.toNat_natCast, Int.toNat_natCast]
theorem sq_some (a : Nat) (ha : a < 18446744073709551616) : fix_Sqrt.f a = some ((Fix.root a : Nat) : Int) := by
  unfold fix_Sqrt.f
  rw [if_pos (u64_of ha)]
  rw [Int.toNat_natCast]
theorem fadd_some (a b : Nat) (ha : a < 18446744073709551616) (hb : b < 18446744073709551616) : fix_Add.f a b = some ((Fix.sum a b : Nat) : Int) := by
  unfold fix_Add.f Fix.sum
  rw [if_pos ⟨u64_of ha, u64_of hb⟩]
  by_cases h : a + b < 18446744073709551616
  · rw [if_pos h, if_pos (by omega), Int.natCast_add]
  · rw [if_neg h, if_neg (by omega)]; rfl
theorem sub_some (a b : Nat) (ha : a < 18446744073709551616) (hb : b < 18446744073709551616) : fix_Sub.f a b = some ((a - b : Nat) : Int) := by
  unfold fix_Sub.f mn
  congr 1
  split
  · rw [IntKind.wrap_u64]; omega
  · rw [IntKind.wrap_u64]; omega
theorem mul_some (a b : Nat) (ha : a < 18446744073709551616) (hb : b < 18446744073709551616) : fix_Mul.f a b = some ((Fix.prod a b : Nat) : Int) := by
  unfold fix_Mul.f Fix.prod
  have hm : bits_Mul64.f a b = some (((a * b / 18446744073709551616 : Nat) : Int), ((a * b % 18446744073709551616 : Nat) : Int)) := by
    unfold bits_Mul64.f
    rw [if_pos ⟨u64_of ha, u64_of hb⟩, Int.toNat_natCast, Int.toNat_natCast]
  refine obind hm ?_
  by_cases h : a * b < 18446744073709551616
  · rw [if_pos h]; refine (if_neg (by omega)).trans ?_; exact congrArg some (congrArg Nat.cast (Nat.mod_eq_of_lt h))
  · rw [if_neg h]; exact if_pos (by omega)
theorem mx_nat (a b : Nat) : mx (a : Int) (b : Int) = ((max a b : Nat) : Int) := by unfold mx; split <;> omega
theorem FixOrder : muleteerlaw1_FixOrder.Pure := by
  intro a0 a1 a2 a3 w0 w1 w2 w3
  have h0 := wfu64 w0; have h1 := wfu64 w1; have h2 := wfu64 w2; have h3 := wfu64 w3
  obtain ⟨a, rfl⟩ := Int.eq_ofNat_of_zero_le h0.1
  obtain ⟨b, rfl⟩ := Int.eq_ofNat_of_zero_le h1.1
  obtain ⟨c, rfl⟩ := Int.eq_ofNat_of_zero_le h2.1
  obtain ⟨d, rfl⟩ := Int.eq_ofNat_of_zero_le h3.1
  clear w0 w1 w2 w3
  have ha : a < 18446744073709551616 := by omega
  have hb : b < 18446744073709551616 := by omega
  have hc : c < 18446744073709551616 := by omega
  have hd : d < 18446744073709551616 := by omega
  have hx : max a d < 18446744073709551616 := by omega
  have hax : a ≤ max a d := Nat.le_max_left _ _
  have e1 : mx (mx (c : Int) (d : Int)) 1 = ((max (max c d) 1 : Nat) : Int) := by rw [mx_nat]; exact mx_nat _ 1
  have e2 : mx (c : Int) 1 = ((max c 1 : Nat) : Int) := mx_nat _ 1
  unfold muleteerlaw1_FixOrder.f
  rw [mx_nat a d, e1, e2]
  refine obind (x := muleteerlaw1_begun.f) rfl ?_
  refine (if_pos rfl).trans ?_
  refine obind (fadd_some _ b hx hb) (obind (fadd_some a b ha hb) ((if_pos (Int.ofNat_le.2 (Fix.sum_mono a _ b hax))).trans ?_))
  refine obind (mul_some _ b hx hb) (obind (mul_some a b ha hb) ((if_pos (Int.ofNat_le.2 (Fix.prod_mono a _ b hax))).trans ?_))
  refine obind (sq_some _ hx) (obind (sq_some a ha) ((if_pos (Int.ofNat_le.2 (Fix.root_mono a _ hax (by omega)))).trans ?_))
  refine obind (sm_some _ b hx hb) (obind (sm_some a b ha hb) ((if_pos (Int.ofNat_le.2 (Fix.root_mono _ _ (Nat.mul_le_mul_right b hax) (Fix.prod_bound _ b hx hb)))).trans ?_))
  refine obind (sub_some _ b hx hb) (obind (sub_some a b ha hb) ((if_pos (Int.ofNat_le.2 (Nat.sub_le_sub_right hax b))).trans ?_))
  refine obind (md_some _ b c hx hb hc) (obind (md_some a b c ha hb hc) ((if_pos (Int.ofNat_le.2 (Fix.quot_mono a _ b c hax hx hb))).trans ?_))
  refine obind (md_some a b _ ha hb (by omega)) (obind (md_some a b _ ha hb (by omega)) ?_)
  rw [decide_eq_true (Int.ofNat_le.2 (Fix.quot_anti a b _ _ (by omega) (by omega)))]
end Go.Proofs.YtmdimebifngekaaGreatDoor.Pure
