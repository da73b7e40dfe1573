/- FixAll's plain law: sums, differences, products, quotients of products, roots, as the document has them. -/
import Derived.Test.YtmdimebifngekaaGreatDoorPFixAllx1
import Derived.Test.YtmdimebifngekaaGreatDoorPureKit
namespace Go.Proofs.YtmdimebifngekaaGreatDoor.Pure
set_option linter.unusedVariables false
open Go.RowKit Go.Proofs.YtmdimebifngekaaGreatDoor.PFixAll Go.Proofs.YtmdimebifngekaaGreatDoorW.PrintWords Go.Proofs.YtmdimebifngekaaGreatDoorW.PrintLast Go.Proofs.YtmdimebifngekaaGreatDoorW.PrintMore

theorem obind {α β : Type} {x : Option α} {a : α} {f : α → Option β} {r : Option β} (h : x = some a) (k : f a = r) : x.bind f = r := by subst h; exact k
theorem u64_of {n : Nat} (h : n < 18446744073709551616) : u64 (n : Int) = true := by unfold u64; exact decide_eq_true ⟨by omega, by omega⟩
theorem wrapN {n : Nat} (h : n < 18446744073709551616) : IntKind.u64.wrap (n : Int) = (n : Int) := by rw [IntKind.wrap_u64]; omega
theorem wide_some (a b : Nat) (ha : a < 18446744073709551616) (hb : b < 18446744073709551616) : muleteerref1_Wide.f a b = some (((a * b / 18446744073709551616 : Nat) : Int), ((a * b % 18446744073709551616 : Nat) : Int)) := by
  obtain ⟨e1, e2⟩ := Fix.wide_halves a b ha hb
  have t1 : ∀ n : Nat, Int.tdiv (n : Int) 4294967296 = ((n / 4294967296 : Nat) : Int) := fun n => by rw [Int.tdiv_eq_ediv_of_nonneg (by omega)]; omega
  have t2 : ∀ n : Nat, Int.tmod (n : Int) 4294967296 = ((n % 4294967296 : Nat) : Int) := fun n => by rw [Int.tmod_eq_emod_of_nonneg (by omega)]; omega
  have hah : a / 4294967296 < 4294967296 := by omega
  have hal : a % 4294967296 < 4294967296 := by omega
  have hbh : b / 4294967296 < 4294967296 := by omega
  have hbl : b % 4294967296 < 4294967296 := by omega
  rw [← e1, ← e2]
  clear e1 e2
  unfold muleteerref1_Wide.f
  simp only [t1, t2]
  generalize a / 4294967296 = ah at *
  generalize a % 4294967296 = al at *
  generalize b / 4294967296 = bh at *
  generalize b % 4294967296 = bl at *
  have m1 : ah * bh ≤ 4294967295 * 4294967295 := Nat.mul_le_mul (by omega) (by omega)
  have m2 := Fix.wide_small al bl 4294967295 hal hbl (by omega)
  have m3 := Fix.wide_small ah bl 4294967295 hah hbl (by omega)
  have m4 := Fix.wide_small al bh 4294967295 hal hbh (by omega)
  simp only [← Int.natCast_mul]
  have b1 : al * bl / 4294967296 < 4294967296 := by omega
  rw [wrapN (n := ah) (by omega), wrapN (n := bh) (by omega), ← Int.natCast_mul, ← Int.natCast_mul, ← Int.natCast_mul, wrapN (n := al * bl) (by omega), wrapN (n := ah * bl) (by omega), wrapN (n := al * bh) (by omega), wrapN (n := ah * bh) (by omega)]
  simp only [t1, t2]
  rw [wrapN (n := al * bl / 4294967296) (by omega), ← Int.natCast_add, wrapN (n := ah * bl + al * bl / 4294967296) (by omega)]
  simp only [t1, t2]
  have hmid : ah * bl + al * bl / 4294967296 < 18446744073709551616 := by omega
  generalize ah * bl + al * bl / 4294967296 = mid at *
  rw [wrapN (n := mid / 4294967296) (by omega), ← Int.natCast_add, ← Int.natCast_add, wrapN (n := al * bh + mid % 4294967296) (by omega)]
  simp only [t1, t2]
  have hmid2 : al * bh + mid % 4294967296 < 18446744073709551616 := by omega
  generalize al * bh + mid % 4294967296 = mid2 at *
  rw [wrapN (n := ah * bh + mid / 4294967296) (by omega), wrapN (n := mid2 / 4294967296) (by omega), ← Int.natCast_add, wrapN (n := ah * bh + mid / 4294967296 + mid2 / 4294967296) (by omega)]
  have e : ((mid2 % 4294967296 : Nat) : Int) * 4294967296 = ((mid2 % 4294967296 * 4294967296 : Nat) : Int) := by omega
  rw [e, wrapN (n := mid2 % 4294967296 * 4294967296) (by omega), ← Int.natCast_add, wrapN (n := mid2 % 4294967296 * 4294967296 + al * bl % 4294967296) (by omega)]
theorem over_some (M N : Nat) : muleteerref1_Over.f ((M / 18446744073709551616 : Nat) : Int) ((M % 18446744073709551616 : Nat) : Int) ((N / 18446744073709551616 : Nat) : Int) ((N % 18446744073709551616 : Nat) : Int) = some (decide (N < M)) := by
  unfold muleteerref1_Over.f
  split
  · congr 1; symm; rw [decide_eq_true_eq]; omega
  · split
    · congr 1; rw [decide_eq_decide]; omega
    · congr 1; symm; rw [decide_eq_false_iff_not]; omega
theorem md_some (a b c : Nat) (ha : a < 18446744073709551616) (hb : b < 18446744073709551616) (hc : c < 18446744073709551616) : fix_MulDiv.f a b c = some ((Fix.quot a b c : Nat) : Int) := by
  unfold fix_MulDiv.f
  rw [if_pos ⟨u64_of ha, u64_of hb, u64_of hc⟩]
  rw [Int.toNat_natCast, Int.toNat_natCast, Int.toNat_natCast]
theorem sm_some (a b : Nat) (ha : a < 18446744073709551616) (hb : b < 18446744073709551616) : fix_SqrtMul.f a b = some ((Fix.root (a * b) : Nat) : Int) := by
  unfold fix_SqrtMul.f
  rw [if_pos ⟨u64_of ha, u64_of hb⟩]
  rw [Int.toNat_natCast, Int.toNat_natCast]
theorem sq_some (a : Nat) (ha : a < 18446744073709551616) : fix_Sqrt.f a = some ((Fix.root a : Nat) : Int) := by
  unfold fix_Sqrt.f
  rw [if_pos (u64_of ha)]
  rw [Int.toNat_natCast]
theorem fadd_some (a b : Nat) (ha : a < 18446744073709551616) (hb : b < 18446744073709551616) : fix_Add.f a b = some ((Fix.sum a b : Nat) : Int) := by
  unfold fix_Add.f Fix.sum
  rw [if_pos ⟨u64_of ha, u64_of hb⟩]
  by_cases h : a + b < 18446744073709551616
  · rw [if_pos h, if_pos (by omega), Int.natCast_add]
  · rw [if_neg h, if_neg (by omega)]; rfl
theorem sub_some (a b : Nat) (ha : a < 18446744073709551616) (hb : b < 18446744073709551616) : fix_Sub.f a b = some ((a - b : Nat) : Int) := by
  unfold fix_Sub.f mn
  congr 1
  split
  · rw [IntKind.wrap_u64]; omega
  · rw [IntKind.wrap_u64]; omega
theorem mul_some (a b : Nat) (ha : a < 18446744073709551616) (hb : b < 18446744073709551616) : fix_Mul.f a b = some ((Fix.prod a b : Nat) : Int) := by
  unfold fix_Mul.f Fix.prod
  have hm : bits_Mul64.f a b = some (((a * b / 18446744073709551616 : Nat) : Int), ((a * b % 18446744073709551616 : Nat) : Int)) := by
    unfold bits_Mul64.f
    rw [if_pos ⟨u64_of ha, u64_of hb⟩, Int.toNat_natCast, Int.toNat_natCast]
  refine obind hm ?_
  by_cases h : a * b < 18446744073709551616
  · rw [if_pos h]; refine (if_neg (by omega)).trans ?_; exact congrArg some (congrArg Nat.cast (Nat.mod_eq_of_lt h))
  · rw [if_neg h]; exact if_pos (by omega)
theorem rmul_some (a b : Nat) (ha : a < 18446744073709551616) (hb : b < 18446744073709551616) : muleteerref1_Mul.f a b = some ((Fix.prod a b : Nat) : Int) := by
  unfold muleteerref1_Mul.f Fix.prod
  refine obind (wide_some a b ha hb) ?_
  by_cases h : a * b < 18446744073709551616
  · rw [if_pos h]; refine (if_neg (by omega)).trans ?_; exact congrArg some (congrArg Nat.cast (Nat.mod_eq_of_lt h))
  · rw [if_neg h]; exact if_pos (by omega)
theorem rbit (l i : Nat) (hi : i ≤ 63) : Int.tmod (shr .u64 (l : Int) (i : Int)) 2 = ((l / 2 ^ i % 2 : Nat) : Int) := by
  have e : shr .u64 (l : Int) (i : Int) = ((l / 2 ^ i : Nat) : Int) := by
    unfold shr
    rw [Int.toNat_natCast, Nat.min_eq_left (show i ≤ IntKind.u64.bits from Nat.le_trans hi (by decide))]
    rw [Int.natCast_ediv, Int.natCast_pow]; rfl
  rw [e, Int.tmod_eq_emod_of_nonneg (Int.natCast_nonneg _)]
  omega
theorem bit_of (N i : Nat) (hi : i ≤ 63) : N % 18446744073709551616 / 2 ^ i % 2 = N / 2 ^ i % 2 := by
  have h : (18446744073709551616 : Nat) = 2 ^ i * (2 * 2 ^ (63 - i)) := by
    rw [← Nat.pow_succ', ← Nat.pow_add, show i + (63 - i + 1) = 64 from by omega]
  rw [h, Nat.mod_mul_right_div_self, Nat.mod_mul_right_mod]
theorem div_step (M c r q b : Nat) (hM : M < 18446744073709551616) (hc : c < 18446744073709551616) (hr : r < c) (hb : b < 2) (hq : q * c + r = M / 2) (hm : M % 2 = b) : q * 2 + 1 < 18446744073709551616 := by
  have h1 : q ≤ q * c := Nat.le_mul_of_pos_right q (by omega)
  omega
theorem rmd_loop (N c : Nat) (hc : c < 18446744073709551616) (hN : N / 18446744073709551616 < c) : ∀ (i : Nat) (k r q : Nat), i ≤ 64 → i < k → r < c → q * c + r = N / 2 ^ i →
    muleteerref1_MulDiv.l0 k c ((N % 18446744073709551616 : Nat) : Int) r q ((i : Int) - 1) = some ((Fix.divFrom N c i r q : Nat) : Int) := by
  intro i
  induction i with
  | zero =>
    intro k r q _ hk hr hq
    obtain ⟨k, rfl⟩ : ∃ m, k = m + 1 := ⟨k - 1, by omega⟩
    simp only [muleteerref1_MulDiv.l0]
    rw [if_neg (by omega)]; rfl
  | succ i ih =>
    intro k r q hi hk hr hq
    obtain ⟨k, rfl⟩ : ∃ m, k = m + 1 := ⟨k - 1, by omega⟩
    have e0 : (((i + 1 : Nat) : Int) - 1) = (i : Int) := by omega
    have e1 : IntKind.u64.wrap (i : Int) = (i : Int) := by rw [IntKind.wrap_u64]; omega
    have e2 : wrap64 ((i : Int) - 1) = (i : Int) - 1 := by rw [wrap64_eq]; omega
    have hb : N / 2 ^ i % 2 < 2 := Nat.mod_lt _ (by omega)
    have hp : N / 2 ^ (i + 1) = N / 2 ^ i / 2 := by rw [Nat.pow_succ, Nat.div_div_eq_div_mul]
    have hqb : q < 9223372036854775808 := by
      have h1 : q * c ≤ N / 2 ^ (i + 1) := by omega
      have h2 : N / 2 ^ (i + 1) ≤ N / 2 := Nat.div_le_div_left (by have := Nat.one_le_two_pow (n := i); rw [Nat.pow_succ]; omega) (by omega)
      have h3 : N / 2 < c * 9223372036854775808 := by
        have : N < c * 18446744073709551616 := by rw [Nat.div_lt_iff_lt_mul (by omega)] at hN; exact hN
        omega
      have h4 : q * c < 9223372036854775808 * c := by rw [Nat.mul_comm 9223372036854775808 c]; omega
      exact Nat.lt_of_mul_lt_mul_right h4
    rw [e0]
    simp only [muleteerref1_MulDiv.l0]
    rw [if_pos (by omega), e1, if_pos (by omega), rbit _ _ (by omega), bit_of _ _ (by omega), e2]
    simp only [Fix.divFrom]
    rw [hp] at hq
    have hM := Nat.div_add_mod (N / 2 ^ i) 2
    have eq2 : q * 2 * c = q * c * 2 := by rw [Nat.mul_right_comm]
    have eq3 : (q * 2 + 1) * c = q * c * 2 + c := by rw [Nat.add_mul, eq2, Nat.one_mul]
    have ih0 := ih k
    generalize N / 2 ^ i = M at *
    generalize M % 2 = b at *
    have w1 : IntKind.u64.wrap (IntKind.u64.wrap ((r : Int) * 2) + (b : Int)) = (((r * 2 + b) % 18446744073709551616 : Nat) : Int) := by rw [IntKind.wrap_u64, IntKind.wrap_u64]; omega
    have w2 : IntKind.u64.wrap ((q : Int) * 2) = ((q * 2 : Nat) : Int) := by rw [IntKind.wrap_u64]; omega
    have w3 : IntKind.u64.wrap (((q * 2 : Nat) : Int) + 1) = ((q * 2 + 1 : Nat) : Int) := by rw [IntKind.wrap_u64]; omega
    rw [w1, w2, w3]
    by_cases h : r * 2 + b ≥ c
    · have w4 : IntKind.u64.wrap ((((r * 2 + b) % 18446744073709551616 : Nat) : Int) - (c : Int)) = ((r * 2 + b - c : Nat) : Int) := by rw [IntKind.wrap_u64]; omega
      rw [w4, if_pos h]
      have := ih0 (r * 2 + b - c) (q * 2 + 1) (by omega) (by omega) (by omega) (by omega)
      by_cases h1 : (r : Int) ≥ 9223372036854775808
      · rw [if_pos h1]; exact this
      · rw [if_neg h1, if_pos (by omega)]; exact this
    · rw [if_neg h, if_neg (by omega), if_neg (by omega), Nat.mod_eq_of_lt (a := r * 2 + b) (by omega)]
      exact ih0 (r * 2 + b) (q * 2) (by omega) (by omega) (by omega) (by omega)
theorem rmd_some (k a b c : Nat) (hk : 66 ≤ k) (ha : a < 18446744073709551616) (hb : b < 18446744073709551616) (hc : c < 18446744073709551616) : muleteerref1_MulDiv.f k a b c = some ((Fix.quot a b c : Nat) : Int) := by
  obtain ⟨k, rfl⟩ : ∃ m, k = m + 1 := ⟨k - 1, by omega⟩
  unfold muleteerref1_MulDiv.f
  refine obind (wide_some a b ha hb) ?_
  by_cases hc0 : c = 0
  · refine (if_pos (by omega)).trans ?_
    rw [Fix.quot_top a b c (by omega)]
    simp only [muleteerref1_MulDiv.j0, if_true]; rfl
  refine (if_neg (by omega)).trans ?_
  by_cases h : a * b / 18446744073709551616 < c
  · rw [decide_eq_false (by omega), Fix.quot_in a b c h]
    simp only [muleteerref1_MulDiv.j0, Bool.false_eq_true, if_false]
    have := rmd_loop (a * b) c hc h 64 k (a * b / 18446744073709551616) 0 (by omega) (by omega) h (by rw [Nat.zero_mul, Nat.zero_add])
    rw [Fix.divFrom_eq (a * b) c 64 _ 0 h (by rw [Nat.zero_mul, Nat.zero_add])] at this
    exact this
  · rw [decide_eq_true (by omega), Fix.quot_top a b c h]
    simp only [muleteerref1_MulDiv.j0, if_true]; rfl
theorem shl1 (i : Nat) (hi : i ≤ 63) : shl .u64 1 (i : Int) = ((2 ^ i : Nat) : Int) := by
  have hlt : 2 ^ i < 18446744073709551616 := by
    rw [show (18446744073709551616 : Nat) = 2 ^ 64 from by decide]; exact Nat.pow_lt_pow_right (by omega) (by omega)
  unfold shl
  rw [Int.toNat_natCast, Nat.min_eq_left (show i ≤ IntKind.u64.bits from Nat.le_trans hi (by decide)), IntKind.wrap_u64, Int.one_mul]
  have e : (2 : Int) ^ i = ((2 ^ i : Nat) : Int) := by rw [Int.natCast_pow]; rfl
  have h0 : (0 : Int) ≤ ((2 ^ i : Nat) : Int) := Int.natCast_nonneg _
  rw [e]; omega
theorem rsm_loop (N : Nat) : ∀ (i k r : Nat), i ≤ 64 → i < k → r + 2 ^ i ≤ 18446744073709551616 →
    muleteerref1_SqrtMul.l0 k ((N / 18446744073709551616 : Nat) : Int) ((N % 18446744073709551616 : Nat) : Int) r ((i : Int) - 1) = some ((Fix.sqrtFrom N i r : Nat) : Int) := by
  intro i
  induction i with
  | zero =>
    intro k r _ hk _
    obtain ⟨k, rfl⟩ : ∃ m, k = m + 1 := ⟨k - 1, by omega⟩
    simp only [muleteerref1_SqrtMul.l0]
    rw [if_neg (by omega)]; rfl
  | succ i ih =>
    intro k r hi hk hr
    obtain ⟨k, rfl⟩ : ∃ m, k = m + 1 := ⟨k - 1, by omega⟩
    have e0 : (((i + 1 : Nat) : Int) - 1) = (i : Int) := by omega
    have e2 : wrap64 ((i : Int) - 1) = (i : Int) - 1 := by rw [wrap64_eq]; omega
    have hp2 : 2 ^ (i + 1) = 2 ^ i + 2 ^ i := by rw [Nat.pow_succ]; omega
    have hp := Nat.two_pow_pos i
    rw [e0]
    simp only [muleteerref1_SqrtMul.l0]
    rw [if_pos (by omega), if_pos (by omega), shl1 i (by omega), e2]
    have w1 : IntKind.u64.wrap ((r : Int) + ((2 ^ i : Nat) : Int)) = ((r + 2 ^ i : Nat) : Int) := by rw [IntKind.wrap_u64]; omega
    rw [w1]
    refine obind (wide_some _ _ (by omega) (by omega)) ?_
    refine obind (over_some _ _) ?_
    simp only [Fix.sqrtFrom]
    by_cases h : (r + 2 ^ i) * (r + 2 ^ i) ≤ N
    · rw [decide_eq_false (Nat.not_lt.2 h), if_pos h]
      exact (if_neg Bool.false_ne_true).trans (ih k _ (by omega) (by omega) (by omega))
    · rw [decide_eq_true (Nat.lt_of_not_le h), if_neg h]
      exact (if_pos rfl).trans (ih k _ (by omega) (by omega) (by omega))
theorem rsm_some (k a b : Nat) (hk : 66 ≤ k) (ha : a < 18446744073709551616) (hb : b < 18446744073709551616) : muleteerref1_SqrtMul.f k a b = some ((Fix.root (a * b) : Nat) : Int) := by
  unfold muleteerref1_SqrtMul.f
  refine obind (wide_some a b ha hb) ?_
  exact rsm_loop (a * b) 64 k 0 (by omega) (by omega) (by decide)
theorem radd_some (a b : Nat) (ha : a < 18446744073709551616) (hb : b < 18446744073709551616) : muleteerref1_Add.f a b = some ((Fix.sum a b : Nat) : Int) := by
  unfold muleteerref1_Add.f Fix.sum
  have e1 := IntKind.wrap_u64 (18446744073709551615 - (a : Int))
  have e2 := IntKind.wrap_u64 ((a : Int) + b)
  by_cases h : a + b < 18446744073709551616
  · rw [if_pos h, if_neg (by omega), e2]; congr 1; omega
  · rw [if_neg h, if_pos (by omega)]; rfl
theorem rsub_some (a b : Nat) (ha : a < 18446744073709551616) (hb : b < 18446744073709551616) : muleteerref1_Sub.f a b = some ((a - b : Nat) : Int) := by
  unfold muleteerref1_Sub.f
  have e2 := IntKind.wrap_u64 ((a : Int) - b)
  by_cases h : b > a
  · rw [if_pos (by omega)]; congr 1; omega
  · rw [if_neg (by omega), e2]; congr 1; omega
theorem rsq_some (k a : Nat) (hk : 66 ≤ k) (ha : a < 18446744073709551616) : muleteerref1_Sqrt.f k a = some ((Fix.root a : Nat) : Int) := by
  unfold muleteerref1_Sqrt.f
  have := rsm_some k a 1 hk ha (by omega)
  rw [Nat.mul_one] at this
  exact obind this rfl
theorem FixAll : muleteerlaw1_FixAll.Pure := by
  intro a0 a1 a2 w0 w1 w2
  have h0 := wfu64 w0; have h1 := wfu64 w1; have h2 := wfu64 w2
  obtain ⟨a, rfl⟩ := Int.eq_ofNat_of_zero_le h0.1
  obtain ⟨b, rfl⟩ := Int.eq_ofNat_of_zero_le h1.1
  obtain ⟨c, rfl⟩ := Int.eq_ofNat_of_zero_le h2.1
  clear w0 w1 w2
  have ha : a < 18446744073709551616 := by omega
  have hb : b < 18446744073709551616 := by omega
  have hc : c < 18446744073709551616 := by omega
  refine ⟨70, ?_⟩
  refine obind (x := muleteerlaw1_begun.f) rfl ?_
  refine (if_pos rfl).trans ?_
  refine obind (fadd_some a b ha hb) (obind (radd_some a b ha hb) ((if_pos rfl).trans ?_))
  refine obind (sub_some a b ha hb) (obind (rsub_some a b ha hb) ((if_pos rfl).trans ?_))
  refine obind (mul_some a b ha hb) (obind (rmul_some a b ha hb) ((if_pos rfl).trans ?_))
  refine obind (md_some a b c ha hb hc) (obind (rmd_some 70 a b c (by omega) ha hb hc) ((if_pos rfl).trans ?_))
  refine obind (sq_some a ha) (obind (rsq_some 70 a (by omega) ha) ((if_pos rfl).trans ?_))
  refine obind (sm_some a b ha hb) (obind (rsm_some 70 a b (by omega) ha hb) ?_)
  rw [beq_self_eq_true]
end Go.Proofs.YtmdimebifngekaaGreatDoor.Pure
