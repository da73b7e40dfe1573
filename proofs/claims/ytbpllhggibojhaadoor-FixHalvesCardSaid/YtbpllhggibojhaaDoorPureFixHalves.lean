/- FixHalves' plain law: what a product is by two divisors, one behind the other, is what it is by their product. -/
import Derived.Test.YtbpllhggibojhaaDoorPFixHalvesx1
import Derived.Test.YtbpllhggibojhaaDoorPureKit
namespace Go.Proofs.YtbpllhggibojhaaDoor.Pure
open Go.RowKit Go.Proofs.YtbpllhggibojhaaDoor.PFixHalves Go.Proofs.YtbpllhggibojhaaDoorW.PrintWords Go.Proofs.YtbpllhggibojhaaDoorW.PrintLast

theorem u64_of {n : Nat} (h : n < 18446744073709551616) : u64 (n : Int) = true := by unfold u64; exact decide_eq_true ⟨by omega, by omega⟩
theorem md_some (a b c : Nat) (ha : a < 18446744073709551616) (hb : b < 18446744073709551616) (hc : c < 18446744073709551616) : fix_MulDiv.f a b c = some ((Fix.quot a b c : Nat) : Int) := by
  unfold fix_MulDiv.f
  rw [if_pos ⟨u64_of ha, u64_of hb, u64_of hc⟩]
  simp
theorem FixHalves : muleteerlaw1_FixHalves.Pure := by
  intro a0 a1 a2 a3 w0 w1 w2 w3
  unfold muleteerlaw1_FixHalves.f muleteerlaw1_begun.f
  simp only [Option.bind_some, if_true]
  have h0 := wfu64 w0; have h1 := wfu64 w1; have h2 := wfu32 w2; have h3 := wfu32 w3
  obtain ⟨a, rfl⟩ := Int.eq_ofNat_of_zero_le h0.1
  obtain ⟨b, rfl⟩ := Int.eq_ofNat_of_zero_le h1.1
  obtain ⟨c, rfl⟩ := Int.eq_ofNat_of_zero_le h2.1
  obtain ⟨d, rfl⟩ := Int.eq_ofNat_of_zero_le h3.1
  clear w0 w1 w2 w3
  have ex : IntKind.u64.wrap (IntKind.u64.wrap (c : Int) + 1) = ((c + 1 : Nat) : Int) := by rw [IntKind.wrap_u64, IntKind.wrap_u64]; omega
  have ey : IntKind.u64.wrap (IntKind.u64.wrap (d : Int) + 1) = ((d + 1 : Nat) : Int) := by rw [IntKind.wrap_u64, IntKind.wrap_u64]; omega
  have ea : (a : Int) / 256 = ((a / 256 : Nat) : Int) := by omega
  have eb : Int.tmod (b : Int) 72057594037927936 = ((b % 72057594037927936 : Nat) : Int) := by rw [Int.tmod_eq_emod_of_nonneg (by omega)]; omega
  have em : IntKind.u64.wrap (((c + 1 : Nat) : Int) * ((d + 1 : Nat) : Int)) = (((c + 1) * (d + 1) % 18446744073709551616 : Nat) : Int) := by rw [← Int.natCast_mul, IntKind.wrap_u64]; omega
  rw [ex, ey, ea, eb, em]
  have hA : a / 256 < 72057594037927936 := by omega
  have hB : b % 72057594037927936 < 72057594037927936 := Nat.mod_lt _ (by decide)
  generalize a / 256 = A at *
  generalize b % 72057594037927936 = B at *
  have hx : 0 < c + 1 ∧ c + 1 ≤ 4294967296 := by omega
  have hy : 0 < d + 1 ∧ d + 1 ≤ 4294967296 := by omega
  generalize c + 1 = x at *
  generalize d + 1 = y at *
  have hm : x * y % 18446744073709551616 < 18446744073709551616 := Nat.mod_lt _ (by decide)
  rw [md_some A B x (by omega) (by omega) (by omega), md_some A B _ (by omega) (by omega) hm]
  simp only [Option.bind_some]
  split
  · rfl
  · rename_i hq
    rw [if_neg (by omega)]
    have hxy : x * y ≤ 18446744073709551616 := by
      have := Nat.mul_le_mul hx.2 hy.2
      omega
    by_cases hl : x * y = 18446744073709551616
    · split
      · rfl
      · rw [hl]; congr 1; rw [decide_eq_true_eq]; omega
    · rw [if_pos]
      have hmod : x * y % 18446744073709551616 = x * y := Nat.mod_eq_of_lt (by omega)
      rw [hmod]
      have hH : A * B / 18446744073709551616 < x := by
        rcases Nat.lt_or_ge (A * B / 18446744073709551616) x with h | h
        · exact h
        · exfalso; apply hq; unfold Fix.quot; rw [if_neg (by omega)]; omega
      have hxxy : x ≤ x * y := Nat.le_mul_of_pos_right _ hy.1
      have e1 : Fix.quot A B x = A * B / x := by unfold Fix.quot; rw [if_pos hH]
      have e2 : Fix.quot A B (x * y) = A * B / (x * y) := by unfold Fix.quot; rw [if_pos (by omega)]
      have hlt := Fix.quot_lt A B x
      rw [e1] at hlt ⊢
      rw [e2, ← Nat.div_div_eq_div_mul]
      generalize A * B / x = q at *
      have : q / y ≤ q := Nat.div_le_self _ _
      rw [Int.tdiv_eq_ediv_of_nonneg (by omega), IntKind.wrap_u64, ← Int.natCast_ediv]
      generalize q / y = z at *
      omega
end Go.Proofs.YtbpllhggibojhaaDoor.Pure
