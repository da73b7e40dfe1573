/- OptNumber's plain law: numbers as bytes, and back. -/
import Derived.Test.YtmdimebifngekaaGreatDoorPOptNumberx2
import Derived.Test.YtmdimebifngekaaGreatDoorPureKit
namespace Go.Proofs.YtmdimebifngekaaGreatDoor.Pure
set_option linter.unusedVariables false
open Go.RowKit Go.Proofs.YtmdimebifngekaaGreatDoor.POptNumber Go.Proofs.YtmdimebifngekaaGreatDoorW.PrintWords Go.Proofs.YtmdimebifngekaaGreatDoorW.PrintLast Go.Proofs.YtmdimebifngekaaGreatDoorW.PrintMore

theorem obind {α β : Type} {x : Option α} {a : α} {f : α → Option β} {r : Option β} (h : x = some a) (k : f a = r) : x.bind f = r := by subst h; exact k
theorem bt_nat (s : ByteArray) (i : Nat) (h : i < s.size) : bt s (i : Int) = (((s[i]).toNat : Nat) : Int) := by
  rw [← bt_at s (i : Int) (by rw [Int.toNat_natCast]; exact h)]; rfl
theorem takeb (s : ByteArray) (k : Nat) (h : k < s.size) : s.data.toList.take (k + 1) = s.data.toList.take k ++ [s[k]] := by
  rw [List.take_succ_eq_append_getElem (by rw [Array.length_toList]; exact h)]; rfl
theorem lenb (s : ByteArray) : s.data.toList.length = s.size := by rw [Array.length_toList]; rfl
theorem num_small (s : ByteArray) (i : Nat) (h : i < s.size) (h8 : s.size ≤ 8) : num (s.data.toList.take i) < 72057594037927936 := by
  refine Nat.lt_of_lt_of_le (num_lt _) (Nat.le_trans (pow_256 _ 7 ?_) (by decide))
  rw [List.length_take, lenb]; omega
theorem onum_loop (s : ByteArray) (h8 : s.size ≤ 8) (d : Nat) : ∀ (k i : Nat), i + d = s.size → d < k → opt_Number.l0 k s ((num (s.data.toList.take i) : Nat) : Int) (s.size : Int) (i : Int) = some (((num s.data.toList : Nat) : Int), true) := by
  induction d with
  | zero =>
    intro k i hi hk
    obtain ⟨k, rfl⟩ : ∃ m, k = m + 1 := ⟨k - 1, by omega⟩
    simp only [opt_Number.l0]
    rw [if_neg (by omega), List.take_of_length_le (by rw [lenb]; omega)]
  | succ d ih =>
    intro k i hi hk
    obtain ⟨k, rfl⟩ : ∃ m, k = m + 1 := ⟨k - 1, by omega⟩
    have hlt : i < s.size := by omega
    have hm := num_small s i hlt h8
    have h256 := s[i].toNat_lt
    simp only [opt_Number.l0]
    rw [if_pos (by omega), if_pos (by omega), if_pos (by omega), bt_nat s i hlt]
    have e1 : IntKind.u64.wrap (((num (s.data.toList.take i) : Nat) : Int) * 256) = ((num (s.data.toList.take i) : Nat) : Int) * 256 := by rw [IntKind.wrap_u64]; omega
    have e2 : IntKind.u64.wrap ((s[i].toNat : Nat) : Int) = ((s[i].toNat : Nat) : Int) := by rw [IntKind.wrap_u64]; omega
    have e3 : wrap64 ((i : Int) + 1) = ((i + 1 : Nat) : Int) := by rw [wrap64_eq]; omega
    rw [e1, e2, e3, or_byte64 _ _ hm h256, ← num_snoc, ← takeb s i hlt]
    exact ih k (i + 1) (by omega) (by omega)
theorem onum_some (s : ByteArray) (k : Nat) (h1 : 1 ≤ s.size) (h8 : s.size ≤ 8) (hk : 10 ≤ k) : opt_Number.f k s = some (((num s.data.toList : Nat) : Int), true) := by
  obtain ⟨k, rfl⟩ : ∃ m, k = m + 1 := ⟨k - 1, by omega⟩
  unfold opt_Number.f
  refine (if_neg (by omega)).trans ?_
  rw [decide_eq_false (by omega)]
  simp only [opt_Number.j0, Bool.false_eq_true, if_false]
  exact onum_loop s h8 s.size k 0 (by omega) (by omega)
theorem onum_none (s : ByteArray) (k : Nat) (h : s.size < 1 ∨ 8 < s.size) (hk : 1 ≤ k) : opt_Number.f k s = some (0, false) := by
  obtain ⟨k, rfl⟩ : ∃ m, k = m + 1 := ⟨k - 1, by omega⟩
  unfold opt_Number.f
  by_cases h1 : s.size < 1
  · refine (if_pos (by omega)).trans ?_
    simp only [opt_Number.j0, if_true]
  · refine (if_neg (by omega)).trans ?_
    rw [decide_eq_true (by omega)]
    simp only [opt_Number.j0, if_true]
theorem num_take (s : ByteArray) (i : Nat) (h : i < s.size) (h8 : s.size ≤ 8) : num (s.data.toList.take i) < 72057594037927936 := by
  refine Nat.lt_of_lt_of_le (num_lt _) (Nat.le_trans (pow_256 _ 7 ?_) (by decide))
  rw [List.length_take, lenb]; omega
theorem rnum_loop (s : ByteArray) (h8 : s.size ≤ 8) (d : Nat) : ∀ (k i : Nat), i + d = s.size → d < k → muleteerref1_Number.l0 k s ((num (s.data.toList.take i) : Nat) : Int) (i : Int) = some ((num s.data.toList : Nat) : Int) := by
  induction d with
  | zero =>
    intro k i hi hk
    obtain ⟨k, rfl⟩ : ∃ m, k = m + 1 := ⟨k - 1, by omega⟩
    simp only [muleteerref1_Number.l0]
    rw [if_neg (by omega), List.take_of_length_le (by rw [lenb]; omega)]
  | succ d ih =>
    intro k i hi hk
    obtain ⟨k, rfl⟩ : ∃ m, k = m + 1 := ⟨k - 1, by omega⟩
    have hlt : i < s.size := by omega
    have hm := num_take s i hlt h8
    have h256 := s[i].toNat_lt
    simp only [muleteerref1_Number.l0]
    rw [if_pos (by omega), if_pos (by omega), bt_nat s i hlt]
    have e1 : IntKind.u64.wrap (IntKind.u64.wrap (((num (s.data.toList.take i) : Nat) : Int) * 256) + IntKind.u64.wrap ((s[i].toNat : Nat) : Int)) = ((num (s.data.toList.take i) * 256 + s[i].toNat : Nat) : Int) := by rw [IntKind.wrap_u64, IntKind.wrap_u64, IntKind.wrap_u64]; omega
    have e3 : wrap64 ((i : Int) + 1) = ((i + 1 : Nat) : Int) := by rw [wrap64_eq]; omega
    rw [e1, e3, ← num_snoc, ← takeb s i hlt]
    exact ih k (i + 1) (by omega) (by omega)
theorem rnum_some (s : ByteArray) (k : Nat) (h8 : s.size ≤ 8) (hk : 10 ≤ k) : muleteerref1_Number.f k s = some ((num s.data.toList : Nat) : Int) := by
  unfold muleteerref1_Number.f
  exact rnum_loop s h8 s.size k 0 (by omega) (by omega)
/-- a number's lowest k bytes, the highest first. -/
def be (n : Nat) : Nat → List Int
  | 0 => []
  | k + 1 => be (n / 256) k ++ [((n % 256 : Nat) : Int)]
theorem be_len (k : Nat) : ∀ n, (be n k).length = k := by
  induction k with
  | zero => intro n; rfl
  | succ k ih => intro n; simp [be, ih]
theorem byte_nat (n : Nat) : (UInt8.ofNat (n % 256)).toNat = n % 256 := by
  rw [UInt8.toNat_ofNat']; omega
theorem be_num (k : Nat) : ∀ n, num ((be n k).map fun x => UInt8.ofNat x.toNat) = n % 256 ^ k := by
  induction k with
  | zero => intro n; simp [be, num, Nat.mod_one]
  | succ k ih =>
    intro n
    simp only [be, List.map_append, List.map_cons, List.map_nil, num_snoc, ih, Int.toNat_natCast, byte_nat]
    rw [Nat.pow_succ, Nat.mul_comm (256 ^ k) 256, Nat.mod_mul]
    omega
theorem strOfNums_append (a b : List Int) : strOfNums (a ++ b) = strOfNums a ++ strOfNums b :=
  ByteArray.ext (by rw [ByteArray.data_append]; simp [strOfNums])
theorem rbytes_loop (k : Nat) : ∀ (f n : Nat) (s : ByteArray), k < f → n < 18446744073709551616 → s.size + k ≤ 1000000 → muleteerref1_Bytes.l0 f n k s = some (strOfNums (be n k) ++ s) := by
  induction k with
  | zero =>
    intro f n s hf _ _
    obtain ⟨f, rfl⟩ : ∃ m, f = m + 1 := ⟨f - 1, by omega⟩
    simp only [muleteerref1_Bytes.l0]
    rw [if_neg (by omega)]
    exact congrArg some ByteArray.empty_append.symm
  | succ k ih =>
    intro f n s hf hn hk
    obtain ⟨f, rfl⟩ : ∃ m, f = m + 1 := ⟨f - 1, by omega⟩
    simp only [muleteerref1_Bytes.l0]
    rw [if_pos (by omega)]
    have e1 : Int.tmod (n : Int) 256 % 256 = ((n % 256 : Nat) : Int) := by rw [Int.tmod_eq_emod_of_nonneg (by omega)]; omega
    have e2 : IntKind.u64.wrap (Int.tdiv (n : Int) 256) = ((n / 256 : Nat) : Int) := by rw [Int.tdiv_eq_ediv_of_nonneg (by omega), IntKind.wrap_u64]; omega
    have e3 : wrap64 (((k + 1 : Nat) : Int) - 1) = (k : Int) := by rw [wrap64_eq]; omega
    refine obind rfl ?_
    rw [e1, e2, e3]
    have hz : (strOfNums [((n % 256 : Nat) : Int)]).size = 1 := by rw [strOfNums_size]; rfl
    rw [if_pos (by rw [hz]; omega), ih f (n / 256) _ (by omega) (by omega) (by rw [ByteArray.size_append, hz]; omega)]
    rw [be, strOfNums_append, ByteArray.append_assoc]
theorem rbytes_some (f n k : Nat) (hf : k < f) (hn : n < 18446744073709551616) (hk : k ≤ 100000) : muleteerref1_Bytes.f f n k = some (strOfNums (be n k)) := by
  unfold muleteerref1_Bytes.f
  rw [rbytes_loop k f n _ hf hn (by show 0 + k ≤ _; omega)]
  congr 1
  exact ByteArray.append_empty
theorem obytes_loop (n : Nat) (hn : n < 18446744073709551616) (k : Nat) (hk8 : k ≤ 8) (i : Nat) : ∀ (f : Nat), i ≤ k → i < f →
    opt_Bytes.l0 f n (be (n / 256 ^ i) (k - i)) ((i : Int) - 1) = some (strOfNums (be n k)) := by
  induction i with
  | zero =>
    intro f _ hf
    obtain ⟨f, rfl⟩ : ∃ m, f = m + 1 := ⟨f - 1, by omega⟩
    simp only [opt_Bytes.l0]
    rw [if_neg (by omega), Nat.pow_zero, Nat.div_one, Nat.sub_zero]
  | succ i ih =>
    intro f hi hf
    obtain ⟨f, rfl⟩ : ∃ m, f = m + 1 := ⟨f - 1, by omega⟩
    have e0 : (((i + 1 : Nat) : Int) - 1) = (i : Int) := by omega
    have e1 : wrap64 (8 * (i : Int)) = ((8 * i : Nat) : Int) := by rw [wrap64_eq]; omega
    have e2 : wrap64 ((i : Int) - 1) = (i : Int) - 1 := by rw [wrap64_eq]; omega
    have e3 : shr .u64 (n : Int) ((8 * i : Nat) : Int) % 256 = ((n / 256 ^ i % 256 : Nat) : Int) := by
      unfold shr
      rw [Int.toNat_natCast, Nat.min_eq_left (show 8 * i ≤ IntKind.u64.bits from Nat.le_trans (show 8 * i ≤ 64 by omega) (by decide))]
      have : (2 : Int) ^ (8 * i) = ((256 ^ i : Nat) : Int) := by rw [show (256 : Nat) = 2 ^ 8 from by decide, ← Nat.pow_mul, Int.natCast_pow]; rfl
      rw [this]; rfl
    rw [e0]
    simp only [opt_Bytes.l0]
    rw [if_pos (by omega), e1, if_pos (by omega), e3, e2, if_pos (by rw [be_len]; omega)]
    have hb : be (n / 256 ^ (i + 1)) (k - (i + 1)) ++ [((n / 256 ^ i % 256 : Nat) : Int)] = be (n / 256 ^ i) (k - i) := by
      rw [show k - i = (k - (i + 1)) + 1 from by omega, be, Nat.pow_succ, Nat.div_div_eq_div_mul]
    rw [hb]
    exact ih f (by omega) (by omega)
theorem obytes_some (f n k : Nat) (hf : k + 1 < f) (hn : n < 18446744073709551616) (hk1 : 1 ≤ k) (hk : k ≤ 8) : opt_Bytes.f f n k = some (strOfNums (be n k)) := by
  obtain ⟨f, rfl⟩ : ∃ m, f = m + 1 := ⟨f - 1, by omega⟩
  unfold opt_Bytes.f
  refine (if_neg (by omega)).trans ?_
  rw [decide_eq_false (by omega)]
  simp only [opt_Bytes.j0, Bool.false_eq_true, if_false]
  have e : wrap64 ((k : Int) - 1) = (k : Int) - 1 := by rw [wrap64_eq]; omega
  have := obytes_loop n hn k hk k f (by omega) (by omega)
  rw [Nat.sub_self] at this
  rw [e]; exact this
theorem shl1 (i : Nat) (hi : i ≤ 63) : shl .u64 1 (i : Int) = ((2 ^ i : Nat) : Int) := by
  have hlt : 2 ^ i < 18446744073709551616 := by
    rw [show (18446744073709551616 : Nat) = 2 ^ 64 from by decide]; exact Nat.pow_lt_pow_right (by omega) (by omega)
  unfold shl
  rw [Int.toNat_natCast, Nat.min_eq_left (show i ≤ IntKind.u64.bits from Nat.le_trans hi (by decide)), IntKind.wrap_u64, Int.one_mul]
  have e : (2 : Int) ^ i = ((2 ^ i : Nat) : Int) := by rw [Int.natCast_pow]; rfl
  have h0 : (0 : Int) ≤ ((2 ^ i : Nat) : Int) := Int.natCast_nonneg _
  rw [e]; omega
theorem empty_toList : (⟨#[]⟩ : ByteArray).toList = [] := by rw [ByteArray.toList, ByteArray.toList.loop]; rfl
theorem onb2 (f n : Nat) (k : Int) (hf : 12 ≤ f) (hn : n < 18446744073709551616) (hk : -9223372036854775808 ≤ k ∧ k < 9223372036854775808) : muleteerlaw1_OptNumber.j1 (f + 2) n k false = some true := by
  simp only [muleteerlaw1_OptNumber.j1, Bool.false_eq_true, if_false]
  by_cases h1 : k < 1
  · have hb : opt_Bytes.f (f + 1) n k = some (⟨#[]⟩ : ByteArray) := by
      unfold opt_Bytes.f
      refine (if_pos h1).trans ?_
      simp only [opt_Bytes.j0, if_true]
    refine obind hb ((if_pos h1).trans ?_)
    simp only [muleteerlaw1_OptNumber.j2, if_true]; rw [empty_toList]; rfl
  by_cases h8 : k > 8
  · have hb : opt_Bytes.f (f + 1) n k = some (⟨#[]⟩ : ByteArray) := by
      unfold opt_Bytes.f
      refine (if_neg h1).trans ?_
      rw [decide_eq_true h8]
      simp only [opt_Bytes.j0, if_true]
    refine obind hb ((if_neg h1).trans ?_)
    rw [decide_eq_true h8]
    simp only [muleteerlaw1_OptNumber.j2, if_true]; rw [empty_toList]; rfl
  obtain ⟨m, rfl⟩ := Int.eq_ofNat_of_zero_le (show 0 ≤ k by omega)
  refine obind (obytes_some (f + 1) n m (by omega) hn (by omega) (by omega)) ((if_neg h1).trans ?_)
  rw [decide_eq_false h8]
  simp only [muleteerlaw1_OptNumber.j2, Bool.false_eq_true, if_false]
  have hz : (strOfNums (be n m)).size = m := by rw [strOfNums_size, be_len]
  refine obind (onum_some _ f (by omega) (by omega) (by omega)) ?_
  refine obind (rbytes_some f n m (by omega) hn (by omega)) ?_
  refine (if_pos rfl).trans ((if_pos rfl).trans ?_)
  rw [strOfNums_data, be_num]
  by_cases he : m = 8
  · subst he
    refine (if_pos rfl).trans (if_pos ?_)
    rw [Nat.mod_eq_of_lt (by rw [show (256 : Nat) ^ 8 = 18446744073709551616 from by decide]; exact hn)]
  · have e1 : wrap64 (8 * (m : Int)) = ((8 * m : Nat) : Int) := by rw [wrap64_eq]; omega
    have e2 : shl .u64 1 ((8 * m : Nat) : Int) = ((256 ^ m : Nat) : Int) := by
      rw [shl1 (8 * m) (by omega), Nat.pow_mul]
    have hp : 0 < 256 ^ m := Nat.pow_pos (by omega)
    refine (if_neg (by omega)).trans ((if_pos (by omega)).trans ?_)
    rw [e1, e2]
    refine (if_pos (by omega)).trans ((if_neg (by omega)).trans ?_)
    rw [Int.tmod_eq_emod_of_nonneg (by omega), ← Int.natCast_emod, beq_self_eq_true]
theorem OptNumber : muleteerlaw1_OptNumber.Pure := by
  intro a0 a1 a2 w0 w1 hs
  have h0 := wfu64 w0; have h1 := wfi64 w1
  obtain ⟨n, rfl⟩ := Int.eq_ofNat_of_zero_le h0.1
  have hn : n < 18446744073709551616 := by omega
  refine ⟨20, ?_⟩
  unfold muleteerlaw1_OptNumber.f
  refine obind (x := muleteerlaw1_begun.f) rfl ((if_pos rfl).trans ?_)
  refine obind (show muleteerlaw1_Text.f a2 12 = _ from text_cut a2 12) ?_
  have hz : (a2.extract 0 (min a2.size 12)).size ≤ 12 := by rw [ByteArray.size_extract]; omega
  generalize a2.extract 0 (min a2.size 12) = s at *
  by_cases hm : 1 ≤ s.size ∧ s.size ≤ 8
  · refine obind (onum_some s 20 hm.1 hm.2 (by omega)) ((if_pos (by omega)).trans ?_)
    rw [decide_eq_true (by omega)]
    simp only [muleteerlaw1_OptNumber.j0, bne_self_eq_false, Bool.false_eq_true, if_false, if_true]
    refine obind (rnum_some s 19 hm.2 (by omega)) ((if_pos rfl).trans ?_)
    exact onb2 17 n a1 (by omega) hn h1
  · refine obind (onum_none s 20 (by omega) (by omega)) ?_
    by_cases h : s.size < 1
    · refine (if_neg (by omega)).trans ?_
      simp only [muleteerlaw1_OptNumber.j0, bne_self_eq_false, Bool.false_eq_true, if_false]
      exact onb2 17 n a1 (by omega) hn h1
    · refine (if_pos (by omega)).trans ?_
      rw [decide_eq_false (by omega)]
      simp only [muleteerlaw1_OptNumber.j0, bne_self_eq_false, Bool.false_eq_true, if_false]
      exact onb2 17 n a1 (by omega) hn h1
end Go.Proofs.YtmdimebifngekaaGreatDoor.Pure
