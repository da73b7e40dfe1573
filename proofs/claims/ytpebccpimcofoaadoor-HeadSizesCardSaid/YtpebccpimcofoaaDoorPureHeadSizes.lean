/- HeadSizes' plain law: each type with long and short numbers: how many bytes, where what stands. -/
import Derived.Test.YtpebccpimcofoaaDoorPHeadSizesx2
import Derived.Test.YtpebccpimcofoaaDoorPureKit
namespace Go.Proofs.YtpebccpimcofoaaDoor.Pure
set_option linter.unusedVariables false
open Go.RowKit Go.Proofs.YtpebccpimcofoaaDoor.PHeadSizes Go.Proofs.YtpebccpimcofoaaDoorW.PrintWords Go.Proofs.YtpebccpimcofoaaDoorW.PrintLast Go.Proofs.YtpebccpimcofoaaDoorW.PrintMore

theorem obind {α β : Type} {x : Option α} {a : α} {f : α → Option β} {r : Option β} (h : x = some a) (k : f a = r) : x.bind f = r := by subst h; exact k
theorem bt_nat (s : ByteArray) (i : Nat) (h : i < s.size) : bt s (i : Int) = (((s[i]).toNat : Nat) : Int) := by
  rw [← bt_at s (i : Int) (by rw [Int.toNat_natCast]; exact h)]; rfl
theorem takeb (s : ByteArray) (k : Nat) (h : k < s.size) : s.data.toList.take (k + 1) = s.data.toList.take k ++ [s[k]] := by
  rw [List.take_succ_eq_append_getElem (by rw [Array.length_toList]; exact h)]; rfl
theorem lenb (s : ByteArray) : s.data.toList.length = s.size := by rw [Array.length_toList]; rfl
theorem num_take (s : ByteArray) (i : Nat) (h : i < s.size) (h8 : s.size ≤ 8) : num (s.data.toList.take i) < 72057594037927936 := by
  refine Nat.lt_of_lt_of_le (num_lt _) (Nat.le_trans (pow_256 _ 7 ?_) (by decide))
  rw [List.length_take, lenb]; omega
theorem rnum_loop (s : ByteArray) (h8 : s.size ≤ 8) (d : Nat) : ∀ (k i : Nat), i + d = s.size → d < k → muleteerref1_Number.l0 k s ((num (s.data.toList.take i) : Nat) : Int) (i : Int) = some ((num s.data.toList : Nat) : Int) := by
  induction d with
  | zero =>
    intro k i hi hk
    obtain ⟨k, rfl⟩ : ∃ m, k = m + 1 := ⟨k - 1, by omega⟩
    simp only [muleteerref1_Number.l0]
    rw [if_neg (by omega), List.take_of_length_le (by rw [lenb]; omega)]
  | succ d ih =>
    intro k i hi hk
    obtain ⟨k, rfl⟩ : ∃ m, k = m + 1 := ⟨k - 1, by omega⟩
    have hlt : i < s.size := by omega
    have hm := num_take s i hlt h8
    have h256 := s[i].toNat_lt
    simp only [muleteerref1_Number.l0]
    rw [if_pos (by omega), if_pos (by omega), bt_nat s i hlt]
    have e1 : IntKind.u64.wrap (IntKind.u64.wrap (((num (s.data.toList.take i) : Nat) : Int) * 256) + IntKind.u64.wrap ((s[i].toNat : Nat) : Int)) = ((num (s.data.toList.take i) * 256 + s[i].toNat : Nat) : Int) := by rw [IntKind.wrap_u64, IntKind.wrap_u64, IntKind.wrap_u64]; omega
    have e3 : wrap64 ((i : Int) + 1) = ((i + 1 : Nat) : Int) := by rw [wrap64_eq]; omega
    rw [e1, e3, ← num_snoc, ← takeb s i hlt]
    exact ih k (i + 1) (by omega) (by omega)
theorem rnum_some (s : ByteArray) (k : Nat) (h8 : s.size ≤ 8) (hk : 10 ≤ k) : muleteerref1_Number.f k s = some ((num s.data.toList : Nat) : Int) := by
  unfold muleteerref1_Number.f
  exact rnum_loop s h8 s.size k 0 (by omega) (by omega)
def mkB (l : List UInt8) : ByteArray := ⟨l.toArray⟩
theorem mkB_data (l : List UInt8) : (mkB l).data.toList = l := rfl
theorem mkB_self (s : ByteArray) : mkB s.data.toList = s := ByteArray.ext (by unfold mkB; rw [Array.toArray_toList])
theorem ext_list (s : ByteArray) (a b : Nat) : (s.extract a b).data.toList = (s.data.toList.drop a).take (b - a) := by
  rw [ByteArray.data_extract, Array.toList_extract, List.extract_eq_take_drop]
theorem ext_mkB (s : ByteArray) (a b : Nat) : s.extract a b = mkB ((s.data.toList.drop a).take (b - a)) := by
  rw [← mkB_self (s.extract a b), ext_list]
theorem ext_drop (s : ByteArray) (a : Nat) : (s.extract a s.size).data.toList = s.data.toList.drop a := by
  rw [ext_list, List.take_of_length_le]
  rw [List.length_drop, Array.length_toList]; exact Nat.le_refl _
theorem len_size (s : ByteArray) : s.data.toList.length = s.size := by rw [Array.length_toList]; rfl
theorem bt_drop (s : ByteArray) (i : Nat) (t : UInt8) (r : List UInt8) (h : s.data.toList.drop i = t :: r) : bt s (i : Int) = (t.toNat : Int) := by
  have hlt : i < s.data.toList.length := by
    rcases Nat.lt_or_ge i s.data.toList.length with h' | h'
    · exact h'
    · rw [List.drop_eq_nil_of_le h'] at h; cases h
  have hlt' : i < s.size := by rw [← len_size]; exact hlt
  rw [List.drop_eq_getElem_cons hlt] at h
  rw [← bt_at s (i : Int) (by rw [Int.toNat_natCast]; exact hlt')]
  have e : s[i] = t := (List.cons.inj h).1
  show ((s[(i : Int).toNat]'_).toNat : Int) = _
  simp only [Int.toNat_natCast]
  rw [e]
theorem byte8 (h : Hd) (ht : 0 ≤ h.typ ∧ h.typ ≤ 9) : byteAt (hdBytes h) 8 = h.typ.toNat * 2 + (if h.x then 1 else 0) := by
  unfold hdBytes byteAt hb1 hb2
  rw [strOfNums_data]
  obtain ⟨src, dst, off, cc, cs, sum, typ, x, seq, ack, serv, code, i0, i1, i2⟩ := h
  dsimp only at ht ⊢
  simp only [Go.Proofs.YtpebccpimcofoaaDoor.be, List.cons_append, List.nil_append, List.append_assoc, List.map_cons]
  cases x
  · show (UInt8.ofNat ((typ.toNat * 2 : Nat) : Int).toNat).toNat = typ.toNat * 2 + 0
    rw [Int.toNat_natCast, UInt8.toNat_ofNat']; omega
  · show (UInt8.ofNat ((typ.toNat * 2 + 1 : Nat) : Int).toNat).toNat = typ.toNat * 2 + 1
    rw [Int.toNat_natCast, UInt8.toNat_ofNat']; omega
theorem head_len (h : Hd) (hm : mayB h = true) : ((hdBytes h).size : Int) = sizeB h.typ h.x ∧ 12 ≤ (hdBytes h).size := by
  have hb := may_bounds hm
  obtain ⟨z, hz, _⟩ := size_four h.typ h.x
  have hne : sizeB h.typ h.x ≠ 0 := by
    intro h0
    unfold mayB at hm
    rw [h0] at hm
    simp at hm
  have h2 := hb_len h.src.toNat h.dst.toNat h.off.toNat h.cc.toNat h.cs.toNat h.sum.toNat h.typ.toNat h.x h.seq.toNat h.ack.toNat h.serv.toNat h.code.toNat h.i0.toNat h.i1.toNat h.i2.toNat z (by omega) (by rw [← hz]; congr 1; omega) (by omega)
  have e : (hdBytes h).size = 4 * z := h2
  rw [hz]
  refine ⟨by omega, ?_⟩
  have : 12 ≤ sizeB h.typ h.x := by
    unfold sizeB at hne ⊢
    split
    · rename_i hc; rw [if_pos hc] at hne; exact absurd rfl hne
    · cases h.x <;> simp <;> split <;> split <;> omega
  omega
theorem byteAt_ext (s : ByteArray) (m i : Nat) (h : i < m) : byteAt (s.extract 0 m) i = byteAt s i := by
  unfold byteAt
  rw [ext_list, List.drop_zero, Nat.sub_zero, List.getD_eq_getElem?_getD, List.getD_eq_getElem?_getD, List.getElem?_take_of_lt h]
/-- a head whose end is cut off. -/
theorem cut_short (h : Hd) (hm : mayB h = true) (m : Nat) (hlt : m < (hdBytes h).size) : getH ((hdBytes h).extract 0 m) = (hd0, 1) := by
  have hb := may_bounds hm
  obtain ⟨hl, h12⟩ := head_len h hm
  have hz : ((hdBytes h).extract 0 m).size = m := by rw [ByteArray.size_extract]; omega
  unfold getH
  rw [hz]
  by_cases c : m < 12
  · rw [if_pos c]
  rw [if_neg c]
  have h8 := byte8 h (by omega)
  have hT : getT ((hdBytes h).extract 0 m) = h.typ.toNat := by
    unfold getT; rw [byteAt_ext _ _ _ (by omega), h8]; split <;> omega
  have hX : getX ((hdBytes h).extract 0 m) = h.x := by
    unfold getX; rw [byteAt_ext _ _ _ (by omega), h8]
    cases h.x
    · rw [if_neg Bool.false_ne_true, beq_eq_false_iff_ne]; omega
    · rw [if_pos rfl, beq_iff_eq]; omega
  have ht : ((h.typ.toNat : Nat) : Int) = h.typ := by omega
  rw [hT, hX, ht]
  have hi : isB h.typ = true := by unfold isB; exact decide_eq_true (by omega)
  rw [hi, if_neg (by simp), if_neg (by omega), if_pos (by omega)]
theorem num_cons (c : UInt8) (l : List UInt8) : num (c :: l) = c.toNat * 256 ^ l.length + num l := by
  have gen : ∀ (l : List UInt8) (a : Nat), l.foldl (fun n b => n * 256 + b.toNat) a = a * 256 ^ l.length + num l := by
    intro l
    induction l with
    | nil => intro a; simp [num]
    | cons d l ih =>
      intro a
      have h0 := ih d.toNat
      have h1 := ih (a * 256 + d.toNat)
      have e : num (d :: l) = d.toNat * 256 ^ l.length + num l := by
        show (d :: l).foldl _ 0 = _
        rw [List.foldl_cons, Nat.zero_mul, Nat.zero_add]; exact h0
      rw [List.foldl_cons, h1, e, List.length_cons, Nat.pow_succ, Nat.add_mul, Nat.mul_assoc, Nat.mul_comm 256, Nat.add_assoc]
  show (c :: l).foldl _ 0 = _
  rw [List.foldl_cons, Nat.zero_mul, Nat.zero_add]; exact gen l c.toNat
abbrev asB (n : Int) : UInt8 := UInt8.ofNat n.toNat
theorem hbe_len (n k : Nat) : (Go.Proofs.YtpebccpimcofoaaDoor.be n k).length = k := Go.Proofs.YtpebccpimcofoaaDoor.be_len n k
theorem hbe_num (n : Nat) : ∀ k : Nat, num ((Go.Proofs.YtpebccpimcofoaaDoor.be n k).map asB) = n % 256 ^ k
  | 0 => by simp [Go.Proofs.YtpebccpimcofoaaDoor.be, num, Nat.mod_one]
  | k + 1 => by
    have e : ((n : Int) / 2 ^ (8 * k) % 256) = ((n / 256 ^ k % 256 : Nat) : Int) := by
      have : (2 : Int) ^ (8 * k) = ((256 ^ k : Nat) : Int) := by rw [show (256 : Nat) = 2 ^ 8 from by decide, ← Nat.pow_mul, Int.natCast_pow]; rfl
      rw [this]; rfl
    have hb : (UInt8.ofNat (n / 256 ^ k % 256)).toNat = n / 256 ^ k % 256 := by rw [UInt8.toNat_ofNat']; omega
    rw [Go.Proofs.YtpebccpimcofoaaDoor.be, List.map_cons, num_cons, List.length_map, hbe_len, hbe_num n k, e]
    show (UInt8.ofNat (((n / 256 ^ k % 256 : Nat) : Int)).toNat).toNat * _ + _ = _
    rw [Int.toNat_natCast, hb, Nat.mod_pow_succ, Nat.mul_comm, Nat.add_comm]
theorem bt_str (l : List Int) (i : Nat) (v : Int) (h : l[i]? = some v) (h0 : 0 ≤ v) (h1 : v ≤ 255) : bt (strOfNums l) (i : Int) = v := by
  have hl : i < l.length := (List.getElem?_eq_some_iff.1 h).1
  have hz : i < (strOfNums l).size := by rw [strOfNums_size]; exact hl
  have hd : (strOfNums l).data.toList.drop i = asB v :: (l.map asB).drop (i + 1) := by
    rw [strOfNums_data, List.drop_eq_getElem_cons (by rw [List.length_map]; exact hl)]
    congr 1
    rw [List.getElem_map]
    have := (List.getElem?_eq_some_iff.1 h).2
    rw [this]
  rw [bt_drop _ i _ _ hd]
  show ((UInt8.ofNat v.toNat).toNat : Int) = v
  rw [UInt8.toNat_ofNat']; omega
theorem sizes3 (k : Nat) (x : Bool) (s : ByteArray) (n : Nat) (a0 a1 a2 a3 a4 a5 a6 : Int) (a7 : Bool) (a9 a10 a11 a12 a13 a14 : Int)
    (hx : x = true → 16 ≤ s.size ∧ num (s.extract 10 16).data.toList = n ∧ bt s 9 = 0) (hn : x = false → 12 ≤ s.size ∧ num (s.extract 9 12).data.toList = n) (hk : 11 ≤ k) :
    muleteerlaw1_HeadSizes.j3 k x s false a0 a1 a2 a3 a4 a5 a6 a7 (n : Int) a9 a10 a11 a12 a13 a14 = some true := by
  obtain ⟨k, rfl⟩ : ∃ q, k = q + 1 := ⟨k - 1, by omega⟩
  simp only [muleteerlaw1_HeadSizes.j3, Bool.false_eq_true, if_false]
  cases x with
  | true =>
    obtain ⟨h1, h2, h3⟩ := hx rfl
    refine (if_pos rfl).trans ((if_pos (by omega)).trans ((if_pos (by omega)).trans ?_))
    refine obind (rnum_some _ k (by rw [ByteArray.size_extract]; omega) (by omega)) ?_
    rw [h2, h3]
    exact (if_pos rfl).trans ((if_pos (by omega)).trans rfl)
  | false =>
    obtain ⟨h1, h2⟩ := hn rfl
    refine (if_neg Bool.false_ne_true).trans ((if_pos (by omega)).trans ((if_pos (by omega)).trans ?_))
    refine obind (rnum_some _ k (by rw [ByteArray.size_extract]; omega) (by omega)) ?_
    rw [h2, beq_self_eq_true]
theorem sizes2 (k : Nat) (t : Int) (x : Bool) (n m : Nat) (ht : 0 ≤ t ∧ t ≤ 9) (hxs : x = false → shortB t = true) (hn : (n : Int) < mostB x) (hm : (m : Int) < mostB x) (ha : m = 0 ∨ ackB t = true) (hk : 12 ≤ k) :
    muleteerlaw1_HeadSizes.j2 k t x (sizeB t x) 258 772 70 0 0 0 t x n m 0 0 0 0 0 = some true := by
  obtain ⟨k, rfl⟩ : ∃ q, k = q + 1 := ⟨k - 1, by omega⟩
  obtain ⟨T, rfl⟩ := Int.eq_ofNat_of_zero_le ht.1
  have hok : okH ⟨258, 772, 70, 0, 0, 0, (T : Int), x, (n : Int), (m : Int), 0, 0, 0, 0, 0⟩ = true := by unfold okH; exact decide_eq_true (by dsimp only; omega)
  have hz := sizeB_le (T : Int) x
  have hne : sizeB (T : Int) x ≠ 0 := by
    have hi : isB (T : Int) = true := by unfold isB; exact decide_eq_true ht
    unfold sizeB
    rw [if_neg (by rw [hi]; rintro (h | ⟨h1, h2⟩); cases h; rw [hxs h1] at h2; cases h2)]
    cases x <;> simp <;> split <;> split <;> omega
  have hmay : mayB ⟨258, 772, 70, 0, 0, 0, (T : Int), x, (n : Int), (m : Int), 0, 0, 0, 0, 0⟩ = true := by
    unfold mayB inB numbersB infoB
    simp only [Bool.and_eq_true, Bool.or_eq_true, decide_eq_true_eq, beq_iff_eq, Bool.not_eq_true', beq_eq_false_iff_ne, ne_eq]
    refine ⟨hne, by omega, by omega, by omega, by omega, by omega, by omega, by omega, .inl trivial, by omega, .inr ⟨trivial, trivial, trivial, trivial⟩, hn, hm, ?_⟩
    rcases ha with ha | ha
    · left; omega
    · right; exact ha
  have hp : head_Put.f 258 772 70 0 0 0 (T : Int) x (n : Int) (m : Int) 0 0 0 0 0 = some (hdBytes ⟨258, 772, 70, 0, 0, 0, (T : Int), x, (n : Int), (m : Int), 0, 0, 0, 0, 0⟩) := by
    unfold head_Put.f; rw [if_pos hok]; unfold putH; rw [if_pos hmay]
  obtain ⟨hl, h12⟩ := head_len _ hmay
  dsimp only at hl
  have hb : hdBytes ⟨258, 772, 70, 0, 0, 0, (T : Int), x, (n : Int), (m : Int), 0, 0, 0, 0, 0⟩ = strOfNums ([1, 2, 3, 4, 70, 0, 0, 0] ++ (hb2 T x n ++ (hb3 T x m ++ hb4 T 0 0 0 0 0))) := by
    unfold hdBytes
    dsimp only
    simp only [Int.toNat_natCast, List.append_assoc]
    rfl
  rw [hb] at hp hl h12
  generalize hrest : hb3 T x m ++ hb4 T 0 0 0 0 0 = rest at *
  simp only [muleteerlaw1_HeadSizes.j2]
  refine obind hp ?_
  have e8 : bt (strOfNums ([1, 2, 3, 4, 70, 0, 0, 0] ++ (hb2 T x n ++ rest))) 8 = ((T * 2 + (if x then 1 else 0) : Nat) : Int) := by
    refine bt_str _ 8 _ ?_ (by omega) (by split <;> omega)
    unfold hb2
    cases x <;> rfl
  have b0 : bt (strOfNums ([1, 2, 3, 4, 70, 0, 0, 0] ++ (hb2 T x n ++ rest))) 0 = 1 := bt_str _ 0 1 rfl (by omega) (by omega)
  have b1 : bt (strOfNums ([1, 2, 3, 4, 70, 0, 0, 0] ++ (hb2 T x n ++ rest))) 1 = 2 := bt_str _ 1 2 rfl (by omega) (by omega)
  have b2 : bt (strOfNums ([1, 2, 3, 4, 70, 0, 0, 0] ++ (hb2 T x n ++ rest))) 2 = 3 := bt_str _ 2 3 rfl (by omega) (by omega)
  have b3 : bt (strOfNums ([1, 2, 3, 4, 70, 0, 0, 0] ++ (hb2 T x n ++ rest))) 3 = 4 := bt_str _ 3 4 rfl (by omega) (by omega)
  have b4 : bt (strOfNums ([1, 2, 3, 4, 70, 0, 0, 0] ++ (hb2 T x n ++ rest))) 4 = 70 := bt_str _ 4 70 rfl (by omega) (by omega)
  have hX : x = true → 16 ≤ (strOfNums ([1, 2, 3, 4, 70, 0, 0, 0] ++ (hb2 T x n ++ rest))).size ∧ num ((strOfNums ([1, 2, 3, 4, 70, 0, 0, 0] ++ (hb2 T x n ++ rest))).extract 10 16).data.toList = n ∧ bt (strOfNums ([1, 2, 3, 4, 70, 0, 0, 0] ++ (hb2 T x n ++ rest))) 9 = 0 := by
    rintro rfl
    have hn' : n < 281474976710656 := by have : mostB true = 281474976710656 := rfl; omega
    have e7 : hb2 T true n = ((T * 2 + 1 : Nat) : Int) :: ((n : Int) / 2 ^ (8 * 6) % 256) :: Go.Proofs.YtpebccpimcofoaaDoor.be n 6 := rfl
    rw [e7]
    have hlen : (Go.Proofs.YtpebccpimcofoaaDoor.be n 6).length = 6 := hbe_len n 6
    refine ⟨by rw [strOfNums_size]; simp [hlen], ?_, bt_str _ 9 0 ?_ (by omega) (by omega)⟩
    · rw [ext_list, strOfNums_data]
      have : ((([1, 2, 3, 4, 70, 0, 0, 0] ++ (((T * 2 + 1 : Nat) : Int) :: ((n : Int) / 2 ^ (8 * 6) % 256) :: Go.Proofs.YtpebccpimcofoaaDoor.be n 6 ++ rest)).map fun q : Int => UInt8.ofNat q.toNat).drop 10).take 6 = (Go.Proofs.YtpebccpimcofoaaDoor.be n 6).map asB := by
        rw [← List.map_drop, ← List.map_take]
        congr 1
      show num ((((([1, 2, 3, 4, 70, 0, 0, 0] ++ (((T * 2 + 1 : Nat) : Int) :: ((n : Int) / 2 ^ (8 * 6) % 256) :: Go.Proofs.YtpebccpimcofoaaDoor.be n 6 ++ rest)).map fun q : Int => UInt8.ofNat q.toNat)).drop 10).take 6) = n
      rw [this, hbe_num]
      exact Nat.mod_eq_of_lt (by rw [show (256 : Nat) ^ 6 = 281474976710656 from by decide]; exact hn')
    · show some ((n : Int) / 2 ^ (8 * 6) % 256) = some 0
      congr 1
      have : (2 : Int) ^ (8 * 6) = 281474976710656 := by decide
      rw [this]; omega
  have hN : x = false → 12 ≤ (strOfNums ([1, 2, 3, 4, 70, 0, 0, 0] ++ (hb2 T x n ++ rest))).size ∧ num ((strOfNums ([1, 2, 3, 4, 70, 0, 0, 0] ++ (hb2 T x n ++ rest))).extract 9 12).data.toList = n := by
    rintro rfl
    have hn' : n < 16777216 := by have : mostB false = 16777216 := rfl; omega
    have e7 : hb2 T false n = ((T * 2 : Nat) : Int) :: Go.Proofs.YtpebccpimcofoaaDoor.be n 3 := rfl
    rw [e7]
    have hlen : (Go.Proofs.YtpebccpimcofoaaDoor.be n 3).length = 3 := hbe_len n 3
    refine ⟨by rw [strOfNums_size]; simp [hlen], ?_⟩
    rw [ext_list, strOfNums_data]
    have : ((([1, 2, 3, 4, 70, 0, 0, 0] ++ (((T * 2 : Nat) : Int) :: Go.Proofs.YtpebccpimcofoaaDoor.be n 3 ++ rest)).map fun q : Int => UInt8.ofNat q.toNat).drop 9).take 3 = (Go.Proofs.YtpebccpimcofoaaDoor.be n 3).map asB := by
      rw [← List.map_drop, ← List.map_take]
      congr 1
    show num (((([1, 2, 3, 4, 70, 0, 0, 0] ++ (((T * 2 : Nat) : Int) :: Go.Proofs.YtpebccpimcofoaaDoor.be n 3 ++ rest)).map fun q : Int => UInt8.ofNat q.toNat).drop 9).take 3) = n
    rw [this, hbe_num]
    exact Nat.mod_eq_of_lt (by rw [show (256 : Nat) ^ 3 = 16777216 from by decide]; exact hn')
  have fin := fun a0 a1 a2 a3 a4 a5 a6 a7 a9 a10 a11 a12 a13 a14 => sizes3 k x _ n a0 a1 a2 a3 a4 a5 a6 a7 a9 a10 a11 a12 a13 a14 hX hN (by omega)
  clear hX hN hrest hb hp
  generalize strOfNums ([1, 2, 3, 4, 70, 0, 0, 0] ++ (hb2 T x n ++ rest)) = s at *
  rw [b0, b1, b2, b3, b4, e8]
  refine (if_pos hl).trans ((if_pos (by omega)).trans ((if_pos rfl).trans ((if_pos (by omega)).trans ((if_pos rfl).trans ((if_pos (by omega)).trans ((if_pos rfl).trans ((if_pos (by omega)).trans ((if_pos rfl).trans ((if_pos (by omega)).trans ((if_pos rfl).trans ((if_pos (by omega)).trans ?_)))))))))))
  have e1 : Int.tdiv ((T * 2 + (if x then 1 else 0) : Nat) : Int) 2 % 256 = (T : Int) := by
    rw [Int.tdiv_eq_ediv_of_nonneg (by omega)]; split <;> omega
  have e2 : ((Int.tmod ((T * 2 + (if x then 1 else 0) : Nat) : Int) 2 == 1) != x) = false := by
    rw [Int.tmod_eq_emod_of_nonneg (by omega)]
    cases x
    · rw [if_neg Bool.false_ne_true, bne_eq_false_iff_eq, beq_eq_false_iff_ne]; omega
    · rw [if_pos rfl, bne_eq_false_iff_eq, beq_iff_eq]; omega
  rw [e1, e2]
  exact (if_pos rfl).trans (fin ..)
theorem sizes0 (t : Int) (x : Bool) (s a : Nat) (ht : 0 ≤ t ∧ t ≤ 9) (b : Bool) (hb : b = true ↔ x = false ∧ shortB t = false) : muleteerlaw1_HeadSizes.j0 20 t x s a (sizeB t x) b = some true := by
  simp only [muleteerlaw1_HeadSizes.j0]
  cases b with
  | true =>
    rw [if_pos rfl]
    have h := hb.1 rfl
    have : sizeB t x = 0 := by unfold sizeB; rw [if_pos (.inr h)]
    rw [this]; rfl
  | false =>
    rw [if_neg Bool.false_ne_true]
    have hxs : x = false → shortB t = true := fun h => by
      cases hq : shortB t with
      | true => rfl
      | false => exact absurd (hb.2 ⟨h, hq⟩) Bool.false_ne_true
    have j1 : ∀ most : Nat, 0 < most → (most : Int) = mostB x → muleteerlaw1_HeadSizes.j1 19 t x s a (sizeB t x) most = some true := by
      intro most h0 hm
      simp only [muleteerlaw1_HeadSizes.j1]
      rw [if_neg (by omega), Int.tmod_eq_emod_of_nonneg (by omega), Int.tmod_eq_emod_of_nonneg (by omega), ← Int.natCast_emod, ← Int.natCast_emod]
      refine obind (show head_HasAck.f t = some (ackB t) from rfl) ?_
      have q1 := Nat.mod_lt s h0
      have q2 := Nat.mod_lt a h0
      by_cases ha : ackB t = true
      · exact (if_pos ha).trans (sizes2 18 t x _ _ ht hxs (by omega) (by omega) (.inr ha) (by omega))
      · exact (if_neg ha).trans (sizes2 18 t x _ 0 ht hxs (by omega) (by omega) (.inl rfl) (by omega))
    cases x with
    | true => rw [if_pos rfl]; exact j1 281474976710656 (by omega) rfl
    | false => rw [if_neg Bool.false_ne_true]; exact j1 16777216 (by omega) rfl
theorem HeadSizes : muleteerlaw1_HeadSizes.Pure := by
  intro a0 x a2 a3 w0 w2 w3
  have h2 := wfu64 w2; have h3 := wfu64 w3
  obtain ⟨s, rfl⟩ := Int.eq_ofNat_of_zero_le h2.1
  obtain ⟨a, rfl⟩ := Int.eq_ofNat_of_zero_le h3.1
  have ht := tmod_pos a0 10 (by omega) (by omega)
  refine ⟨20, ?_⟩
  unfold muleteerlaw1_HeadSizes.f
  generalize Int.tmod (wrap64 (Int.tmod a0 10 + 10)) 10 = t at *
  have ht' : 0 ≤ t ∧ t ≤ 9 := by omega
  have hs : shortB t = true ↔ (t = 2 ∨ t = 3 ∨ t = 4) := by unfold shortB; rw [decide_eq_true_eq]
  refine obind (x := muleteerlaw1_begun.f) rfl ((if_pos rfl).trans ?_)
  refine obind (show head_Size.f t x = some (sizeB t x) from rfl) ?_
  have no : (x = true ∨ t = 2 ∨ t = 3) → (false = true ↔ x = false ∧ shortB t = false) := by
    intro h
    refine iff_of_false Bool.false_ne_true ?_
    rintro ⟨q1, q2⟩
    rcases h with h | h
    · rw [q1] at h; cases h
    · have := hs.2 (by omega); rw [this] at q2; cases q2
  cases x with
  | true => exact (if_pos rfl).trans (sizes0 t true s a ht' false (no (.inl rfl)))
  | false =>
    refine (if_neg Bool.false_ne_true).trans ?_
    by_cases c2 : t = 2
    · exact (if_pos c2).trans (sizes0 t false s a ht' false (no (by omega)))
    refine (if_neg c2).trans ?_
    by_cases c3 : t = 3
    · exact (if_pos c3).trans (sizes0 t false s a ht' false (no (by omega)))
    refine (if_neg c3).trans (sizes0 t false s a ht' _ ?_)
    rw [bne_iff_ne]
    constructor
    · intro h
      refine ⟨rfl, ?_⟩
      cases hq : shortB t with
      | true => have := hs.1 hq; omega
      | false => rfl
    · rintro ⟨_, h⟩ rfl
      have := hs.2 (by omega)
      rw [this] at h; cases h
end Go.Proofs.YtpebccpimcofoaaDoor.Pure
