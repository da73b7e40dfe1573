/- Contracts and laws that the claim's proof needs: PackBack, HeadBack, EqSame, Turn, Text, BitP, GetP, PureHeadLoose. Conditions: each theorem's own. -/
import Derived.Test.YtjlnbahanghhcaaGreatDoorZCardPktAllUptop0
import Derived.StillTailTactics
import Derived.BigQuiet
import Derived.Deep.DeepCutAuto
import Derived.Deep.CutBlock
import Derived.IntWalk
import Derived.Test.YtjlnbahanghhcaaGreatDoorBaseA
import Derived.Laws.BytesArg

/- A packet that was written, read: in plain data. -/
namespace Go.Proofs.YtjlnbahanghhcaaGreatDoor.PkB
set_option linter.unusedVariables false
open Go.RowKit Go.Proofs.YtjlnbahanghhcaaGreatDoor.PoptGet Go.Proofs.YtjlnbahanghhcaaGreatDoor.PkF Go.Proofs.YtjlnbahanghhcaaGreatDoorW.PrintWords Go.Proofs.YtjlnbahanghhcaaGreatDoorW.PrintLast Go.Proofs.YtjlnbahanghhcaaGreatDoorW.PrintMore
def ofS (o : S50) : Op := ⟨o.f0, o.f1⟩

theorem obind {α β : Type} {x : Option α} {a : α} {f : α → Option β} {r : Option β} (h : x = some a) (k : f a = r) : x.bind f = r := by subst h; exact k
def mkB (l : List UInt8) : ByteArray := ⟨l.toArray⟩
theorem mkB_data (l : List UInt8) : (mkB l).data.toList = l := rfl
theorem mkB_self (s : ByteArray) : mkB s.data.toList = s := ByteArray.ext (by unfold mkB; rw [Array.toArray_toList])
theorem ext_list (s : ByteArray) (a b : Nat) : (s.extract a b).data.toList = (s.data.toList.drop a).take (b - a) := by
  rw [ByteArray.data_extract, Array.toList_extract, List.extract_eq_take_drop]
theorem ext_mkB (s : ByteArray) (a b : Nat) : s.extract a b = mkB ((s.data.toList.drop a).take (b - a)) := by
  rw [← mkB_self (s.extract a b), ext_list]
theorem ext_drop (s : ByteArray) (a : Nat) : (s.extract a s.size).data.toList = s.data.toList.drop a := by
  rw [ext_list, List.take_of_length_le]
  rw [List.length_drop, Array.length_toList]; exact Nat.le_refl _
theorem len_size (s : ByteArray) : s.data.toList.length = s.size := by rw [Array.length_toList]; rfl
theorem bt_drop (s : ByteArray) (i : Nat) (t : UInt8) (r : List UInt8) (h : s.data.toList.drop i = t :: r) : bt s (i : Int) = (t.toNat : Int) := by
  have hlt : i < s.data.toList.length := by
    rcases Nat.lt_or_ge i s.data.toList.length with h' | h'
    · exact h'
    · rw [List.drop_eq_nil_of_le h'] at h; cases h
  have hlt' : i < s.size := by rw [← len_size]; exact hlt
  rw [List.drop_eq_getElem_cons hlt] at h
  rw [← bt_at s (i : Int) (by rw [Int.toNat_natCast]; exact hlt')]
  have e : s[i] = t := (List.cons.inj h).1
  show ((s[(i : Int).toNat]'_).toNat : Int) = _
  simp only [Int.toNat_natCast]
  rw [e]
theorem head_len (h : Hd) (hm : mayB h = true) : ((hdBytes h).size : Int) = sizeB h.typ h.x ∧ 12 ≤ (hdBytes h).size := by
  have hb := may_bounds hm
  obtain ⟨z, hz, _⟩ := size_four h.typ h.x
  have hne : sizeB h.typ h.x ≠ 0 := by
    intro h0
    unfold mayB at hm
    rw [h0] at hm
    simp at hm
  have h2 := hb_len h.src.toNat h.dst.toNat h.off.toNat h.cc.toNat h.cs.toNat h.sum.toNat h.typ.toNat h.x h.seq.toNat h.ack.toNat h.serv.toNat h.code.toNat h.i0.toNat h.i1.toNat h.i2.toNat z (by omega) (by rw [← hz]; congr 1; omega) (by omega)
  have e : (hdBytes h).size = 4 * z := h2
  rw [hz]
  refine ⟨by omega, ?_⟩
  have : 12 ≤ sizeB h.typ h.x := by
    unfold sizeB at hne ⊢
    split
    · rename_i hc; rw [if_pos hc] at hne; exact absurd rfl hne
    · cases h.x <;> simp <;> split <;> split <;> omega
  omega
theorem num_cons (c : UInt8) (l : List UInt8) : num (c :: l) = c.toNat * 256 ^ l.length + num l := by
  have gen : ∀ (l : List UInt8) (a : Nat), l.foldl (fun n b => n * 256 + b.toNat) a = a * 256 ^ l.length + num l := by
    intro l
    induction l with
    | nil => intro a; simp [num]
    | cons d l ih =>
      intro a
      have h0 := ih d.toNat
      have h1 := ih (a * 256 + d.toNat)
      have e : num (d :: l) = d.toNat * 256 ^ l.length + num l := by
        show (d :: l).foldl _ 0 = _
        rw [List.foldl_cons, Nat.zero_mul, Nat.zero_add]; exact h0
      rw [List.foldl_cons, h1, e, List.length_cons, Nat.pow_succ, Nat.add_mul, Nat.mul_assoc, Nat.mul_comm 256, Nat.add_assoc]
  show (c :: l).foldl _ 0 = _
  rw [List.foldl_cons, Nat.zero_mul, Nat.zero_add]; exact gen l c.toNat
abbrev asB (n : Int) : UInt8 := UInt8.ofNat n.toNat
theorem hbe_len (n k : Nat) : (Go.Proofs.YtjlnbahanghhcaaGreatDoor.be n k).length = k := Go.Proofs.YtjlnbahanghhcaaGreatDoor.be_len n k
theorem hbe_num (n : Nat) : ∀ k : Nat, num ((Go.Proofs.YtjlnbahanghhcaaGreatDoor.be n k).map asB) = n % 256 ^ k
  | 0 => by simp [Go.Proofs.YtjlnbahanghhcaaGreatDoor.be, num, Nat.mod_one]
  | k + 1 => by
    have e : ((n : Int) / 2 ^ (8 * k) % 256) = ((n / 256 ^ k % 256 : Nat) : Int) := by
      have : (2 : Int) ^ (8 * k) = ((256 ^ k : Nat) : Int) := by rw [show (256 : Nat) = 2 ^ 8 from by decide, ← Nat.pow_mul, Int.natCast_pow]; rfl
      rw [this]; rfl
    have hb : (UInt8.ofNat (n / 256 ^ k % 256)).toNat = n / 256 ^ k % 256 := by rw [UInt8.toNat_ofNat']; omega
    rw [Go.Proofs.YtjlnbahanghhcaaGreatDoor.be, List.map_cons, num_cons, List.length_map, hbe_len, hbe_num n k, e]
    show (UInt8.ofNat (((n / 256 ^ k % 256 : Nat) : Int)).toNat).toNat * _ + _ = _
    rw [Int.toNat_natCast, hb, Nat.mod_pow_succ, Nat.mul_comm, Nat.add_comm]
theorem asB_val (n : Nat) (h : n ≤ 255) : (asB (n : Int)).toNat = n := by
  show (UInt8.ofNat (n : Int).toNat).toNat = n
  rw [Int.toNat_natCast, UInt8.toNat_ofNat']; omega
theorem numAt_eq (b : ByteArray) (i j : Nat) : numAt b i j = num ((b.data.toList.drop i).take (j - i)) := by
  unfold numAt; rw [ext_list]
theorem pow2 : (256 : Nat) ^ 2 = 65536 ∧ (256 : Nat) ^ 3 = 16777216 ∧ (256 : Nat) ^ 4 = 4294967296 ∧ (256 : Nat) ^ 6 = 281474976710656 ∧ (256 : Nat) ^ 7 = 72057594037927936 := by decide
theorem v2 (n : Nat) (h : n ≤ 65535) : num ((Go.Proofs.YtjlnbahanghhcaaGreatDoor.be n 2).map asB) = n := by rw [hbe_num, pow2.1]; omega
theorem v3 (n : Nat) (h : n < 16777216) : num ((Go.Proofs.YtjlnbahanghhcaaGreatDoor.be n 3).map asB) = n := by rw [hbe_num, pow2.2.1]; omega
theorem v4 (n : Nat) (h : n < 4294967296) : num ((Go.Proofs.YtjlnbahanghhcaaGreatDoor.be n 4).map asB) = n := by rw [hbe_num, pow2.2.2.1]; omega
theorem v6 (n : Nat) (h : n < 281474976710656) : num ((Go.Proofs.YtjlnbahanghhcaaGreatDoor.be n 6).map asB) = n := by rw [hbe_num, pow2.2.2.2.1]; omega
theorem v7 (n : Nat) (h : n < 281474976710656) : num ((Go.Proofs.YtjlnbahanghhcaaGreatDoor.be n 7).map asB) % 281474976710656 = n := by rw [hbe_num, pow2.2.2.2.2]; omega
/-- bytes that begin as a head does: what is read of them. -/
theorem get_of (b : ByteArray) (src dst off cc cs sum T : Nat) (x : Bool) (seq ack serv code i0 i1 i2 : Nat) (rest : List UInt8)
    (hb : b.data.toList = (hb1 src dst off cc cs sum ++ hb2 T x seq ++ hb3 T x ack ++ hb4 T serv code i0 i1 i2).map asB ++ rest)
    (hm : mayB ⟨src, dst, off, cc, cs, sum, T, x, seq, ack, serv, code, i0, i1, i2⟩ = true) (hs : serv < 4294967296) (h0 : i0 ≤ 255) (h1 : i1 ≤ 255) (h2 : i2 ≤ 255) (hz : 4 * off ≤ b.size) :
    getH b = (⟨src, dst, off, cc, cs, sum, T, x, seq, ack, serv, code, i0, i1, i2⟩, 0) := by
  have hbd := may_bounds hm
  have hsz := len_size b
  dsimp only at hbd
  have hmn : (seq : Int) < mostB x ∧ (ack : Int) < mostB x ∧ (ack = 0 ∨ ackB (T : Int) = true) ∧ (serv = 0 ∨ servB (T : Int) = true) ∧ ((T : Int) = 7 ∨ code = 0 ∧ i0 = 0 ∧ i1 = 0 ∧ i2 = 0) ∧ sizeB (T : Int) x ≠ 0 := by
    have := hm
    unfold mayB numbersB infoB at this
    simp only [Bool.and_eq_true, Bool.or_eq_true, decide_eq_true_eq, beq_iff_eq, Bool.not_eq_true', beq_eq_false_iff_ne, ne_eq] at this
    obtain ⟨q1, _, _, _, _, _, _, _, q2, _, q3, q4, q5, q6⟩ := this
    refine ⟨q4, q5, ?_, ?_, ?_, q1⟩
    · rcases q6 with q | q
      · left; omega
      · right; exact q
    · rcases q2 with q | q
      · left; omega
      · right; exact q
    · rcases q3 with q | ⟨q, r1, r2, r3⟩
      · left; exact q
      · right; omega
  obtain ⟨m1, m2, m3, m4, m5, m6⟩ := hmn
  clear hm
  have hlen := congrArg List.length hb
  rw [hsz] at hlen
  have hT : T = 0 ∨ T = 1 ∨ T = 2 ∨ T = 3 ∨ T = 4 ∨ T = 5 ∨ T = 6 ∨ T = 7 ∨ T = 8 ∨ T = 9 := by omega
  have e4 : byteAt b 4 = off := by
    unfold byteAt; rw [hb]; exact asB_val off (by omega)
  have e5 : byteAt b 5 = cc * 16 + cs := by
    unfold byteAt; rw [hb]; exact asB_val (cc * 16 + cs) (by omega)
  have n0 : numAt b 0 2 = src := by rw [numAt_eq, hb]; exact v2 src (by omega)
  have n2 : numAt b 2 4 = dst := by rw [numAt_eq, hb]; exact v2 dst (by omega)
  have n6 : numAt b 6 8 = sum := by rw [numAt_eq, hb]; exact v2 sum (by omega)
  have e8 : byteAt b 8 = T * 2 + (if x then 1 else 0) := by
    unfold byteAt; rw [hb]
    cases x
    · exact asB_val (T * 2) (by omega)
    · exact asB_val (T * 2 + 1) (by omega)
  have gT : getT b = T := by unfold getT; rw [e8]; cases x <;> simp <;> omega
  have gX : getX b = x := by
    unfold getX; rw [e8]
    cases x
    · rw [if_neg Bool.false_ne_true, beq_eq_false_iff_ne]; omega
    · rw [if_pos rfl, beq_iff_eq]; omega
  have hseq : (if x = true then ((numAt b 10 16 : Nat) : Int) else ((numAt b 9 12 : Nat) : Int)) = (seq : Int) := by
    cases x
    · have : mostB false = 16777216 := rfl
      rw [if_neg Bool.false_ne_true, numAt_eq, hb]; exact congrArg Nat.cast (v3 seq (by omega))
    · have : mostB true = 281474976710656 := rfl
      rw [if_pos rfl, numAt_eq, hb]; exact congrArg Nat.cast (v6 seq (by omega))
  have hack : (if ackB (T : Int) = true then (if x = true then ((numAt b 17 24 : Nat) : Int) % 281474976710656 else ((numAt b 13 16 : Nat) : Int)) else 0) = (ack : Int) := by
    by_cases ha : ackB (T : Int) = true
    · rw [if_pos ha]
      have h3 : hb3 T x ack = if x then Go.Proofs.YtjlnbahanghhcaaGreatDoor.be ack 8 else Go.Proofs.YtjlnbahanghhcaaGreatDoor.be ack 4 := by unfold hb3; rw [if_pos ha]
      rw [h3] at hb
      cases x
      · have : mostB false = 16777216 := rfl
        rw [if_neg Bool.false_ne_true, numAt_eq, hb]; exact congrArg Nat.cast (v3 ack (by omega))
      · have : mostB true = 281474976710656 := rfl
        rw [if_pos rfl, numAt_eq, hb]; exact congrArg Nat.cast (v7 ack (by omega))
    · rw [if_neg ha]
      rcases m3 with m | m
      · omega
      · exact absurd m ha
  have hat : ∀ (k : Nat), k = moreAt T x → ∃ pre : List UInt8, pre.length = k ∧ b.data.toList = pre ++ ((hb4 T serv code i0 i1 i2).map asB ++ rest) := by
    intro k hk
    refine ⟨(hb1 src dst off cc cs sum ++ hb2 T x seq ++ hb3 T x ack).map asB, ?_, ?_⟩
    · rw [List.length_map, hk]
      unfold moreAt ackAt hb3 hb2 hb1
      cases hA : ackB (T : Int) <;> cases x <;> simp [hbe_len]
    · rw [hb, List.map_append, List.append_assoc]
  obtain ⟨pre, hpl, hpre⟩ := hat _ rfl
  have hserv : (if servB (T : Int) = true then ((numAt b (moreAt T x) (moreAt T x + 4) : Nat) : Int) else 0) = (serv : Int) := by
    by_cases hsv : servB (T : Int) = true
    · rw [if_pos hsv]
      have h4 : hb4 T serv code i0 i1 i2 = Go.Proofs.YtjlnbahanghhcaaGreatDoor.be serv 4 := by unfold hb4; rw [if_pos hsv]
      rw [numAt_eq, hpre, ← hpl, List.drop_left, h4]
      have : pre.length + 4 - pre.length = ((Go.Proofs.YtjlnbahanghhcaaGreatDoor.be serv 4).map asB).length := by rw [List.length_map, hbe_len]; omega
      rw [this, List.take_left]; exact congrArg Nat.cast (v4 serv hs)
    · rw [if_neg hsv]
      rcases m4 with m | m
      · omega
      · exact absurd m hsv
  have h7 : T = 7 → byteAt b (moreAt T x) = code ∧ byteAt b (moreAt T x + 1) = i0 ∧ byteAt b (moreAt T x + 2) = i1 ∧ byteAt b (moreAt T x + 3) = i2 := by
    rintro rfl
    have hg : ∀ (j : Nat), byteAt b (moreAt 7 x + j) = ((([(code : Int), (i0 : Int), (i1 : Int), (i2 : Int)]).map asB ++ rest).getD j 0).toNat := by
      intro j
      unfold byteAt
      rw [hpre, ← hpl, List.getD_eq_getElem?_getD, List.getElem?_append_right (by omega), List.getD_eq_getElem?_getD, show pre.length + j - pre.length = j from by omega]
      rfl
    refine ⟨(hg 0).trans (asB_val code (by omega)), (hg 1).trans (asB_val i0 h0), (hg 2).trans (asB_val i1 h1), (hg 3).trans (asB_val i2 h2)⟩
  have hsB := sizeB_le (T : Int) x
  obtain ⟨z, hz4, _⟩ := size_four (T : Int) x
  have hi : isB (T : Int) = true := by unfold isB; exact decide_eq_true (by omega)
  have h12 : 12 ≤ b.size := by rw [hlen]; unfold hb1 hb2; cases x <;> simp [hbe_len] <;> omega
  unfold getH
  rw [gT, gX, e4, hi, if_neg (by omega), if_neg (by simp), if_neg m6, if_neg (by omega), if_neg (by omega)]
  unfold getHd
  rw [n0, n2, n6, e4, e5, hseq, hack, hserv, show ((cc * 16 + cs : Nat) : Int) / 16 = (cc : Int) from by omega, show ((cc * 16 + cs : Nat) : Int) % 16 = (cs : Int) from by omega]
  by_cases h : T = 7
  · obtain ⟨q0, q1, q2, q3⟩ := h7 h
    rw [if_pos h, if_pos h, if_pos h, if_pos h, q0, q1, q2, q3]
  · obtain ⟨r0, r1, r2, r3⟩ : code = 0 ∧ i0 = 0 ∧ i1 = 0 ∧ i2 = 0 := by
      rcases m5 with m | m
      · exact absurd (by omega) h
      · exact m
    rw [if_neg h, if_neg h, if_neg h, if_neg h, r0, r1, r2, r3]; rfl
theorem fold_turn (n : Nat) : Sum.fold (n + (65535 - Sum.fold n)) = 65535 := by
  unfold Sum.fold
  by_cases h : n = 0
  · subst h; rfl
  · rw [if_neg h, if_neg (by omega)]; omega
theorem wt_be2 (s i : Nat) (h : s ≤ 65535) (hi : i % 2 = 0) : Sum.wt i ((Go.Proofs.YtjlnbahanghhcaaGreatDoor.be s 2).map asB) = s := by
  have e : (Go.Proofs.YtjlnbahanghhcaaGreatDoor.be s 2).map asB = [asB ((s / 256 : Nat) : Int), asB ((s % 256 : Nat) : Int)] := by
    show [asB ((s : Int) / 2 ^ (8 * 1) % 256), asB ((s : Int) / 2 ^ (8 * 0) % 256)] = _
    have p1 : (2 : Int) ^ (8 * 1) = 256 := by decide
    have p0 : (2 : Int) ^ (8 * 0) = 1 := by decide
    rw [p1, p0, show (s : Int) / 256 % 256 = ((s / 256 : Nat) : Int) from by omega, show (s : Int) / 1 % 256 = ((s % 256 : Nat) : Int) from by omega]
  rw [e]
  simp only [Sum.wt]
  rw [asB_val _ (by omega), asB_val _ (by omega), if_pos hi, if_neg (by omega)]
  omega
/-- a sum in its place: the whole sums to nought. -/
theorem sum_turn (A R : List UInt8) (hA : A.length = 6) (S : Nat) (hS : S = Sum.sum (A ++ ((Go.Proofs.YtjlnbahanghhcaaGreatDoor.be 0 2).map asB ++ R))) : Sum.sum (A ++ ((Go.Proofs.YtjlnbahanghhcaaGreatDoor.be S 2).map asB ++ R)) = 0 := by
  have hle : S ≤ 65535 := by rw [hS]; exact Sum.sum_le _
  have w : ∀ s : Nat, s ≤ 65535 → Sum.wt 0 (A ++ ((Go.Proofs.YtjlnbahanghhcaaGreatDoor.be s 2).map asB ++ R)) = Sum.wt 0 A + Sum.wt 8 R + s := by
    intro s hs
    rw [Sum.wt_append, Sum.wt_append, hA, wt_be2 s _ hs (by rfl), List.length_map, hbe_len]
    show Sum.wt 0 A + (s + Sum.wt 8 R) = _
    omega
  unfold Sum.sum at hS ⊢
  rw [w 0 (by omega)] at hS
  rw [w S hle, hS]
  have := fold_turn (Sum.wt 0 A + Sum.wt 8 R)
  rw [Nat.add_zero]
  rw [this]
abbrev SO := S50
/-- what bytes say of options; m: what came last must be known. -/
def par : Nat → List UInt8 → Bool → Option (List SO)
  | _, [], m => if m then none else some []
  | 0, _ :: _, _ => none
  | n + 1, t :: r, m =>
    if t.toNat = 0 then par n r m
    else if m = true ∧ t.toNat = 1 then none
    else if t.toNat < 32 then (par n r (decide (t.toNat = 1))).map (fun l => ⟨(t.toNat : Int), ⟨#[]⟩⟩ :: l)
    else match r with
      | [] => none
      | k :: r' => if k.toNat < 2 ∨ r'.length + 2 < k.toNat then none else (par n (r'.drop (k.toNat - 2)) false).map (fun l => ⟨(t.toNat : Int), mkB (r'.take (k.toNat - 2))⟩ :: l)
def parR (acc : List SO) : Option (List SO) → List SO × Int
  | none => ([], 7)
  | some l => (acc ++ l, 0)
theorem parR_map (acc : List SO) (o : SO) (x : Option (List SO)) : parR acc (x.map (fun l => o :: l)) = parR (acc ++ [o]) x := by
  cases x with
  | none => rfl
  | some l => simp [parR]
def oneR : List UInt8 → Int × ByteArray × Int
  | [] => (0, ⟨#[]⟩, 0)
  | t :: r => if t.toNat < 32 then ((t.toNat : Int), ⟨#[]⟩, 1) else match r with
    | [] => ((t.toNat : Int), ⟨#[]⟩, 0)
    | k :: r' => if k.toNat < 2 ∨ r'.length + 2 < k.toNat then ((t.toNat : Int), ⟨#[]⟩, 0) else ((t.toNat : Int), mkB (r'.take (k.toNat - 2)), (k.toNat : Int))
theorem wrap_byte (t : UInt8) : wrap64 (t.toNat : Int) = (t.toNat : Int) := by have := t.toNat_lt; rw [wrap64_eq]; omega
theorem one_some (s : ByteArray) (t : UInt8) (r : List UInt8) (h : s.data.toList = t :: r) : opt_one.f s = some (oneR (t :: r)) := by
  have hl : s.size = r.length + 1 := by rw [← len_size, h]; rfl
  have h0 : bt s 0 = (t.toNat : Int) := bt_drop s 0 t r h
  unfold opt_one.f
  simp only [oneR]
  rw [if_pos (by omega), h0, wrap_byte]
  by_cases h1 : t.toNat < 32
  · rw [if_pos (by omega), if_pos h1]
  · rw [if_neg (by omega), if_neg h1]
    cases r with
    | nil => rw [if_pos (by simp at hl; omega)]
    | cons k r' =>
      simp only [List.length_cons] at hl
      have hk : bt s 1 = (k.toNat : Int) := bt_drop s 1 k r' (by rw [h]; rfl)
      have hkt := k.toNat_lt
      rw [if_neg (by omega), if_pos (by omega), hk, wrap_byte]
      simp only
      by_cases h2 : k.toNat < 2
      · rw [if_pos (by omega), if_pos (.inl h2)]
      · rw [if_neg (by omega)]
        by_cases h3 : r'.length + 2 < k.toNat
        · rw [if_pos (by omega), if_pos (.inr h3)]
        · rw [if_neg (by omega), if_pos (by omega), if_pos (by omega), if_neg (by omega)]
          rw [ext_mkB, h, Int.toNat_natCast]; rfl
theorem oget_loop (n : Nat) : ∀ (s : ByteArray) (acc : List SO) (m : Bool) (k : Nat), s.data.toList.length ≤ n → 2 * n + 2 ≤ k → acc.length + n ≤ 1000000000 →
    opt_Get.l0 k s acc m = some (parR acc (par n s.data.toList m)) := by
  induction n with
  | zero =>
    intro s acc m k hs hk _
    obtain ⟨k, rfl⟩ : ∃ q, k = q + 1 := ⟨k - 1, by omega⟩
    have hl : s.data.toList = [] := List.eq_nil_of_length_eq_zero (by omega)
    have hz : s.size = 0 := by rw [← len_size, hl]; rfl
    simp only [opt_Get.l0]
    rw [if_neg (by omega), hl]
    cases m <;> simp [par, parR]
  | succ n ih =>
    intro s acc m k hs hk ha
    obtain ⟨k, rfl⟩ : ∃ q, k = q + 2 := ⟨k - 2, by omega⟩
    rcases hl : s.data.toList with _ | ⟨t, r⟩
    · have hz : s.size = 0 := by rw [← len_size, hl]; rfl
      simp only [opt_Get.l0]
      rw [if_neg (by omega)]
      cases m <;> simp [par, parR]
    · have hz : s.size = r.length + 1 := by rw [← len_size, hl]; rfl
      have hr : r.length ≤ n := by rw [hl] at hs; simpa using hs
      have ht := t.toNat_lt
      simp only [opt_Get.l0]
      rw [if_pos (by omega)]
      refine obind (one_some s t r hl) ?_
      -- what is behind the test
      have fin : ∀ (x : Int) (d : ByteArray) (j : Nat), 0 < j → j ≤ s.size → (x = (t.toNat : Int)) → ¬ (m = true ∧ t.toNat = 1) →
          opt_Get.j1 (k + 1) s acc m (j : Int) (if m = true then (x == 1) else false) x d = some (parR acc (if t.toNat = 0 then par n (s.data.toList.drop j) m else (par n (s.data.toList.drop j) (decide (t.toNat = 1))).map (fun l => (⟨x, d⟩ : SO) :: l))) := by
        intro x d j hj0 hj hx hm
        have hb : (if m = true then (x == 1) else false) = false := by
          cases m with
          | false => rfl
          | true => rw [if_pos rfl, beq_eq_false_iff_ne]; intro h1; exact hm ⟨rfl, by omega⟩
        rw [hb]
        have hdl : (s.extract j s.size).data.toList.length ≤ n := by rw [ext_drop, List.length_drop, len_size]; omega
        simp only [opt_Get.j1, Bool.false_eq_true, if_false]
        rw [if_pos (by omega), if_pos (by omega), Int.toNat_natCast]
        by_cases h0 : t.toNat = 0
        · rw [if_pos (by omega), if_pos h0, ih (s.extract j s.size) acc m k hdl (by omega) (by omega), ext_drop]
        · rw [if_neg (by omega), if_neg h0, if_pos (by omega), ih (s.extract j s.size) _ (x == 1) k hdl (by omega) (by simp; omega), ext_drop, parR_map]
          have : (x == 1) = decide (t.toNat = 1) := by rw [Bool.eq_iff_iff, beq_iff_eq, decide_eq_true_eq]; omega
          rw [this]
      have bad : ∀ (x7 x : Int) (d : ByteArray), opt_Get.j1 (k + 1) s acc m x7 true x d = some ([], 7) := fun x7 x d => by simp only [opt_Get.j1, if_true]
      have join : ∀ (x7 x : Int) (d : ByteArray) (q : List SO × Int), opt_Get.j1 (k + 1) s acc m x7 (if m = true then (x == 1) else false) x d = some q →
          (if m = true then opt_Get.j1 (k + 1) s acc m x7 (x == 1) x d else opt_Get.j1 (k + 1) s acc m x7 false x d) = some q := by
        intro x7 x d q hq
        cases m with
        | false => rw [if_neg Bool.false_ne_true]; rw [if_neg Bool.false_ne_true] at hq; exact hq
        | true => rw [if_pos rfl]; rw [if_pos rfl] at hq; exact hq
      simp only [par, oneR]
      by_cases h32 : t.toNat < 32
      · simp only [if_pos h32]
        refine (if_neg (by omega)).trans (join _ _ _ _ ?_)
        by_cases hm : m = true ∧ t.toNat = 1
        · have hx : ((t.toNat : Int) == 1) = true := by rw [beq_iff_eq]; omega
          rw [if_pos hm.1, hx, bad, if_neg (by omega), if_pos hm]; rfl
        · have := fin (t.toNat : Int) ⟨#[]⟩ 1 (by omega) (by omega) rfl hm
          rw [hl] at this
          rw [if_neg hm]
          exact this
      · simp only [if_neg h32]
        rw [if_neg (show ¬ t.toNat = 0 by omega), if_neg (show ¬ (m = true ∧ t.toNat = 1) by omega)]
        rcases r with _ | ⟨q, r'⟩
        · exact (if_pos rfl).trans (bad _ _ _)
        · simp only
          simp only [List.length_cons] at hz hr
          have hq := q.toNat_lt
          by_cases h2 : q.toNat < 2 ∨ r'.length + 2 < q.toNat
          · simp only [if_pos h2]
            rw [if_pos trivial]; exact bad _ _ _
          · simp only [if_neg h2]
            refine (if_neg (by omega)).trans (join _ _ _ _ ?_)
            rw [fin (t.toNat : Int) _ q.toNat (by omega) (by omega) rfl (by omega), if_neg (show ¬ t.toNat = 0 by omega), hl]
            have hd : (t :: q :: r').drop q.toNat = r'.drop (q.toNat - 2) := by
              obtain ⟨j, hj⟩ : ∃ j, q.toNat = j + 2 := ⟨q.toNat - 2, by omega⟩
              rw [hj]; rfl
            have hd1 : decide (t.toNat = 1) = false := decide_eq_false (by omega)
            rw [hd, hd1]
theorem oget_some (s : ByteArray) (k : Nat) (hs : s.size ≤ 100000000) (hk : 2 * s.size + 2 ≤ k) : opt_Get.f k s = some (parR [] (par s.size s.data.toList false)) := by
  unfold opt_Get.f
  exact oget_loop s.size s [] false k (by rw [len_size]; exact Nat.le_refl _) hk (by simp; omega)
/-- a whole packet, read: where all is right. -/
theorem pget_some (k : Nat) (s : ByteArray) (h : Hd) (hz : s.size ≤ 2500) (hh : getH s = (h, 0)) (hc : covB s.size (4 * h.off) h.cs = true) (ho : 0 ≤ h.off ∧ h.off ≤ 255)
    (hcn : 0 ≤ covN s.size (4 * h.off) h.cs) (hs : Sum.sum (s.extract 0 (covN s.size (4 * h.off) h.cs).toNat).data.toList = 0) (h1 : sizeB h.typ h.x ≤ 4 * h.off) (h2 : 4 * h.off ≤ s.size) (hk : 6000 ≤ k) :
    pkt_Get.f k s = match par (4 * h.off.toNat - (sizeB h.typ h.x).toNat) ((s.data.toList.drop (sizeB h.typ h.x).toNat).take (4 * h.off.toNat - (sizeB h.typ h.x).toNat)) false with
      | none => some (0, 0, 0, 0, 0, 0, 0, false, 0, 0, 0, 0, 0, 0, 0, [], ⟨#[]⟩, 7)
      | some l => some (h.src, h.dst, h.off, h.cc, h.cs, h.sum, h.typ, h.x, h.seq, h.ack, h.serv, h.code, h.i0, h.i1, h.i2, l, s.extract (4 * h.off).toNat s.size, 0) := by
  unfold pkt_Get.f
  have hg : head_Get.f s = some (h.src, h.dst, h.off, h.cc, h.cs, h.sum, h.typ, h.x, h.seq, h.ack, h.serv, h.code, h.i0, h.i1, h.i2, 0) := by
    unfold head_Get.f
    rw [if_pos (by omega), hh]
  refine (if_neg (by omega)).trans (obind hg ((if_pos rfl).trans ?_))
  have hw : wrap64 (4 * h.off) = 4 * h.off := by rw [wrap64_eq]; omega
  have hcov : sum_Covered.f (s.size : Int) (4 * h.off) h.cs = some (covN s.size (4 * h.off) h.cs, true) := by
    unfold sum_Covered.f
    rw [if_pos (by omega), hc]; rfl
  have hcl : covN s.size (4 * h.off) h.cs ≤ s.size := by
    unfold covB at hc; have := of_decide_eq_true hc; omega
  rw [hw]
  refine obind hcov ((if_pos rfl).trans ((if_pos hcn).trans ((if_pos hcl).trans ?_)))
  have hjo : joined [s.extract 0 (covN s.size (4 * h.off) h.cs).toNat] = (s.extract 0 (covN s.size (4 * h.off) h.cs).toNat).data.toList := by simp [joined]
  have hof : sum_Of.f [s.extract 0 (covN s.size (4 * h.off) h.cs).toNat] = some 0 := by
    unfold sum_Of.f
    rw [hjo, hs, if_pos]
    · rfl
    · refine ⟨?_, by simp⟩
      rw [len_size, ByteArray.size_extract]; omega
  refine obind hof ((if_pos rfl).trans ?_)
  have hsz := sizeB_le h.typ h.x
  refine obind (show head_Size.f h.typ h.x = some (sizeB h.typ h.x) from rfl) ((if_pos hsz.1).trans ((if_pos h1).trans ((if_pos h2).trans ?_)))
  have hto : (4 * h.off).toNat = 4 * h.off.toNat := by omega
  have hos : (s.extract (sizeB h.typ h.x).toNat (4 * h.off).toNat).size = 4 * h.off.toNat - (sizeB h.typ h.x).toNat := by rw [ByteArray.size_extract, hto]; omega
  have hog := oget_some (s.extract (sizeB h.typ h.x).toNat (4 * h.off).toNat) k (by omega) (by omega)
  rw [hos, ext_list, hto] at hog
  rw [← hto] at hog
  refine obind hog ?_
  rw [hto]
  cases par (4 * h.off.toNat - (sizeB h.typ h.x).toNat) ((s.data.toList.drop (sizeB h.typ h.x).toNat).take (4 * h.off.toNat - (sizeB h.typ h.x).toNat)) false with
  | none => rfl
  | some l => exact (if_pos rfl).trans ((if_pos (by omega)).trans rfl)
def obL (o : SO) : List UInt8 := UInt8.ofNat o.f0.toNat :: if 32 ≤ o.f0 then UInt8.ofNat (o.f1.size + 2) :: o.f1.data.toList else []
def obsL (os : List SO) : List UInt8 := (os.map obL).flatten
def mayS (o : SO) : Bool := mayO (ofS o)
theorem mayS_iff (o : SO) : mayS o = true ↔ (0 ≤ o.f0 ∧ o.f0 ≤ 255 ∧ (o.f1.size = 0 ∨ (32 ≤ o.f0 ∧ o.f1.size ≤ 253))) := by
  unfold mayS mayO ofS
  rw [decide_eq_true_eq]
theorem empty_of (s : ByteArray) (h : s.size = 0) : s = ⟨#[]⟩ := by
  have : s.data.toList = [] := List.eq_nil_of_length_eq_zero (by rw [len_size]; exact h)
  rw [← mkB_self s, this]; rfl
theorem byte_of (n : Int) (h0 : 0 ≤ n) (h1 : n ≤ 255) : ((UInt8.ofNat n.toNat).toNat : Int) = n ∧ (UInt8.ofNat n.toNat).toNat = n.toNat := by
  rw [UInt8.toNat_ofNat']; omega
def scan : List SO → Bool → Option (List SO)
  | [], m => if m then none else some []
  | o :: r, m => if o.f0 = 0 then scan r m else if m = true ∧ o.f0 = 1 then none else (scan r (decide (o.f0 = 1))).map (fun l => o :: l)
theorem par_zeros (z : Nat) : ∀ (n : Nat) (m : Bool), z ≤ n → par n (List.replicate z 0) m = if m then none else some [] := by
  induction z with
  | zero => intro n m _; cases n <;> rfl
  | succ z ih =>
    intro n m hn
    obtain ⟨n, rfl⟩ : ∃ j, n = j + 1 := ⟨n - 1, by omega⟩
    rw [List.replicate_succ]
    simp only [par]
    rw [if_pos (by rfl)]
    exact ih n m (by omega)
theorem par_obs (os : List SO) : ∀ (n z : Nat) (m : Bool), (∀ o, o ∈ os → mayS o = true) → (obsL os).length + z ≤ n → par n (obsL os ++ List.replicate z 0) m = scan os m := by
  induction os with
  | nil => intro n z m _ hn; exact par_zeros z n m (by simpa [obsL] using hn)
  | cons o os ih =>
    intro n z m hm hn
    obtain ⟨h0, h1, h2⟩ := (mayS_iff o).1 (hm o (List.mem_cons_self ..))
    have hr := fun x hx => hm x (List.mem_cons_of_mem _ hx)
    have e : obsL (o :: os) = obL o ++ obsL os := rfl
    rw [e] at hn ⊢
    obtain ⟨b1, b2⟩ := byte_of o.f0 h0 h1
    obtain ⟨t, d⟩ := o
    dsimp only at h0 h1 h2 b1 b2
    simp only [List.length_append] at hn
    simp only [scan]
    by_cases h32 : 32 ≤ t
    · have eo : obL ⟨t, d⟩ = UInt8.ofNat t.toNat :: UInt8.ofNat (d.size + 2) :: d.data.toList := by unfold obL; rw [if_pos h32]
      rw [eo] at hn ⊢
      simp only [List.length_cons] at hn
      obtain ⟨n, rfl⟩ : ∃ j, n = j + 1 := ⟨n - 1, by omega⟩
      have hd : d.size ≤ 253 := by omega
      have hs : (UInt8.ofNat (d.size + 2)).toNat = d.size + 2 := by rw [UInt8.toNat_ofNat']; omega
      have hl := len_size d
      simp only [List.cons_append, par]
      rw [b2, if_neg (by omega), if_neg (by omega), if_neg (by omega), hs, if_neg (by rw [List.length_append, List.length_append, hl]; omega), if_neg (by omega), if_neg (by omega)]
      have e1 : (d.data.toList ++ (obsL os ++ List.replicate z 0)).drop (d.size + 2 - 2) = obsL os ++ List.replicate z 0 := by
        rw [show d.size + 2 - 2 = d.data.toList.length from by rw [hl]; omega, List.drop_left]
      have e2 : (d.data.toList ++ (obsL os ++ List.replicate z 0)).take (d.size + 2 - 2) = d.data.toList := by
        rw [show d.size + 2 - 2 = d.data.toList.length from by rw [hl]; omega, List.take_left]
      have hf : decide (t = 1) = false := decide_eq_false (by omega)
      rw [List.append_assoc, e1, e2, ih n z false hr (by omega), hf, mkB_self]
      have : ((t.toNat : Nat) : Int) = t := by omega
      rw [this]
    · have eo : obL ⟨t, d⟩ = [UInt8.ofNat t.toNat] := by unfold obL; rw [if_neg h32]
      rw [eo] at hn ⊢
      simp only [List.length_cons, List.length_nil] at hn
      obtain ⟨n, rfl⟩ : ∃ j, n = j + 1 := ⟨n - 1, by omega⟩
      have hd : d = ⟨#[]⟩ := empty_of d (by omega)
      subst hd
      simp only [List.cons_append, List.nil_append, par]
      rw [b2]
      have et : ((t.toNat : Nat) : Int) = t := by omega
      by_cases ht0 : t = 0
      · rw [if_pos (by omega), if_pos ht0]
        exact ih n z m hr (by omega)
      · rw [if_neg (by omega), if_neg ht0]
        by_cases hm1 : m = true ∧ t = 1
        · rw [if_pos ⟨hm1.1, by omega⟩, if_pos hm1]
        · have hd1 : decide (t.toNat = 1) = decide (t = 1) := by rw [decide_eq_decide]; omega
          rw [if_neg (fun h : m = true ∧ t.toNat = 1 => hm1 ⟨h.1, by omega⟩), if_neg hm1, if_pos (by omega), hd1, ih n z _ hr (by omega), et]
/-- what is written of options that may be. -/
theorem nb_back (d : ByteArray) : (nb d).map (fun n => UInt8.ofNat n.toNat) = d.data.toList := by
  unfold nb
  rw [List.map_map]
  have : ((fun n : Int => UInt8.ofNat n.toNat) ∘ fun b : UInt8 => (b.toNat : Int)) = id := by funext b; simp
  rw [this, List.map_id]
theorem obs_back (os : List SO) (h : ∀ o, o ∈ os → mayS o = true) : (obs (os.map ofS)).map (fun n => UInt8.ofNat n.toNat) = obsL os := by
  induction os with
  | nil => rfl
  | cons o os ih =>
    have e1 : obs ((o :: os).map ofS) = ob (ofS o) ++ obs (os.map ofS) := rfl
    have e2 : obsL (o :: os) = obL o ++ obsL os := rfl
    rw [e1, e2, List.map_append, ih (fun x hx => h x (List.mem_cons_of_mem _ hx))]
    congr 1
    unfold ob obL ofS
    dsimp only
    by_cases h32 : 32 ≤ o.f0
    · rw [if_pos h32, if_pos h32, List.map_cons, List.map_cons, nb_back, Int.toNat_natCast]
    · rw [if_neg h32, if_neg h32]; rfl
def padL (l : List UInt8) : List UInt8 := l ++ List.replicate ((4 - l.length % 4) % 4) 0
theorem put_back (os : List SO) (h : ∀ o, o ∈ os → mayS o = true) : strOfNums (putO (os.map ofS)) = mkB (padL (obsL os)) := by
  have ha : (os.map ofS).all mayO = true := by
    rw [List.all_map]; exact List.all_eq_true.2 (fun o ho => h o ho)
  have hl : (obs (os.map ofS)).length = (obsL os).length := by rw [← obs_back os h, List.length_map]
  unfold putO
  rw [if_pos ha, ← mkB_self (strOfNums _), strOfNums_data]
  unfold pad4 padL
  rw [List.map_append, obs_back os h, List.map_replicate, hl]; rfl
theorem obL_len (o : SO) (h : mayS o = true) : (obL o).length ≤ 257 := by
  have := (mayS_iff o).1 h
  unfold obL
  split
  · rw [List.length_cons, List.length_cons, len_size]; omega
  · simp
theorem hdBytes_nat (src dst off cc cs sum T : Nat) (x : Bool) (seq ack serv code i0 i1 i2 : Nat) : (hdBytes ⟨src, dst, off, cc, cs, sum, T, x, seq, ack, serv, code, i0, i1, i2⟩).data.toList = (hb1 src dst off cc cs sum ++ hb2 T x seq ++ hb3 T x ack ++ hb4 T serv code i0 i1 i2).map asB := by
  unfold hdBytes
  rw [strOfNums_data]
  simp only [Int.toNat_natCast]
theorem put_size (os : List SO) (h : ∀ o, o ∈ os → mayS o = true) : (strOfNums (putO (os.map ofS))).data.toList = padL (obsL os) ∧ (strOfNums (putO (os.map ofS))).size = (padL (obsL os)).length := by
  rw [put_back os h]
  exact ⟨rfl, by rw [← len_size]; rfl⟩
theorem padL_len (l : List UInt8) : (padL l).length % 4 = 0 := by unfold padL; rw [List.length_append, List.length_replicate]; omega
/-- what 'errP = 0' says. -/
theorem err_none (h : Hd) (os : List Op) (d : ByteArray) (he : errP h os d = 0) : mayB { h with off := sizeB h.typ h.x / 4, sum := 0 } = true ∧ os.all mayO = true ∧ nOf h os ≤ 1020 ∧ d.size ≤ 1400 ∧ nOf h os + d.size ≤ 2500 ∧ covB ((nOf h os : Nat) + d.size) (nOf h os : Nat) h.cs = true := by
  unfold errP putErr at he
  split at he
  · exact absurd he (by decide)
  rename_i hm
  split at he
  · exact absurd he (by decide)
  rename_i ho
  split at he
  · exact absurd he (by decide)
  rename_i hl
  split at he
  · exact absurd he (by decide)
  rename_i hc
  have b : ∀ q : Bool, ¬ q = false → q = true := fun q h => by cases q with | true => rfl | false => exact absurd rfl h
  exact ⟨b _ hm, b _ ho, by omega, by omega, by omega, b _ hc⟩
/-- a packet that was written, read. -/
theorem pkt_back (k : Nat) (src dst cc cs T : Nat) (off0 sum0 : Int) (x : Bool) (seq ack serv code i0 i1 i2 : Nat) (os : List SO) (d : ByteArray) (hk : 6000 ≤ k) (hs : serv < 4294967296) (b0 : i0 ≤ 255) (b1 : i1 ≤ 255) (b2 : i2 ≤ 255)
    (he : errP ⟨src, dst, off0, cc, cs, sum0, T, x, seq, ack, serv, code, i0, i1, i2⟩ (os.map ofS) d = 0) :
    ∃ N S : Nat, (nOf ⟨src, dst, off0, cc, cs, sum0, T, x, seq, ack, serv, code, i0, i1, i2⟩ (os.map ofS)) = 4 * N ∧ N ≤ 255 ∧ S ≤ 65535 ∧
      (putP ⟨src, dst, off0, cc, cs, sum0, T, x, seq, ack, serv, code, i0, i1, i2⟩ (os.map ofS) d).1.size = 4 * N + d.size ∧
      getH (putP ⟨src, dst, off0, cc, cs, sum0, T, x, seq, ack, serv, code, i0, i1, i2⟩ (os.map ofS) d).1 = (⟨src, dst, (N : Nat), cc, cs, (S : Nat), T, x, seq, ack, serv, code, i0, i1, i2⟩, 0) ∧
      Sum.sum ((putP ⟨src, dst, off0, cc, cs, sum0, T, x, seq, ack, serv, code, i0, i1, i2⟩ (os.map ofS) d).1.extract 0 (covN (putP ⟨src, dst, off0, cc, cs, sum0, T, x, seq, ack, serv, code, i0, i1, i2⟩ (os.map ofS) d).1.size (4 * ((N : Nat) : Int)) cs).toNat).data.toList = 0 ∧
      pkt_Get.f k (putP ⟨src, dst, off0, cc, cs, sum0, T, x, seq, ack, serv, code, i0, i1, i2⟩ (os.map ofS) d).1 = match scan os false with
        | none => some (0, 0, 0, 0, 0, 0, 0, false, 0, 0, 0, 0, 0, 0, 0, [], ⟨#[]⟩, 7)
        | some l => some (src, dst, N, cc, cs, S, T, x, seq, ack, serv, code, i0, i1, i2, l, d, 0) := by
  obtain ⟨hm, hall, hn1, hn2, hn3, hc⟩ := err_none _ _ _ he
  dsimp only at hm hc
  have hmo : ∀ o, o ∈ os → mayS o = true := by
    rw [List.all_map] at hall
    exact fun o ho => List.all_eq_true.1 hall o ho
  obtain ⟨z, hz, hz7⟩ := size_four (T : Int) x
  obtain ⟨hpl, hps⟩ := put_size os hmo
  have hp4 := padL_len (obsL os)
  have hnof : nOf ⟨src, dst, off0, cc, cs, sum0, T, x, seq, ack, serv, code, i0, i1, i2⟩ (os.map ofS) = 4 * z + (padL (obsL os)).length := by
    unfold nOf; dsimp only; rw [hz, hps]; omega
  obtain ⟨N, hN⟩ : ∃ N, 4 * z + (padL (obsL os)).length = 4 * N := ⟨z + (padL (obsL os)).length / 4, by omega⟩
  rw [hnof, hN] at hn1 hn3 hc
  have hS := Sum.sum_le (joined [(hdBytes { (⟨src, dst, off0, cc, cs, sum0, T, x, seq, ack, serv, code, i0, i1, i2⟩ : Hd) with off := (nOf ⟨src, dst, off0, cc, cs, sum0, T, x, seq, ack, serv, code, i0, i1, i2⟩ (os.map ofS) / 4 : Nat), sum := 0 } ++ strOfNums (putO (os.map ofS)) ++ d).extract 0 (covN ((nOf ⟨src, dst, off0, cc, cs, sum0, T, x, seq, ack, serv, code, i0, i1, i2⟩ (os.map ofS) : Nat) + d.size) (nOf ⟨src, dst, off0, cc, cs, sum0, T, x, seq, ack, serv, code, i0, i1, i2⟩ (os.map ofS) : Nat) cs).toNat])
  have hput : (putP ⟨src, dst, off0, cc, cs, sum0, T, x, seq, ack, serv, code, i0, i1, i2⟩ (os.map ofS) d).1 = hdBytes ⟨src, dst, (N : Nat), cc, cs, (sumP ⟨src, dst, off0, cc, cs, sum0, T, x, seq, ack, serv, code, i0, i1, i2⟩ (os.map ofS) d : Nat), T, x, seq, ack, serv, code, i0, i1, i2⟩ ++ strOfNums (putO (os.map ofS)) ++ d := by
    unfold putP
    rw [if_pos he, hnof, hN, Nat.mul_div_cancel_left N (by omega)]
  have hSum : sumP ⟨src, dst, off0, cc, cs, sum0, T, x, seq, ack, serv, code, i0, i1, i2⟩ (os.map ofS) d = Sum.sum (((hb1 src dst N cc cs 0 ++ hb2 T x seq ++ hb3 T x ack ++ hb4 T serv code i0 i1 i2).map asB ++ padL (obsL os) ++ d.data.toList).take (covN ((4 * N : Nat) + d.size) (4 * N : Nat) cs).toNat) := by
    unfold sumP
    rw [hnof, hN, Nat.mul_div_cancel_left N (by omega)]
    dsimp only
    have hh := hdBytes_nat src dst N cc cs 0 T x seq ack serv code i0 i1 i2
    have e : joined [(hdBytes (⟨src, dst, (N : Nat), cc, cs, 0, T, x, seq, ack, serv, code, i0, i1, i2⟩ : Hd) ++ strOfNums (putO (os.map ofS)) ++ d).extract 0 (covN ((4 * N : Nat) + d.size) (4 * N : Nat) cs).toNat] = ((hdBytes (⟨src, dst, (N : Nat), cc, cs, 0, T, x, seq, ack, serv, code, i0, i1, i2⟩ : Hd) ++ strOfNums (putO (os.map ofS)) ++ d).extract 0 (covN ((4 * N : Nat) + d.size) (4 * N : Nat) cs).toNat).data.toList := by simp [joined]
    rw [e, ext_list, List.drop_zero, Nat.sub_zero, ByteArray.data_append, ByteArray.data_append, Array.toList_append, Array.toList_append, hpl]
    have hh' : (hdBytes (⟨src, dst, (N : Nat), cc, cs, 0, T, x, seq, ack, serv, code, i0, i1, i2⟩ : Hd)).data.toList = (hb1 src dst N cc cs 0 ++ hb2 T x seq ++ hb3 T x ack ++ hb4 T serv code i0 i1 i2).map asB := hh
    rw [hh']
  have hSle : sumP ⟨src, dst, off0, cc, cs, sum0, T, x, seq, ack, serv, code, i0, i1, i2⟩ (os.map ofS) d ≤ 65535 := by rw [hSum]; exact Sum.sum_le _
  generalize sumP ⟨src, dst, off0, cc, cs, sum0, T, x, seq, ack, serv, code, i0, i1, i2⟩ (os.map ofS) d = S at *
  clear hS he
  have hm1 : mayB ⟨src, dst, (N : Nat), cc, cs, (S : Nat), T, x, seq, ack, serv, code, i0, i1, i2⟩ = true :=
    may_turn _ _ _ _ _ _ _ _ _ _ _ _ _ _ _ (N : Nat) (S : Nat) hm (by rw [hz]; omega) (by omega) (by omega) (by omega)
  obtain ⟨hlen, h12⟩ := head_len _ hm1
  dsimp only at hlen
  have hlist : (hdBytes ⟨src, dst, (N : Nat), cc, cs, (S : Nat), T, x, seq, ack, serv, code, i0, i1, i2⟩ ++ strOfNums (putO (os.map ofS)) ++ d).data.toList = (hb1 src dst N cc cs S ++ hb2 T x seq ++ hb3 T x ack ++ hb4 T serv code i0 i1 i2).map asB ++ (padL (obsL os) ++ d.data.toList) := by
    rw [ByteArray.data_append, ByteArray.data_append, Array.toList_append, Array.toList_append, hpl, hdBytes_nat, List.append_assoc]
  have hsize : (hdBytes ⟨src, dst, (N : Nat), cc, cs, (S : Nat), T, x, seq, ack, serv, code, i0, i1, i2⟩ ++ strOfNums (putO (os.map ofS)) ++ d).size = 4 * N + d.size := by
    rw [ByteArray.size_append, ByteArray.size_append, hps]; omega
  have hhl : ((hb1 src dst N cc cs S ++ hb2 T x seq ++ hb3 T x ack ++ hb4 T serv code i0 i1 i2).map asB).length = 4 * z := by
    have := congrArg List.length (hdBytes_nat src dst N cc cs S T x seq ack serv code i0 i1 i2)
    rw [len_size] at this
    omega
  refine ⟨N, S, by rw [hnof, hN], by omega, hSle, by rw [hput]; exact hsize, ?_⟩
  rw [hput]
  generalize hdBytes ⟨src, dst, (N : Nat), cc, cs, (S : Nat), T, x, seq, ack, serv, code, i0, i1, i2⟩ ++ strOfNums (putO (os.map ofS)) ++ d = s at *
  have hget := get_of s src dst N cc cs S T x seq ack serv code i0 i1 i2 _ hlist hm1 hs b0 b1 b2 (by omega)
  have hcN : 0 ≤ covN ((4 * N : Nat) + d.size) (4 * N : Nat) cs ∧ (12 : Int) ≤ covN ((4 * N : Nat) + d.size) (4 * N : Nat) cs := by
    unfold covN; split <;> omega
  have hsz : (s.size : Int) = ((4 * N : Nat) : Int) + d.size := by omega
  have h4 : (4 * ((N : Nat) : Int)) = ((4 * N : Nat) : Int) := by omega
  have hzero : Sum.sum (s.extract 0 (covN s.size (4 * ((N : Nat) : Int)) cs).toNat).data.toList = 0 := by
    rw [hsz, h4, ext_list, List.drop_zero, Nat.sub_zero, hlist]
    generalize hq : (covN (((4 * N : Nat) : Int) + d.size) ((4 * N : Nat) : Int) cs).toNat = q at *
    have hq12 : 12 ≤ q := by omega
    have hA : ((Go.Proofs.YtjlnbahanghhcaaGreatDoor.be src 2 ++ Go.Proofs.YtjlnbahanghhcaaGreatDoor.be dst 2 ++ [((N : Nat) : Int), ((cc * 16 + cs : Nat) : Int)]).map asB).length = 6 := by simp [hbe_len]
    have dec : ∀ s' : Nat, (hb1 src dst N cc cs s' ++ hb2 T x seq ++ hb3 T x ack ++ hb4 T serv code i0 i1 i2).map asB ++ (padL (obsL os) ++ d.data.toList) = (Go.Proofs.YtjlnbahanghhcaaGreatDoor.be src 2 ++ Go.Proofs.YtjlnbahanghhcaaGreatDoor.be dst 2 ++ [((N : Nat) : Int), ((cc * 16 + cs : Nat) : Int)]).map asB ++ ((Go.Proofs.YtjlnbahanghhcaaGreatDoor.be s' 2).map asB ++ ((hb2 T x seq ++ hb3 T x ack ++ hb4 T serv code i0 i1 i2).map asB ++ (padL (obsL os) ++ d.data.toList))) := by
      intro s'
      unfold hb1
      simp only [List.map_append, List.append_assoc]
    rw [dec S]
    have cut : ∀ (A B R : List UInt8), A.length = 6 → B.length = 2 → (A ++ (B ++ R)).take q = A ++ (B ++ R.take (q - 8)) := by
      intro A B R ha hb
      rw [List.take_append, ha, List.take_of_length_le (by omega), List.take_append, hb, List.take_of_length_le (by omega), show q - 6 - 2 = q - 8 from by omega]
    rw [cut _ _ _ hA (by rw [List.length_map, hbe_len])]
    refine sum_turn _ _ hA S ?_
    rw [hSum, List.append_assoc, dec 0, cut _ _ _ hA (by rw [List.length_map, hbe_len])]
  refine ⟨hget, hzero, ?_⟩
  have hmain := pget_some k s ⟨src, dst, (N : Nat), cc, cs, (S : Nat), T, x, seq, ack, serv, code, i0, i1, i2⟩ (by omega) hget (by rw [hsz, h4]; exact hc) (by dsimp only; omega) (by rw [hsz, h4]; exact hcN.1) hzero (by dsimp only; rw [hz]; omega) (by dsimp only; omega) hk
  dsimp only at hmain
  rw [hmain, hz]
  have t1 : (((4 * z : Nat) : Int)).toNat = 4 * z := Int.toNat_natCast _
  rw [t1, Int.toNat_natCast]
  have hdrop : (s.data.toList.drop (4 * z)).take (4 * N - 4 * z) = padL (obsL os) := by
    rw [hlist, ← hhl, List.drop_left, hhl, show 4 * N - 4 * z = (padL (obsL os)).length from by omega, List.take_left]
  have hpar : par (4 * N - 4 * z) (padL (obsL os)) false = scan os false := by
    unfold padL
    refine par_obs os _ _ false hmo ?_
    have : (padL (obsL os)).length = (obsL os).length + (4 - (obsL os).length % 4) % 4 := by unfold padL; rw [List.length_append, List.length_replicate]
    omega
  rw [hdrop, hpar]
  have hdat : s.extract (4 * ((N : Nat) : Int)).toNat s.size = d := by
    rw [h4, Int.toNat_natCast, ← mkB_self (s.extract (4 * N) s.size), ext_drop, hlist, ← List.append_assoc]
    have : 4 * N = ((hb1 src dst N cc cs S ++ hb2 T x seq ++ hb3 T x ack ++ hb4 T serv code i0 i1 i2).map asB ++ padL (obsL os)).length := by rw [List.length_append, hhl]; omega
    rw [this, List.drop_left, mkB_self]
  cases scan os false with
  | none => rfl
  | some l => rw [hdat]
end Go.Proofs.YtjlnbahanghhcaaGreatDoor.PkB

/- A head's own bytes with whatever behind them, read: the head itself. Plain. -/
namespace Go.Proofs.YtjlnbahanghhcaaGreatDoor.PkB
set_option linter.unusedVariables false
set_option linter.unusedSimpArgs false

theorem getH_fst (b : ByteArray) (h : (getH b).2 = 0) : getH b = (getHd b (getT b) (getX b), 0) := by
  unfold getH at h ⊢
  split at h
  · exact absurd h (by decide)
  split at h
  · exact absurd h (by decide)
  split at h
  · exact absurd h (by decide)
  split at h
  · exact absurd h (by decide)
  split at h
  · exact absurd h (by decide)
  rename_i a1 a2 a3 a4 a5
  rw [if_neg a1, if_neg a2, if_neg a3, if_neg a4, if_neg a5]
end Go.Proofs.YtjlnbahanghhcaaGreatDoor.PkB

/- The contracts of slices.Equal and pkt.Eq at two that are the same. -/
namespace Go.Proofs.YtjlnbahanghhcaaGreatDoor
open Go.RowKit
set_option linter.unusedVariables false
set_option linter.unusedSimpArgs false
set_option maxHeartbeats 4000000 in
set_option maxRecDepth 100000 in
theorem opts_equal (A0 A1 : Option Addr) (c0 c1 B : Nat) (os : List Op) (w : World) (h0 : CellsAt w B A0 (ocells os)) (h1 : CellsAt w B A1 (ocells os)) (hB : B ≤ w.heap.size) (hn : os.length ≤ 140737488355328) :
    Calls Tryz.prog 53 #[.slice A0 os.length c0, .slice A1 os.length c1] w fun e w' => e = .returned (.bool true) ∧ Below w.heap.size w w' := by
  have H0 := hide h0; have H1 := hide h1
  clear h0 h1
  go_enter Tryz.func53, Tryz.ntmps53
  go_wp2
  go_loopw [13] (fun x wr => ∃ k : Nat, k ≤ os.length ∧ x = .int .i64 k ∧ Below w.heap.size w wr) (fun x _ => os.length - (intOf x).toNat)
  case atStart => exact ⟨0, by omega, rfl, Below.refl _ _⟩
  case round =>
    obtain ⟨k, hk, rfl, hb⟩ := hrel
    by_cases hlt : k < os.length
    · obtain ⟨a0, rfl, f0, f1⟩ := opts_at H0.out hb hB k hlt
      obtain ⟨a1, rfl, g0, g1⟩ := opts_at H1.out hb hB k hlt
      obtain ⟨o, ho'⟩ : ∃ o, os[k] = o := ⟨_, rfl⟩
      rw [ho'] at f0 f1 g0 g1
      obtain ⟨t, d⟩ := o
      have hki : (k : Int) < (os.length : Int) := by omega
      clear ho'
      go_upto_region 6 with fail
      go_quiet (fail)
      go_wp2
      go_roundw
      case rel => exact ⟨k + 1, by omega, by go_num, hb.trans ⟨rfl, rfl, rfl, Nat.le_refl _, fun _ _ => rfl⟩⟩
      case measure => first | (simp [intOf]; done) | (simp [intOf]; omega)
    · have hki : ¬ ((k : Int) < (os.length : Int)) := by omega
      go_wp2
      go_ret
      exact ⟨rfl, hb⟩
set_option maxHeartbeats 4000000 in
set_option maxRecDepth 100000 in
theorem pkt_Eq_same (h : Hd) (A0 A1 : Option Addr) (c0 c1 B : Nat) (os : List Op) (d : ByteArray) (w : World) (h0 : CellsAt w B A0 (ocells os)) (h1 : CellsAt w B A1 (ocells os)) (hB : B ≤ w.heap.size) (hn : os.length ≤ 140737488355328) :
    Calls Tryz.prog 16 #[.agg #[.int .i64 h.src, .int .i64 h.dst, .int .i64 h.off, .int .i64 h.cc, .int .i64 h.cs, .int .i64 h.sum, .int .i64 h.typ, .bool h.x, .int .u64 h.seq, .int .u64 h.ack, .int .u32 h.serv, .int .i64 h.code, .int .u8 h.i0, .int .u8 h.i1, .int .u8 h.i2, .slice A0 os.length c0, .string d], .agg #[.int .i64 h.src, .int .i64 h.dst, .int .i64 h.off, .int .i64 h.cc, .int .i64 h.cs, .int .i64 h.sum, .int .i64 h.typ, .bool h.x, .int .u64 h.seq, .int .u64 h.ack, .int .u32 h.serv, .int .i64 h.code, .int .u8 h.i0, .int .u8 h.i1, .int .u8 h.i2, .slice A1 os.length c1, .string d]] w fun e w' => e = .returned (.bool true) ∧ Below w.heap.size w w' := by
  obtain ⟨g0, g1, g2, g3, g4, g5, g6, g7, g8, g9, g10, g11, g12, g13, g14⟩ := h
  dsimp only
  have OE : Hid (∀ W, Below w.heap.size w W → Calls Tryz.prog 53 #[.slice A0 os.length c0, .slice A1 os.length c1] W fun e w' => e = .returned (.bool true) ∧ Below W.heap.size W w') := hide (fun W hb => opts_equal A0 A1 c0 c1 w.heap.size os W ((h0.more hB).below hb) ((h1.more hB).below hb) hb.size hn)
  clear h0 h1
  go_enter Tryz.func16, Tryz.ntmps16
  go_upto_region 1 with fail
  have b0 := (Blk.new w #[.int .i64 g0, .int .i64 g1, .int .i64 g2, .int .i64 g3, .int .i64 g4, .int .i64 g5, .int .i64 g6, .bool g7, .int .u64 g8, .int .u64 g9, .int .u32 g10, .int .i64 g11, .int .u8 g12, .int .u8 g13, .int .u8 g14, .slice A0 os.length c0, .string d] 29).alloc (.cells #[.int .i64 g0, .int .i64 g1, .int .i64 g2, .int .i64 g3, .int .i64 g4, .int .i64 g5, .int .i64 g6, .bool g7, .int .u64 g8, .int .u64 g9, .int .u32 g10, .int .i64 g11, .int .u8 g12, .int .u8 g13, .int .u8 g14, .slice A1 os.length c1, .string d] 29)
  have b1 := Blk.new (w.alloc (.cells #[.int .i64 g0, .int .i64 g1, .int .i64 g2, .int .i64 g3, .int .i64 g4, .int .i64 g5, .int .i64 g6, .bool g7, .int .u64 g8, .int .u64 g9, .int .u32 g10, .int .i64 g11, .int .u8 g12, .int .u8 g13, .int .u8 g14, .slice A0 os.length c0, .string d] 29)) #[.int .i64 g0, .int .i64 g1, .int .i64 g2, .int .i64 g3, .int .i64 g4, .int .i64 g5, .int .i64 g6, .bool g7, .int .u64 g8, .int .u64 g9, .int .u32 g10, .int .i64 g11, .int .u8 g12, .int .u8 g13, .int .u8 g14, .slice A1 os.length c1, .string d] 29
  have hbw : Below w.heap.size w ((w.alloc (.cells #[.int .i64 g0, .int .i64 g1, .int .i64 g2, .int .i64 g3, .int .i64 g4, .int .i64 g5, .int .i64 g6, .bool g7, .int .u64 g8, .int .u64 g9, .int .u32 g10, .int .i64 g11, .int .u8 g12, .int .u8 g13, .int .u8 g14, .slice A0 os.length c0, .string d] 29)).alloc (.cells #[.int .i64 g0, .int .i64 g1, .int .i64 g2, .int .i64 g3, .int .i64 g4, .int .i64 g5, .int .i64 g6, .bool g7, .int .u64 g8, .int .u64 g9, .int .u32 g10, .int .i64 g11, .int .u8 g12, .int .u8 g13, .int .u8 g14, .slice A1 os.length c1, .string d] 29)) := ((Below.refl _ _).alloc (Nat.le_refl _) _).alloc (by simp) _
  have h9 : ∀ W : World, (Op.equalIn 9999 24 (.agg #[.int .u8 g12, .int .u8 g13, .int .u8 g14]) (.agg #[.int .u8 g12, .int .u8 g13, .int .u8 g14])).run Tryz.prog W = .ok true W := fun W => by rw [show (9999 : Nat) = 9997 + 2 from rfl, eq_three]; simp
  have hG : (w.alloc (.cells #[.int .i64 g0, .int .i64 g1, .int .i64 g2, .int .i64 g3, .int .i64 g4, .int .i64 g5, .int .i64 g6, .bool g7, .int .u64 g8, .int .u64 g9, .int .u32 g10, .int .i64 g11, .int .u8 g12, .int .u8 g13, .int .u8 g14, .slice A0 os.length c0, .string d] 29)).heap.size = w.heap.size + 1 := by simp
  rw [hG] at b1
  clear hG
  generalize ((w.alloc (.cells #[.int .i64 g0, .int .i64 g1, .int .i64 g2, .int .i64 g3, .int .i64 g4, .int .i64 g5, .int .i64 g6, .bool g7, .int .u64 g8, .int .u64 g9, .int .u32 g10, .int .i64 g11, .int .u8 g12, .int .u8 g13, .int .u8 g14, .slice A0 os.length c0, .string d] 29)).alloc (.cells #[.int .i64 g0, .int .i64 g1, .int .i64 g2, .int .i64 g3, .int .i64 g4, .int .i64 g5, .int .i64 g6, .bool g7, .int .u64 g8, .int .u64 g9, .int .u32 g10, .int .i64 g11, .int .u8 g12, .int .u8 g13, .int .u8 g14, .slice A1 os.length c1, .string d] 29)) = w2 at *
  have f00 := b0.cell (i := 0) (u := .int .i64 g0) rfl
  have f01 := b0.cell (i := 1) (u := .int .i64 g1) rfl
  have f02 := b0.cell (i := 2) (u := .int .i64 g2) rfl
  have f03 := b0.cell (i := 3) (u := .int .i64 g3) rfl
  have f04 := b0.cell (i := 4) (u := .int .i64 g4) rfl
  have f05 := b0.cell (i := 5) (u := .int .i64 g5) rfl
  have f06 := b0.cell (i := 6) (u := .int .i64 g6) rfl
  have f07 := b0.cell (i := 7) (u := .bool g7) rfl
  have f08 := b0.cell (i := 8) (u := .int .u64 g8) rfl
  have f09 := b0.cell (i := 9) (u := .int .u64 g9) rfl
  have f010 := b0.cell (i := 10) (u := .int .u32 g10) rfl
  have f011 := b0.cell (i := 11) (u := .int .i64 g11) rfl
  have f012 := b0.cell (i := 12) (u := .int .u8 g12) rfl
  have f013 := b0.cell (i := 13) (u := .int .u8 g13) rfl
  have f014 := b0.cell (i := 14) (u := .int .u8 g14) rfl
  have f015 := b0.cell (i := 15) (u := .slice A0 os.length c0) rfl
  have f016 := b0.cell (i := 16) (u := .string d) rfl
  have f10 := b1.cell (i := 0) (u := .int .i64 g0) rfl
  have f11 := b1.cell (i := 1) (u := .int .i64 g1) rfl
  have f12 := b1.cell (i := 2) (u := .int .i64 g2) rfl
  have f13 := b1.cell (i := 3) (u := .int .i64 g3) rfl
  have f14 := b1.cell (i := 4) (u := .int .i64 g4) rfl
  have f15 := b1.cell (i := 5) (u := .int .i64 g5) rfl
  have f16 := b1.cell (i := 6) (u := .int .i64 g6) rfl
  have f17 := b1.cell (i := 7) (u := .bool g7) rfl
  have f18 := b1.cell (i := 8) (u := .int .u64 g8) rfl
  have f19 := b1.cell (i := 9) (u := .int .u64 g9) rfl
  have f110 := b1.cell (i := 10) (u := .int .u32 g10) rfl
  have f111 := b1.cell (i := 11) (u := .int .i64 g11) rfl
  have f112 := b1.cell (i := 12) (u := .int .u8 g12) rfl
  have f113 := b1.cell (i := 13) (u := .int .u8 g13) rfl
  have f114 := b1.cell (i := 14) (u := .int .u8 g14) rfl
  have f115 := b1.cell (i := 15) (u := .slice A1 os.length c1) rfl
  have f116 := b1.cell (i := 16) (u := .string d) rfl
  have HBW := hide hbw
  clear b0 b1 hbw
  go_wp2_with fail
  refine (OE.out _ HBW.out).mono ?_
  rintro e w3 ⟨rfl, hb3⟩
  go_wp2_with fail
  go_ret
  exact ⟨rfl, HBW.out.trans (hb3.mono HBW.out.size)⟩
end Go.Proofs.YtjlnbahanghhcaaGreatDoor

/- What a bit that is turned does to a sum of bytes, in plain arithmetic. -/
namespace Go.Proofs.YtjlnbahanghhcaaGreatDoor.Sum
set_option linter.unusedVariables false
set_option linter.unusedSimpArgs false

end Go.Proofs.YtjlnbahanghhcaaGreatDoor.Sum

/- The contract of Text: a text's begin. -/
namespace Go.Proofs.YtjlnbahanghhcaaGreatDoor
open Go.RowKit
set_option linter.unusedVariables false
set_option linter.unusedSimpArgs false
end Go.Proofs.YtjlnbahanghhcaaGreatDoor

/- PktBit: a bit that is turned is seen, in plain data. -/
namespace Go.Proofs.YtjlnbahanghhcaaGreatDoor
open Go.RowKit
set_option linter.unusedVariables false
set_option linter.unusedSimpArgs false

/-- bytes of which one bit is turned. -/
def turned (b : ByteArray) (k r : Nat) : List Int := (b.data.toList.map fun c => (c.toNat : Int)).set k (bits BinOp.xor IntKind.u8 ((b.data.toList.map fun c => (c.toNat : Int)).getD k 0) (IntKind.u8.wrap (2 ^ r)))
end Go.Proofs.YtjlnbahanghhcaaGreatDoor

/- pkt.Get at whatever bytes, as one plain function. -/
namespace Go.Proofs.YtjlnbahanghhcaaGreatDoor.PkB
open Go.RowKit Go.Proofs.YtjlnbahanghhcaaGreatDoor.PoptGet Go.Proofs.YtjlnbahanghhcaaGreatDoor.PkF Go.Proofs.YtjlnbahanghhcaaGreatDoorW.PrintWords Go.Proofs.YtjlnbahanghhcaaGreatDoorW.PrintLast Go.Proofs.YtjlnbahanghhcaaGreatDoorW.PrintMore
set_option linter.unusedVariables false
set_option linter.unusedSimpArgs false

def optsOf (b : ByteArray) (h : Hd) : Option (List SO) := par (4 * h.off.toNat - (sizeB h.typ h.x).toNat) ((b.data.toList.drop (sizeB h.typ h.x).toNat).take (4 * h.off.toNat - (sizeB h.typ h.x).toNat)) false
def sumAt (b : ByteArray) (h : Hd) : Nat := Sum.sum (b.extract 0 (covN b.size (4 * h.off) h.cs).toNat).data.toList
def getP (b : ByteArray) : Hd × List SO × ByteArray × Int :=
  if 2500 < b.size then (hd0, [], ⟨#[]⟩, 13)
  else if (getH b).2 ≠ 0 then (hd0, [], ⟨#[]⟩, (getH b).2)
  else if covB b.size (4 * (getH b).1.off) (getH b).1.cs = false then (hd0, [], ⟨#[]⟩, 5)
  else if sumAt b (getH b).1 ≠ 0 then (hd0, [], ⟨#[]⟩, 6)
  else match optsOf b (getH b).1 with
    | none => (hd0, [], ⟨#[]⟩, 7)
    | some l => ((getH b).1, l, b.extract (4 * (getH b).1.off).toNat b.size, 0)
abbrev Flat := Int × Int × Int × Int × Int × Int × Int × Bool × Int × Int × Int × Int × Int × Int × Int × (List SO) × ByteArray × Int
def flat (p : Hd × List SO × ByteArray × Int) : Flat := (p.1.src, p.1.dst, p.1.off, p.1.cc, p.1.cs, p.1.sum, p.1.typ, p.1.x, p.1.seq, p.1.ack, p.1.serv, p.1.code, p.1.i0, p.1.i1, p.1.i2, p.2.1, p.2.2.1, p.2.2.2)
theorem getH_place (b : ByteArray) (h : Hd) (e : getH b = (h, 0)) : sizeB h.typ h.x ≤ 4 * h.off ∧ 4 * h.off ≤ b.size ∧ 0 ≤ h.off ∧ h.off ≤ 255 ∧ 12 ≤ sizeB h.typ h.x ∧ 0 ≤ h.cs ∧ h.cs ≤ 15 := by
  have e2 := getH_fst b (by rw [e])
  have hb4 := byteAt_lt b 4
  rw [e] at e2
  have e3 : h = getHd b (getT b) (getX b) := congrArg Prod.fst e2
  have eo : h.off = (byteAt b 4 : Int) := by rw [e3]; rfl
  have et : h.typ = (getT b : Int) := by rw [e3]; rfl
  have ex : h.x = getX b := by rw [e3]; rfl
  have ec : h.cs = ((byteAt b 5 % 16 : Nat) : Int) := by rw [e3]; rfl
  rw [et, ex, eo, ec]
  obtain ⟨z, hz, hz7⟩ := size_four (getT b) (getX b)
  have h12 : sizeB (getT b) (getX b) ≠ 0 → 12 ≤ sizeB (getT b) (getX b) := by
    unfold sizeB; split
    · intro h0; exact absurd rfl h0
    · intro _
      cases getX b <;> simp <;> split <;> split <;> omega
  unfold getH at e
  by_cases h1 : b.size < 12
  · rw [if_pos h1] at e; exact absurd (show (1 : Int) = 0 from congrArg Prod.snd e) (by decide)
  rw [if_neg h1] at e
  by_cases h2 : isB (getT b) = false
  · rw [if_pos h2] at e; exact absurd (show (2 : Int) = 0 from congrArg Prod.snd e) (by decide)
  rw [if_neg h2] at e
  by_cases h3 : sizeB (getT b) (getX b) = 0
  · rw [if_pos h3] at e; exact absurd (show (3 : Int) = 0 from congrArg Prod.snd e) (by decide)
  rw [if_neg h3] at e
  by_cases h4 : (b.size : Int) < sizeB (getT b) (getX b)
  · rw [if_pos h4] at e; exact absurd (show (1 : Int) = 0 from congrArg Prod.snd e) (by decide)
  rw [if_neg h4] at e
  by_cases h5 : (byteAt b 4 : Int) < sizeB (getT b) (getX b) / 4 ∨ b.size < 4 * byteAt b 4
  · rw [if_pos h5] at e; exact absurd (show (4 : Int) = 0 from congrArg Prod.snd e) (by decide)
  have := h12 h3
  refine ⟨?_, ?_, ?_, ?_, ?_, ?_, ?_⟩ <;> omega
theorem covN_nn (b : ByteArray) (h : Hd) (ho : 0 ≤ h.off) (hc : covB b.size (4 * h.off) h.cs = true) : 0 ≤ covN b.size (4 * h.off) h.cs ∧ covN b.size (4 * h.off) h.cs ≤ b.size := by
  unfold covB at hc
  have := of_decide_eq_true hc
  refine ⟨?_, this.2.2.2.2⟩
  unfold covN
  split <;> omega
theorem getP_f (b : ByteArray) : pkt_Get.f 6000 b = some (flat (getP b)) := by
  unfold getP
  by_cases h0 : 2500 < b.size
  · rw [if_pos h0]; unfold pkt_Get.f; rw [if_pos (by omega)]; rfl
  rw [if_neg h0]
  obtain ⟨⟨h, E⟩, hg⟩ : ∃ p, getH b = p := ⟨_, rfl⟩
  rw [hg]
  have hgf : head_Get.f b = some (h.src, h.dst, h.off, h.cc, h.cs, h.sum, h.typ, h.x, h.seq, h.ack, h.serv, h.code, h.i0, h.i1, h.i2, E) := by
    unfold head_Get.f
    rw [if_pos (by omega), hg]
  dsimp only
  by_cases hE : E = 0
  case neg =>
    rw [if_pos hE]
    unfold pkt_Get.f
    exact (if_neg (by omega)).trans (obind hgf (if_neg hE))
  subst hE
  rw [if_neg (fun h => h rfl)]
  have hpl := getH_place b h hg
  have hw : wrap64 (4 * h.off) = 4 * h.off := by rw [wrap64_eq]; omega
  by_cases hc : covB b.size (4 * h.off) h.cs = false
  · rw [if_pos hc]
    unfold pkt_Get.f
    have hcov : sum_Covered.f (b.size : Int) (4 * h.off) h.cs = some (0, false) := by
      unfold sum_Covered.f
      rw [if_pos (by omega), hc]; rfl
    refine (if_neg (by omega)).trans (obind hgf ((if_pos rfl).trans ?_))
    rw [hw]
    exact obind hcov (if_neg (by decide))
  rw [if_neg hc]
  have hc := Bool.not_eq_false _ ▸ hc
  have hnn := covN_nn b h hpl.2.2.1 hc
  by_cases hs : sumAt b h ≠ 0
  · rw [if_pos hs]
    unfold pkt_Get.f
    have hcov : sum_Covered.f (b.size : Int) (4 * h.off) h.cs = some (covN b.size (4 * h.off) h.cs, true) := by
      unfold sum_Covered.f
      rw [if_pos (by omega), hc]; rfl
    refine (if_neg (by omega)).trans (obind hgf ((if_pos rfl).trans ?_))
    rw [hw]
    refine obind hcov ((if_pos rfl).trans ((if_pos hnn.1).trans ((if_pos hnn.2).trans ?_)))
    have hjo : joined [b.extract 0 (covN b.size (4 * h.off) h.cs).toNat] = (b.extract 0 (covN b.size (4 * h.off) h.cs).toNat).data.toList := by simp [joined]
    have hof : sum_Of.f [b.extract 0 (covN b.size (4 * h.off) h.cs).toNat] = some (sumAt b h : Nat) := by
      unfold sum_Of.f sumAt
      rw [hjo, if_pos]
      · rfl
      · refine ⟨?_, by simp⟩
        rw [len_size, ByteArray.size_extract]; omega
    exact obind hof (if_neg (by omega))
  rw [if_neg hs]
  have hs : sumAt b h = 0 := Decidable.not_not.1 hs
  have := pget_some 6000 b h (by omega) hg hc ⟨hpl.2.2.1, hpl.2.2.2.1⟩ hnn.1 hs hpl.1 hpl.2.1 (Nat.le_refl _)
  rw [this]
  unfold optsOf
  cases par (4 * h.off.toNat - (sizeB h.typ h.x).toNat) ((b.data.toList.drop (sizeB h.typ h.x).toNat).take (4 * h.off.toNat - (sizeB h.typ h.x).toNat)) false with
  | none => rfl
  | some l => rfl
end Go.Proofs.YtjlnbahanghhcaaGreatDoor.PkB

/- HeadLoose: bytes of a head that say nothing may be anything. No program in sight. -/
namespace Go.Proofs.YtjlnbahanghhcaaGreatDoor.PkB
set_option linter.unusedVariables false
set_option linter.unusedSimpArgs false

end Go.Proofs.YtjlnbahanghhcaaGreatDoor.PkB
