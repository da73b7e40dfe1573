/- PktBit: a bit that is turned is seen, in plain data. -/
import Derived.Test.YthallmapddihgaaGreatDoorPackBack
import Derived.Test.YthallmapddihgaaGreatDoorTurn
import Derived.Test.YthallmapddihgaaGreatDoorText
namespace Go.Proofs.YthallmapddihgaaGreatDoor
open Go.RowKit
set_option linter.unusedVariables false
set_option linter.unusedSimpArgs false

/-- what a head that is read says of the bytes. -/
theorem getH_says (b : ByteArray) (h : Hd) (hg : getH b = (h, 0)) : 12 ≤ b.size ∧ h.cs = (byteAt b 5 % 16 : Nat) ∧ h.off = (byteAt b 4 : Nat) := by
  unfold getH at hg
  by_cases h1 : b.size < 12
  · rw [if_pos h1] at hg; exact absurd (show (1 : Int) = 0 from congrArg Prod.snd hg) (by decide)
  rw [if_neg h1] at hg
  by_cases h2 : isB (getT b) = false
  · rw [if_pos h2] at hg; exact absurd (show (2 : Int) = 0 from congrArg Prod.snd hg) (by decide)
  rw [if_neg h2] at hg
  by_cases h3 : sizeB (getT b) (getX b) = 0
  · rw [if_pos h3] at hg; exact absurd (show (3 : Int) = 0 from congrArg Prod.snd hg) (by decide)
  rw [if_neg h3] at hg
  by_cases h4 : (b.size : Int) < sizeB (getT b) (getX b)
  · rw [if_pos h4] at hg; exact absurd (show (1 : Int) = 0 from congrArg Prod.snd hg) (by decide)
  rw [if_neg h4] at hg
  by_cases h5 : (byteAt b 4 : Int) < sizeB (getT b) (getX b) / 4 ∨ b.size < 4 * byteAt b 4
  · rw [if_pos h5] at hg; exact absurd (show (4 : Int) = 0 from congrArg Prod.snd hg) (by decide)
  rw [if_neg h5] at hg
  have e := congrArg Prod.fst hg
  dsimp only at e
  subst e
  exact ⟨by omega, rfl, rfl⟩
/-- bytes of which one bit is turned. -/
def turned (b : ByteArray) (k r : Nat) : List Int := (b.data.toList.map fun c => (c.toNat : Int)).set k (bits BinOp.xor IntKind.u8 ((b.data.toList.map fun c => (c.toNat : Int)).getD k 0) (IntKind.u8.wrap (2 ^ r)))
theorem turned_list (b : ByteArray) (k r : Nat) (hk : k < b.size) (hr : r < 8) : ∃ c : UInt8, (strOfNums (turned b k r)).data.toList = b.data.toList.set k c ∧ ∃ h : k < b.data.toList.length, (c.toNat = b.data.toList[k].toNat + 2 ^ r ∨ b.data.toList[k].toNat = c.toNat + 2 ^ r) := by
  have hk' : k < b.data.toList.length := by rw [size_bytes]; exact hk
  obtain ⟨c, hc, h2⟩ := Sum.xor_turn ⟨b.data.toList[k].toNat, b.data.toList[k].toNat_lt⟩ ⟨r, hr⟩
  simp only at hc h2
  have he : (b.data.toList.map fun c => (c.toNat : Int)).getD k 0 = ((b.data.toList[k].toNat : Nat) : Int) := by
    rw [List.getD_eq_getElem?_getD, List.getElem?_map, List.getElem?_eq_getElem hk']; rfl
  have hv : (UInt8.ofNat c.val).toNat = c.val := by
    have := c.isLt
    simp [UInt8.toNat_ofNat]
  refine ⟨UInt8.ofNat c.val, ?_, hk', by rw [hv]; exact h2⟩
  unfold turned
  rw [he, hc, strOfNums_data, List.map_set, List.map_map]
  congr 1
  rw [List.map_congr_left (g := id) (fun x _ => by simp), List.map_id]
theorem two_16 : ∀ r : Fin 8, 4 ≤ r.val → 2 ^ r.val % 16 = 0 := by decide
theorem turned_says (b : ByteArray) (k r : Nat) (hk : k < b.size) (hr : r < 8) (hx : ¬ (k = 5 ∧ r < 4)) (hs : Sum.sum b.data.toList = 0) :
    (strOfNums (turned b k r)).size = b.size ∧ byteAt (strOfNums (turned b k r)) 5 % 16 = byteAt b 5 % 16 ∧ Sum.sum (strOfNums (turned b k r)).data.toList ≠ 0 := by
  obtain ⟨c, hl, hk', hc⟩ := turned_list b k r hk hr
  refine ⟨?_, ?_, ?_⟩
  · rw [← size_bytes, hl, List.length_set, size_bytes]
  · unfold byteAt
    rw [hl]
    by_cases h5 : k = 5
    · subst h5
      have h16 := two_16 ⟨r, hr⟩ (by show 4 ≤ r; omega)
      dsimp only at h16
      rw [List.getD_eq_getElem?_getD, List.getD_eq_getElem?_getD, List.getElem?_set_self hk', List.getElem?_eq_getElem hk']
      show c.toNat % 16 = b.data.toList[5].toNat % 16
      omega
    · rw [List.getD_eq_getElem?_getD, List.getD_eq_getElem?_getD, List.getElem?_set_ne h5]
  · rw [hl]
    have h := (Sum.sum_turn_bit b.data.toList k hk' c (2 ^ r) (Sum.pow_le r hr) hc).1
    rw [hs] at h
    exact fun h0 => h h0.symm
theorem get_bit (b : ByteArray) (hs : b.size ≤ 2500) (hsum : Sum.sum b.data.toList = 0) (h5 : byteAt b 5 % 16 = 0) (k r : Nat) (hk : k < b.size) (hr : r < 8) (hx : ¬ (k = 5 ∧ r < 4)) (W : World) :
    Calls Tryz.prog 38 #[.string (strOfNums (turned b k r))] W fun e w' => ∃ E : Int, e = .returned (.tuple #[.agg Z39, .int .i64 E]) ∧ E ≠ 0 ∧ Below W.heap.size W w' := by
  obtain ⟨h1, h2, h3⟩ := turned_says b k r hk hr hx hsum
  rw [h5] at h2
  generalize strOfNums (turned b k r) = u at *
  obtain ⟨⟨h, E⟩, hg⟩ : ∃ p, getH u = p := ⟨_, rfl⟩
  by_cases hE : E = 0
  · subst hE
    obtain ⟨_, hc, ho⟩ := getH_says u h hg
    have hb4 := byteAt_lt u 4
    rw [h2] at hc
    obtain ⟨src, dst, off, cc, cs, sum, typ, x, seq, ack, serv, code, i0, i1, i2⟩ := h
    dsimp only at hc ho
    obtain rfl : cs = 0 := by omega
    rcases hcov : covB u.size (4 * off) 0 with _ | _
    · exact (pkt_Get_cov u (by omega) src dst off cc 0 sum typ x seq ack serv code i0 i1 i2 hg (by omega) (by omega) hcov W).mono fun e w' hq => ⟨5, hq.1, by decide, hq.2⟩
    · have hn : (covN (u.size : Int) (4 * off) 0).toNat = u.size := by unfold covN; rw [if_neg (by decide)]; rfl
      exact (pkt_Get_sum u (by omega) src dst off cc 0 sum typ x seq ack serv code i0 i1 i2 hg (by omega) (by omega) hcov (by rw [hn, extract_all]; exact h3) W).mono fun e w' hq => ⟨6, hq.1, by decide, hq.2⟩
  · exact (pkt_Get_head u (by omega) h E hg hE W).mono fun e w' hq => ⟨E, hq.1, hE, hq.2⟩
/-- a packet that was written, all of it covered. -/
theorem put_says (h : Hd) (hk : okH h = true) (os : List Op) (d : ByteArray) (hc : h.cs = 0) (he : errP h os d = 0) :
    (putP h os d).1.size ≤ 2500 ∧ 12 ≤ (putP h os d).1.size ∧ Sum.sum (putP h os d).1.data.toList = 0 ∧ byteAt (putP h os d).1 5 % 16 = 0 ∧ (putP h os d).2 = 0 := by
  obtain ⟨hm, _, hn1, hn2, hn3, _⟩ := PkB.err_none h os d he
  have hbd := may_bounds hm
  have hk2 := hk
  unfold okH at hk2
  have hk2 := of_decide_eq_true hk2
  obtain ⟨src, dst, off, cc, cs, sum, typ, x, seq, ack, serv, code, i0, i1, i2⟩ := h
  dsimp only at *
  subst hc
  obtain ⟨src, rfl⟩ := Int.eq_ofNat_of_zero_le hbd.1
  obtain ⟨dst, rfl⟩ := Int.eq_ofNat_of_zero_le hbd.2.2.1
  obtain ⟨cc, rfl⟩ := Int.eq_ofNat_of_zero_le (show 0 ≤ cc by omega)
  obtain ⟨typ, rfl⟩ := Int.eq_ofNat_of_zero_le (show 0 ≤ typ by omega)
  obtain ⟨seq, rfl⟩ := Int.eq_ofNat_of_zero_le (show 0 ≤ seq by omega)
  obtain ⟨ack, rfl⟩ := Int.eq_ofNat_of_zero_le (show 0 ≤ ack by omega)
  obtain ⟨serv, rfl⟩ := Int.eq_ofNat_of_zero_le (show 0 ≤ serv by omega)
  obtain ⟨code, rfl⟩ := Int.eq_ofNat_of_zero_le (show 0 ≤ code by omega)
  obtain ⟨i0, rfl⟩ := Int.eq_ofNat_of_zero_le (show 0 ≤ i0 by omega)
  obtain ⟨i1, rfl⟩ := Int.eq_ofNat_of_zero_le (show 0 ≤ i1 by omega)
  obtain ⟨i2, rfl⟩ := Int.eq_ofNat_of_zero_le (show 0 ≤ i2 by omega)
  have hmap : (os.map fun o => (⟨o.typ, o.data⟩ : PoptGet.S45)).map PkB.ofS = os := by
    rw [List.map_map]
    exact (List.map_congr_left (g := id) (fun x _ => rfl)).trans (List.map_id os)
  obtain ⟨N, S, hN, hN2, hS2, hsz, hg, hs, _⟩ := PkB.pkt_back 6000 src dst cc 0 typ off sum x seq ack serv code i0 i1 i2 (os.map fun o => (⟨o.typ, o.data⟩ : PoptGet.S45)) d (Nat.le_refl _) (by omega) (by omega) (by omega) (by omega) (by rw [hmap]; exact he)
  rw [hmap] at hN hsz hg hs
  have h0 : ((0 : Nat) : Int) = 0 := rfl
  rw [h0] at hN hsz hg hs
  have hsay := getH_says _ _ hg
  dsimp only at hsay
  refine ⟨by omega, hsay.1, ?_, by have := hsay.2.1; omega, ?_⟩
  · have hn : (covN ((putP ⟨src, dst, off, cc, 0, sum, typ, x, seq, ack, serv, code, i0, i1, i2⟩ os d).1.size : Int) (4 * ((N : Nat) : Int)) 0).toNat = (putP ⟨src, dst, off, cc, 0, sum, typ, x, seq, ack, serv, code, i0, i1, i2⟩ os d).1.size := by unfold covN; rw [if_neg (by decide)]; rfl
    rw [hn, extract_all] at hs
    exact hs
  · unfold putP; rw [if_pos he]
end Go.Proofs.YthallmapddihgaaGreatDoor
