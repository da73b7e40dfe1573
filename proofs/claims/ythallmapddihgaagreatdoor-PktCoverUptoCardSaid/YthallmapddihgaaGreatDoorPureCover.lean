/- PktCover: a byte behind the head and the options that is turned: plain. -/
import Derived.Test.YthallmapddihgaaGreatDoorGetP
import Derived.Test.YthallmapddihgaaGreatDoorPureHeadLoose
namespace Go.Proofs.YthallmapddihgaaGreatDoor.PkB
open Go.RowKit Go.Proofs.YthallmapddihgaaGreatDoor.PoptGet Go.Proofs.YthallmapddihgaaGreatDoor.PkF Go.Proofs.YthallmapddihgaaGreatDoorW.PrintWords Go.Proofs.YthallmapddihgaaGreatDoorW.PrintLast Go.Proofs.YthallmapddihgaaGreatDoorW.PrintMore
set_option linter.unusedVariables false
set_option linter.unusedSimpArgs false

/-- bytes of which the k-th is v. -/
def setB (b : ByteArray) (k : Nat) (v : UInt8) : ByteArray := mkB (b.data.toList.set k v)
theorem setB_list (b : ByteArray) (k : Nat) (v : UInt8) : (setB b k v).data.toList = b.data.toList.set k v := by unfold setB; simp [mkB]
theorem setB_size (b : ByteArray) (k : Nat) (v : UInt8) : (setB b k v).size = b.size := by rw [← len_size, setB_list, List.length_set, len_size]
theorem setB_byte (b : ByteArray) (k : Nat) (v : UInt8) (i : Nat) (h : i ≠ k) : byteAt (setB b k v) i = byteAt b i := by
  unfold byteAt
  rw [setB_list, List.getD_eq_getElem?_getD, List.getD_eq_getElem?_getD, List.getElem?_set_ne (by omega)]
theorem getHd_congr (b c : ByteArray) (hs : c.size = b.size) (T : Nat) (x : Bool) (h0 : 12 ≤ sizeB T x) (hz : ∀ i : Nat, (i : Int) < sizeB T x → byteAt c i = byteAt b i) : getHd c T x = getHd b T x := by
  have hsz : sizeB T x = (if x then 16 else 12) + (if ackB T then (if x then 8 else 4) else 0) + (if servB T ∨ (T : Int) = 7 then 4 else 0) := by
    unfold sizeB at h0 ⊢
    split at h0
    · omega
    · rw [if_neg (by assumption)]
  have hx : x = true → 16 ≤ sizeB T x := fun e => by rw [hsz, e]; simp only [if_true]; split <;> split <;> omega
  have ha : ackB T = true → ((if x then 24 else 16 : Nat) : Int) ≤ sizeB T x := fun e => by rw [hsz, e]; cases x <;> simp <;> split <;> omega
  have hm : (servB T = true ∨ (T : Int) = 7) → ((moreAt T x + 4 : Nat) : Int) ≤ sizeB T x := fun e => by
    rw [hsz, if_pos e]; unfold moreAt ackAt
    cases x <;> cases ackB T <;> simp
  have e : ∀ i j : Nat, (j : Int) ≤ sizeB T x → numAt c i j = numAt b i j := fun i j hj => numAt_congr b c hs i j (fun k _ hk => hz k (by omega))
  unfold getHd
  simp only [Hd.mk.injEq]
  have e1 := e 0 2 (by omega)
  have e2 := e 2 4 (by omega)
  have e3 := hz 4 (by omega)
  have e4 := hz 5 (by omega)
  have e5 := e 6 8 (by omega)
  refine ⟨by rw [e1], by rw [e2], by rw [e3], by rw [e4], by rw [e4], by rw [e5], trivial, trivial, ?_, ?_, ?_, ?_, ?_, ?_, ?_⟩
  · cases x with
    | false => simp only [Bool.false_eq_true, if_false]; rw [e 9 12 (by omega)]
    | true => simp only [if_true]; rw [e 10 16 (hx rfl)]
  · by_cases h : ackB T = true
    · rw [if_pos h, if_pos h]
      have := ha h
      cases x with
      | false => simp only [Bool.false_eq_true, if_false] at this ⊢; rw [e 13 16 this]
      | true => simp only [if_true] at this ⊢; rw [e 17 24 this]
    · rw [if_neg h, if_neg h]
  · by_cases h : servB T = true
    · rw [if_pos h, if_pos h, e _ _ (hm (.inl h))]
    · rw [if_neg h, if_neg h]
  · by_cases h : T = 7
    · rw [if_pos h, if_pos h, hz _ (by have := hm (.inr (by omega)); omega)]
    · rw [if_neg h, if_neg h]
  · by_cases h : T = 7
    · rw [if_pos h, if_pos h, hz _ (by have := hm (.inr (by omega)); omega)]
    · rw [if_neg h, if_neg h]
  · by_cases h : T = 7
    · rw [if_pos h, if_pos h, hz _ (by have := hm (.inr (by omega)); omega)]
    · rw [if_neg h, if_neg h]
  · by_cases h : T = 7
    · rw [if_pos h, if_pos h, hz _ (by have := hm (.inr (by omega)); omega)]
    · rw [if_neg h, if_neg h]
theorem getH_same (b c : ByteArray) (h : Hd) (hg : getH b = (h, 0)) (hs : c.size = b.size) (hz : ∀ i : Nat, (i : Int) < 4 * h.off → byteAt c i = byteAt b i) : getH c = (h, 0) := by
  have hp := getH_place b h hg
  obtain ⟨ht, hx⟩ := getH_tx b h hg
  have e8 := hz 8 (by omega)
  have e4 := hz 4 (by omega)
  have hT : getT c = getT b := by unfold getT; rw [e8]
  have hX : getX c = getX b := by unfold getX; rw [e8]
  have hc := getHd_congr b c hs (getT b) (getX b) (by rw [ht, hx]; omega) (fun i hi => hz i (by rw [ht, hx] at hi; omega))
  rw [← hg]
  unfold getH
  rw [hs, hT, hX, e4, hc]
theorem sum_set (l : List UInt8) (k : Nat) (h : k < l.length) (v : UInt8) (hv : v ≠ l[k]) : Sum.sum l ≠ Sum.sum (l.set k v) := by
  have hw := Sum.wt_set v l k 0 h
  have hne : v.toNat ≠ l[k].toNat := fun e => hv (UInt8.toNat_inj.1 e)
  have h1 := v.toNat_lt
  have h2 := l[k].toNat_lt
  by_cases hk : (0 + k) % 2 = 0
  · rw [if_pos hk] at hw
    by_cases hl : v.toNat < l[k].toNat
    · exact (Sum.apart (Sum.wt 0 l) (Sum.wt 0 (l.set k v)) ((l[k].toNat - v.toNat) * 256) (by omega) (by omega) (.inr (by omega))).1
    · exact (Sum.apart (Sum.wt 0 l) (Sum.wt 0 (l.set k v)) ((v.toNat - l[k].toNat) * 256) (by omega) (by omega) (.inl (by omega))).1
  · rw [if_neg hk] at hw
    by_cases hl : v.toNat < l[k].toNat
    · exact (Sum.apart (Sum.wt 0 l) (Sum.wt 0 (l.set k v)) (l[k].toNat - v.toNat) (by omega) (by omega) (.inr (by omega))).1
    · exact (Sum.apart (Sum.wt 0 l) (Sum.wt 0 (l.set k v)) (v.toNat - l[k].toNat) (by omega) (by omega) (.inl (by omega))).1
theorem getP_ok (b : ByteArray) (h : Hd) (l : List SO) (d : ByteArray) (e : getP b = (h, l, d, 0)) : b.size ≤ 2500 ∧ getH b = (h, 0) ∧ covB b.size (4 * h.off) h.cs = true ∧ sumAt b h = 0 ∧ optsOf b h = some l ∧ d = b.extract (4 * h.off).toNat b.size := by
  unfold getP at e
  by_cases h0 : 2500 < b.size
  · rw [if_pos h0] at e; exact absurd (show (13 : Int) = 0 from congrArg (fun q => q.2.2.2) e) (by decide)
  rw [if_neg h0] at e
  obtain ⟨⟨g, E⟩, hg⟩ : ∃ p, getH b = p := ⟨_, rfl⟩
  rw [hg] at e ⊢
  dsimp only at e
  by_cases hE : E = 0
  case neg => rw [if_pos hE] at e; exact absurd (show E = 0 from congrArg (fun q => q.2.2.2) e) hE
  subst hE
  rw [if_neg (fun h => h rfl)] at e
  by_cases hc : covB b.size (4 * g.off) g.cs = false
  · rw [if_pos hc] at e; exact absurd (show (5 : Int) = 0 from congrArg (fun q => q.2.2.2) e) (by decide)
  rw [if_neg hc] at e
  by_cases hs : sumAt b g ≠ 0
  · rw [if_pos hs] at e; exact absurd (show (6 : Int) = 0 from congrArg (fun q => q.2.2.2) e) (by decide)
  rw [if_neg hs] at e
  cases ho : optsOf b g with
  | none => rw [ho] at e; exact absurd (show (7 : Int) = 0 from congrArg (fun q => q.2.2.2) e) (by decide)
  | some m =>
    rw [ho] at e
    have e1 : g = h := congrArg (fun q => q.1) e
    have e2 : m = l := congrArg (fun q => q.2.1) e
    have e3 : b.extract (4 * g.off).toNat b.size = d := congrArg (fun q => q.2.2.1) e
    subst e1; subst e2
    exact ⟨by omega, rfl, Bool.not_eq_false _ ▸ hc, Decidable.not_not.1 hs, ho, e3.symm⟩
theorem get_turn (b : ByteArray) (h : Hd) (l : List SO) (d : ByteArray) (e : getP b = (h, l, d, 0)) (hcs : 0 < h.cs) (k : Nat) (hko : 4 * h.off ≤ (k : Int)) (hk : k < b.size) (v : UInt8) (hv : v.toNat ≠ byteAt b k) :
    ((k : Int) < 4 * h.off + 4 * (h.cs - 1) → getP (setB b k v) = (hd0, [], ⟨#[]⟩, 6)) ∧ (4 * h.off + 4 * (h.cs - 1) ≤ (k : Int) → ∃ d', d' ≠ d ∧ d'.size = d.size ∧ getP (setB b k v) = (h, l, d', 0)) := by
  obtain ⟨hz, hg, hc, hs, ho, hd⟩ := getP_ok b h l d e
  have hp := getH_place b h hg
  have hnn := covN_nn b h hp.2.2.1 hc
  have hcn : covN b.size (4 * h.off) h.cs = 4 * h.off + 4 * (h.cs - 1) := by unfold covN; rw [if_pos hcs]
  rw [hcn] at hnn
  have hkl : k < b.data.toList.length := by rw [len_size]; exact hk
  have hv' : v ≠ b.data.toList[k] := fun h => hv (by rw [h]; unfold byteAt; rw [List.getD_eq_getElem?_getD, List.getElem?_eq_getElem hkl]; rfl)
  have hsz := setB_size b k v
  have hgc : getH (setB b k v) = (h, 0) := getH_same b _ h hg hsz (fun i hi => setB_byte b k v i (by omega))
  have hopt : optsOf (setB b k v) h = some l := by
    rw [← ho]; unfold optsOf; rw [setB_list]
    congr 1
    rw [List.drop_set, if_neg (by omega), List.take_set_of_le (by omega)]
  unfold getP
  rw [hsz, hgc]
  dsimp only
  constructor
  · intro hlt
    rw [if_neg (by omega), if_neg (fun h => h rfl), if_neg (by rw [hc]; decide), if_pos]
    unfold sumAt
    rw [hsz, hcn, ext_list, setB_list, List.drop_zero, List.take_set]
    have hs2 := hs
    unfold sumAt at hs2
    rw [hcn, ext_list, List.drop_zero] at hs2
    have hkt : k < (b.data.toList.take ((4 * h.off + 4 * (h.cs - 1)).toNat - 0)).length := by rw [List.length_take, len_size]; omega
    have := sum_set _ k hkt v (by rw [List.getElem_take]; exact hv')
    rw [hs2] at this
    exact fun h => this h.symm
  · intro hge
    refine ⟨(setB b k v).extract (4 * h.off).toNat b.size, ?_, ?_, ?_⟩
    · rw [hd]
      intro h1
      have h2 := congrArg (fun q : ByteArray => q.data.toList) h1
      try dsimp only at h2
      rw [ext_list, ext_list, setB_list] at h2
      have h3 := congrArg (fun q : List UInt8 => q[k - (4 * h.off).toNat]?) h2
      try dsimp only at h3
      rw [List.getElem?_take_of_lt (by omega), List.getElem?_take_of_lt (by omega), List.getElem?_drop, List.getElem?_drop, show (4 * h.off).toNat + (k - (4 * h.off).toNat) = k from by omega, List.getElem?_set_self hkl, List.getElem?_eq_getElem hkl] at h3
      exact hv' (Option.some.inj h3)
    · rw [hd, ByteArray.size_extract, ByteArray.size_extract, hsz]
    · have hsum : sumAt (setB b k v) h = 0 := by
        rw [← hs]; unfold sumAt
        rw [hsz, hcn, ext_list, ext_list, setB_list, List.drop_zero, List.drop_zero, List.take_set_of_le (by omega)]
      rw [if_neg (by omega), if_neg (fun h => h rfl), if_neg (by rw [hc]; decide), if_neg (fun h => h hsum), hopt]
theorem flat_inj (p q : Hd × List SO × ByteArray × Int) (e : flat p = flat q) : p = q := by
  obtain ⟨⟨a1, a2, a3, a4, a5, a6, a7, a8, a9, a10, a11, a12, a13, a14, a15⟩, l, d, E⟩ := p
  obtain ⟨⟨b1, b2, b3, b4, b5, b6, b7, b8, b9, b10, b11, b12, b13, b14, b15⟩, m, f, F⟩ := q
  unfold flat at e
  simp only [Prod.mk.injEq] at e
  obtain ⟨rfl, rfl, rfl, rfl, rfl, rfl, rfl, rfl, rfl, rfl, rfl, rfl, rfl, rfl, rfl, rfl, rfl, rfl⟩ := e
  rfl
/-- what a packet that was written is read as. -/
theorem put_back_getP (h : Hd) (hk : okH h = true) (os : List Op) (d : ByteArray) (he : errP h os d = 0) :
    ∃ N S : Nat, (nOf h os) = 4 * N ∧ N ≤ 255 ∧ S ≤ 65535 ∧ (putP h os d).2 = 0 ∧ (putP h os d).1.size = 4 * N + d.size ∧ d.size ≤ 1400 ∧
      getP (putP h os d).1 = match scan (os.map fun o => (⟨o.typ, o.data⟩ : SO)) false with
        | none => (hd0, [], ⟨#[]⟩, 7)
        | some l => ({ h with off := (N : Nat), sum := (S : Nat) }, l, d, 0) := by
  obtain ⟨hm, _, hn1, hn2, hn3, _⟩ := err_none h os d he
  have hbd := may_bounds hm
  have hk2 := hk
  unfold okH at hk2
  have hk2 := of_decide_eq_true hk2
  obtain ⟨src, dst, off, cc, cs, sum, typ, x, seq, ack, serv, code, i0, i1, i2⟩ := h
  dsimp only at *
  obtain ⟨src, rfl⟩ := Int.eq_ofNat_of_zero_le hbd.1
  obtain ⟨dst, rfl⟩ := Int.eq_ofNat_of_zero_le hbd.2.2.1
  obtain ⟨cc, rfl⟩ := Int.eq_ofNat_of_zero_le (show 0 ≤ cc by omega)
  obtain ⟨cs, rfl⟩ := Int.eq_ofNat_of_zero_le (show 0 ≤ cs by omega)
  obtain ⟨typ, rfl⟩ := Int.eq_ofNat_of_zero_le (show 0 ≤ typ by omega)
  obtain ⟨seq, rfl⟩ := Int.eq_ofNat_of_zero_le (show 0 ≤ seq by omega)
  obtain ⟨ack, rfl⟩ := Int.eq_ofNat_of_zero_le (show 0 ≤ ack by omega)
  obtain ⟨serv, rfl⟩ := Int.eq_ofNat_of_zero_le (show 0 ≤ serv by omega)
  obtain ⟨code, rfl⟩ := Int.eq_ofNat_of_zero_le (show 0 ≤ code by omega)
  obtain ⟨i0, rfl⟩ := Int.eq_ofNat_of_zero_le (show 0 ≤ i0 by omega)
  obtain ⟨i1, rfl⟩ := Int.eq_ofNat_of_zero_le (show 0 ≤ i1 by omega)
  obtain ⟨i2, rfl⟩ := Int.eq_ofNat_of_zero_le (show 0 ≤ i2 by omega)
  have hmap : (os.map fun o => (⟨o.typ, o.data⟩ : SO)).map ofS = os := by
    rw [List.map_map]
    exact (List.map_congr_left (g := id) (fun x _ => rfl)).trans (List.map_id os)
  obtain ⟨N, S, hN, hN2, hS2, hsz, hg, hs, hf⟩ := pkt_back 6000 src dst cc cs typ off sum x seq ack serv code i0 i1 i2 (os.map fun o => (⟨o.typ, o.data⟩ : SO)) d (Nat.le_refl _) (by omega) (by omega) (by omega) (by omega) (by rw [hmap]; exact he)
  rw [hmap] at hN hsz hg hs hf
  refine ⟨N, S, hN, hN2, hS2, ?_, hsz, hn2, ?_⟩
  · unfold putP; rw [if_pos he]
  · rw [getP_f] at hf
    cases hsc : scan (os.map fun o => (⟨o.typ, o.data⟩ : SO)) false with
    | none => rw [hsc] at hf; exact flat_inj _ (hd0, [], ⟨#[]⟩, 7) (Option.some.inj hf)
    | some l => rw [hsc] at hf; exact flat_inj _ (⟨src, dst, (N : Nat), cc, cs, (S : Nat), typ, x, seq, ack, serv, code, i0, i1, i2⟩, l, d, 0) (Option.some.inj hf)
end Go.Proofs.YthallmapddihgaaGreatDoor.PkB
