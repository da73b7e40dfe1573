/- CodeForms: the walk. -/
import Derived.Test.YtjlnbahanghhcaaGreatDoorWalkCodeAll
import Derived.Test.YtjlnbahanghhcaaGreatDoorRaw
namespace Go.Proofs.YtjlnbahanghhcaaGreatDoor
open Go.RowKit
set_option linter.unusedVariables false
set_option linter.unusedSimpArgs false
set_option maxRecDepth 100000 in
/-- a text of signs is what its code is written as. -/
theorem signs_back (l : List UInt8) (h : bySignsB l = true) : textOf (codeOf l) = l ∧ codeOf l < 4294967296 := by
  have hc : codeOf l = codeN l 4 := by unfold codeOf; rw [if_pos h]
  have hlt := codeN_lt l 4
  have e256 : (256 : Nat) ^ 4 = 4294967296 := by decide
  rw [e256] at hlt
  rw [hc]
  refine ⟨?_, hlt⟩
  unfold bySignsB at h
  rw [Bool.and_eq_true] at h
  obtain ⟨h1, h2⟩ := h
  have h1 := of_decide_eq_true h1
  have n32 : ∀ b : UInt8, b ∈ l → b.toNat ≠ 32 := fun b hb e => by
    have := List.all_eq_true.1 h2 b hb
    rw [e] at this
    exact absurd this (by decide)
  have e32 : ∀ b : UInt8, (b == 32) = decide (b.toNat = 32) := fun b => by
    rw [Bool.eq_iff_iff, beq_iff_eq, decide_eq_true_eq, ← UInt8.toNat_inj]; rfl
  have back : ∀ b : UInt8, UInt8.ofNat b.toNat = b := fun b => UInt8.ofNat_toNat
  have b32 : UInt8.ofNat 32 = 32 := rfl
  unfold textOf
  rw [be4]
  match l, h1 with
  | [a], _ =>
    have ha := n32 a (by simp)
    have la := UInt8.toNat_lt a
    have e : codeN [a] 4 = ((a.toNat * 256 + 32) * 256 + 32) * 256 + 32 := by simp [codeN, byteOr]
    rw [e, show (((a.toNat * 256 + 32) * 256 + 32) * 256 + 32) / 16777216 % 256 = a.toNat from by omega, show (((a.toNat * 256 + 32) * 256 + 32) * 256 + 32) / 65536 % 256 = 32 from by omega, show (((a.toNat * 256 + 32) * 256 + 32) * 256 + 32) / 256 % 256 = 32 from by omega, show (((a.toNat * 256 + 32) * 256 + 32) * 256 + 32) % 256 = 32 from by omega, back]
    unfold Lib.trimRightB
    simp only [List.reverse_cons, List.reverse_nil, List.nil_append, List.cons_append, List.dropWhile_cons, e32]
    simp [ha]
  | [a, b], _ =>
    have hb := n32 b (by simp)
    have la := UInt8.toNat_lt a
    have lb := UInt8.toNat_lt b
    have e : codeN [a, b] 4 = ((a.toNat * 256 + b.toNat) * 256 + 32) * 256 + 32 := by simp [codeN, byteOr]
    rw [e, show (((a.toNat * 256 + b.toNat) * 256 + 32) * 256 + 32) / 16777216 % 256 = a.toNat from by omega, show (((a.toNat * 256 + b.toNat) * 256 + 32) * 256 + 32) / 65536 % 256 = b.toNat from by omega, show (((a.toNat * 256 + b.toNat) * 256 + 32) * 256 + 32) / 256 % 256 = 32 from by omega, show (((a.toNat * 256 + b.toNat) * 256 + 32) * 256 + 32) % 256 = 32 from by omega, back, back]
    unfold Lib.trimRightB
    simp only [List.reverse_cons, List.reverse_nil, List.nil_append, List.cons_append, List.dropWhile_cons, e32]
    simp [hb]
  | [a, b, c], _ =>
    have hc' := n32 c (by simp)
    have la := UInt8.toNat_lt a
    have lb := UInt8.toNat_lt b
    have lc := UInt8.toNat_lt c
    have e : codeN [a, b, c] 4 = ((a.toNat * 256 + b.toNat) * 256 + c.toNat) * 256 + 32 := by simp [codeN, byteOr]
    rw [e, show (((a.toNat * 256 + b.toNat) * 256 + c.toNat) * 256 + 32) / 16777216 % 256 = a.toNat from by omega, show (((a.toNat * 256 + b.toNat) * 256 + c.toNat) * 256 + 32) / 65536 % 256 = b.toNat from by omega, show (((a.toNat * 256 + b.toNat) * 256 + c.toNat) * 256 + 32) / 256 % 256 = c.toNat from by omega, show (((a.toNat * 256 + b.toNat) * 256 + c.toNat) * 256 + 32) % 256 = 32 from by omega, back, back, back]
    unfold Lib.trimRightB
    simp only [List.reverse_cons, List.reverse_nil, List.nil_append, List.cons_append, List.dropWhile_cons, e32]
    simp [hc']
  | [a, b, c, d], _ =>
    have hd := n32 d (by simp)
    have la := UInt8.toNat_lt a
    have lb := UInt8.toNat_lt b
    have lc := UInt8.toNat_lt c
    have ld := UInt8.toNat_lt d
    have e : codeN [a, b, c, d] 4 = ((a.toNat * 256 + b.toNat) * 256 + c.toNat) * 256 + d.toNat := by simp [codeN, byteOr]
    rw [e, show (((a.toNat * 256 + b.toNat) * 256 + c.toNat) * 256 + d.toNat) / 16777216 % 256 = a.toNat from by omega, show (((a.toNat * 256 + b.toNat) * 256 + c.toNat) * 256 + d.toNat) / 65536 % 256 = b.toNat from by omega, show (((a.toNat * 256 + b.toNat) * 256 + c.toNat) * 256 + d.toNat) / 256 % 256 = c.toNat from by omega, show (((a.toNat * 256 + b.toNat) * 256 + c.toNat) * 256 + d.toNat) % 256 = d.toNat from by omega, back, back, back, back]
    unfold Lib.trimRightB
    simp only [List.reverse_cons, List.reverse_nil, List.nil_append, List.cons_append, List.dropWhile_cons, e32]
    simp [hd]
  | [], h => simp at h
  | _ :: _ :: _ :: _ :: _ :: _, h => simp at h
theorem serv_signs (t : ByteArray) : servOf (⟨#[83, 67, 58]⟩ ++ t : ByteArray).data.toList = (codeOf t.data.toList, bySignsB t.data.toList) := by
  have hl : (⟨#[83, 67, 58]⟩ ++ t : ByteArray).data.toList = 83 :: 67 :: 58 :: t.data.toList := by
    rw [ByteArray.data_append, Array.toList_append]; rfl
  rw [hl]
  unfold servOf
  rw [if_pos (by rw [pre3]; decide)]
  rfl
set_option maxHeartbeats 4000000 in
set_option maxRecDepth 100000 in
theorem CodeForms_walk (HB0 : ∀ W : World, Calls Tryz.prog 11 #[] W fun e w' => e = .returned (.bool true) ∧ Below W.heap.size W w') (c : Nat) (hc : c < 4294967296) (s : ByteArray) (hs : s.size ≤ 140737488351232) (n : Int) (hn0 : -9223372036854775808 ≤ n) (hn1 : n ≤ 9223372036854775807) (xb : Int) (x0 : 0 ≤ xb) (x1 : xb ≤ 255) (w : World) (htab : Lib.TabIs Tryz.prog w "internal/strconv.uint64pow10" .u64 Lib.pow10Tab) (ev : Value) (hv : w.cell? ⟨6, 0, none⟩ = some ev) (hev : ev = .nilIface ∨ ∃ te pe, ev = .iface te pe) :
    Calls Tryz.prog 8 #[.int .u32 c, .string s, .int .i64 n, .int .u8 xb] w fun e w' => e = .returned (.bool true) ∧ Below w.heap.size w w' := by
  have HB := hide HB0
  have HT := hide (fun W : World => law_Text s 6 W hs)
  obtain ⟨t, ht⟩ : ∃ t, s.extract 0 (min s.size 6) = t := ⟨_, rfl⟩
  have ht3 : t.size ≤ 6 := by rw [← ht, ByteArray.size_extract]; omega
  rw [ht] at HT
  replace HT : Hid (∀ W : World, Calls Tryz.prog 12 #[.string s, .int .i64 6] W fun e w' => e = .returned (.string t) ∧ W = w') := HT
  have hev2 := fun (W : World) (hb : Below w.heap.size w W) => (hb.cell (World.block_lt_of_cell? w _ hv)).trans hv
  have HS := hide (fun (z : ByteArray) (hz : z.size ≤ 1000) (W : World) (hb : Below w.heap.size w W) => code_Service_any z hz W ev (hev2 W hb) hev)
  have HR := hide (fun (z : ByteArray) (hz : z.size ≤ 1000) (W : World) => ref_Service_any z hz W)
  have HX : Hid (∀ (S : ByteArray), digP 16 0 S.data.toList = some c → 1 ≤ S.size → S.size ≤ 8 → ∀ W : World, Below w.heap.size w W → Calls Tryz.prog 30 #[.string (⟨#[83, 67, 61, 88]⟩ ++ S)] W fun e w' => e = .returned (.tuple #[.int .u32 (if c ≤ 4294967294 then c else 0 : Nat), .bool (decide (c ≤ 4294967294))]) ∧ Below W.heap.size W w') := hide (fun S h a b W hb => by
    have hh := code_Service_any (⟨#[83, 67, 61, 88]⟩ ++ S) (by rw [ByteArray.size_append]; show 4 + _ ≤ _; omega) W ev (hev2 W hb) hev
    rw [serv_hex c 88 (.inr rfl) S h a b] at hh
    exact hh)
  have HH := hide (fun W => law_Hex c hc W)
  have HDE := hide (fun W => ref_Decimal c (by omega) W)
  have HSD := hide (fun W => code_Service_dec c hc _ (dec_is c hc) W)
  have hDz : (⟨(Lib.decDigits c).toArray⟩ : ByteArray).size ≤ 20 := by
    have := dec_len20 c (by omega)
    rw [← size_bytes]; exact this
  have h3s : (⟨#[83, 67, 58]⟩ ++ t : ByteArray).size ≤ 1000 := by rw [ByteArray.size_append]; show 3 + _ ≤ _; omega
  have h1 := fun (W : World) (hb : Below w.heap.size w W) => code_Service_any (⟨#[83, 67, 58]⟩ ++ t) h3s W ev (hev2 W hb) hev
  have h2 := fun W => ref_Service_any (⟨#[83, 67, 58]⟩ ++ t) h3s W
  rw [serv_signs] at h1 h2
  have htx : bySignsB t.data.toList = true → ∀ (W : World), Below w.heap.size w W → Calls Tryz.prog 29 #[.int .u32 (codeOf t.data.toList)] W fun e w' => e = .returned (.string (⟨#[83, 67, 58]⟩ ++ t)) ∧ Below W.heap.size W w' := fun h W hb => by
    obtain ⟨e1, e2⟩ := signs_back _ h
    have := code_Text_any (codeOf t.data.toList) e2 W (Lib.tabBelow_of_tabIs htab W hb)
    have et : textC (codeOf t.data.toList) = ⟨#[83, 67, 58]⟩ ++ t := by
      unfold textC
      rw [e1, if_pos h]
    rw [et] at this
    exact this
  have hKM : decide (c ≤ 4294967294) = true → (if c ≤ 4294967294 then c else 0) = c := fun h => if_pos (of_decide_eq_true h)
  have hKN : ((c : Int) != 4294967295) = decide (c ≤ 4294967294) := by
    by_cases h : c ≤ 4294967294
    · rw [decide_eq_true h]; exact bne_iff_ne.2 (by omega)
    · rw [decide_eq_false h]
      obtain rfl : c = 4294967295 := by omega
      rfl
  generalize (⟨(Lib.decDigits c).toArray⟩ : ByteArray) = D at *
  generalize codeOf t.data.toList = R2 at *
  generalize bySignsB t.data.toList = F2 at *
  generalize (if c ≤ 4294967294 then c else 0) = M at *
  generalize decide (c ≤ 4294967294) = K at *
  have H1 := hide h1; have H2 := hide h2; have HKM := hide hKM; have HKN := hide hKN; have HTX := hide htx
  have hDi : (D.size : Int) ≤ 20 := by omega
  have hti : (t.size : Int) ≤ 6 := by omega
  clear h1 h2 hev2 ht hKM hKN htx htab hv HB0 h3s
  go_enter Tryz.func8, Tryz.ntmps8
  go_upto_region 4 with (go_at_call 11; refine (HB.out _).mono ?_; rintro e w1 ⟨rfl, hb1⟩)
  have HB1 := hide hb1
  clear hb1 HB
  go_upto_region 5 with (go_at_call 34; refine (HDE.out _).mono ?_; rintro e w2 ⟨rfl, hb2⟩)
  have HB2 := hide (HB1.out.trans (hb2.mono HB1.out.size))
  clear hb2 HB1 HDE
  go_upto_region 6 with (go_at_call 30; refine (HSD.out _).mono ?_; rintro e w3 ⟨rfl, hb3⟩)
  have HB3 := hide (HB2.out.trans (hb3.mono HB2.out.size))
  clear hb3 HB2 HSD
  go_upto_region 7 with (first | (go_at_call 33; refine (HH.out _).mono ?_; rintro e w4 ⟨⟨S, rfl, hS1, hS2, hS3⟩, rfl⟩; have hSi : (S.size : Int) ≤ 8 := (by omega)) | (go_at_call 30; refine (HX.out S hS1 hS2 hS3 _ HB3.out).mono ?_; rintro e w5 ⟨rfl, hb5⟩))
  have HB5 := hide (HB3.out.trans (hb5.mono HB3.out.size))
  clear hb5 HB3 HX HH hS1 hS2
  have hz5 := HB5.out.size
  have hk0 : (K != K) = false := by cases K <;> rfl
  have HKALL : Hid (K = true → ((M : Int) != (c : Int)) = false) := hide (fun h => by have := HKM.out h; rw [this]; simp)
  obtain ⟨zd, hzd⟩ : ∃ zd, (⟨#[83, 67, 61]⟩ ++ D : ByteArray) = zd := ⟨_, rfl⟩
  have hzz : zd.size = D.size + 3 := by rw [← hzd, ByteArray.size_append]; show 3 + D.size = _; omega
  have hz3 : 3 ≤ zd.size := by omega
  have hz23 : zd.size ≤ 23 := by omega
  clear hzz
  have hzi : (0 : Int) < (zd.size : Int) := by omega
  have hzi2 : (zd.size : Int) ≤ 23 := by omega
  obtain ⟨j, hj, ej⟩ : ∃ j : Nat, j < zd.size ∧ (wrap64 (n.tmod (zd.size : Int) + (zd.size : Int))).tmod (zd.size : Int) = (j : Int) := by
    obtain ⟨h1, h2⟩ := tmod_pos n (zd.size : Int) (by omega) (by omega)
    exact ⟨_, by omega, (Int.toNat_of_nonneg h1).symm⟩
  have hji : (j : Int) < (zd.size : Int) := by omega
  have hne : ((zd.size : Int) == 0) = false := beq_eq_false_iff_ne.2 (by omega)
  cases K
  all_goals
    have hk : ((c : Int) != 4294967295) = _ := HKN.out
    have hkm := HKALL.out
    try replace hkm := hkm rfl
    go_upto_region 9 with fail
    clear hk hkm hk0
    go_upto_region 10 with (refine wpList_bytes_of rfl (.tmp 65) rfl zd (by rw [← hzd]; rfl) ?_; intro cap2 w6 hraw hb6 hsz6)
    as_aux_lemma =>
      have hraw : Raw w6 w5.heap.size (zd.data.toList.map fun c => (c.toNat : Int)) := hraw
      have hll : (zd.data.toList.map fun c => (c.toNat : Int)).length = zd.size := by rw [List.length_map, Array.length_toList]; rfl
      generalize (zd.data.toList.map fun c => (c.toNat : Int)) = L at *
      have hjL : j < L.length := by omega
      obtain ⟨c0, hc0⟩ : ∃ c0, w6.cell? ⟨w5.heap.size, j, none⟩ = some (.int .u8 c0) := ⟨_, hraw.cell j hjL⟩
      have hf := hraw.frozen j hjL
      have HLL := hide hll
      have HB6 := hide (HB5.out.trans (hb6.mono hz5))
      clear hll hb6 hsz6 hzd
      go_upto_region 11 with fail
      have hraw2 := hraw.setCell j hjL xb
      have hb7 : Below w.heap.size w (w6.setCell ⟨w5.heap.size, j, none⟩ (.int .u8 xb)) := HB6.out.setCell (p := ⟨w5.heap.size, j, none⟩) hz5 _
      have hll2 : zd.size = (L.set j xb).length := by rw [List.length_set]; exact HLL.out.symm
      generalize (L.set j xb) = L2 at *
      generalize (w6.setCell ⟨w5.heap.size, j, none⟩ (.int .u8 xb)) = w7 at *
      obtain ⟨z, hz⟩ : ∃ z, strOfNums L2 = z := ⟨_, rfl⟩
      have hzs : z.size ≤ 1000 := by rw [← hz, strOfNums_size, ← hll2]; omega
      have HRW := hide hraw2; have HL2 := hide hll2; have HB7 := hide hb7; have HZ := hide hz
      have hs1 := fun (W : World) (hb : Below w.heap.size w W) => HS.out z hzs W hb
      have hr1 := fun (W : World) => HR.out z hzs W
      clear hraw hraw2 hll2 hb7 hc0 hf hjL HLL HB6 HB5 hz ej hj hji hne
      generalize (servOf z.data.toList).1 = R1 at *
      generalize (servOf z.data.toList).2 = F1 at *
      have HS1 := hide hs1; have HR1 := hide hr1
      clear hs1 hr1 HS HR
      go_upto_region 12 with (first | (refine wpList_bytes_back rfl (.tmp 81) rfl w5.heap.size cap2 zd.size L2 HL2.out rfl HRW.out ?_; rw [HZ.out]) | (go_at_call 30; refine (HS1.out _ HB7.out).mono ?_; rintro e w8 ⟨rfl, hb8⟩))
      have HRW8 := hide (HRW.out.below hb8 HRW.out.lt)
      have HB8 := hide (HB7.out.trans (hb8.mono HB7.out.size))
      clear hb8 HB7 HRW HS1
      go_upto_region 13 with (first | (refine wpList_bytes_back rfl (.tmp 87) rfl w5.heap.size cap2 zd.size L2 HL2.out rfl HRW8.out ?_; rw [HZ.out]) | (go_at_call 31; refine (HR1.out _).mono ?_; rintro e w9 ⟨rfl, rfl⟩))
      go_upto_region 14 with (go_at_call 12; refine (HT.out _).mono ?_; rintro e w9 ⟨rfl, rfl⟩)
      clear HRW8 HR1 HT
      go_upto_region 15 with (go_at_call 30; refine (H1.out _ HB8.out).mono ?_; rintro e w10 ⟨rfl, hb10⟩)
      have HB10 := hide (HB8.out.trans (hb10.mono HB8.out.size))
      clear hb10 HB8 H1
      go_upto_region 16 with (go_at_call 31; refine (H2.out _).mono ?_; rintro e w11 ⟨rfl, rfl⟩)
      clear H2
      have r1 : ((R1 : Int) == (R1 : Int)) = true := by simp
      have r2 : ((R2 : Int) == (R2 : Int)) = true := by simp
      have f1 : (F1 == F1) = true := by cases F1 <;> rfl
      cases F2
      · as_aux_lemma =>
          go_wp2
          all_goals go_ret
          all_goals exact ⟨rfl, HB10.out⟩
      · have HX2 := hide (HTX.out rfl)
        have hz10 := HB10.out.size
        as_aux_lemma =>
          go_wp2_with (go_at_call 29; refine (HX2.out _ HB10.out).mono ?_; rintro e w12 ⟨rfl, hb12⟩)
          all_goals go_ret
          all_goals exact ⟨rfl, HB10.out.trans (hb12.mono hz10)⟩
theorem CodeForms_row (HB0 : ∀ W : World, Calls Tryz.prog 11 #[] W fun e w' => e = .returned (.bool true) ∧ Below W.heap.size W w') (c : Int) (hc : 0 ≤ c ∧ c ≤ 4294967295) (s : ByteArray) (hs : s.size ≤ 140737488351232) (n : Int) (hn : -9223372036854775808 ≤ n ∧ n ≤ 9223372036854775807) (xb : Int) (hx : 0 ≤ xb ∧ xb ≤ 255) (w : World) (hl : laidMetH Tryz.prog theLaid w) :
    Calls Tryz.prog 8 #[.int .u32 c, .string s, .int .i64 n, .int .u8 xb] w fun e w' => e = .returned (.bool true) ∧ Below w.heap.size w w' := by
  obtain ⟨c, rfl⟩ := Int.eq_ofNat_of_zero_le hc.1
  obtain ⟨ev, hv, hev⟩ := err_syntax w hl
  exact CodeForms_walk HB0 c (by omega) s hs n hn.1 hn.2 xb hx.1 hx.2 w (tab10 w hl) ev hv hev
end Go.Proofs.YtjlnbahanghhcaaGreatDoor
