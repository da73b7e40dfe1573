/- CodeAll: the walk. -/
import Derived.Test.YtjlnbahanghhcaaGreatDoorRefServAny
import Derived.Test.YtjlnbahanghhcaaGreatDoorCodeText
import Derived.Test.YtjlnbahanghhcaaGreatDoorHex
import Derived.Test.YtjlnbahanghhcaaGreatDoorText
import Derived.Test.YtjlnbahanghhcaaGreatDoorRowErr
namespace Go.Proofs.YtjlnbahanghhcaaGreatDoor
open Go.RowKit
set_option linter.unusedVariables false
set_option linter.unusedSimpArgs false
theorem serv_hex (c : Nat) (x : UInt8) (hx : x = 120 ∨ x = 88) (S : ByteArray) (h : digP 16 0 S.data.toList = some c) (h1 : 1 ≤ S.size) (h8 : S.size ≤ 8) :
    servOf (⟨#[83, 67, 61, x]⟩ ++ S : ByteArray).data.toList = (if c ≤ 4294967294 then c else 0, decide (c ≤ 4294967294)) := by
  have hl : (⟨#[83, 67, 61, x]⟩ ++ S : ByteArray).data.toList = 83 :: 67 :: 61 :: x :: S.data.toList := by
    rw [ByteArray.data_append, Array.toList_append]; rfl
  have hs := size_bytes S
  rw [hl]
  unfold servOf
  rw [if_neg (by rw [pre3]; decide), if_pos (by rw [pre3]; decide)]
  show numOf (x :: S.data.toList) = _
  unfold numOf
  rw [if_pos (by rcases hx with rfl | rfl <;> simp [Lib.hasPrefix, List.isPrefixOf])]
  show numberOf 16 8 S.data.toList = _
  unfold numberOf
  rw [if_pos (by omega), h]
  simp only
  by_cases hc : c ≤ 4294967294
  · rw [if_pos hc, if_pos hc, decide_eq_true hc]
  · rw [if_neg hc, if_neg hc, decide_eq_false hc]
set_option maxHeartbeats 4000000 in
set_option maxRecDepth 100000 in
theorem CodeAll_walk (HB0 : ∀ W : World, Calls Tryz.prog 11 #[] W fun e w' => e = .returned (.bool true) ∧ Below W.heap.size W w') (s : ByteArray) (hs : s.size ≤ 140737488351232) (c : Nat) (hc : c < 4294967296) (w : World) (htab : Lib.TabIs Tryz.prog w "internal/strconv.uint64pow10" .u64 Lib.pow10Tab) (ev : Value) (hv : w.cell? ⟨6, 0, none⟩ = some ev) (hev : ev = .nilIface ∨ ∃ te pe, ev = .iface te pe) :
    Calls Tryz.prog 7 #[.string s, .int .u32 c] w fun e w' => e = .returned (.bool true) ∧ Below w.heap.size w w' := by
  have HB := hide HB0
  have HT := hide (fun W : World => law_Text s 20 W hs)
  obtain ⟨t, ht⟩ : ∃ t, s.extract 0 (min s.size 20) = t := ⟨_, rfl⟩
  have ht3 : t.size ≤ 20 := by rw [← ht, ByteArray.size_extract]; omega
  rw [ht] at HT
  replace HT : Hid (∀ W : World, Calls Tryz.prog 12 #[.string s, .int .i64 20] W fun e w' => e = .returned (.string t) ∧ W = w') := HT
  have hev2 := fun (W : World) (hb : Below w.heap.size w W) => (hb.cell (World.block_lt_of_cell? w _ hv)).trans hv
  have h1 := fun (W : World) (hb : Below w.heap.size w W) => code_Service_any t (by omega) W ev (hev2 W hb) hev
  have h2 := fun W => ref_Service_any t (by omega) W
  have HX : Hid (∀ (S : ByteArray), digP 16 0 S.data.toList = some c → 1 ≤ S.size → S.size ≤ 8 → ∀ W : World, Below w.heap.size w W → Calls Tryz.prog 30 #[.string (⟨#[83, 67, 61, 120]⟩ ++ S)] W fun e w' => e = .returned (.tuple #[.int .u32 (if c ≤ 4294967294 then c else 0 : Nat), .bool (decide (c ≤ 4294967294))]) ∧ Below W.heap.size W w') := hide (fun S h a b W hb => by
    have hh := code_Service_any (⟨#[83, 67, 61, 120]⟩ ++ S) (by rw [ByteArray.size_append]; show 4 + _ ≤ _; omega) W ev (hev2 W hb) hev
    rw [serv_hex c 120 (.inl rfl) S h a b] at hh
    exact hh)
  have HH := hide (fun W => law_Hex c hc W)
  have HTC := hide (fun W (hb : Below w.heap.size w W) => code_Text_any c hc W (Lib.tabBelow_of_tabIs htab W hb))
  have HST := hide (fun W => code_Service_text c hc W)
  have HCT := hide (fun W => ref_CodeText c hc W)
  have hct : (if bySignsB (textOf c) = true then ⟨#[83, 67, 58]⟩ ++ ⟨(textOf c).toArray⟩ else ⟨#[83, 67, 61]⟩ ++ ⟨(Lib.decDigits c).toArray⟩ : ByteArray) = textC c := rfl
  rw [hct] at HCT
  have hKM : decide (c ≤ 4294967294) = true → (if c ≤ 4294967294 then c else 0) = c := fun h => if_pos (of_decide_eq_true h)
  have hKN : ((c : Int) != 4294967295) = decide (c ≤ 4294967294) := by
    by_cases h : c ≤ 4294967294
    · rw [decide_eq_true h]; exact bne_iff_ne.2 (by omega)
    · rw [decide_eq_false h]
      obtain rfl : c = 4294967295 := by omega
      rfl
  generalize (servOf t.data.toList).1 = R at *
  generalize (servOf t.data.toList).2 = F at *
  generalize (if c ≤ 4294967294 then c else 0) = M at *
  generalize decide (c ≤ 4294967294) = K at *
  generalize textC c = T at *
  have H1 := hide h1; have H2 := hide h2; have HKM := hide hKM; have HKN := hide hKN
  clear h1 h2 hev2 ht hct hKM hKN htab hv HB0
  go_enter Tryz.func7, Tryz.ntmps7
  go_upto_region 4 with (go_at_call 11; refine (HB.out _).mono ?_; rintro e w1 ⟨rfl, hb1⟩)
  go_upto_region 5 with (go_at_call 12; refine (HT.out _).mono ?_; rintro e w2 ⟨rfl, rfl⟩)
  have HB1 := hide hb1
  clear hb1 HT HB
  go_upto_region 6 with (go_at_call 30; refine (H1.out _ HB1.out).mono ?_; rintro e w2 ⟨rfl, hb2⟩)
  have HB2 := hide (HB1.out.trans (hb2.mono HB1.out.size))
  clear hb2 HB1 H1
  go_upto_region 7 with (go_at_call 31; refine (H2.out _).mono ?_; rintro e w3 ⟨rfl, rfl⟩)
  clear H2
  have r0 : ((R : Int) != (R : Int)) = false := by simp
  have f0 : (F != F) = false := by cases F <;> rfl
  go_upto_region 9 with fail
  clear r0 f0
  go_upto_region 10 with (go_at_call 29; refine (HTC.out _ HB2.out).mono ?_; rintro e w4 ⟨rfl, hb4⟩)
  have HB4 := hide (HB2.out.trans (hb4.mono HB2.out.size))
  clear hb4 HB2 HTC
  go_upto_region 11 with (go_at_call 30; refine (HST.out _).mono ?_; rintro e w5 ⟨rfl, hb5⟩)
  have HB5 := hide (HB4.out.trans (hb5.mono HB4.out.size))
  clear hb5 HB4 HST
  go_upto_region 12 with (first | (go_at_call 33; refine (HH.out _).mono ?_; rintro e w6 ⟨⟨S, rfl, hS1, hS2, hS3⟩, rfl⟩; have hSi : (S.size : Int) ≤ 8 := (by omega)) | (go_at_call 30; refine (HX.out S hS1 hS2 hS3 _ HB5.out).mono ?_; rintro e w7 ⟨rfl, hb7⟩))
  have HB7 := hide (HB5.out.trans (hb7.mono HB5.out.size))
  have hz7 := HB7.out.size
  clear hb7 HB5 HX HH hS1 hS2
  cases K
  · have k1 := HKN.out
    as_aux_lemma =>
      go_wp2_with (go_at_call 32; refine (HCT.out _).mono ?_; rintro e w8 ⟨rfl, hb8⟩)
      all_goals go_ret
      all_goals exact ⟨rfl, HB7.out.trans (hb8.mono hz7)⟩
  · have k1 := HKN.out
    have k2 : ((M : Int) == (c : Int)) = true := beq_iff_eq.2 (by have := HKM.out rfl; omega)
    as_aux_lemma =>
      go_wp2_with (go_at_call 32; refine (HCT.out _).mono ?_; rintro e w8 ⟨rfl, hb8⟩)
      all_goals go_ret
      all_goals exact ⟨rfl, HB7.out.trans (hb8.mono hz7)⟩
theorem CodeAll_row (HB0 : ∀ W : World, Calls Tryz.prog 11 #[] W fun e w' => e = .returned (.bool true) ∧ Below W.heap.size W w') (s : ByteArray) (hs : s.size ≤ 140737488351232) (c : Int) (hc : 0 ≤ c ∧ c ≤ 4294967295) (w : World) (hl : laidMetH Tryz.prog theLaid w) :
    Calls Tryz.prog 7 #[.string s, .int .u32 c] w fun e w' => e = .returned (.bool true) ∧ Below w.heap.size w w' := by
  obtain ⟨c, rfl⟩ := Int.eq_ofNat_of_zero_le hc.1
  obtain ⟨ev, hv, hev⟩ := err_syntax w hl
  exact CodeAll_walk HB0 s hs c (by omega) w (tab10 w hl) ev hv hev
end Go.Proofs.YtjlnbahanghhcaaGreatDoor
