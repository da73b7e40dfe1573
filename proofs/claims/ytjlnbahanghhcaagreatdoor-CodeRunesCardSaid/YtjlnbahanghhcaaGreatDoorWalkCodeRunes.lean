/- CodeRunes: the walk. -/
import Derived.Test.YtjlnbahanghhcaaGreatDoorCodeCount
import Derived.Test.YtjlnbahanghhcaaGreatDoorRefRunes
import Derived.Test.YtjlnbahanghhcaaGreatDoorText
import Derived.Test.YtjlnbahanghhcaaGreatDoorBaseD
namespace Go.Proofs.YtjlnbahanghhcaaGreatDoor
open Go.RowKit Go.Proofs.YtjlnbahanghhcaaGreatDoorW.PrintWords Go.Proofs.YtjlnbahanghhcaaGreatDoorW.PrintLast Go.Proofs.YtjlnbahanghhcaaGreatDoorW.PrintMore
attribute [local go_sem] max2_int min2_int max_two min_two
set_option linter.unusedVariables false
set_option linter.unusedSimpArgs false

set_option maxHeartbeats 8000000 in
set_option maxRecDepth 1000000 in
theorem CodeRunes_walk (HB0 : ∀ W : World, Calls Tryz.prog 11 #[] W fun e w' => e = .returned (.bool true) ∧ Below W.heap.size W w') (s : ByteArray) (hs : s.size ≤ 140737488351232) (M : Int) (h0 : -9223372036854775808 ≤ M) (h1 : M ≤ 9223372036854775807) (w : World) (hT : Lib.Utf8Tabs 2 3 w) :
    Calls Tryz.prog 9 #[.string s, .int .i64 M] w fun e w' => e = .returned (.bool true) ∧ Below w.heap.size w w' := by
  have HB := hide HB0
  obtain ⟨t, ht⟩ : ∃ t, s.extract 0 (min s.size 80) = t := ⟨_, rfl⟩
  have htz : t.size ≤ 80 := by
    rw [← ht, ByteArray.size_extract]; omega
  have HT := hide (fun W => law_Text s 80 W hs)
  rw [ht] at HT
  have HR := hide (fun W => code_Reason t M h0 h1 (by omega) W)
  have HR2 := hide (fun W hb => ref_Reason t (by omega) M h0 h1 W (Utf8Tabs_below hT hb))
  have HC := hide (fun W => code_Runes t (by omega) W)
  obtain ⟨R, hR⟩ : ∃ R : ByteArray, (⟨(Ru.reason t.data.toList M.toNat).toArray⟩ : ByteArray) = R := ⟨_, rfl⟩
  have hRd : R.data.toList = Ru.reason t.data.toList M.toNat := by rw [← hR]
  rw [hR] at HR HR2
  have hRr : Ru.runes R.data.toList = Ru.reasonL t.data.toList M.toNat := by rw [hRd]; exact Ru.runes_reason _ _
  have hRl := Ru.reasonL_len t.data.toList M.toNat
  rw [← hRr] at hRl
  have hcnt := Ru.counts t.data.toList
  have hcnt2 := Ru.counts R.data.toList
  have hle := Ru.runes_le _ t.data.toList (Nat.le_refl _)
  rw [size_bytes] at hle
  have hRle := Ru.encs_le (Ru.reasonL t.data.toList M.toNat)
  have hRz : R.size ≤ 320 := by
    have e : R.size = R.data.toList.length := (size_bytes R).symm
    rw [e, hRd]
    have : (Ru.reasonL t.data.toList M.toNat).length = _ := Ru.reasonL_len t.data.toList M.toNat
    unfold Ru.reason
    omega
  have HC2 := hide (fun W => code_Runes R (by omega) W)
  have hRb := Ru.reason_twice t.data.toList M.toNat 100 (by omega)
  have HR3 := hide (fun W => code_Reason R 100 (by omega) (by omega) (by omega) W)
  rw [show (100 : Int).toNat = 100 from rfl, hRd, hRb, hR] at HR3
  obtain ⟨NL, hNL⟩ : ∃ n, Ru.nL t.data.toList = n := ⟨_, rfl⟩
  obtain ⟨ND, hND⟩ : ∃ n, Ru.nD t.data.toList = n := ⟨_, rfl⟩
  obtain ⟨NO, hNO⟩ : ∃ n, Ru.nO t.data.toList = n := ⟨_, rfl⟩
  obtain ⟨PL, hPL⟩ : ∃ n, Ru.nL R.data.toList = n := ⟨_, rfl⟩
  obtain ⟨PD, hPD⟩ : ∃ n, Ru.nD R.data.toList = n := ⟨_, rfl⟩
  obtain ⟨PO, hPO⟩ : ∃ n, Ru.nO R.data.toList = n := ⟨_, rfl⟩
  obtain ⟨A, hA⟩ : ∃ n, (Ru.runes t.data.toList).length = n := ⟨_, rfl⟩
  rw [hNL, hND, hNO] at hcnt HC
  rw [hPL, hPD, hPO] at hcnt2 HC2
  rw [hA] at hcnt hRl hle
  rw [hRl] at hcnt2
  have hPb : PL + PD + PO ≤ 80 := by omega
  obtain ⟨V, hV⟩ : ∃ V : Int, (if (A : Int) < M then (A : Int) else M) = V := ⟨_, rfl⟩
  have hVK : (if 0 < V then V else 0) = ((PL : Int) + PD + PO) := by
    rw [← hV, show ((PL : Int) + PD + PO) = ((PL + PD + PO : Nat) : Int) from by omega, hcnt2]
    split <;> split <;> omega
  have HVK := hide hVK
  have HNL := hide hNL
  have HND := hide hND
  have HNO := hide hNO
  have hVb : V ≤ 80 := by rw [← hV]; split <;> omega
  have HV := hide hV
  clear hRd hRr hRle hR hRl hNL hND hNO hPL hPD hPO hA HB0 ht hRb hcnt2 hVK hV
  go_enter Tryz.func9, Tryz.ntmps9
  go_upto_region 4 with (go_at_call 11; refine (HB.out _).mono ?_; rintro e w1 ⟨rfl, hb1⟩)
  go_upto_region 5 with (go_at_call 12; refine (HT.out _).mono ?_; rintro e w2 ⟨rfl, rfl⟩)
  go_upto_region 6 with (go_at_call 35; refine (HR.out _).mono ?_; rintro e w3 ⟨rfl, hb3⟩)
  have hb3' := hb1.trans (hb3.mono hb1.size)
  clear HB HT HR
  go_upto_region 8 with (go_at_call 36; refine (HR2.out _ hb3').mono ?_; rintro e w4 ⟨rfl, hb4⟩)
  have hb4' := hb3'.trans (hb4.mono hb3'.size)
  go_upto_region 9 with (go_at_call 37; refine (HC.out _).mono ?_; rintro e w5 ⟨rfl, hb5⟩)
  have hb5' := hb4'.trans (hb5.mono hb4'.size)
  clear hb1 hb3 hb4 hb5 hb3' hb4' HC HR2
  go_upto_region 11 with fail
  go_loopw [10, 11, 12, 13] (fun v10 v11 v12 v13 wr => ∃ (x y z : Int) (r : ByteArray), v10 = .int .i64 x ∧ v11 = .int .i64 y ∧ v12 = .int .i64 z ∧ v13 = .string r ∧ 0 ≤ x ∧ 0 ≤ y ∧ 0 ≤ z ∧ x + (Ru.nL r.data.toList : Int) = (NL : Int) ∧ y + (Ru.nD r.data.toList : Int) = (ND : Int) ∧ z + (Ru.nO r.data.toList : Int) = (NO : Int) ∧ r.size ≤ 80 ∧ Below w.heap.size w wr) (fun v10 v11 v12 v13 wr => (241 - (intOf v10 + intOf v11 + intOf v12)).toNat)
  case atStart => exact ⟨0, 0, 0, t, rfl, rfl, rfl, rfl, by omega, by omega, by omega, by rw [HNL.out]; omega, by rw [HND.out]; omega, by rw [HNO.out]; omega, htz, hb5'⟩
  case round =>
    obtain ⟨x, y, z, r, rfl, rfl, rfl, rfl, hx0, hy0, hz0, hx, hy, hz, hrz, hbw⟩ := hrel
    by_cases hr : 0 < r.size
    · have hne : r.data.toList ≠ [] := by
        intro h0
        have := size_bytes r
        rw [h0, List.length_nil] at this
        omega
      have hT2 := hide (Utf8Tabs_below hT hbw)
      have hw := Lib.decodeL_width r.data.toList
      have hle' := Lib.decodeL_le r.data.toList hne
      rw [size_bytes] at hle'
      have hgo := Ru.dec_good r.data.toList
      obtain ⟨e1, e2, e3⟩ := Ru.n_step r.data.toList hne
      rw [e1] at hx
      rw [e2] at hy
      rw [e3] at hz
      clear e1 e2 e3
      have hRR := fun W h => ref_Rune r W h
      rw [dec_go r hr] at hRR
      generalize Lib.decodeL r.data.toList = dk at *
      obtain ⟨d, k⟩ := dk
      dsimp only at *
      have hd : d ≤ 1114111 := by unfold Ru.good at hgo; omega
      have hXz : (r.extract k r.size).size = r.size - k := by rw [ByteArray.size_extract]; omega
      have HXd := hide (ext_back r k)
      have HR := hide hRR
      clear hRR hgo hne
      obtain ⟨nl, hnl⟩ : ∃ n, Ru.nL (r.data.toList.drop k) = n := ⟨_, rfl⟩
      obtain ⟨nd, hnd⟩ : ∃ n, Ru.nD (r.data.toList.drop k) = n := ⟨_, rfl⟩
      obtain ⟨no, hno⟩ : ∃ n, Ru.nO (r.data.toList.drop k) = n := ⟨_, rfl⟩
      rw [hnl] at hx
      rw [hnd] at hy
      rw [hno] at hz
      have Hnl := hide hnl
      have Hnd := hide hnd
      have Hno := hide hno
      have HXz := hide hXz
      clear hnl hnd hno hXz
      have hkz : (k : Int) ≤ (r.size : Int) := by omega
      have hrr : (r.size : Int) ≤ 80 := by omega
      have hN80 : (NL : Int) ≤ 80 ∧ (ND : Int) ≤ 80 ∧ (NO : Int) ≤ 80 := by omega
      go_upto_region 14 with (go_at_call 38; refine (HR.out _ hT2.out).mono ?_; rintro e w6 ⟨rfl, hb6⟩)
      have hb6' := hbw.trans (hb6.mono hbw.size)
      have hcs : d < 48 ∨ (48 ≤ d ∧ d ≤ 57) ∨ (58 ≤ d ∧ d ≤ 64) ∨ (65 ≤ d ∧ d ≤ 90) ∨ (91 ≤ d ∧ d ≤ 96) ∨ (97 ≤ d ∧ d ≤ 122) ∨ 123 ≤ d := by omega
      rcases hcs with c | c | c | c | c | c | c
      · as_aux_lemma =>
          have hL : Ru.isL d = false := by unfold Ru.isL; simp; omega
          have hD : Ru.isD d = false := by unfold Ru.isD; simp; omega
          simp only [hL, hD, Bool.not_false, Bool.not_true, Bool.true_and, Bool.false_and, Bool.and_false, Bool.and_true, if_true, if_false, Bool.false_eq_true] at hx hy hz
          clear hL hD
          have f0 : ¬ ((65 : Int) ≤ (d : Int)) := by omega
          have f1 : (d : Int) ≤ 90 := by omega
          have f2 : ¬ ((97 : Int) ≤ (d : Int)) := by omega
          have f3 : (d : Int) ≤ 122 := by omega
          have f4 : ¬ ((48 : Int) ≤ (d : Int)) := by omega
          have f5 : (d : Int) ≤ 57 := by omega
          go_wp2
          go_roundw
          case rel => exact ⟨x, y, z + 1, r.extract k r.size, by first | rfl | (go_simp; rfl), by first | rfl | (go_simp; rfl), by first | rfl | (go_simp; rfl), by first | rfl | (go_simp; rfl), by omega, by omega, by omega, by rw [HXd.out, Hnl.out]; omega, by rw [HXd.out, Hnd.out]; omega, by rw [HXd.out, Hno.out]; omega, by rw [HXz.out]; omega, hb6'⟩
          case measure => simp [intOf]; omega
      · as_aux_lemma =>
          have hL : Ru.isL d = false := by unfold Ru.isL; simp; omega
          have hD : Ru.isD d = true := by unfold Ru.isD; simp; omega
          simp only [hL, hD, Bool.not_false, Bool.not_true, Bool.true_and, Bool.false_and, Bool.and_false, Bool.and_true, if_true, if_false, Bool.false_eq_true] at hx hy hz
          clear hL hD
          have f0 : ¬ ((65 : Int) ≤ (d : Int)) := by omega
          have f1 : (d : Int) ≤ 90 := by omega
          have f2 : ¬ ((97 : Int) ≤ (d : Int)) := by omega
          have f3 : (d : Int) ≤ 122 := by omega
          have f4 : (48 : Int) ≤ (d : Int) := by omega
          have f5 : (d : Int) ≤ 57 := by omega
          go_wp2
          go_roundw
          case rel => exact ⟨x, y + 1, z, r.extract k r.size, by first | rfl | (go_simp; rfl), by first | rfl | (go_simp; rfl), by first | rfl | (go_simp; rfl), by first | rfl | (go_simp; rfl), by omega, by omega, by omega, by rw [HXd.out, Hnl.out]; omega, by rw [HXd.out, Hnd.out]; omega, by rw [HXd.out, Hno.out]; omega, by rw [HXz.out]; omega, hb6'⟩
          case measure => simp [intOf]; omega
      · as_aux_lemma =>
          have hL : Ru.isL d = false := by unfold Ru.isL; simp; omega
          have hD : Ru.isD d = false := by unfold Ru.isD; simp; omega
          simp only [hL, hD, Bool.not_false, Bool.not_true, Bool.true_and, Bool.false_and, Bool.and_false, Bool.and_true, if_true, if_false, Bool.false_eq_true] at hx hy hz
          clear hL hD
          have f0 : ¬ ((65 : Int) ≤ (d : Int)) := by omega
          have f1 : (d : Int) ≤ 90 := by omega
          have f2 : ¬ ((97 : Int) ≤ (d : Int)) := by omega
          have f3 : (d : Int) ≤ 122 := by omega
          have f4 : (48 : Int) ≤ (d : Int) := by omega
          have f5 : ¬ ((d : Int) ≤ 57) := by omega
          go_wp2
          go_roundw
          case rel => exact ⟨x, y, z + 1, r.extract k r.size, by first | rfl | (go_simp; rfl), by first | rfl | (go_simp; rfl), by first | rfl | (go_simp; rfl), by first | rfl | (go_simp; rfl), by omega, by omega, by omega, by rw [HXd.out, Hnl.out]; omega, by rw [HXd.out, Hnd.out]; omega, by rw [HXd.out, Hno.out]; omega, by rw [HXz.out]; omega, hb6'⟩
          case measure => simp [intOf]; omega
      · as_aux_lemma =>
          have hL : Ru.isL d = true := by unfold Ru.isL; simp; omega
          have hD : Ru.isD d = false := by unfold Ru.isD; simp; omega
          simp only [hL, hD, Bool.not_false, Bool.not_true, Bool.true_and, Bool.false_and, Bool.and_false, Bool.and_true, if_true, if_false, Bool.false_eq_true] at hx hy hz
          clear hL hD
          have f0 : (65 : Int) ≤ (d : Int) := by omega
          have f1 : (d : Int) ≤ 90 := by omega
          have f2 : ¬ ((97 : Int) ≤ (d : Int)) := by omega
          have f3 : (d : Int) ≤ 122 := by omega
          have f4 : (48 : Int) ≤ (d : Int) := by omega
          have f5 : ¬ ((d : Int) ≤ 57) := by omega
          go_wp2
          go_roundw
          case rel => exact ⟨x + 1, y, z, r.extract k r.size, by first | rfl | (go_simp; rfl), by first | rfl | (go_simp; rfl), by first | rfl | (go_simp; rfl), by first | rfl | (go_simp; rfl), by omega, by omega, by omega, by rw [HXd.out, Hnl.out]; omega, by rw [HXd.out, Hnd.out]; omega, by rw [HXd.out, Hno.out]; omega, by rw [HXz.out]; omega, hb6'⟩
          case measure => simp [intOf]; omega
      · as_aux_lemma =>
          have hL : Ru.isL d = false := by unfold Ru.isL; simp; omega
          have hD : Ru.isD d = false := by unfold Ru.isD; simp; omega
          simp only [hL, hD, Bool.not_false, Bool.not_true, Bool.true_and, Bool.false_and, Bool.and_false, Bool.and_true, if_true, if_false, Bool.false_eq_true] at hx hy hz
          clear hL hD
          have f0 : (65 : Int) ≤ (d : Int) := by omega
          have f1 : ¬ ((d : Int) ≤ 90) := by omega
          have f2 : ¬ ((97 : Int) ≤ (d : Int)) := by omega
          have f3 : (d : Int) ≤ 122 := by omega
          have f4 : (48 : Int) ≤ (d : Int) := by omega
          have f5 : ¬ ((d : Int) ≤ 57) := by omega
          go_wp2
          go_roundw
          case rel => exact ⟨x, y, z + 1, r.extract k r.size, by first | rfl | (go_simp; rfl), by first | rfl | (go_simp; rfl), by first | rfl | (go_simp; rfl), by first | rfl | (go_simp; rfl), by omega, by omega, by omega, by rw [HXd.out, Hnl.out]; omega, by rw [HXd.out, Hnd.out]; omega, by rw [HXd.out, Hno.out]; omega, by rw [HXz.out]; omega, hb6'⟩
          case measure => simp [intOf]; omega
      · as_aux_lemma =>
          have hL : Ru.isL d = true := by unfold Ru.isL; simp; omega
          have hD : Ru.isD d = false := by unfold Ru.isD; simp; omega
          simp only [hL, hD, Bool.not_false, Bool.not_true, Bool.true_and, Bool.false_and, Bool.and_false, Bool.and_true, if_true, if_false, Bool.false_eq_true] at hx hy hz
          clear hL hD
          have f0 : (65 : Int) ≤ (d : Int) := by omega
          have f1 : ¬ ((d : Int) ≤ 90) := by omega
          have f2 : (97 : Int) ≤ (d : Int) := by omega
          have f3 : (d : Int) ≤ 122 := by omega
          have f4 : (48 : Int) ≤ (d : Int) := by omega
          have f5 : ¬ ((d : Int) ≤ 57) := by omega
          go_wp2
          go_roundw
          case rel => exact ⟨x + 1, y, z, r.extract k r.size, by first | rfl | (go_simp; rfl), by first | rfl | (go_simp; rfl), by first | rfl | (go_simp; rfl), by first | rfl | (go_simp; rfl), by omega, by omega, by omega, by rw [HXd.out, Hnl.out]; omega, by rw [HXd.out, Hnd.out]; omega, by rw [HXd.out, Hno.out]; omega, by rw [HXz.out]; omega, hb6'⟩
          case measure => simp [intOf]; omega
      · as_aux_lemma =>
          have hL : Ru.isL d = false := by unfold Ru.isL; simp; omega
          have hD : Ru.isD d = false := by unfold Ru.isD; simp; omega
          simp only [hL, hD, Bool.not_false, Bool.not_true, Bool.true_and, Bool.false_and, Bool.and_false, Bool.and_true, if_true, if_false, Bool.false_eq_true] at hx hy hz
          clear hL hD
          have f0 : (65 : Int) ≤ (d : Int) := by omega
          have f1 : ¬ ((d : Int) ≤ 90) := by omega
          have f2 : (97 : Int) ≤ (d : Int) := by omega
          have f3 : ¬ ((d : Int) ≤ 122) := by omega
          have f4 : (48 : Int) ≤ (d : Int) := by omega
          have f5 : ¬ ((d : Int) ≤ 57) := by omega
          go_wp2
          go_roundw
          case rel => exact ⟨x, y, z + 1, r.extract k r.size, by first | rfl | (go_simp; rfl), by first | rfl | (go_simp; rfl), by first | rfl | (go_simp; rfl), by first | rfl | (go_simp; rfl), by omega, by omega, by omega, by rw [HXd.out, Hnl.out]; omega, by rw [HXd.out, Hnd.out]; omega, by rw [HXd.out, Hno.out]; omega, by rw [HXz.out]; omega, hb6'⟩
          case measure => simp [intOf]; omega
    · as_aux_lemma =>
        have h0 : r.data.toList = [] := List.eq_nil_of_length_eq_zero (by rw [size_bytes]; omega)
        rw [h0, Ru.n_end.1] at hx
        rw [h0, Ru.n_end.2.1] at hy
        rw [h0, Ru.n_end.2.2] at hz
        obtain rfl : x = (NL : Int) := by omega
        obtain rfl : y = (ND : Int) := by omega
        obtain rfl : z = (NO : Int) := by omega
        have hr0 : r.size = 0 := by omega
        clear hx hy hz hx0 hy0 hz0 h0
        go_upto_region 20 with (go_at_call 37; refine (HC2.out _).mono ?_; rintro e w7 ⟨rfl, hb7⟩)
        have hb7' := hbw.trans (hb7.mono hbw.size)
        have hsum : (NL : Int) + ND + NO = A := by omega
        have hV := HV.out
        have hVK := HVK.out
        have hVK2 : (PL : Int) + PD + PO ≤ 80 := by omega
        go_wp2_with (go_at_call 35; refine (HR3.out _).mono ?_; rintro e w8 ⟨rfl, hb8⟩)
        go_ret
        refine ⟨by simp only [decide_eq_true_eq]; try trivial, hb7'.trans (hb8.mono hb7'.size)⟩
end Go.Proofs.YtjlnbahanghhcaaGreatDoor
