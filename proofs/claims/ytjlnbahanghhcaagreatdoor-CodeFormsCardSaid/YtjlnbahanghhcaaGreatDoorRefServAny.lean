/- The document's Service at whatever text (printed by wip/gen/mk_refservany.py). -/
import Derived.Test.YtjlnbahanghhcaaGreatDoorServAny
import Derived.Test.YtjlnbahanghhcaaGreatDoorRefServ
namespace Go.Proofs.YtjlnbahanghhcaaGreatDoor
open Go.RowKit
set_option linter.unusedVariables false
set_option linter.unusedSimpArgs false
theorem list3 (z : ByteArray) (h : 3 ≤ z.size) (a b c : UInt8) (h0 : z[0] = a) (h1 : z[1] = b) (h2 : z[2] = c) : z.data.toList = a :: b :: c :: z.data.toList.drop 3 := by
  have hl := size_bytes z
  have e : ∀ i (hi : i < z.size), z.data.toList.drop i = z[i] :: z.data.toList.drop (i + 1) := fun i hi => by rw [List.drop_eq_getElem_cons (by omega)]; rfl
  have e0 := e 0 (by omega)
  rw [List.drop_zero] at e0
  exact e0.trans (by rw [show z.data.toList.drop (0 + 1) = z[1] :: z.data.toList.drop (1 + 1) from e 1 (by omega), show z.data.toList.drop (1 + 1) = z[2] :: z.data.toList.drop (2 + 1) from e 2 (by omega), h0, h1, h2])
theorem pre3 (a b c x : UInt8) (r : List UInt8) : Lib.hasPrefix (a :: b :: c :: r) [83, 67, x] = decide (a = 83 ∧ b = 67 ∧ c = x) := by
  unfold Lib.hasPrefix
  simp only [List.isPrefixOf]
  rw [Bool.eq_iff_iff]
  simp only [Bool.and_eq_true, beq_iff_eq, decide_eq_true_eq, Bool.and_true]
  constructor
  · rintro ⟨h1, h2, h3⟩; exact ⟨h1.symm, h2.symm, h3.symm⟩
  · rintro ⟨h1, h2, h3⟩; exact ⟨h1.symm, h2.symm, h3.symm⟩
theorem servOf_short (z : ByteArray) (h : z.size < 4) : servOf z.data.toList = (0, false) := by
  have hl := size_bytes z
  match hz : z.data.toList, (show z.data.toList.length < 4 by omega) with
  | [], _ => rfl
  | [a], _ => unfold servOf; simp [Lib.hasPrefix, List.isPrefixOf]
  | [a, b], _ => unfold servOf; simp [Lib.hasPrefix, List.isPrefixOf]
  | [a, b, c], _ =>
    unfold servOf
    split
    · rfl
    · split
      · rfl
      · rfl
set_option maxHeartbeats 4000000 in
set_option maxRecDepth 100000 in
theorem ref_Service_any (z : ByteArray) (hz9 : z.size ≤ 1000) (w : World) :
    Calls Tryz.prog 31 #[.string z] w fun e w' => e = .returned (.tuple #[.int .u32 ((servOf z.data.toList).1 : Nat), .bool (servOf z.data.toList).2]) ∧ w = w' := by
  by_cases h4 : z.size < 4
  · rw [servOf_short z h4]
    have g : (z.size : Int) < 4 := by omega
    clear h4
    go_enter Tryz.func31, Tryz.ntmps31
    go_wp2
    go_ret2
    exact ⟨rfl, rfl⟩
  have z0 : 0 < z.size := by omega
  have z1 : 1 < z.size := by omega
  have z2 : 2 < z.size := by omega
  have g : ¬ ((z.size : Int) < 4) := by omega
  have g0 : (0 : Int) < (z.size : Int) := by omega
  have g1 : (1 : Int) < (z.size : Int) := by omega
  have g2 : (2 : Int) < (z.size : Int) := by omega
  have g3 : (3 : Int) ≤ (z.size : Int) := by omega
  have hlist := list3 z (by omega) _ _ _ rfl rfl rfl
  have toI : ∀ (i : Nat) (h : i < z.size) (n : Nat) (x : UInt8), x.toNat = n → (z[i] = x ↔ (((z[i]).toNat : Nat) : Int) = (n : Int)) := fun i h n x hx => by
    rw [← UInt8.toNat_inj, hx]; omega
  have t83 := toI 0 z0 83 83 rfl
  have t67 := toI 1 z1 67 67 rfl
  have t58 := toI 2 z2 58 58 rfl
  have t61 := toI 2 z2 61 61 rfl
  clear toI
  have hs1 : Lib.hasPrefix z.data.toList [83, 67, 58] = decide (z[0] = 83 ∧ z[1] = 67 ∧ z[2] = 58) := by rw [hlist]; exact pre3 _ _ _ _ _
  have hs2 : Lib.hasPrefix z.data.toList [83, 67, 61] = decide (z[0] = 83 ∧ z[1] = 67 ∧ z[2] = 61) := by rw [hlist]; exact pre3 _ _ _ _ _
  have no : ¬ (z[0] = 83 ∧ z[1] = 67 ∧ (z[2] = 58 ∨ z[2] = 61)) → servOf z.data.toList = (0, false) := fun h => by
    unfold servOf
    rw [hs1, hs2, if_neg (by rw [decide_eq_true_eq]; exact fun e => h ⟨e.1, e.2.1, .inl e.2.2⟩), if_neg (by rw [decide_eq_true_eq]; exact fun e => h ⟨e.1, e.2.1, .inr e.2.2⟩)]
  by_cases h0 : z[0] = 83
  case neg =>
    rw [no (fun h => h0 h.1)]
    have e : ((((z[0]'z0).toNat : Nat) : Int) != 83) = true := bne_iff_ne.2 (fun e => h0 (t83.2 e))
    clear no hs1 hs2 hlist t83 t67 t58 t61 h0 h4
    go_enter Tryz.func31, Tryz.ntmps31
    go_wp2
    go_ret2
    exact ⟨rfl, rfl⟩
  have e0 : ((((z[0]'z0).toNat : Nat) : Int) != 83) = false := by rw [t83.1 h0]; rfl
  by_cases h1 : z[1] = 67
  case neg =>
    rw [no (fun h => h1 h.2.1)]
    have e : ((((z[1]'z1).toNat : Nat) : Int) != 67) = true := bne_iff_ne.2 (fun e => h1 (t67.2 e))
    clear no hs1 hs2 hlist t83 t67 t58 t61 h0 h1 h4
    go_enter Tryz.func31, Tryz.ntmps31
    go_wp2
    go_ret2
    exact ⟨rfl, rfl⟩
  have e1 : ((((z[1]'z1).toNat : Nat) : Int) != 67) = false := by rw [t67.1 h1]; rfl
  obtain ⟨t, ht⟩ : ∃ t, z.extract 3 z.size = t := ⟨_, rfl⟩
  have htz : t.size = z.size - 3 := by rw [← ht, ByteArray.size_extract]; omega
  have htl : t.data.toList = z.data.toList.drop 3 := by
    rw [← ht, ByteArray.data_extract, Array.toList_extract, List.extract_eq_take_drop, List.take_of_length_le (by rw [List.length_drop, size_bytes]; omega)]
  by_cases h2 : z[2] = 58
  · have e : servOf z.data.toList = (codeOf t.data.toList, bySignsB t.data.toList) := by unfold servOf; rw [hs1, if_pos (decide_eq_true ⟨h0, h1, h2⟩), htl]
    rw [e]
    exact ref_Service_signs0 t z (by omega) (by omega) ht (fun _ => t83.1 h0) (fun _ => t67.1 h1) (fun _ => t58.1 h2) w
  have e58 : ((((z[2]'z2).toNat : Nat) : Int) == 58) = false := beq_eq_false_iff_ne.2 (fun e => h2 (t58.2 e))
  by_cases h3 : z[2] = 61
  case neg =>
    rw [no (fun h => by rcases h.2.2 with h | h; exact h2 h; exact h3 h)]
    have e : ((((z[2]'z2).toNat : Nat) : Int) != 61) = true := bne_iff_ne.2 (fun e => h3 (t61.2 e))
    clear no hs1 hs2 hlist t83 t67 t58 t61 h0 h1 h2 h3 h4 ht htz htl
    go_enter Tryz.func31, Tryz.ntmps31
    go_wp2
    go_ret2
    exact ⟨rfl, rfl⟩
  have e61 : ((((z[2]'z2).toNat : Nat) : Int) != 61) = false := by rw [t61.1 h3]; rfl
  have hsv : servOf z.data.toList = numOf t.data.toList := by
    unfold servOf
    rw [hs1, hs2, if_neg (by rw [decide_eq_true_eq]; exact fun e => h2 e.2.2), if_pos (decide_eq_true ⟨h0, h1, h3⟩), htl]
  obtain ⟨SV, hSV⟩ : ∃ SV, servOf z.data.toList = SV := ⟨_, rfl⟩
  rw [hSV] at hsv ⊢
  have HT := hide ht
  have ht1 : 1 ≤ t.size := by omega
  have ht9 : t.size ≤ 1000 := by omega
  clear no hs1 hs2 hlist t83 t67 t58 t61 h0 h1 h2 h3 h4 ht htl hSV htz
  go_enter Tryz.func31, Tryz.ntmps31
  go_upto_region 20 with fail
  rw [HT.out]
  clear e0 e1 e58 e61 HT hz9
  have y0 : 0 < t.size := by omega
  have q0 : (0 : Int) < (t.size : Int) := by omega
  have htl0 : t.data.toList = t[0] :: t.data.toList.drop 1 := by
    have hl := size_bytes t
    have := List.drop_eq_getElem_cons (l := t.data.toList) (i := 0) (by omega)
    rw [List.drop_zero] at this
    exact this
  have pre1 : ∀ x : UInt8, Lib.hasPrefix t.data.toList [x] = decide (t[0] = x) := fun x => by
    rw [htl0]
    unfold Lib.hasPrefix
    simp only [List.isPrefixOf, Bool.and_true]
    rw [Bool.eq_iff_iff, beq_iff_eq, decide_eq_true_eq]
    exact eq_comm
  by_cases hx : t[0] = 120 ∨ t[0] = 88
  · have hsv2 : SV = numberOf 16 8 (t.data.toList.drop 1) := by
      rw [hsv]; unfold numOf
      rw [pre1, pre1, if_pos (by rcases hx with h | h; exact .inl (decide_eq_true h); exact .inr (decide_eq_true h))]
    obtain ⟨q, hq⟩ : ∃ q, t.extract 1 t.size = q := ⟨_, rfl⟩
    have hqz : q.size = t.size - 1 := by rw [← hq, ByteArray.size_extract]; omega
    have hql : q.data.toList = t.data.toList.drop 1 := by
      rw [← hq, ByteArray.data_extract, Array.toList_extract, List.extract_eq_take_drop, List.take_of_length_le (by rw [List.length_drop, size_bytes]; omega)]
    rw [← hql] at hsv2
    have hxi : ((((t[0]'y0).toNat : Nat) : Int) == 120) = true ∨ (((((t[0]'y0).toNat : Nat) : Int) == 120) = false ∧ ((((t[0]'y0).toNat : Nat) : Int) == 88) = true) := by
      by_cases h : t[0] = 120
      · exact .inl (by rw [h]; rfl)
      · refine .inr ⟨beq_eq_false_iff_ne.2 (fun e => h (by rw [← UInt8.toNat_inj]; show _ = 120; omega)), ?_⟩
        rcases hx with h' | h'
        · exact absurd h' h
        · rw [h']; rfl
    have q1 : (1 : Int) ≤ (t.size : Int) := by omega
    have HQ := hide hq
    have hq9 : q.size ≤ 1000 := by omega
    clear pre1 htl0 hx hsv hql hq hqz
    have hqs := size_bytes q
    have hbad : q.size < 1 ∨ 8 < q.size → SV = (0, false) := fun h => by rw [hsv2]; exact numberOf_len _ _ _ (by omega)
    have hres : Hid ((∀ u, digP 16 0 q.data.toList = some u → 1 ≤ q.size → q.size ≤ 8 → SV = if u ≤ 4294967294 then (u, true) else (0, false)) ∧ (digP 16 0 q.data.toList = none → SV = (0, false))) := hide ⟨fun u h a b => by rw [hsv2]; unfold numberOf; rw [if_pos (by omega), h], fun h => by rw [hsv2]; exact numberOf_none _ _ _ h⟩
    clear hsv2 hqs
    rcases hxi with hxi | ⟨hxi, hxj⟩
    all_goals
      go_upto_region 22 with fail
      rw [HQ.out]
      clear HQ
      by_cases hl1 : q.size < 1 ∨ 8 < q.size
      · have HB := hide (hbad hl1)
        clear hbad hres
        rcases hl1 with h | h
        · have i1 : (q.size : Int) < 1 := by omega
          clear h
          as_aux_lemma =>
            go_wp2
            go_ret2
            exact ⟨by rw [HB.out] <;> rfl, rfl⟩
        · have i1 : ¬ ((q.size : Int) < 1) := by omega
          have i2 : (8 : Int) < (q.size : Int) := by omega
          clear h
          as_aux_lemma =>
            go_wp2
            go_ret2
            exact ⟨by rw [HB.out] <;> rfl, rfl⟩
      have hq8 : q.size ≤ 8 := by omega
      have i1 : ¬ ((q.size : Int) < 1) := by omega
      have i2 : ¬ ((8 : Int) < (q.size : Int)) := by omega
      replace hres : Hid ((∀ u, digP 16 0 q.data.toList = some u → SV = if u ≤ 4294967294 then (u, true) else (0, false)) ∧ (digP 16 0 q.data.toList = none → SV = (0, false))) := hide ⟨fun u h => hres.out.1 u h (by omega) (by omega), hres.out.2⟩
      clear hbad hl1
      go_upto_region 27 with fail
      as_aux_lemma =>
        have hloop : Hid (∀ b : Option Nat, digP 16 0 q.data.toList = b → True) := hide (fun _ _ => trivial)
        clear hloop
        go_loop [5, 9, 10, 11] (fun u x _ _ => ∃ (k acc : Nat) (a : Int), k ≤ q.size ∧ x = .int .i64 k ∧ u = .int .u64 a ∧ Hid (a = (acc : Int) ∧ acc < 16 ^ k ∧ digP 16 0 q.data.toList = digP 16 acc (q.data.toList.drop k))) (fun _ x _ _ => q.size - (intOf x).toNat)
        case atStart => exact ⟨0, 0, 0, Nat.zero_le _, rfl, rfl, hide ⟨rfl, by decide, rfl⟩⟩
        case round =>
          obtain ⟨k, acc, a, hk, rfl, rfl, hh⟩ := hrel
          obtain ⟨ha, hacc, hdec⟩ := hh.out
          clear hh
          have hacc10 : acc < 1099511627776 := Nat.lt_of_lt_of_le hacc (by
            have h1 : (16 : Nat) ^ k ≤ 16 ^ 10 := Nat.pow_le_pow_right (by decide) (by omega)
            have e : (16 : Nat) ^ 10 ≤ 1099511627776 := by decide
            omega)
          have a0 : 0 ≤ a := by omega
          have a1 : a < 1099511627776 := by omega
          by_cases hkn : k < q.size
          · have hki : (k : Int) < (q.size : Int) := by omega
            have hdrop : q.data.toList.drop k = q[k] :: q.data.toList.drop (k + 1) := by
              rw [List.drop_eq_getElem_cons (by rw [size_bytes]; exact hkn)]; rfl
            rw [hdrop] at hdec
            have hc256 : (q[k]).toNat < 256 := UInt8.toNat_lt _
            obtain ⟨c, hc⟩ : ∃ c, (q[k]).toNat = c := ⟨_, rfl⟩
            have hnext : ∀ d : Int, d = (hexD c : Int) → hexD c < 16 → Hid (a * 16 + d = ((acc * 16 + hexD c : Nat) : Int) ∧ acc * 16 + hexD c < 16 ^ (k + 1) ∧ digP 16 0 q.data.toList = digP 16 (acc * 16 + hexD c) (q.data.toList.drop (k + 1))) := fun d hdd h => hide ⟨by rw [hdd, ha]; omega, by rw [Nat.pow_succ]; omega, by rw [hdec]; show (if _ then _ else _) = _; rw [hc, if_pos h]⟩
            have hnone : ¬ hexD c < 16 → digP 16 0 q.data.toList = none := fun h => by rw [hdec]; show (if _ then _ else _) = _; rw [hc, if_neg h]
            have HRN := fun h => hide (hres.out.2 (hnone h))
            rw [hc] at hc256
            have hci : (((q[k]).toNat : Nat) : Int) = (c : Int) := by rw [hc]
            clear hdec hdrop hnone hacc hc ha
            by_cases k1 : 48 ≤ c ∧ c ≤ 57
            · have hd : hexD c = c - 48 := by unfold hexD; rw [if_pos k1]
              have HN := hnext ((c : Int) - 48) (by omega) (by omega)
              have i1 : (48 : Int) ≤ (c : Int) := by omega
              have i2 : (c : Int) ≤ 57 := by omega
              have HKK := hide k1
              clear hnext hd HRN k1 hc256 hacc10
              as_aux_lemma =>
                go_wp2
                go_round
                case rel => exact ⟨k + 1, acc * 16 + hexD c, a * 16 + ((c : Int) - 48), by omega, by go_num, (by first | rfl | (congr 1; omega)), HN⟩
                case measure => simp [intOf]; omega
            by_cases k2 : 97 ≤ c ∧ c ≤ 102
            · have hd : hexD c = c - 87 := by unfold hexD; rw [if_neg k1, if_pos k2]
              have i1 : (97 : Int) ≤ (c : Int) := by omega
              have i2 : (c : Int) ≤ 102 := by omega
              have HN := hnext ((c : Int) - 97 + 10) (by omega) (by omega)
              have HKK := hide i1; have HKL := hide i2
              clear hnext hd HRN k1 k2 hc256 hacc10
              as_aux_lemma =>
                go_wp2
                go_round
                case rel => exact ⟨k + 1, acc * 16 + hexD c, a * 16 + ((c : Int) - 97 + 10), by omega, by go_num, (by first | rfl | (congr 1; omega)), HN⟩
                case measure => simp [intOf]; omega
            by_cases k3 : 65 ≤ c ∧ c ≤ 70
            · have hd : hexD c = c - 55 := by unfold hexD; rw [if_neg k1, if_neg k2, if_pos k3]
              have i1 : (65 : Int) ≤ (c : Int) := by omega
              have i2 : (c : Int) ≤ 70 := by omega
              have HN := hnext ((c : Int) - 65 + 10) (by omega) (by omega)
              have HKK := hide i1; have HKL := hide i2
              clear hnext hd HRN k1 k2 hc256 hacc10
              as_aux_lemma =>
                go_wp2
                go_round
                case rel => exact ⟨k + 1, acc * 16 + hexD c, a * 16 + ((c : Int) - 65 + 10), by omega, by go_num, (by first | rfl | (congr 1; omega)), HN⟩
                case measure => simp [intOf]; omega
            have hd : hexD c = 99 := by unfold hexD; rw [if_neg k1, if_neg k2, if_neg k3]
            have hR := HRN (by omega)
            have j1 : (c : Int) < 48 ∨ (57 < (c : Int) ∧ (c : Int) < 65) ∨ (70 < (c : Int) ∧ (c : Int) < 97) ∨ 102 < (c : Int) := by omega
            clear hnext hd HRN k1 k2 k3 hc256 hacc10
            rcases j1 with j1 | ⟨j1, j2⟩ | ⟨j1, j2⟩ | j1
            all_goals as_aux_lemma =>
              go_wp2
              all_goals go_ret2
              all_goals exact ⟨by rw [hR.out] <;> rfl, rfl⟩
          · obtain rfl : k = q.size := by omega
            have hF : digP 16 acc (q.data.toList.drop q.size) = some acc := by rw [List.drop_eq_nil_of_le (by rw [size_bytes]; omega)]; rfl
            rw [hF] at hdec
            have hR := hide (hres.out.1 acc hdec)
            have HA := hide ha
            clear hdec hF hacc hres hacc10
            by_cases hm : acc ≤ 4294967294
            · have hmi : ¬ ((4294967295 : Int) ≤ a) := by omega
              have hmj : a ≤ 4294967294 := by omega
              have hR2 : SV = (acc, true) := by rw [hR.out, if_pos hm]
              have HR2 := hide hR2
              clear hR hR2 hm ha
              as_aux_lemma =>
                go_wp2
                go_ret2
                exact ⟨by rw [HR2.out, HA.out] <;> rfl, rfl⟩
            · have hmi : (4294967295 : Int) ≤ a := by omega
              have hR2 : SV = (0, false) := by rw [hR.out, if_neg hm]
              have HR2 := hide hR2
              clear hR hR2 hm ha
              as_aux_lemma =>
                go_wp2
                go_ret2
                exact ⟨by rw [HR2.out] <;> rfl, rfl⟩
  · have hx1 : ¬ t[0] = 120 := fun h => hx (.inl h)
    have hx2 : ¬ t[0] = 88 := fun h => hx (.inr h)
    have hsv2 : SV = if 1 < t.data.toList.length ∧ t.data.toList.head? = some 48 then (0, false) else numberOf 10 10 t.data.toList := by
      rw [hsv]; unfold numOf
      rw [pre1, pre1, if_neg (by rintro (h | h); exact hx1 (of_decide_eq_true h); exact hx2 (of_decide_eq_true h))]
    have hts := size_bytes t
    have hhd : t.data.toList.head? = some t[0] := by rw [htl0]; rfl
    rw [hhd, hts] at hsv2
    have ex1 : ((((t[0]'y0).toNat : Nat) : Int) == 120) = false := beq_eq_false_iff_ne.2 (fun e => hx1 (by rw [← UInt8.toNat_inj]; show _ = 120; omega))
    have ex2 : ((((t[0]'y0).toNat : Nat) : Int) == 88) = false := beq_eq_false_iff_ne.2 (fun e => hx2 (by rw [← UInt8.toNat_inj]; show _ = 88; omega))
    clear pre1 htl0 hx hx1 hx2 hsv hhd
    go_upto_region 24 with fail
    by_cases hl : 10 < t.size
    · have hb : SV = (0, false) := by
        rw [hsv2]
        split
        · rfl
        · exact numberOf_len _ _ _ (by omega)
      have HB := hide hb
      have i1 : (10 : Int) < (t.size : Int) := by omega
      clear hb hsv2 hts hl
      as_aux_lemma =>
        go_wp2
        go_ret2
        exact ⟨by rw [HB.out] <;> rfl, rfl⟩
    have i1 : ¬ ((10 : Int) < (t.size : Int)) := by omega
    by_cases h48 : 1 < t.size ∧ t[0] = 48
    · have hb : SV = (0, false) := by rw [hsv2, if_pos ⟨h48.1, by rw [h48.2]⟩]
      have HB := hide hb
      have i2 : (1 : Int) < (t.size : Int) := by omega
      have e48 : ((((t[0]'y0).toNat : Nat) : Int) == 48) = true := by rw [h48.2]; rfl
      clear hb hsv2 hts hl h48
      as_aux_lemma =>
        go_wp2
        go_ret2
        exact ⟨by rw [HB.out] <;> rfl, rfl⟩
    have hsv3 : SV = numberOf 10 10 t.data.toList := by rw [hsv2, if_neg (fun e => h48 ⟨e.1, Option.some.inj e.2⟩)]
    have hres : Hid ((∀ u, digP 10 0 t.data.toList = some u → SV = if u ≤ 4294967294 then (u, true) else (0, false)) ∧ (digP 10 0 t.data.toList = none → SV = (0, false))) := hide ⟨fun u h => by rw [hsv3]; unfold numberOf; rw [if_pos (by omega), h], fun h => by rw [hsv3]; exact numberOf_none _ _ _ h⟩
    have hcs : ((((t[0]'y0).toNat : Nat) : Int) == 48) = false ∨ (((((t[0]'y0).toNat : Nat) : Int) == 48) = true ∧ ¬ ((1 : Int) < (t.size : Int))) := by
      by_cases h : t[0] = 48
      · exact .inr ⟨by rw [h]; rfl, fun e => h48 ⟨by omega, h⟩⟩
      · exact .inl (beq_eq_false_iff_ne.2 (fun e => h (by rw [← UInt8.toNat_inj]; show _ = 48; omega)))
    have hq8 : t.size ≤ 10 := by omega
    clear hsv2 hsv3 hts hl h48 ex1 ex2
    rcases hcs with e48 | ⟨e48, i2⟩
    all_goals
      go_upto_region 27 with fail
      clear e48
      generalize t = q at *
      as_aux_lemma =>
        have hloop : Hid (∀ b : Option Nat, digP 10 0 q.data.toList = b → True) := hide (fun _ _ => trivial)
        clear hloop
        go_loop [5, 9, 10, 11] (fun u x _ _ => ∃ (k acc : Nat) (a : Int), k ≤ q.size ∧ x = .int .i64 k ∧ u = .int .u64 a ∧ Hid (a = (acc : Int) ∧ acc < 10 ^ k ∧ digP 10 0 q.data.toList = digP 10 acc (q.data.toList.drop k))) (fun _ x _ _ => q.size - (intOf x).toNat)
        case atStart => exact ⟨0, 0, 0, Nat.zero_le _, rfl, rfl, hide ⟨rfl, by decide, rfl⟩⟩
        case round =>
          obtain ⟨k, acc, a, hk, rfl, rfl, hh⟩ := hrel
          obtain ⟨ha, hacc, hdec⟩ := hh.out
          clear hh
          have hacc10 : acc < 1099511627776 := Nat.lt_of_lt_of_le hacc (by
            have h1 : (10 : Nat) ^ k ≤ 10 ^ 10 := Nat.pow_le_pow_right (by decide) (by omega)
            have e : (10 : Nat) ^ 10 ≤ 1099511627776 := by decide
            omega)
          have a0 : 0 ≤ a := by omega
          have a1 : a < 1099511627776 := by omega
          by_cases hkn : k < q.size
          · have hki : (k : Int) < (q.size : Int) := by omega
            have hdrop : q.data.toList.drop k = q[k] :: q.data.toList.drop (k + 1) := by
              rw [List.drop_eq_getElem_cons (by rw [size_bytes]; exact hkn)]; rfl
            rw [hdrop] at hdec
            have hc256 : (q[k]).toNat < 256 := UInt8.toNat_lt _
            obtain ⟨c, hc⟩ : ∃ c, (q[k]).toNat = c := ⟨_, rfl⟩
            have hnext : ∀ d : Int, d = (hexD c : Int) → hexD c < 10 → Hid (a * 10 + d = ((acc * 10 + hexD c : Nat) : Int) ∧ acc * 10 + hexD c < 10 ^ (k + 1) ∧ digP 10 0 q.data.toList = digP 10 (acc * 10 + hexD c) (q.data.toList.drop (k + 1))) := fun d hdd h => hide ⟨by rw [hdd, ha]; omega, by rw [Nat.pow_succ]; omega, by rw [hdec]; show (if _ then _ else _) = _; rw [hc, if_pos h]⟩
            have hnone : ¬ hexD c < 10 → digP 10 0 q.data.toList = none := fun h => by rw [hdec]; show (if _ then _ else _) = _; rw [hc, if_neg h]
            have HRN := fun h => hide (hres.out.2 (hnone h))
            rw [hc] at hc256
            have hci : (((q[k]).toNat : Nat) : Int) = (c : Int) := by rw [hc]
            clear hdec hdrop hnone hacc hc ha
            by_cases k1 : 48 ≤ c ∧ c ≤ 57
            · have hd : hexD c = c - 48 := by unfold hexD; rw [if_pos k1]
              have HN := hnext ((c : Int) - 48) (by omega) (by omega)
              have i1 : (48 : Int) ≤ (c : Int) := by omega
              have i2 : (c : Int) ≤ 57 := by omega
              have HKK := hide k1
              clear hnext hd HRN k1 hc256 hacc10
              as_aux_lemma =>
                go_wp2
                go_round
                case rel => exact ⟨k + 1, acc * 10 + hexD c, a * 10 + ((c : Int) - 48), by omega, by go_num, (by first | rfl | (congr 1; omega)), HN⟩
                case measure => simp [intOf]; omega
            by_cases k2 : 97 ≤ c ∧ c ≤ 102
            · have hd : hexD c = c - 87 := by unfold hexD; rw [if_neg k1, if_pos k2]
              have i1 : (97 : Int) ≤ (c : Int) := by omega
              have i2 : (c : Int) ≤ 102 := by omega
              have hR := HRN (by omega)
              clear hnext hd HRN k1 k2 hc256 hacc10
              as_aux_lemma =>
                go_wp2
                all_goals go_ret2
                all_goals exact ⟨by rw [hR.out] <;> rfl, rfl⟩
            by_cases k3 : 65 ≤ c ∧ c ≤ 70
            · have hd : hexD c = c - 55 := by unfold hexD; rw [if_neg k1, if_neg k2, if_pos k3]
              have i1 : (65 : Int) ≤ (c : Int) := by omega
              have i2 : (c : Int) ≤ 70 := by omega
              have hR := HRN (by omega)
              clear hnext hd HRN k1 k2 hc256 hacc10
              as_aux_lemma =>
                go_wp2
                all_goals go_ret2
                all_goals exact ⟨by rw [hR.out] <;> rfl, rfl⟩
            have hd : hexD c = 99 := by unfold hexD; rw [if_neg k1, if_neg k2, if_neg k3]
            have hR := HRN (by omega)
            have j1 : (c : Int) < 48 ∨ (57 < (c : Int) ∧ (c : Int) < 65) ∨ (70 < (c : Int) ∧ (c : Int) < 97) ∨ 102 < (c : Int) := by omega
            clear hnext hd HRN k1 k2 k3 hc256 hacc10
            rcases j1 with j1 | ⟨j1, j2⟩ | ⟨j1, j2⟩ | j1
            all_goals as_aux_lemma =>
              go_wp2
              all_goals go_ret2
              all_goals exact ⟨by rw [hR.out] <;> rfl, rfl⟩
          · obtain rfl : k = q.size := by omega
            have hF : digP 10 acc (q.data.toList.drop q.size) = some acc := by rw [List.drop_eq_nil_of_le (by rw [size_bytes]; omega)]; rfl
            rw [hF] at hdec
            have hR := hide (hres.out.1 acc hdec)
            have HA := hide ha
            clear hdec hF hacc hres hacc10
            by_cases hm : acc ≤ 4294967294
            · have hmi : ¬ ((4294967295 : Int) ≤ a) := by omega
              have hmj : a ≤ 4294967294 := by omega
              have hR2 : SV = (acc, true) := by rw [hR.out, if_pos hm]
              have HR2 := hide hR2
              clear hR hR2 hm ha
              as_aux_lemma =>
                go_wp2
                go_ret2
                exact ⟨by rw [HR2.out, HA.out] <;> rfl, rfl⟩
            · have hmi : (4294967295 : Int) ≤ a := by omega
              have hR2 : SV = (0, false) := by rw [hR.out, if_neg hm]
              have HR2 := hide hR2
              clear hR hR2 hm ha
              as_aux_lemma =>
                go_wp2
                go_ret2
                exact ⟨by rw [HR2.out] <;> rfl, rfl⟩
end Go.Proofs.YtjlnbahanghhcaaGreatDoor
