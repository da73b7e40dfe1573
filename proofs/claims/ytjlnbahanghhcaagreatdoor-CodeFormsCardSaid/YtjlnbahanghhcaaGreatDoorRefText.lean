/- The contract of the document's CodeText. -/
import Derived.Test.YtjlnbahanghhcaaGreatDoorRefCode
import Derived.Test.YtjlnbahanghhcaaGreatDoorBaseB
namespace Go.Proofs.YtjlnbahanghhcaaGreatDoor
open Go.RowKit
set_option linter.unusedVariables false
set_option linter.unusedSimpArgs false
set_option maxHeartbeats 4000000 in
set_option maxRecDepth 100000 in
theorem ref_CodeText (c : Nat) (hc : c < 4294967296) (w : World) : Calls Tryz.prog 32 #[.int .u32 c] w fun e w' => e = .returned (.string (if bySignsB (textOf c) = true then ⟨#[83, 67, 58]⟩ ++ ⟨(textOf c).toArray⟩ else ⟨#[83, 67, 61]⟩ ++ ⟨(Lib.decDigits c).toArray⟩)) ∧ Below w.heap.size w w' := by
  have HBY := hide (fun W => RB.ref_Bytes c 4 (by omega) (by decide) W)
  have HDE := hide (fun W => ref_Decimal c (by omega) W)
  obtain ⟨B, hB⟩ : ∃ B, strOfNums (Go.Proofs.YtjlnbahanghhcaaGreatDoor.be c 4) = B := ⟨_, rfl⟩
  have hBz : B.size = 4 := by rw [← hB, strOfNums_size, be_len]
  have htx : textOf c = Lib.trimRightB B.data.toList 32 := by rw [← hB]; rfl
  have hfour := fun n h0 h1 h2 => Cd.four_signs signB (by decide) B.data.toList (by rw [size_bytes, hBz]) n h0 h1 h2
  rw [hB] at HBY
  have hbl : ∀ j (h : j < B.size), (B.data.toList[j]'(by rw [size_bytes]; exact h)).toNat = B[j].toNat := fun j h => rfl
  generalize hT : textOf c = T at *
  have HTX := hide htx; have HFO := hide hfour
  clear htx hfour hT
  have hD : (⟨(Lib.decDigits c).toArray⟩ : ByteArray).size ≤ 20 := by
    have := dec_len20 c (by omega)
    rw [← size_bytes]; exact this
  generalize (⟨(Lib.decDigits c).toArray⟩ : ByteArray) = D at *
  obtain ⟨R, hR⟩ : ∃ R : ByteArray, (if bySignsB T = true then ⟨#[83, 67, 58]⟩ ++ ⟨T.toArray⟩ else ⟨#[83, 67, 61]⟩ ++ D) = R := ⟨_, rfl⟩
  have hR1 : bySignsB T = true → ⟨#[83, 67, 58]⟩ ++ ⟨T.toArray⟩ = R := fun h => by rw [← hR, if_pos h]
  have hR2 : bySignsB T = false → ⟨#[83, 67, 61]⟩ ++ D = R := fun h => by rw [← hR, h]; rfl
  rw [hR]
  have HR1 := hide hR1; have HR2 := hide hR2
  clear hR hR1 hR2
  go_enter Tryz.func32, Tryz.ntmps32
  go_upto_region 3 with (go_at_call 27; refine (HBY.out _).mono ?_; rintro e w1 ⟨rfl, hb1⟩)
  clear HBY
  have HB1 := hide hb1
  clear hb1
  go_loop [4] (fun x => ∃ n : Nat, n ≤ 4 ∧ x = .int .i64 n ∧ Hid (∀ j (h : j < B.size), j < n → signB B[j].toNat = true)) (fun x => 4 - (intOf x).toNat)
  case atStart => exact ⟨0, by omega, rfl, hide (fun j _ h => absurd h (Nat.not_lt_zero j))⟩
  case round =>
    obtain ⟨n, hn, rfl, H⟩ := hrel
    have hgo : (n < 4 ∧ ∃ h : n < B.size, signB B[n].toNat = true) ∨ (n = 4 ∨ (n < 4 ∧ ∃ h : n < B.size, signB B[n].toNat = false)) := by
      rcases Nat.lt_or_ge n 4 with h | h
      · cases hs : signB (B[n]'(by omega)).toNat
        · exact .inr (.inr ⟨h, by omega, hs⟩)
        · exact .inl ⟨h, by omega, hs⟩
      · exact .inr (.inl (by omega))
    rcases hgo with ⟨h4, hnB, hs⟩ | hgo
    · have hn4 : (n : Int) < 4 := by omega
      have hz4 : (n : Int) < (B.size : Int) := by omega
      have hsg := fun W => ref_sign B[n].toNat (UInt8.toNat_lt _) W
      rw [hs] at hsg
      have HSG := hide hsg; have HS := hide hs
      clear hsg hs
      as_aux_lemma =>
        go_wp2_with (go_at_call 65; refine (HSG.out _).mono ?_; rintro e w' ⟨rfl, rfl⟩)
        go_round
        case rel => exact ⟨n + 1, by omega, by go_num, hide (fun j h hj => by
          rcases Nat.lt_or_ge j n with h' | h'
          · exact H.out j h h'
          · obtain rfl : j = n := by omega
            exact HS.out)⟩
        case measure => simp [intOf]; omega
    · have h2 : ∀ (h : n < B.data.toList.length), signB (B.data.toList[n]).toNat = false := fun h => by
        rcases hgo with rfl | ⟨_, _, hs⟩
        · rw [size_bytes, hBz] at h; omega
        · exact hs
      have hF := HFO.out n hn (fun j h hj => H.out j (by rw [← size_bytes]; exact h) hj) h2
      have hyes : (0 < n ∧ ∀ j (h : j < B.size), n ≤ j → B[j].toNat = 32) → bySignsB T = true ∧ (⟨T.toArray⟩ : ByteArray) = B.extract 0 n := fun h => by
        obtain ⟨e1, e2, e3⟩ := hF.1 ⟨h.1, fun j hj hn => h.2 j (by rw [← size_bytes]; exact hj) hn⟩
        rw [← HTX.out] at e1
        subst e1
        constructor
        · unfold bySignsB
          rw [e2, e3]
          simp; omega
        · apply ByteArray.ext
          apply Array.ext'
          rw [ByteArray.data_extract, Array.toList_extract, List.extract_eq_take_drop]
          simp
      have hno : ¬ (0 < n ∧ ∀ j (h : j < B.size), n ≤ j → B[j].toNat = 32) → bySignsB T = false := fun h => by
        have e := hF.2 (fun h' => h ⟨h'.1, fun j hj hn => h'.2 j (by rw [size_bytes]; exact hj) hn⟩)
        rw [← HTX.out] at e
        unfold bySignsB
        rcases e with e | e
        · rw [e]; rfl
        · rw [e]; simp
      have HY := hide hyes; have HN := hide hno
      clear hF hyes hno h2 H HFO HTX
      have hst : ∀ wq, Hid (wq = w1) → True := fun _ _ => trivial
      rcases hgo with rfl | ⟨h4, hnB, hs⟩
      · go_upto_region 7 with fail
        as_aux_lemma =>
          go_loop [5, 6] (fun u x => ∃ (i : Nat) (g : Bool), 4 ≤ i ∧ i ≤ 4 ∧ u = .bool g ∧ x = .int .i64 i ∧ Hid (g = true ↔ 0 < 4 ∧ ∀ j (h : j < B.size), 4 ≤ j → j < i → B[j].toNat = 32)) (fun _ x => 4 - (intOf x).toNat)
          case atStart => exact ⟨4, true, Nat.le_refl _, by omega, rfl, rfl, hide (by exact ⟨fun _ => ⟨by omega, fun j _ h1 h2 => absurd h2 (by omega)⟩, fun _ => rfl⟩)⟩
          case round =>
            obtain ⟨i, g, hi0, hi, rfl, rfl, H⟩ := hrel
            by_cases h4 : i < 4
            · have hi4 : (i : Int) < 4 := by omega
              have hiz : (i : Int) < (B.size : Int) := by omega
              cases g
              · have hnx : ¬ (0 < 4 ∧ ∀ j (h : j < B.size), 4 ≤ j → j < i + 1 → B[j].toNat = 32) := fun h => by
                  have := H.out.2 ⟨h.1, fun j hj h1 h2 => h.2 j hj h1 (by omega)⟩
                  cases this
                have HX := hide hnx
                clear hnx
                as_aux_lemma =>
                  go_wp2
                  go_round
                  case rel => exact ⟨i + 1, false, by omega, by omega, rfl, by go_num, hide ⟨fun h => (by cases h), fun h => absurd h HX.out⟩⟩
                  case measure => simp [intOf]; omega
              · have hall := H.out.1 rfl
                by_cases h32 : B[i].toNat = 32
                · have e : (((B[i].toNat : Nat) : Int) == 32) = true := by rw [h32]; rfl
                  have hx : 0 < 4 ∧ ∀ j (h : j < B.size), 4 ≤ j → j < i + 1 → B[j].toNat = 32 := ⟨hall.1, fun j hj h1 h2 => by
                    rcases Nat.lt_or_ge j i with h' | h'
                    · exact hall.2 j hj h1 h'
                    · obtain rfl : j = i := by omega
                      exact h32⟩
                  have HX := hide hx
                  clear hx hall h32
                  as_aux_lemma =>
                    go_wp2
                    go_round
                    case rel => exact ⟨i + 1, true, by omega, by omega, rfl, by go_num, hide ⟨fun _ => HX.out, fun _ => rfl⟩⟩
                    case measure => simp [intOf]; omega
                · have e : (((B[i].toNat : Nat) : Int) == 32) = false := beq_eq_false_iff_ne.2 (by omega)
                  have hx : ¬ (0 < 4 ∧ ∀ j (h : j < B.size), 4 ≤ j → j < i + 1 → B[j].toNat = 32) := fun h => h32 (h.2 i (by omega) hi0 (by omega))
                  have HX := hide hx
                  clear hx hall h32
                  as_aux_lemma =>
                    go_wp2
                    go_round
                    case rel => exact ⟨i + 1, false, by omega, by omega, rfl, by go_num, hide ⟨fun h => (by cases h), fun h => absurd h HX.out⟩⟩
                    case measure => simp [intOf]; omega
            · obtain rfl : i = 4 := by omega
              cases g
              · have hbs := HN.out (fun h => by have := H.out.2 ⟨h.1, fun j hj h1 _ => h.2 j hj h1⟩; cases this)
                have HBS := hide hbs
                clear hbs H HY HN
                as_aux_lemma =>
                  go_wp2_with (go_at_call 34; refine (HDE.out _).mono ?_; rintro e w' ⟨rfl, hb2⟩)
                  go_ret
                  exact ⟨congrArg (fun z => Ending.returned (.string z)) (HR2.out HBS.out), HB1.out.trans (hb2.mono HB1.out.size)⟩
              · have hal := H.out.1 rfl
                obtain ⟨hbs, hTB⟩ := HY.out ⟨hal.1, fun j hj h1 => hal.2 j hj h1 (by omega)⟩
                have HBS := hide hbs; have HTB := hide hTB
                have hz4 : (4 : Int) ≤ (B.size : Int) := by omega
                clear hbs H HY HN hal hTB
                as_aux_lemma =>
                  go_wp2
                  go_ret
                  exact ⟨congrArg (fun z => Ending.returned (.string z)) (by rw [← HR1.out HBS.out, HTB.out]), HB1.out⟩
      · have hn4 : (n : Int) < 4 := by omega
        have hz4 : (n : Int) < (B.size : Int) := by omega
        have hsg := fun W => ref_sign B[n].toNat (UInt8.toNat_lt _) W
        rw [hs] at hsg
        have HSG := hide hsg
        clear hsg hs
        by_cases hp : 0 < n
        · have hpi : (0 : Int) < (n : Int) := by omega
          go_upto_region 7 with (go_at_call 65; refine (HSG.out _).mono ?_; rintro e w' ⟨rfl, rfl⟩)
          as_aux_lemma =>
            go_loop [5, 6] (fun u x => ∃ (i : Nat) (g : Bool), n ≤ i ∧ i ≤ 4 ∧ u = .bool g ∧ x = .int .i64 i ∧ Hid (g = true ↔ 0 < n ∧ ∀ j (h : j < B.size), n ≤ j → j < i → B[j].toNat = 32)) (fun _ x => 4 - (intOf x).toNat)
            case atStart => exact ⟨n, true, Nat.le_refl _, by omega, rfl, rfl, hide (by exact ⟨fun _ => ⟨hp, fun j _ h1 h2 => absurd h2 (by omega)⟩, fun _ => rfl⟩)⟩
            case round =>
              obtain ⟨i, g, hi0, hi, rfl, rfl, H⟩ := hrel
              by_cases h4 : i < 4
              · have hi4 : (i : Int) < 4 := by omega
                have hiz : (i : Int) < (B.size : Int) := by omega
                cases g
                · have hnx : ¬ (0 < n ∧ ∀ j (h : j < B.size), n ≤ j → j < i + 1 → B[j].toNat = 32) := fun h => by
                    have := H.out.2 ⟨h.1, fun j hj h1 h2 => h.2 j hj h1 (by omega)⟩
                    cases this
                  have HX := hide hnx
                  clear hnx
                  as_aux_lemma =>
                    go_wp2
                    go_round
                    case rel => exact ⟨i + 1, false, by omega, by omega, rfl, by go_num, hide ⟨fun h => (by cases h), fun h => absurd h HX.out⟩⟩
                    case measure => simp [intOf]; omega
                · have hall := H.out.1 rfl
                  by_cases h32 : B[i].toNat = 32
                  · have e : (((B[i].toNat : Nat) : Int) == 32) = true := by rw [h32]; rfl
                    have hx : 0 < n ∧ ∀ j (h : j < B.size), n ≤ j → j < i + 1 → B[j].toNat = 32 := ⟨hall.1, fun j hj h1 h2 => by
                      rcases Nat.lt_or_ge j i with h' | h'
                      · exact hall.2 j hj h1 h'
                      · obtain rfl : j = i := by omega
                        exact h32⟩
                    have HX := hide hx
                    clear hx hall h32
                    as_aux_lemma =>
                      go_wp2
                      go_round
                      case rel => exact ⟨i + 1, true, by omega, by omega, rfl, by go_num, hide ⟨fun _ => HX.out, fun _ => rfl⟩⟩
                      case measure => simp [intOf]; omega
                  · have e : (((B[i].toNat : Nat) : Int) == 32) = false := beq_eq_false_iff_ne.2 (by omega)
                    have hx : ¬ (0 < n ∧ ∀ j (h : j < B.size), n ≤ j → j < i + 1 → B[j].toNat = 32) := fun h => h32 (h.2 i (by omega) hi0 (by omega))
                    have HX := hide hx
                    clear hx hall h32
                    as_aux_lemma =>
                      go_wp2
                      go_round
                      case rel => exact ⟨i + 1, false, by omega, by omega, rfl, by go_num, hide ⟨fun h => (by cases h), fun h => absurd h HX.out⟩⟩
                      case measure => simp [intOf]; omega
              · obtain rfl : i = 4 := by omega
                cases g
                · have hbs := HN.out (fun h => by have := H.out.2 ⟨h.1, fun j hj h1 _ => h.2 j hj h1⟩; cases this)
                  have HBS := hide hbs
                  clear hbs H HY HN
                  as_aux_lemma =>
                    go_wp2_with (go_at_call 34; refine (HDE.out _).mono ?_; rintro e w' ⟨rfl, hb2⟩)
                    go_ret
                    exact ⟨congrArg (fun z => Ending.returned (.string z)) (HR2.out HBS.out), HB1.out.trans (hb2.mono HB1.out.size)⟩
                · have hal := H.out.1 rfl
                  obtain ⟨hbs, hTB⟩ := HY.out ⟨hal.1, fun j hj h1 => hal.2 j hj h1 (by omega)⟩
                  have HBS := hide hbs; have HTB := hide hTB
                  have hz4 : (n : Int) ≤ (B.size : Int) := by omega
                  clear hbs H HY HN hal hTB
                  as_aux_lemma =>
                    go_wp2
                    go_ret
                    exact ⟨congrArg (fun z => Ending.returned (.string z)) (by rw [← HR1.out HBS.out, HTB.out]), HB1.out⟩
        · obtain rfl : n = 0 := by omega
          go_upto_region 7 with (go_at_call 65; refine (HSG.out _).mono ?_; rintro e w' ⟨rfl, rfl⟩)
          as_aux_lemma =>
            go_loop [5, 6] (fun u x => ∃ (i : Nat) (g : Bool), 0 ≤ i ∧ i ≤ 4 ∧ u = .bool g ∧ x = .int .i64 i ∧ Hid (g = true ↔ 0 < 0 ∧ ∀ j (h : j < B.size), 0 ≤ j → j < i → B[j].toNat = 32)) (fun _ x => 4 - (intOf x).toNat)
            case atStart => exact ⟨0, false, Nat.le_refl _, by omega, rfl, rfl, hide (by exact ⟨fun h => (by cases h), fun h => absurd h.1 (by omega)⟩)⟩
            case round =>
              obtain ⟨i, g, hi0, hi, rfl, rfl, H⟩ := hrel
              by_cases h4 : i < 4
              · have hi4 : (i : Int) < 4 := by omega
                have hiz : (i : Int) < (B.size : Int) := by omega
                cases g
                · have hnx : ¬ (0 < 0 ∧ ∀ j (h : j < B.size), 0 ≤ j → j < i + 1 → B[j].toNat = 32) := fun h => by
                    have := H.out.2 ⟨h.1, fun j hj h1 h2 => h.2 j hj h1 (by omega)⟩
                    cases this
                  have HX := hide hnx
                  clear hnx
                  as_aux_lemma =>
                    go_wp2
                    go_round
                    case rel => exact ⟨i + 1, false, by omega, by omega, rfl, by go_num, hide ⟨fun h => (by cases h), fun h => absurd h HX.out⟩⟩
                    case measure => simp [intOf]; omega
                · exact absurd (H.out.1 rfl).1 (Nat.lt_irrefl 0)
              · obtain rfl : i = 4 := by omega
                cases g
                · have hbs := HN.out (fun h => by have := H.out.2 ⟨h.1, fun j hj h1 _ => h.2 j hj h1⟩; cases this)
                  have HBS := hide hbs
                  clear hbs H HY HN
                  as_aux_lemma =>
                    go_wp2_with (go_at_call 34; refine (HDE.out _).mono ?_; rintro e w' ⟨rfl, hb2⟩)
                    go_ret
                    exact ⟨congrArg (fun z => Ending.returned (.string z)) (HR2.out HBS.out), HB1.out.trans (hb2.mono HB1.out.size)⟩
                · exact absurd (H.out.1 rfl).1 (Nat.lt_irrefl 0)
end Go.Proofs.YtjlnbahanghhcaaGreatDoor
