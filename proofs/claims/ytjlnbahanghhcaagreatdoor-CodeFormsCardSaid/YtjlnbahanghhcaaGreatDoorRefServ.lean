/- The document's Service at texts of signs. -/
import Derived.Test.YtjlnbahanghhcaaGreatDoorRefCode
import Derived.Test.YtjlnbahanghhcaaGreatDoorBaseB
namespace Go.Proofs.YtjlnbahanghhcaaGreatDoor
open Go.RowKit
set_option linter.unusedVariables false
set_option linter.unusedSimpArgs false
theorem signs_no (t : ByteArray) (i : Nat) (h : i < t.size) (hs : signB t[i].toNat = false) : bySignsB t.data.toList = false ∧ codeOf t.data.toList = 0 := by
  have hb : bySignsB t.data.toList = false := by
    unfold bySignsB
    have : t.data.toList.all (fun b => signB b.toNat) = false := by
      rw [List.all_eq_false]
      exact ⟨t[i], List.getElem_mem (by rw [size_bytes]; exact h), by rw [hs]; simp⟩
    rw [this]; simp
  exact ⟨hb, by unfold codeOf; rw [hb]; rfl⟩
theorem signs_len (t : ByteArray) (h : t.size < 1 ∨ 4 < t.size) : bySignsB t.data.toList = false ∧ codeOf t.data.toList = 0 := by
  have hb : bySignsB t.data.toList = false := by
    unfold bySignsB
    rw [decide_eq_false (by rw [size_bytes]; omega)]; rfl
  exact ⟨hb, by unfold codeOf; rw [hb]; rfl⟩
theorem signs_yes (t : ByteArray) (h1 : 1 ≤ t.size) (h2 : t.size ≤ 4) (h : ∀ j (hj : j < t.size), signB t[j].toNat = true) : bySignsB t.data.toList = true ∧ codeOf t.data.toList = codeN t.data.toList 4 := by
  have hb : bySignsB t.data.toList = true := by
    unfold bySignsB
    rw [decide_eq_true (by rw [size_bytes]; omega), Bool.true_and, List.all_eq_true]
    intro b hb
    obtain ⟨j, hj, rfl⟩ := List.mem_iff_getElem.1 hb
    exact h j (by rw [← size_bytes]; exact hj)
  exact ⟨hb, by unfold codeOf; rw [hb]; rfl⟩
set_option maxHeartbeats 8000000 in
set_option maxRecDepth 100000 in
theorem ref_Service_signs0 (t z : ByteArray) (ht : t.size ≤ 1000) (hzs : z.size = t.size + 3) (hx : z.extract 3 z.size = t) (a0 : ∀ h : 0 < z.size, (z[0].toNat : Int) = 83) (a1 : ∀ h : 1 < z.size, (z[1].toNat : Int) = 67) (a2 : ∀ h : 2 < z.size, (z[2].toNat : Int) = 58) (w : World) : Calls Tryz.prog 31 #[.string z] w fun e w' => e = .returned (.tuple #[.int .u32 (codeOf t.data.toList), .bool (bySignsB t.data.toList)]) ∧ w = w' := by
  have hzi : (z.size : Int) = (t.size : Int) + 3 := by omega
  have z0 : 0 < z.size := by omega
  have z1 : 1 < z.size := by omega
  have z2 : 2 < z.size := by omega
  have e0 : ((((z[0]'z0).toNat : Nat) : Int) != 83) = false := by rw [a0 z0]; rfl
  have e1 : ((((z[1]'z1).toNat : Nat) : Int) != 67) = false := by rw [a1 z1]; rfl
  have e2 : ((((z[2]'z2).toNat : Nat) : Int) == 58) = true := by rw [a2 z2]; rfl
  go_enter Tryz.func31, Tryz.ntmps31
  by_cases hs : t.size < 1
  · have hq := signs_len t (.inl hs)
    have HQ := hide hq
    have g : (z.size : Int) < 4 := by omega
    clear hq hzi hzs hx a0 a1 a2
    as_aux_lemma =>
      go_wp2
      go_ret2
      exact ⟨ret_ib (by rw [HQ.out.2]; rfl) HQ.out.1.symm, rfl⟩
  have g : ¬ ((z.size : Int) < 4) := by omega
  have g0 : (0 : Int) < (z.size : Int) := by omega
  have g1 : (1 : Int) < (z.size : Int) := by omega
  have g2 : (2 : Int) < (z.size : Int) := by omega
  have g3 : (3 : Int) ≤ (z.size : Int) := by omega
  have HX := hide hx
  clear hx hzi hzs a0 a1 a2
  go_upto_region 6 with fail
  clear e0 e1 e2
  rw [HX.out]
  by_cases h4 : 4 < t.size
  · have hq := signs_len t (.inr h4)
    have HQ := hide hq
    have g5 : (4 : Int) < (t.size : Int) := by omega
    clear hq
    as_aux_lemma =>
      go_wp2
      go_ret2
      exact ⟨ret_ib (by rw [HQ.out.2]; rfl) HQ.out.1.symm, rfl⟩
  have g5 : ¬ ((4 : Int) < (t.size : Int)) := by omega
  go_upto_region 9 with fail
  go_loop [5, 7, 8] (fun u x _ => ∃ i : Nat, i ≤ 4 ∧ x = .int .i64 i ∧ u = .int .u64 (codeN t.data.toList i : Nat) ∧ Hid (∀ j (h : j < t.size), j < i → signB t[j].toNat = true)) (fun _ x _ => 4 - (intOf x).toNat)
  case atStart => exact ⟨0, by omega, rfl, rfl, hide (fun j _ h => absurd h (Nat.not_lt_zero j))⟩
  case round =>
    obtain ⟨i, hi, rfl, rfl, H⟩ := hrel
    by_cases hi4 : i < 4
    · have hci := codeN_lt t.data.toList i
      have hc3 : codeN t.data.toList i < 16777216 := Nat.lt_of_lt_of_le hci (by
        have : i = 0 ∨ i = 1 ∨ i = 2 ∨ i = 3 := by omega
        rcases this with rfl | rfl | rfl | rfl <;> decide)
      have hii : (i : Int) < 4 := by omega
      have hci2 : ((codeN t.data.toList i : Nat) : Int) < 16777216 := by omega
      by_cases hit : i < t.size
      · have hiz : (i : Int) < (t.size : Int) := by omega
        have h256 := UInt8.toNat_lt t[i]
        have hcs : codeN t.data.toList (i + 1) = codeN t.data.toList i * 256 + t[i].toNat := by
          show codeN t.data.toList i * 256 + byteOr t.data.toList i = _
          rw [byteOr_at t i hit]
        cases hb : signB t[i].toNat
        · have hq := signs_no t i hit hb
          have hsg := fun W => ref_sign t[i].toNat h256 W
          rw [hb] at hsg
          have HQ := hide hq; have HSG := hide hsg
          clear hq hsg hcs
          as_aux_lemma =>
            go_wp2_with (go_at_call 65; refine (HSG.out _).mono ?_; rintro e w' ⟨rfl, rfl⟩)
            go_ret2
            exact ⟨ret_ib (by rw [HQ.out.2]; rfl) HQ.out.1.symm, rfl⟩
        · have hsg := fun W => ref_sign t[i].toNat h256 W
          rw [hb] at hsg
          have HSG := hide hsg; have HCS := hide hcs; have HB := hide hb
          clear hsg hcs hb
          generalize hcn : codeN t.data.toList i = cn at *
          as_aux_lemma =>
            go_wp2_with (go_at_call 65; refine (HSG.out _).mono ?_; rintro e w' ⟨rfl, rfl⟩)
            go_round
            case rel => exact ⟨i + 1, by omega, by go_num, by rw [HCS.out]; go_num, hide (fun j h hj => by
              rcases Nat.lt_or_ge j i with h' | h'
              · exact H.out j h h'
              · obtain rfl : j = i := by omega
                exact HB.out)⟩
            case measure => simp [intOf]; omega
      · have hiz : ¬ ((i : Int) < (t.size : Int)) := by omega
        have hcs : codeN t.data.toList (i + 1) = codeN t.data.toList i * 256 + 32 := by
          show codeN t.data.toList i * 256 + byteOr t.data.toList i = _
          rw [byteOr_behind t i hit]
        have HCS := hide hcs
        clear hcs
        generalize hcn : codeN t.data.toList i = cn at *
        as_aux_lemma =>
          go_wp2
          go_round
          case rel => exact ⟨i + 1, by omega, by go_num, by rw [HCS.out]; go_num, hide (fun j h hj => H.out j h (by omega))⟩
          case measure => simp [intOf]; omega
    · obtain rfl : i = 4 := by omega
      have hq := signs_yes t (by omega) (by omega) (fun j h => H.out j h (by omega))
      have hc4 := codeN_lt t.data.toList 4
      have HQ := hide hq
      clear hq H
      generalize codeN t.data.toList 4 = cn at *
      have hcn : (cn : Int) < 4294967296 := by omega
      as_aux_lemma =>
        go_wp2
        go_ret2
        exact ⟨ret_ib (by rw [HQ.out.2]) HQ.out.1.symm, rfl⟩
theorem ref_Service_signs (t : ByteArray) (ht : t.size ≤ 1000) (w : World) : Calls Tryz.prog 31 #[.string (⟨#[83, 67, 58]⟩ ++ t)] w fun e w' => e = .returned (.tuple #[.int .u32 (codeOf t.data.toList), .bool (bySignsB t.data.toList)]) ∧ w = w' := by
  have hzs : (⟨#[83, 67, 58]⟩ ++ t : ByteArray).size = t.size + 3 := by rw [ByteArray.size_append]; show 3 + t.size = _; omega
  have hx : (⟨#[83, 67, 58]⟩ ++ t : ByteArray).extract 3 (⟨#[83, 67, 58]⟩ ++ t : ByteArray).size = t := by
    rw [hzs]
    apply ByteArray.ext
    apply Array.ext'
    rw [ByteArray.data_extract, Array.toList_extract, List.extract_eq_take_drop, ByteArray.data_append, Array.toList_append]
    show ((83 :: 67 :: 58 :: t.data.toList).drop 3).take (t.size + 3 - 3) = t.data.toList
    simp only [List.drop_succ_cons, List.drop_zero]
    rw [List.take_of_length_le (by rw [size_bytes]; omega)]
  have hat : ∀ (i : Nat) (h : i < (⟨#[83, 67, 58]⟩ ++ t : ByteArray).size) (hi : i < 3), (⟨#[83, 67, 58]⟩ ++ t : ByteArray)[i] = (⟨#[83, 67, 58]⟩ : ByteArray)[i]'(by exact hi) := fun i h hi => by
    rw [ByteArray.getElem_append_left]
  have a0 : (((⟨#[83, 67, 58]⟩ ++ t : ByteArray)[0]'(by rw [hzs]; omega)).toNat : Int) = 83 := by rw [hat 0 _ (by omega)]; rfl
  have a1 : (((⟨#[83, 67, 58]⟩ ++ t : ByteArray)[1]'(by rw [hzs]; omega)).toNat : Int) = 67 := by rw [hat 1 _ (by omega)]; rfl
  have a2 : (((⟨#[83, 67, 58]⟩ ++ t : ByteArray)[2]'(by rw [hzs]; omega)).toNat : Int) = 58 := by rw [hat 2 _ (by omega)]; rfl
  exact ref_Service_signs0 t _ ht hzs hx (fun _ => a0) (fun _ => a1) (fun _ => a2) w
end Go.Proofs.YtjlnbahanghhcaaGreatDoor
