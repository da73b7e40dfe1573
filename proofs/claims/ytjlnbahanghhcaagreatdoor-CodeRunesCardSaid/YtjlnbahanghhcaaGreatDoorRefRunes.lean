/- The document's Rune, Reason: over the tables of unicode/utf8. Conditions: the tables read as they were laid; a text of no more than 100 bytes. -/
import Derived.Test.YtjlnbahanghhcaaGreatDoorCodeRunes
import Derived.Laws.Cover4
import Derived.Deep.DeepCutAuto
import Derived.Deep.CutBlock
import Derived.IntWalk
import Derived.OwnWalk
namespace Go.Proofs.YtjlnbahanghhcaaGreatDoor
open Go.RowKit
set_option linter.unusedVariables false
set_option linter.unusedSimpArgs false
theorem enc_same (r : Nat) (h : Ru.good r) : (Utf8.encode (r : Int)).data.toList = Lib.encodeRune (r : Int) := by
  unfold Ru.good at h
  have hv : Utf8.valid (r : Int) = true := by
    unfold Utf8.valid
    simp only [Bool.and_eq_true, Bool.or_eq_true, decide_eq_true_eq]
    omega
  unfold Utf8.encode Lib.encodeRune
  simp only [hv, if_true, Int.toNat_natCast]
  by_cases c1 : r ≤ 127
  · rw [if_pos (by omega), Lib.encodeRuneZ_one (by omega) (by omega)]
    simp [Nat.toUInt8]
  by_cases c2 : r ≤ 2047
  · rw [if_neg (by omega), if_pos (by omega), Lib.encodeRuneZ_two (by omega) (by omega)]
    simp only [List.map_cons, List.map_nil, show (192 + (r : Int) / 64).toNat = 192 + r / 64 from by omega, show (128 + (r : Int) % 64).toNat = 128 + r % 64 from by omega]
  by_cases c3 : r ≤ 65535
  · rw [if_neg (by omega), if_neg (by omega), if_pos (by omega), Lib.encodeRuneZ_three (by omega)]
    simp only [List.map_cons, List.map_nil, show (224 + (r : Int) / 4096).toNat = 224 + r / 4096 from by omega, show (128 + (r : Int) / 64 % 64).toNat = 128 + r / 64 % 64 from by omega, show (128 + (r : Int) % 64).toNat = 128 + r % 64 from by omega]
  · rw [if_neg (by omega), if_neg (by omega), if_neg (by omega), Lib.encodeRuneZ_four (by omega) (by omega)]
    simp only [List.map_cons, List.map_nil, show (240 + (r : Int) / 262144).toNat = 240 + r / 262144 from by omega, show (128 + (r : Int) / 4096 % 64).toNat = 128 + r / 4096 % 64 from by omega, show (128 + (r : Int) / 64 % 64).toNat = 128 + r / 64 % 64 from by omega, show (128 + (r : Int) % 64).toNat = 128 + r % 64 from by omega]
theorem cell_laid (w : World) (row : Array Value) (t : TypeId) (p : Nat × Nat) (j : Nat) (v : Value) (h : row[j]? = some v) : (w.alloc (.cells row t p)).cell? ⟨w.heap.size, j, none⟩ = some v := by
  have e : (w.alloc (.cells row t p)).heap[w.heap.size]? = some (.cells row t p) := by
    show (w.heap.push _)[w.heap.size]? = _
    rw [Array.getElem?_push_size]
  unfold World.cell?
  rw [e]; exact h
/-- string([]rune{r}). -/
theorem run_rune (W : World) (r : Int) : (convert 100 9 (.slice (some ⟨W.heap.size, 0, none⟩) 1 1)).run Tryz.prog (W.alloc (.cells #[.int .i32 r] 21)) = .ok (.string (Utf8.encode r)) (W.alloc (.cells #[.int .i32 r] 21)) := by
  rw [run_convert_runes_string _ 100 9 21 (some ⟨W.heap.size, 0, none⟩) _ _ Tryz.underlying100 Tryz.underlying21 Tryz.underlying9]
  have hl := run_loadCells_list (P := Tryz.prog) (W.alloc (.cells #[.int .i32 r] 21)) ⟨W.heap.size, 0, none⟩ ([r].map (Value.int .i32)) (fun j v hj => by
    have : (⟨W.heap.size, 0, none⟩ : Addr).add j = ⟨W.heap.size, j, none⟩ := by unfold Addr.add; split <;> simp_all
    rw [this]
    exact cell_laid W _ _ _ j v (by simpa using hj))
  simp only [List.length_map, List.length_cons, List.length_nil] at hl
  rw [run_runesToString _ _ _ _ _ hl]
  have e : runesBytes [r] = Utf8.encode r := by
    show ByteArray.empty ++ Utf8.encode r = _
    exact ByteArray.empty_append
  rw [e]
set_option maxHeartbeats 4000000 in
set_option maxRecDepth 100000 in
theorem ref_Rune (s : ByteArray) (w : World) (hT : Lib.Utf8Tabs 2 3 w) :
    Calls Tryz.prog 38 #[.string s] w fun e w' => e = .returned (.tuple #[.int .i32 (Lib.decodeGo s).1, .int .i64 (Lib.decodeGo s).2]) ∧ Below w.heap.size w w' := by
  go_enter Tryz.func38, Tryz.ntmps38
  go_wp2_with (go_at_call 70; refine (Tryz.utf8_DecodeRuneInString s w hT).mono ?_; rintro e w1 ⟨rfl, hb⟩)
  go_ret2
  exact ⟨rfl, hb⟩
theorem dec_go (s : ByteArray) (h : 0 < s.size) : Lib.decodeGo s = Lib.decodeL s.data.toList := by
  unfold Lib.decodeGo
  rw [if_neg (by omega), ← Lib.decodeL_drop, List.drop_zero]

theorem ext_back (s : ByteArray) (a : Nat) : (s.extract a s.size).data.toList = s.data.toList.drop a := by
  rw [ByteArray.data_extract, Array.toList_extract, List.extract_eq_take_drop, List.take_of_length_le]
  rw [List.length_drop, Array.length_toList]; exact Nat.le_refl _
set_option maxHeartbeats 4000000 in
set_option maxRecDepth 1000000 in
theorem ref_Reason (s : ByteArray) (hs : s.size ≤ 100) (m : Int) (hm0 : -9223372036854775808 ≤ m) (hm1 : m ≤ 9223372036854775807) (w : World) (hT : Lib.Utf8Tabs 2 3 w) :
    Calls Tryz.prog 36 #[.string s, .int .i64 m] w fun e w' => e = .returned (.string ⟨(Ru.reason s.data.toList m.toNat).toArray⟩) ∧ Below w.heap.size w w' := by
  go_enter Tryz.func36, Tryz.ntmps36
  go_upto_region 3 with fail
  go_loopw [0, 5, 6] (fun v0 v5 v6 wr => ∃ (r acc : ByteArray) (n : Int), v0 = .string r ∧ v5 = .string acc ∧ v6 = .int .i64 n ∧ 0 ≤ n ∧ (r.size : Int) + n ≤ 100 ∧ (acc.size : Int) ≤ 4 * n ∧ Hid (acc.data.toList ++ Ru.reason r.data.toList (m - n).toNat = Ru.reason s.data.toList m.toNat) ∧ Below w.heap.size w wr) (fun v0 v5 v6 wr => (101 - intOf v6).toNat)
  case atStart => exact ⟨s, ByteArray.empty, 0, rfl, rfl, rfl, by omega, by omega, by simp, hide (by simp), Below.refl _ _⟩
  case round =>
    obtain ⟨r, acc, n, rfl, rfl, rfl, hn0, hrn, han, H, hb⟩ := hrel
    have hzw := hb.size
    by_cases hn : n < m
    · by_cases hr : 0 < r.size
      · have hT2 := hide (Utf8Tabs_below hT hb)
        have hne : r.data.toList ≠ [] := by
          intro h0
          have := size_bytes r
          rw [h0, List.length_nil] at this
          omega
        have hst := fun j => Ru.reason_step r.data.toList j hne
        have hw := Lib.decodeL_width r.data.toList
        have hle := Lib.decodeL_le r.data.toList hne
        rw [size_bytes] at hle
        have hgo := Ru.dec_good r.data.toList
        have hgc := Ru.clean_good _ hgo
        have hmn : (m - (n + 1)).toNat + 1 = (m - n).toNat := by omega
        have hacc := H.out
        rw [← hmn, hst] at hacc
        clear hst H
        have hRR := fun W h => ref_Rune r W h
        rw [dec_go r hr] at hRR
        generalize Lib.decodeL r.data.toList = dk at *
        obtain ⟨d, k⟩ := dk
        dsimp only at *
        have hd : d ≤ 1114111 := by unfold Ru.good at hgo; omega
        have HX := hide (show (r.extract k r.size).size = r.size - k by rw [ByteArray.size_extract]; omega)
        have HXd := hide (ext_back r k)
        have HR := hide hRR
        clear hRR hmn hgo
        have hkz : (k : Int) ≤ (r.size : Int) := by omega
        go_upto_region 6 with (go_at_call 38; refine (HR.out _ hT2.out).mono ?_; rintro e w1 ⟨rfl, hb1⟩)
        have hb2 := ((hb.trans (hb1.mono hzw)).alloc (by have := hb1.size; omega) (.cells #[.int .i32 (Ru.clean d : Nat)] 21))
        have hrr := run_rune w1 (Ru.clean d : Nat)
        have hes := enc_same _ hgc
        have hez := encode_size_le (Ru.clean d : Nat)
        rw [← hes] at hacc
        clear hes
        generalize Utf8.encode (Ru.clean d : Nat) = E at *
        have HE := hide (rfl : E.data.toList = E.data.toList)
        by_cases h32 : d < 32
        · rw [show ((Ru.clean d : Nat) : Int) = 32 from by rw [show Ru.clean d = 32 from if_pos (Or.inl h32)]; rfl] at hrr hb2
          have hi32 : (d : Int) < 32 := by omega
          as_aux_lemma =>
            go_upto_region 8 with fail
            go_wp2
            go_roundw
            case rel =>
              refine ⟨r.extract k r.size, acc ++ E, n + 1, by first | rfl | (go_simp; rfl), by first | rfl | (go_simp; rfl), by first | rfl | (go_simp; rfl), by omega, ?_, ?_, ?_, hb2⟩
              · rw [HX.out]; omega
              · rw [ByteArray.size_append]; omega
              · refine hide ?_
                rw [ByteArray.data_append, Array.toList_append, List.append_assoc, HXd.out, HE.out]; exact hacc
            case measure => simp [intOf]; omega
        · by_cases h127 : d = 127
          · subst h127
            rw [show ((Ru.clean 127 : Nat) : Int) = 32 from rfl] at hrr hb2
            as_aux_lemma =>
              go_upto_region 8 with fail
              go_wp2
              go_roundw
              case rel =>
                refine ⟨r.extract k r.size, acc ++ E, n + 1, by first | rfl | (go_simp; rfl), by first | rfl | (go_simp; rfl), by first | rfl | (go_simp; rfl), by omega, ?_, ?_, ?_, hb2⟩
                · rw [HX.out]; omega
                · rw [ByteArray.size_append]; omega
                · refine hide ?_
                  rw [ByteArray.data_append, Array.toList_append, List.append_assoc, HXd.out, HE.out]; exact hacc
              case measure => simp [intOf]; omega
          · rw [show ((Ru.clean d : Nat) : Int) = (d : Int) from by rw [show Ru.clean d = d from if_neg (by omega)]] at hrr hb2
            have hi32 : ¬ (d : Int) < 32 := by omega
            have hi127 : ¬ (d : Int) = 127 := by omega
            as_aux_lemma =>
              go_upto_region 8 with fail
              go_wp2
              go_roundw
              case rel =>
                refine ⟨r.extract k r.size, acc ++ E, n + 1, by first | rfl | (go_simp; rfl), by first | rfl | (go_simp; rfl), by first | rfl | (go_simp; rfl), by omega, ?_, ?_, ?_, hb2⟩
                · rw [HX.out]; omega
                · rw [ByteArray.size_append]; omega
                · refine hide ?_
                  rw [ByteArray.data_append, Array.toList_append, List.append_assoc, HXd.out, HE.out]; exact hacc
              case measure => simp [intOf]; omega
      · have h0 : r.data.toList = [] := List.eq_nil_of_length_eq_zero (by rw [size_bytes]; omega)
        have hacc := H.out
        rw [Ru.reason_end _ _ (Or.inl h0), List.append_nil] at hacc
        clear H
        go_wp2
        go_ret
        rw [← hacc]
        exact ⟨rfl, hb⟩
    · have hacc := H.out
      rw [Ru.reason_end _ _ (Or.inr (by omega)), List.append_nil] at hacc
      clear H
      go_wp2
      go_ret
      rw [← hacc]
      exact ⟨rfl, hb⟩
end Go.Proofs.YtjlnbahanghhcaaGreatDoor
