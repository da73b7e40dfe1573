/- code.Reason, code.Runes: what they are of a text's runes. Conditions: a text of no more than 2^45 bytes. -/
import Derived.Test.YtjlnbahanghhcaaGreatDoorBuilderRune
import Derived.Test.YtjlnbahanghhcaaGreatDoorPureRunes
import Derived.WalkKit
import Derived.BigCall
namespace Go.Proofs.YtjlnbahanghhcaaGreatDoor
open Go.RowKit
set_option linter.unusedVariables false
set_option linter.unusedSimpArgs false

theorem dec_drop (s : ByteArray) (pos : Nat) : Lib.decodeL (s.data.toList.drop pos) = Utf8.decode s pos := Lib.decodeL_drop s pos
theorem drop_ne (s : ByteArray) (pos : Nat) (h : pos < s.size) : s.data.toList.drop pos ≠ [] := by
  intro h0
  have := congrArg List.length h0
  rw [List.length_drop, List.length_nil, Array.length_toList] at this
  have e : s.size = s.data.size := rfl
  omega
theorem drop_end (s : ByteArray) (pos : Nat) (h : ¬ pos < s.size) : s.data.toList.drop pos = [] := by
  refine List.drop_eq_nil_of_le ?_
  rw [Array.length_toList]
  have e : s.size = s.data.size := rfl
  omega
theorem dec_i32 (s : ByteArray) (pos : Nat) : (Utf8.decode s pos).1 ≤ 1114111 := Lib.rune_le s pos
theorem dec_width (s : ByteArray) (pos : Nat) (h : pos < s.size) : 1 ≤ (Utf8.decode s pos).2 := Lib.width_pos s pos

theorem dec_le (s : ByteArray) (pos : Nat) (h : pos < s.size) : pos + (Utf8.decode s pos).2 ≤ s.size := by
  have := Lib.decodeL_le (s.data.toList.drop pos) (drop_ne s pos h)
  rw [dec_drop, List.length_drop, Array.length_toList] at this
  have e : s.size = s.data.size := rfl
  omega

set_option maxHeartbeats 4000000 in
set_option maxRecDepth 1000000 in
theorem code_Reason (s : ByteArray) (m : Int) (hm0 : -9223372036854775808 ≤ m) (hm1 : m ≤ 9223372036854775807) (hs : s.size ≤ 35184372088832) (w : World) :
    Calls Tryz.prog 35 #[.string s, .int .i64 m] w fun e w' => e = .returned (.string ⟨(Ru.reason s.data.toList m.toNat).toArray⟩) ∧ Below w.heap.size w w' := by
  go_enter Tryz.func35, Tryz.ntmps35
  go_wp2
  go_loopw [1] (fun v1 wr => ∃ (x : Int) (pos : Nat) (acc : List UInt8), v1 = .int .i64 x ∧ -9223372036854775808 ≤ x ∧ x ≤ 9223372036854775807 ∧ Lib.IsBuilderF 94 5 w.heap.size w.heap.size (Lib.byteCells acc) wr ∧ wr.heap[w.heap.size + 1]? = some (.stringIter s pos) ∧ Below w.heap.size w wr ∧ acc ++ Ru.reason (s.data.toList.drop pos) x.toNat = Ru.reason s.data.toList m.toNat ∧ acc.length ≤ 4 * pos ∧ pos ≤ s.size) (fun v1 wr => s.size - wr.iterPos (w.heap.size + 1))
  case atStart =>
    refine ⟨m, 0, [], rfl, hm0, hm1, (Lib.IsBuilderF.of (Lib.fresh_isBuilder 94 5 w)).alloc _, ?_, ((Below.refl _ w).alloc (Nat.le_refl _) _).alloc (by simp) _, rfl, by simp, by omega⟩
    have := World.iter_heap (w.alloc (.cells #[.pointer none, .slice none 0 0] 94)) s 0
    simpa using this
  case round =>
    obtain ⟨x, pos, acc, rfl, hx0, hx1, hI, hit, hbw, hacc, hal, hps⟩ := hrel
    have hsz : w.heap.size + 1 < wr.heap.size := (Array.getElem?_eq_some_iff.1 hit).1
    by_cases hp : pos < s.size
    · have hnx : ∀ ty, (Instr.next (.pointer (some ⟨w.heap.size + 1, 0, none⟩)) true ty).run Tryz.prog wr = _ := fun ty => Lib.run_next_any_at wr (w.heap.size + 1) s pos ty hit hp
      have hwd := dec_width s pos hp
      have hd1 := decode_le s pos
      have hri := dec_i32 s pos
      have hde := dec_le s pos hp
      have hI2 := hI.iterAt hit (pos + (Utf8.decode s pos).2)
      have hit2 := Lib.iterAt_heap wr (w.heap.size + 1) s pos (pos + (Utf8.decode s pos).2) hit
      have hbw2 := Lib.below_iterAt hbw (k := w.heap.size + 1) (by omega) s (pos + (Utf8.decode s pos).2)
      have hsz2 : w.heap.size ≤ (wr.iterAt (w.heap.size + 1) s (pos + (Utf8.decode s pos).2)).heap.size := by rw [Lib.iterAt_size]; omega
      have hst := fun k => Ru.reason_step (s.data.toList.drop pos) k (drop_ne s pos hp)
      simp only [dec_drop, List.drop_drop] at hst
      generalize Utf8.decode s pos = dk at *
      obtain ⟨d, k⟩ := dk
      dsimp only at *
      by_cases hx : x ≤ 0
      · go_wp2_with (go_at_call 67; refine (Tryz.Builder_String_any_k w.heap.size w.heap.size acc _ hI2 hsz2).mono ?_)
        rintro e W1 ⟨rfl, _, b1, _⟩
        go_wp2
        go_ret
        rw [Ru.reason_end _ _ (Or.inr (by omega)), List.append_nil] at hacc
        subst hacc
        exact ⟨rfl, hbw2.trans b1⟩
      · have hxm : (x - 1).toNat + 1 = x.toNat := by omega
        rw [← hxm, hst] at hacc
        by_cases h32 : d < 32
        · rw [show Ru.clean d = 32 from if_pos (Or.inl h32)] at hacc
          have hi32 : (d : Int) < 32 := by omega
          go_wp2_with (go_at_call 66; refine (bld_rune w.heap.size w.heap.size _ 32 (by omega) (by omega) _ hI2 (by rw [Lib.byteCells_length]; omega) hsz2).mono ?_)
          rintro e W1 rfl h1 b1 k1
          go_wp2
          go_roundw
          case rel =>
            have hl4 := Lib.runeCells_le 32
            rw [Lib.runeCells_length] at hl4
            refine ⟨x - 1, pos + k, acc ++ Lib.encodeRune 32, by first | rfl | (go_simp; rfl) | (congr 1; omega), by omega, by omega, ?_, k1.iter hit2 (by omega), hbw2.trans b1, ?_, by simp; omega, hde⟩
            · rw [Lib.byteCells_append, Lib.byteCells_encodeRune]; exact Or.inr h1
            · rw [← hacc, List.append_assoc]; rfl
          case measure =>
            simp only [World.iterPos, k1.iter hit2 (by omega), hit]
            omega
        · by_cases h127 : d = 127
          · subst h127
            rw [show Ru.clean 127 = 32 from rfl] at hacc
            go_wp2_with (go_at_call 66; refine (bld_rune w.heap.size w.heap.size _ 32 (by omega) (by omega) _ hI2 (by rw [Lib.byteCells_length]; omega) hsz2).mono ?_)
            rintro e W1 rfl h1 b1 k1
            go_wp2
            go_roundw
            case rel =>
              have hl4 := Lib.runeCells_le 32
              rw [Lib.runeCells_length] at hl4
              refine ⟨x - 1, pos + k, acc ++ Lib.encodeRune 32, by first | rfl | (go_simp; rfl) | (congr 1; omega), by omega, by omega, ?_, k1.iter hit2 (by omega), hbw2.trans b1, ?_, by simp; omega, hde⟩
              · rw [Lib.byteCells_append, Lib.byteCells_encodeRune]; exact Or.inr h1
              · rw [← hacc, List.append_assoc]; rfl
            case measure =>
              simp only [World.iterPos, k1.iter hit2 (by omega), hit]
              omega
          · rw [show Ru.clean d = d from if_neg (by omega)] at hacc
            have hi32 : ¬ (d : Int) < 32 := by omega
            have hi127 : ¬ (d : Int) = 127 := by omega
            go_wp2_with (go_at_call 66; refine (bld_rune w.heap.size w.heap.size _ d (by omega) (by omega) _ hI2 (by rw [Lib.byteCells_length]; omega) hsz2).mono ?_)
            rintro e W1 rfl h1 b1 k1
            go_wp2
            go_roundw
            case rel =>
              have hl4 := Lib.runeCells_le d
              rw [Lib.runeCells_length] at hl4
              refine ⟨x - 1, pos + k, acc ++ Lib.encodeRune d, by first | rfl | (go_simp; rfl) | (congr 1; omega), by omega, by omega, ?_, k1.iter hit2 (by omega), hbw2.trans b1, ?_, by simp; omega, hde⟩
              · rw [Lib.byteCells_append, Lib.byteCells_encodeRune]; exact Or.inr h1
              · rw [← hacc, List.append_assoc]
            case measure =>
              simp only [World.iterPos, k1.iter hit2 (by omega), hit]
              omega
    · have hnx : ∀ ty, (Instr.next (.pointer (some ⟨w.heap.size + 1, 0, none⟩)) true ty).run Tryz.prog wr = _ := fun ty => Lib.run_next_end_at wr (w.heap.size + 1) s pos ty hit hp
      go_wp2_with (go_at_call 67; refine (Tryz.Builder_String_any_k w.heap.size w.heap.size acc _ hI (by omega)).mono ?_)
      rintro e W1 ⟨rfl, _, b1, _⟩
      go_wp2
      go_ret
      rw [Ru.reason_end _ _ (Or.inl (drop_end s pos hp)), List.append_nil] at hacc
      subst hacc
      exact ⟨rfl, hbw.trans b1⟩
end Go.Proofs.YtjlnbahanghhcaaGreatDoor
