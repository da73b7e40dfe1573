/- code.letter, code.digit, code.Runes: how many of a text's runes are letters, digits, others. Conditions: a text of no more than 2^45 bytes. -/
import Derived.Test.YtjlnbahanghhcaaGreatDoorCodeRunes
import Derived.BigGuardPart
import Derived.OwnWalk
namespace Go.Proofs.YtjlnbahanghhcaaGreatDoor
open Go.RowKit
set_option linter.unusedVariables false
set_option linter.unusedSimpArgs false

set_option maxHeartbeats 4000000 in
set_option maxRecDepth 100000 in
theorem count_letter (r : Nat) (w : World) : Calls Tryz.prog 68 #[.int .i32 (r : Int)] w fun e w' => e = .returned (.bool (Ru.isL r)) ∧ w' = w := by
  obtain ⟨b, hb⟩ : ∃ b, Ru.isL r = b := ⟨_, rfl⟩
  have hb' : b = true ↔ ((65 ≤ r ∧ r ≤ 90) ∨ (97 ≤ r ∧ r ≤ 122)) := by
    rw [← hb]; unfold Ru.isL; exact decide_eq_true_iff
  rw [hb]
  go_enter Tryz.func68, Tryz.ntmps68
  go_wp2
  all_goals
    go_ret
    refine ⟨?_, rfl⟩
    cases b
    · have := mt hb'.2 (by decide)
      simp at * <;> omega
    · have := hb'.1 rfl
      simp at * <;> omega
set_option maxHeartbeats 4000000 in
set_option maxRecDepth 100000 in
theorem count_digit (r : Nat) (w : World) : Calls Tryz.prog 69 #[.int .i32 (r : Int)] w fun e w' => e = .returned (.bool (Ru.isD r)) ∧ w' = w := by
  obtain ⟨b, hb⟩ : ∃ b, Ru.isD r = b := ⟨_, rfl⟩
  have hb' : b = true ↔ (48 ≤ r ∧ r ≤ 57) := by
    rw [← hb]; unfold Ru.isD; exact decide_eq_true_iff
  rw [hb]
  go_enter Tryz.func69, Tryz.ntmps69
  go_wp2
  all_goals
    go_ret
    refine ⟨?_, rfl⟩
    cases b
    · have := mt hb'.2 (by decide)
      simp at * <;> omega
    · have := hb'.1 rfl
      simp at * <;> omega

set_option maxHeartbeats 4000000 in
set_option maxRecDepth 1000000 in
theorem code_Runes (s : ByteArray) (hs : s.size ≤ 35184372088832) (w : World) :
    Calls Tryz.prog 37 #[.string s] w fun e w' => e = .returned (.tuple #[.int .i64 (Ru.nL s.data.toList : Nat), .int .i64 (Ru.nD s.data.toList : Nat), .int .i64 (Ru.nO s.data.toList : Nat)]) ∧ Below w.heap.size w w' := by
  have hn := Ru.n_le s.data.toList
  rw [Array.length_toList, show s.data.size = s.size from rfl] at hn
  obtain ⟨NL, hNL⟩ : ∃ n, Ru.nL s.data.toList = n := ⟨_, rfl⟩
  obtain ⟨ND, hND⟩ : ∃ n, Ru.nD s.data.toList = n := ⟨_, rfl⟩
  obtain ⟨NO, hNO⟩ : ∃ n, Ru.nO s.data.toList = n := ⟨_, rfl⟩
  rw [hNL, hND, hNO] at hn
  rw [hNL, hND, hNO]
  go_enter Tryz.func37, Tryz.ntmps37
  go_wp2
  go_loopw [2, 3, 4] (fun v2 v3 v4 wr => ∃ (x y z : Int) (pos : Nat), v2 = .int .i64 x ∧ v3 = .int .i64 y ∧ v4 = .int .i64 z ∧ 0 ≤ x ∧ 0 ≤ y ∧ 0 ≤ z ∧ x + (Ru.nL (s.data.toList.drop pos) : Int) = (NL : Int) ∧ y + (Ru.nD (s.data.toList.drop pos) : Int) = (ND : Int) ∧ z + (Ru.nO (s.data.toList.drop pos) : Int) = (NO : Int) ∧ wr.heap[w.heap.size]? = some (.stringIter s pos) ∧ Below w.heap.size w wr ∧ pos ≤ s.size) (fun v2 v3 v4 wr => s.size - wr.iterPos w.heap.size)
  case atStart =>
    refine ⟨0, 0, 0, 0, rfl, rfl, rfl, by omega, by omega, by omega, by rw [List.drop_zero, hNL]; omega, by rw [List.drop_zero, hND]; omega, by rw [List.drop_zero, hNO]; omega, World.iter_heap w s 0, (Below.refl _ w).alloc (Nat.le_refl _) _, by omega⟩
  case round =>
    obtain ⟨x, y, z, pos, rfl, rfl, rfl, hx0, hy0, hz0, hx, hy, hz, hit, hbw, hps⟩ := hrel
    have hsz : w.heap.size < wr.heap.size := (Array.getElem?_eq_some_iff.1 hit).1
    by_cases hp : pos < s.size
    · have hnx : ∀ ty, (Instr.next (.pointer (some ⟨w.heap.size, 0, none⟩)) true ty).run Tryz.prog wr = _ := fun ty => Lib.run_next_any_at wr w.heap.size s pos ty hit hp
      have hwd := dec_width s pos hp
      have hri := dec_i32 s pos
      have hde := dec_le s pos hp
      have hit2 := Lib.iterAt_heap wr w.heap.size s pos (pos + (Utf8.decode s pos).2) hit
      have hbw2 := Lib.below_iterAt hbw (k := w.heap.size) (by omega) s (pos + (Utf8.decode s pos).2)
      obtain ⟨e1, e2, e3⟩ := Ru.n_step (s.data.toList.drop pos) (drop_ne s pos hp)
      simp only [dec_drop, List.drop_drop] at e1 e2 e3
      rw [e1] at hx
      rw [e2] at hy
      rw [e3] at hz
      clear e1 e2 e3
      generalize Utf8.decode s pos = dk at *
      obtain ⟨d, k⟩ := dk
      dsimp only at *
      have CL := count_letter d (wr.iterAt w.heap.size s (pos + k))
      have CD := count_digit d (wr.iterAt w.heap.size s (pos + k))
      generalize Ru.isL d = bl at *
      generalize Ru.isD d = bd at *
      cases bl
      · cases bd
        · simp only [Bool.not_false, Bool.not_true, Bool.true_and, Bool.false_and, Bool.and_false, Bool.and_true, if_true, if_false, Bool.false_eq_true] at hx hy hz
          go_wp2_with (first | (go_at_call 68; refine CL.mono ?_; rintro e W1 ⟨rfl, rfl⟩) | (go_at_call 69; refine CD.mono ?_; rintro e W1 ⟨rfl, rfl⟩))
          go_roundw
          case rel => exact ⟨x, y, z + 1, pos + k, rfl, rfl, by first | rfl | (go_simp; rfl), by omega, by omega, by omega, by omega, by omega, by omega, hit2, hbw2, hde⟩
          case measure => simp only [World.iterPos, hit2, hit]; omega
        · simp only [Bool.not_false, Bool.not_true, Bool.true_and, Bool.false_and, Bool.and_false, Bool.and_true, if_true, if_false, Bool.false_eq_true] at hx hy hz
          go_wp2_with (first | (go_at_call 68; refine CL.mono ?_; rintro e W1 ⟨rfl, rfl⟩) | (go_at_call 69; refine CD.mono ?_; rintro e W1 ⟨rfl, rfl⟩))
          go_roundw
          case rel => exact ⟨x, y + 1, z, pos + k, rfl, by first | rfl | (go_simp; rfl), rfl, by omega, by omega, by omega, by omega, by omega, by omega, hit2, hbw2, hde⟩
          case measure => simp only [World.iterPos, hit2, hit]; omega
      · simp only [Bool.not_false, Bool.not_true, Bool.true_and, Bool.false_and, Bool.and_false, Bool.and_true, if_true, if_false, Bool.false_eq_true] at hx hy hz
        go_wp2_with (first | (go_at_call 68; refine CL.mono ?_; rintro e W1 ⟨rfl, rfl⟩))
        go_roundw
        case rel => exact ⟨x + 1, y, z, pos + k, by first | rfl | (go_simp; rfl), rfl, rfl, by omega, by omega, by omega, by omega, by omega, by omega, hit2, hbw2, hde⟩
        case measure => simp only [World.iterPos, hit2, hit]; omega
    · have hnx : ∀ ty, (Instr.next (.pointer (some ⟨w.heap.size, 0, none⟩)) true ty).run Tryz.prog wr = _ := fun ty => Lib.run_next_end_at wr w.heap.size s pos ty hit hp
      rw [drop_end s pos hp, Ru.n_end.1] at hx
      rw [drop_end s pos hp, Ru.n_end.2.1] at hy
      rw [drop_end s pos hp, Ru.n_end.2.2] at hz
      obtain rfl : x = (NL : Int) := by omega
      obtain rfl : y = (ND : Int) := by omega
      obtain rfl : z = (NO : Int) := by omega
      go_wp2
      go_ret3
      exact ⟨rfl, hbw⟩
end Go.Proofs.YtjlnbahanghhcaaGreatDoor
