/- The contracts of the document's sign, Decimal, CodeText. -/
import Derived.Test.YtjlnbahanghhcaaGreatDoorPureCode
import Derived.Test.YtjlnbahanghhcaaGreatDoorFormatUint
import Derived.Test.YtjlnbahanghhcaaGreatDoorRefBytes
import Derived.Deep.DeepCutAuto
import Derived.Deep.CutBlock
import Derived.IntWalk
namespace Go.Proofs.YtjlnbahanghhcaaGreatDoor
open Go.RowKit
set_option linter.unusedVariables false
set_option linter.unusedSimpArgs false
theorem cell_fresh (w : World) (row : Array Value) (t : TypeId) (p : Nat × Nat) (j : Nat) (v : Value) (h : row[j]? = some v) : (w.alloc (.cells row t p)).cell? ⟨w.heap.size, j, none⟩ = some v := by
  have e : (w.alloc (.cells row t p)).heap[w.heap.size]? = some (.cells row t p) := by
    show (w.heap.push _)[w.heap.size]? = _
    rw [Array.getElem?_push_size]
  unfold World.cell?
  rw [e]; exact h
/-- string(b), b a row of bytes just laid. -/
theorem run_fresh (W : World) (l : List Int) (row : Array Value) (hrow : row = (l.map (Value.int .u8)).toArray) (n : Nat) (hn : n = l.length) : (convert 35 9 (.slice (some ⟨W.heap.size, 0, none⟩) n n)).run Tryz.prog (W.alloc (.cells row 5)) = .ok (.string (strOfNums l)) (W.alloc (.cells row 5)) := by
  subst hn; subst hrow
  rw [run_convert_bytes_string _ 35 9 5 (some ⟨W.heap.size, 0, none⟩) _ _ Tryz.underlying35 Tryz.underlying5 Tryz.underlying9]
  have hl := run_loadCells_list (P := Tryz.prog) (W.alloc (.cells (l.map (Value.int .u8)).toArray 5)) ⟨W.heap.size, 0, none⟩ (l.map (Value.int .u8)) (fun j v hj => by
    have : (⟨W.heap.size, 0, none⟩ : Addr).add j = ⟨W.heap.size, j, none⟩ := by unfold Addr.add; split <;> simp_all
    rw [this]
    exact cell_fresh W _ _ _ j v (by simpa using hj))
  rw [List.length_map] at hl
  rw [run_bytesToString _ _ _ _ _ hl, foldl_push_bytes]
  have he0 : ByteArray.empty.data = #[] := rfl
  rw [he0]
  simp [strOfNums]
theorem oth_eight (b : Nat) (h : b ≠ 45 ∧ b ≠ 95 ∧ b ≠ 43 ∧ b ≠ 46 ∧ b ≠ 42 ∧ b ≠ 47 ∧ b ≠ 63 ∧ b ≠ 64) : othB b = false := by
  unfold othB
  simp only [List.contains_cons, List.contains_nil, Bool.or_false]
  obtain ⟨h0, h1, h2, h3, h4, h5, h6, h7⟩ := h
  simp [beq_eq_false_iff_ne.2 h0, beq_eq_false_iff_ne.2 h1, beq_eq_false_iff_ne.2 h2, beq_eq_false_iff_ne.2 h3, beq_eq_false_iff_ne.2 h4, beq_eq_false_iff_ne.2 h5, beq_eq_false_iff_ne.2 h6, beq_eq_false_iff_ne.2 h7]
theorem sign_oth (b : Nat) (h : othB b = true) : signB b = true := by unfold signB; rw [h]; simp
def eightN (i : Nat) : Nat := ([45, 95, 43, 46, 42, 47, 63, 64] : List Nat).getD i 0
set_option maxHeartbeats 4000000 in
set_option maxRecDepth 100000 in
theorem ref_sign (b : Nat) (hb : b < 256) (w : World) : Calls Tryz.prog 65 #[.int .u8 b] w fun e w' => e = .returned (.bool (signB b)) ∧ w = w' := by
  go_enter Tryz.func65, Tryz.ntmps65
  go_upto_region 2 with fail
  go_loop [3] (fun x => ∃ i : Nat, i ≤ 8 ∧ x = .int .i64 i ∧ Hid (∀ j, j < i → b ≠ eightN j)) (fun x => 8 - (intOf x).toNat)
  case atStart => exact ⟨0, by omega, rfl, hide (fun j h => absurd h (Nat.not_lt_zero j))⟩
  case round =>
    obtain ⟨i, hi, rfl, H⟩ := hrel
    by_cases h8 : i = 8
    · subst h8
      have hk := oth_eight b ⟨H.out 0 (by omega), H.out 1 (by omega), H.out 2 (by omega), H.out 3 (by omega), H.out 4 (by omega), H.out 5 (by omega), H.out 6 (by omega), H.out 7 (by omega)⟩
      have hs : signB b = (letB b || digB b) := by unfold signB; rw [hk]; simp
      have HS := hide hs
      clear hk hs H
      as_aux_lemma =>
        go_wp2
        all_goals go_ret
        all_goals exact ⟨ret_bool (by rw [HS.out]; unfold letB digB; rw [Bool.eq_iff_iff]; simp only [Bool.or_eq_true, Bool.and_eq_true, Bool.not_eq_true', Bool.false_eq_true, false_iff, true_iff, decide_eq_true_eq, decide_eq_false_iff_not, beq_iff_eq, bne_iff_ne, ne_eq] <;> omega), rfl⟩
    · have hstep : ∀ j, j < i + 1 → b ≠ eightN i → b ≠ eightN j := fun j hj h => by
        rcases Nat.lt_or_ge j i with h' | h'
        · exact H.out j h'
        · obtain rfl : j = i := by omega
          exact h
      have HS := hide hstep
      clear hstep H
      have hcase : i = 0 ∨ i = 1 ∨ i = 2 ∨ i = 3 ∨ i = 4 ∨ i = 5 ∨ i = 6 ∨ i = 7 := by omega
      clear h8 hi
      rcases hcase with rfl | rfl | rfl | rfl | rfl | rfl | rfl | rfl
      · by_cases he : b = 45
        · have hs : signB b = true := sign_oth b (by rw [he]; decide)
          have hi : (((((⟨#[45, 95, 43, 46, 42, 47, 63, 64]⟩ : ByteArray)[0]'(by decide)).toNat : Nat) : Int) == (b : Int)) = true := by rw [he]; rfl
          have HT := hide hs
          clear he hs HS
          as_aux_lemma =>
            go_wp2
            go_ret
            exact ⟨ret_bool HT.out.symm, rfl⟩
        · have hi : (((((⟨#[45, 95, 43, 46, 42, 47, 63, 64]⟩ : ByteArray)[0]'(by decide)).toNat : Nat) : Int) == (b : Int)) = false := beq_eq_false_iff_ne.2 (show ¬ ((45 : Nat) : Int) = (b : Int) by omega)
          as_aux_lemma =>
            go_wp2
            go_round
            case rel => exact ⟨1, by omega, rfl, hide (fun j h => HS.out j h he)⟩
            case measure => simp [intOf]
      · by_cases he : b = 95
        · have hs : signB b = true := sign_oth b (by rw [he]; decide)
          have hi : (((((⟨#[45, 95, 43, 46, 42, 47, 63, 64]⟩ : ByteArray)[1]'(by decide)).toNat : Nat) : Int) == (b : Int)) = true := by rw [he]; rfl
          have HT := hide hs
          clear he hs HS
          as_aux_lemma =>
            go_wp2
            go_ret
            exact ⟨ret_bool HT.out.symm, rfl⟩
        · have hi : (((((⟨#[45, 95, 43, 46, 42, 47, 63, 64]⟩ : ByteArray)[1]'(by decide)).toNat : Nat) : Int) == (b : Int)) = false := beq_eq_false_iff_ne.2 (show ¬ ((95 : Nat) : Int) = (b : Int) by omega)
          as_aux_lemma =>
            go_wp2
            go_round
            case rel => exact ⟨2, by omega, rfl, hide (fun j h => HS.out j h he)⟩
            case measure => simp [intOf]
      · by_cases he : b = 43
        · have hs : signB b = true := sign_oth b (by rw [he]; decide)
          have hi : (((((⟨#[45, 95, 43, 46, 42, 47, 63, 64]⟩ : ByteArray)[2]'(by decide)).toNat : Nat) : Int) == (b : Int)) = true := by rw [he]; rfl
          have HT := hide hs
          clear he hs HS
          as_aux_lemma =>
            go_wp2
            go_ret
            exact ⟨ret_bool HT.out.symm, rfl⟩
        · have hi : (((((⟨#[45, 95, 43, 46, 42, 47, 63, 64]⟩ : ByteArray)[2]'(by decide)).toNat : Nat) : Int) == (b : Int)) = false := beq_eq_false_iff_ne.2 (show ¬ ((43 : Nat) : Int) = (b : Int) by omega)
          as_aux_lemma =>
            go_wp2
            go_round
            case rel => exact ⟨3, by omega, rfl, hide (fun j h => HS.out j h he)⟩
            case measure => simp [intOf]
      · by_cases he : b = 46
        · have hs : signB b = true := sign_oth b (by rw [he]; decide)
          have hi : (((((⟨#[45, 95, 43, 46, 42, 47, 63, 64]⟩ : ByteArray)[3]'(by decide)).toNat : Nat) : Int) == (b : Int)) = true := by rw [he]; rfl
          have HT := hide hs
          clear he hs HS
          as_aux_lemma =>
            go_wp2
            go_ret
            exact ⟨ret_bool HT.out.symm, rfl⟩
        · have hi : (((((⟨#[45, 95, 43, 46, 42, 47, 63, 64]⟩ : ByteArray)[3]'(by decide)).toNat : Nat) : Int) == (b : Int)) = false := beq_eq_false_iff_ne.2 (show ¬ ((46 : Nat) : Int) = (b : Int) by omega)
          as_aux_lemma =>
            go_wp2
            go_round
            case rel => exact ⟨4, by omega, rfl, hide (fun j h => HS.out j h he)⟩
            case measure => simp [intOf]
      · by_cases he : b = 42
        · have hs : signB b = true := sign_oth b (by rw [he]; decide)
          have hi : (((((⟨#[45, 95, 43, 46, 42, 47, 63, 64]⟩ : ByteArray)[4]'(by decide)).toNat : Nat) : Int) == (b : Int)) = true := by rw [he]; rfl
          have HT := hide hs
          clear he hs HS
          as_aux_lemma =>
            go_wp2
            go_ret
            exact ⟨ret_bool HT.out.symm, rfl⟩
        · have hi : (((((⟨#[45, 95, 43, 46, 42, 47, 63, 64]⟩ : ByteArray)[4]'(by decide)).toNat : Nat) : Int) == (b : Int)) = false := beq_eq_false_iff_ne.2 (show ¬ ((42 : Nat) : Int) = (b : Int) by omega)
          as_aux_lemma =>
            go_wp2
            go_round
            case rel => exact ⟨5, by omega, rfl, hide (fun j h => HS.out j h he)⟩
            case measure => simp [intOf]
      · by_cases he : b = 47
        · have hs : signB b = true := sign_oth b (by rw [he]; decide)
          have hi : (((((⟨#[45, 95, 43, 46, 42, 47, 63, 64]⟩ : ByteArray)[5]'(by decide)).toNat : Nat) : Int) == (b : Int)) = true := by rw [he]; rfl
          have HT := hide hs
          clear he hs HS
          as_aux_lemma =>
            go_wp2
            go_ret
            exact ⟨ret_bool HT.out.symm, rfl⟩
        · have hi : (((((⟨#[45, 95, 43, 46, 42, 47, 63, 64]⟩ : ByteArray)[5]'(by decide)).toNat : Nat) : Int) == (b : Int)) = false := beq_eq_false_iff_ne.2 (show ¬ ((47 : Nat) : Int) = (b : Int) by omega)
          as_aux_lemma =>
            go_wp2
            go_round
            case rel => exact ⟨6, by omega, rfl, hide (fun j h => HS.out j h he)⟩
            case measure => simp [intOf]
      · by_cases he : b = 63
        · have hs : signB b = true := sign_oth b (by rw [he]; decide)
          have hi : (((((⟨#[45, 95, 43, 46, 42, 47, 63, 64]⟩ : ByteArray)[6]'(by decide)).toNat : Nat) : Int) == (b : Int)) = true := by rw [he]; rfl
          have HT := hide hs
          clear he hs HS
          as_aux_lemma =>
            go_wp2
            go_ret
            exact ⟨ret_bool HT.out.symm, rfl⟩
        · have hi : (((((⟨#[45, 95, 43, 46, 42, 47, 63, 64]⟩ : ByteArray)[6]'(by decide)).toNat : Nat) : Int) == (b : Int)) = false := beq_eq_false_iff_ne.2 (show ¬ ((63 : Nat) : Int) = (b : Int) by omega)
          as_aux_lemma =>
            go_wp2
            go_round
            case rel => exact ⟨7, by omega, rfl, hide (fun j h => HS.out j h he)⟩
            case measure => simp [intOf]
      · by_cases he : b = 64
        · have hs : signB b = true := sign_oth b (by rw [he]; decide)
          have hi : (((((⟨#[45, 95, 43, 46, 42, 47, 63, 64]⟩ : ByteArray)[7]'(by decide)).toNat : Nat) : Int) == (b : Int)) = true := by rw [he]; rfl
          have HT := hide hs
          clear he hs HS
          as_aux_lemma =>
            go_wp2
            go_ret
            exact ⟨ret_bool HT.out.symm, rfl⟩
        · have hi : (((((⟨#[45, 95, 43, 46, 42, 47, 63, 64]⟩ : ByteArray)[7]'(by decide)).toNat : Nat) : Int) == (b : Int)) = false := beq_eq_false_iff_ne.2 (show ¬ ((64 : Nat) : Int) = (b : Int) by omega)
          as_aux_lemma =>
            go_wp2
            go_round
            case rel => exact ⟨8, by omega, rfl, hide (fun j h => HS.out j h he)⟩
            case measure => simp [intOf]
theorem dec_len20 (x : Nat) (hx : x < 18446744073709551616) : (Lib.decDigits x).length ≤ 20 := Cd.dec_len 19 x (by omega)
set_option maxHeartbeats 4000000 in
set_option maxRecDepth 100000 in
theorem ref_Decimal (x : Nat) (hx : x < 18446744073709551616) (w : World) : Calls Tryz.prog 34 #[.int .u64 x] w fun e w' => e = .returned (.string ⟨(Lib.decDigits x).toArray⟩) ∧ Below w.heap.size w w' := by
  have h20 := dec_len20 x hx
  have H20 := hide h20
  clear h20
  go_enter Tryz.func34, Tryz.ntmps34
  go_upto_region 2 with fail
  go_loopw [0, 3] (fun u v wr => ∃ (y : Nat) (s : ByteArray), y < 18446744073709551616 ∧ u = .int .u64 y ∧ v = .string s ∧ Hid (Lib.decDigits x = Lib.decDigits y ++ s.data.toList) ∧ Below w.heap.size w wr) (fun u _ _ => (intOf u).toNat)
  case atStart => exact ⟨x, ByteArray.empty, hx, rfl, rfl, hide (by simp), Below.refl _ _⟩
  case round =>
    obtain ⟨y, s, hy, rfl, rfl, H, hb⟩ := hrel
    have hl := congrArg List.length H.out
    rw [List.length_append, size_bytes] at hl
    have hpos : 1 ≤ (Lib.decDigits y).length := List.length_pos_iff.2 (Cd.dec_ne y)
    have hs : s.size ≤ 20 := by have := H20.out; omega
    have hr := run_fresh wr [48 + (y : Int) % 10] #[.int .u8 (48 + (y : Int) % 10)] rfl 1 rfl
    obtain ⟨c, hc⟩ : ∃ c, strOfNums [48 + (y : Int) % 10] = c := ⟨_, rfl⟩
    have hcd : c.data.toList = [UInt8.ofNat (48 + y % 10)] := by
      rw [← hc, strOfNums_data]
      have e1 : (48 + (y : Int) % 10).toNat = 48 + y % 10 := by omega
      simp [e1]
    have hc1 : c.size = 1 := by rw [← size_bytes, hcd]; rfl
    have hcs : (c ++ s).data.toList = UInt8.ofNat (48 + y % 10) :: s.data.toList := by
      rw [ByteArray.data_append, Array.toList_append, hcd]; rfl
    rw [hc] at hr
    have HCS := hide hcs
    have HB := hide hb
    have hzw := hb.size
    clear hc hcd hl hpos hcs hb
    by_cases h10 : y < 10
    · have e10 : y / 10 = 0 := by omega
      have e0 : ((y : Int) / 10 == 0) = true := beq_iff_eq.2 (by omega)
      have hfin : c ++ s = ⟨(Lib.decDigits x).toArray⟩ := by
        apply ByteArray.ext
        apply Array.ext'
        rw [HCS.out]
        show _ = (Lib.decDigits x)
        rw [H.out, Cd.dec_small y h10, show y % 10 = y from by omega]
        rfl
      have HFIN := hide hfin
      clear hfin
      as_aux_lemma =>
        go_wp2
        go_ret
        exact ⟨congrArg (fun z => Ending.returned (.string z)) HFIN.out, HB.out.alloc hzw _⟩
    · have e0 : ((y : Int) / 10 == 0) = false := beq_eq_false_iff_ne.2 (by omega)
      as_aux_lemma =>
        go_wp2
        go_roundw
        case rel => exact ⟨y / 10, c ++ s, by omega, by go_num, rfl, hide (by rw [HCS.out, H.out, Cd.dec_big y h10, List.append_assoc]; rfl), HB.out.alloc hzw _⟩
        case measure => simp [intOf]; omega
end Go.Proofs.YtjlnbahanghhcaaGreatDoor
