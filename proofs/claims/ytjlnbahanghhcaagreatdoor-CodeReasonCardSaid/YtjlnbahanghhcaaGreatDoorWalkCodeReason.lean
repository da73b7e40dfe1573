/- CodeReason: the walk. -/
import Derived.Test.YtjlnbahanghhcaaGreatDoorCodeCount
import Derived.Test.YtjlnbahanghhcaaGreatDoorText
import Derived.Test.YtjlnbahanghhcaaGreatDoorBaseD
namespace Go.Proofs.YtjlnbahanghhcaaGreatDoor
open Go.RowKit Go.Proofs.YtjlnbahanghhcaaGreatDoorW.PrintWords Go.Proofs.YtjlnbahanghhcaaGreatDoorW.PrintLast Go.Proofs.YtjlnbahanghhcaaGreatDoorW.PrintMore
attribute [local go_sem] max2_int min2_int max_two min_two
set_option linter.unusedVariables false
set_option linter.unusedSimpArgs false

theorem mem_drop_runes (l : List UInt8) (h : l ≠ []) (p : Nat → Prop) (hp : ∀ r ∈ Ru.runes l, p r) : p (Lib.decodeL l).1 ∧ (∀ r ∈ Ru.runes (l.drop (Lib.decodeL l).2), p r) ∧ (Ru.runes l).length = (Ru.runes (l.drop (Lib.decodeL l).2)).length + 1 := by
  rw [Ru.runes_step l h] at hp ⊢
  exact ⟨hp _ List.mem_cons_self, fun r hr => hp r (List.mem_cons_of_mem _ hr), List.length_cons⟩

set_option maxHeartbeats 4000000 in
set_option maxRecDepth 1000000 in
theorem CodeReason_walk (HB0 : ∀ W : World, Calls Tryz.prog 11 #[] W fun e w' => e = .returned (.bool true) ∧ Below W.heap.size W w') (s : ByteArray) (hs : s.size ≤ 140737488351232) (most : Int) (h0 : -9223372036854775808 ≤ most) (h1 : most ≤ 9223372036854775807) (w : World) :
    Calls Tryz.prog 10 #[.string s, .int .i64 most] w fun e w' => e = .returned (.bool true) ∧ Below w.heap.size w w' := by
  have HB := hide HB0
  obtain ⟨t, ht⟩ : ∃ t, s.extract 0 (min s.size 100) = t := ⟨_, rfl⟩
  have htz : t.size ≤ 100 := by
    rw [← ht, ByteArray.size_extract]; omega
  have HT := hide (fun W => law_Text s 100 W hs)
  rw [ht] at HT
  obtain ⟨M, hM⟩ : ∃ M : Int, (wrap64 ((most.tmod 40) + 40)).tmod 40 = M := ⟨_, rfl⟩
  have hMb : 0 ≤ M ∧ M < 40 := by
    have := Int.tmod_lt_of_pos most (b := 40) (by omega)
    have h2 : -40 < most.tmod 40 := by
      have := Int.lt_tmod_of_pos most (b := 40) (by omega)
      omega
    have h3 : wrap64 (most.tmod 40 + 40) = most.tmod 40 + 40 := by unfold wrap64; omega
    rw [← hM, h3]
    exact ⟨Int.tmod_nonneg _ (by omega), Int.tmod_lt_of_pos _ (by omega)⟩
  have HR := hide (fun W => code_Reason t M (by omega) (by omega) (by omega) W)
  have HC := hide (fun W => code_Runes t (by omega) W)
  obtain ⟨R, hR⟩ : ∃ R : ByteArray, (⟨(Ru.reason t.data.toList M.toNat).toArray⟩ : ByteArray) = R := ⟨_, rfl⟩
  have hRd : R.data.toList = Ru.reason t.data.toList M.toNat := by rw [← hR]
  rw [hR] at HR
  have hRr : Ru.runes R.data.toList = Ru.reasonL t.data.toList M.toNat := by rw [hRd]; exact Ru.runes_reason _ _
  have hRok : ∀ r ∈ Ru.runes R.data.toList, ¬ (r < 32 ∨ r = 127) := by
    rw [hRr]
    intro r hr
    obtain ⟨x, _, rfl⟩ := List.mem_map.1 hr
    exact Ru.clean_ok x
  have hRl := Ru.reasonL_len t.data.toList M.toNat
  rw [← hRr] at hRl
  have hcnt := Ru.counts t.data.toList
  have hle := Ru.runes_le _ t.data.toList (Nat.le_refl _)
  rw [size_bytes] at hle
  have hRle := Ru.encs_le (Ru.reasonL t.data.toList M.toNat)
  have hRz : R.size ≤ 400 := by
    have e : R.size = R.data.toList.length := (size_bytes R).symm
    rw [e, hRd]
    have : (Ru.reasonL t.data.toList M.toNat).length = _ := Ru.reasonL_len t.data.toList M.toNat
    unfold Ru.reason
    omega
  obtain ⟨NL, hNL⟩ : ∃ n, Ru.nL t.data.toList = n := ⟨_, rfl⟩
  obtain ⟨ND, hND⟩ : ∃ n, Ru.nD t.data.toList = n := ⟨_, rfl⟩
  obtain ⟨NO, hNO⟩ : ∃ n, Ru.nO t.data.toList = n := ⟨_, rfl⟩
  obtain ⟨A, hA⟩ : ∃ n, (Ru.runes t.data.toList).length = n := ⟨_, rfl⟩
  rw [hNL, hND, hNO] at hcnt HC
  rw [hA] at hcnt hRl hle
  have HA := hide hA
  have HRok := hide hRok
  have HRl := hide hRl
  clear hRd hRr hRle hR hRok hRl hNL hND hNO hA HB0 ht
  go_enter Tryz.func10, Tryz.ntmps10
  go_upto_region 4 with (go_at_call 11; refine (HB.out _).mono ?_; rintro e w1 ⟨rfl, hb1⟩)
  go_upto_region 5 with (go_at_call 12; refine (HT.out _).mono ?_; rintro e w2 ⟨rfl, rfl⟩)
  clear hM
  go_upto_region 7 with (go_at_call 35; refine (HR.out _).mono ?_; rintro e w3 ⟨rfl, hb3⟩)
  have hb3' := hb1.trans (hb3.mono hb1.size)
  have hs3 : w.heap.size ≤ w3.heap.size := hb3'.size
  clear HR HT
  go_loopw [6] (fun v6 wr => ∃ (x : Int) (pos : Nat), v6 = .int .i64 x ∧ 0 ≤ x ∧ x + ((Ru.runes (R.data.toList.drop pos)).length : Int) = ((Ru.runes R.data.toList).length : Int) ∧ (∀ r ∈ Ru.runes (R.data.toList.drop pos), ¬ (r < 32 ∨ r = 127)) ∧ wr.heap[w3.heap.size]? = some (.stringIter R pos) ∧ Below w.heap.size w wr ∧ pos ≤ R.size) (fun v6 wr => R.size - wr.iterPos w3.heap.size)
  case atStart => exact ⟨0, 0, rfl, by omega, by rw [List.drop_zero]; omega, by rw [List.drop_zero]; exact HRok.out, World.iter_heap w3 R 0, hb3'.alloc hs3 _, by omega⟩
  case round =>
    obtain ⟨x, pos, rfl, hx0, hx, hok, hit, hbw, hps⟩ := hrel
    have hsz : w3.heap.size < wr.heap.size := (Array.getElem?_eq_some_iff.1 hit).1
    by_cases hp : pos < R.size
    · as_aux_lemma =>
        have hnx : ∀ ty, (Instr.next (.pointer (some ⟨w3.heap.size, 0, none⟩)) true ty).run Tryz.prog wr = _ := fun ty => Lib.run_next_any_at wr w3.heap.size R pos ty hit hp
        have hwd := dec_width R pos hp
        have hri := dec_i32 R pos
        have hde := dec_le R pos hp
        have hit2 := Lib.iterAt_heap wr w3.heap.size R pos (pos + (Utf8.decode R pos).2) hit
        have hbw2 := Lib.below_iterAt hbw (k := w3.heap.size) hs3 R (pos + (Utf8.decode R pos).2)
        obtain ⟨e1, e2, e3⟩ := mem_drop_runes (R.data.toList.drop pos) (drop_ne R pos hp) _ hok
        simp only [dec_drop, List.drop_drop] at e1 e2 e3
        rw [e3] at hx
        clear e3 hok
        generalize Utf8.decode R pos = dk at *
        obtain ⟨d, k⟩ := dk
        dsimp only at *
        have hi32 : ¬ (d : Int) < 32 := by omega
        have hi127 : ¬ (d : Int) = 127 := by omega
        have E2 := hide e2
        clear e1 e2
        obtain ⟨n, hn⟩ : ∃ n, (Ru.runes (List.drop (pos + k) R.data.toList)).length = n := ⟨_, rfl⟩
        obtain ⟨n', hn'⟩ : ∃ n', (Ru.runes R.data.toList).length = n' := ⟨_, rfl⟩
        rw [hn, hn'] at hx
        have HN := hide hn
        have HN' := hide hn'
        have hRl := HRl.out
        rw [hn'] at hRl
        clear hn hn'
        go_wp2
        go_roundw
        case rel => exact ⟨x + 1, pos + k, by first | rfl | (go_simp; rfl), by omega, by rw [HN.out, HN'.out]; omega, E2.out, hit2, hbw2, hde⟩
        case measure => simp only [World.iterPos, hit2, hit]; omega
    · as_aux_lemma =>
        have hnx : ∀ ty, (Instr.next (.pointer (some ⟨w3.heap.size, 0, none⟩)) true ty).run Tryz.prog wr = _ := fun ty => Lib.run_next_end_at wr w3.heap.size R pos ty hit hp
        have hRl := HRl.out
        rw [drop_end R pos hp, Ru.runes_nil, List.length_nil, hRl] at hx
        clear hok hit hRl
        have hs4 : w.heap.size ≤ wr.heap.size := hbw.size
        obtain ⟨N, hN⟩ : ∃ N, min M.toNat A = N := ⟨_, rfl⟩
        rw [hN] at hx
        have hN2 : (if (A : Int) < M then (A : Int) else M) = (N : Int) := by
          split <;> omega
        have hNb : N ≤ 100 := by omega
        obtain rfl : x = (N : Int) := by omega
        clear hN hx hx0
        generalize wr = wm at *
        go_upto_region 14 with fail
        go_loopw [9] (fun v9 wr => ∃ (y : Int) (qos : Nat), v9 = .int .i64 y ∧ 0 ≤ y ∧ y + ((Ru.runes (t.data.toList.drop qos)).length : Int) = (A : Int) ∧ wr.heap[wm.heap.size]? = some (.stringIter t qos) ∧ Below w.heap.size w wr ∧ qos ≤ t.size) (fun v9 wr => t.size - wr.iterPos wm.heap.size)
        case atStart => exact ⟨0, 0, rfl, by omega, by rw [List.drop_zero, HA.out]; omega, World.iter_heap wm t 0, hbw.alloc hs4 _, by omega⟩
        case round =>
          obtain ⟨y, qos, rfl, hy0, hy, hit, hbq, hqs⟩ := hrel
          by_cases hq : qos < t.size
          · as_aux_lemma =>
              have hnx : ∀ ty, (Instr.next (.pointer (some ⟨wm.heap.size, 0, none⟩)) true ty).run Tryz.prog wr = _ := fun ty => Lib.run_next_any_at wr wm.heap.size t qos ty hit hq
              have hwd := dec_width t qos hq
              have hri := dec_i32 t qos
              have hde := dec_le t qos hq
              have hit2 := Lib.iterAt_heap wr wm.heap.size t qos (qos + (Utf8.decode t qos).2) hit
              have hbw2 := Lib.below_iterAt hbq (k := wm.heap.size) hs4 t (qos + (Utf8.decode t qos).2)
              have e3 := Ru.runes_step (t.data.toList.drop qos) (drop_ne t qos hq)
              simp only [dec_drop, List.drop_drop] at e3
              rw [e3, List.length_cons] at hy
              clear e3
              generalize Utf8.decode t qos = dk at *
              obtain ⟨d, k⟩ := dk
              dsimp only at *
              obtain ⟨n, hn⟩ : ∃ n, (Ru.runes (List.drop (qos + k) t.data.toList)).length = n := ⟨_, rfl⟩
              rw [hn] at hy
              have HN := hide hn
              clear hn
              go_wp2
              go_roundw
              case rel => exact ⟨y + 1, qos + k, by first | rfl | (go_simp; rfl), by omega, by rw [HN.out]; omega, hit2, hbw2, hde⟩
              case measure => simp only [World.iterPos, hit2, hit]; omega
          · as_aux_lemma =>
              have hnx : ∀ ty, (Instr.next (.pointer (some ⟨wm.heap.size, 0, none⟩)) true ty).run Tryz.prog wr = _ := fun ty => Lib.run_next_end_at wr wm.heap.size t qos ty hit hq
              rw [drop_end t qos hq, Ru.runes_nil, List.length_nil] at hy
              obtain rfl : y = (A : Int) := by omega
              clear hy hy0 hit
              go_upto_region 17 with (go_at_call 37; refine (HC.out _).mono ?_; rintro e w5 ⟨rfl, hb5⟩)
              have hsum : (NL : Int) + ND + NO = A := by omega
              have hb5' := hbq.trans (hb5.mono hbq.size)
              go_wp2
              go_ret
              refine ⟨by simp only [decide_eq_true_eq]; try trivial, hb5'⟩

end Go.Proofs.YtjlnbahanghhcaaGreatDoor
