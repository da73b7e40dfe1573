/- Contracts and laws that the claim's proof needs: LawMay. Conditions: each theorem's own. -/
import Derived.Test.YtjlnbahanghhcaaGreatDoorRefMay
import Derived.Test.YtjlnbahanghhcaaGreatDoorRefB
import Derived.Test.YtjlnbahanghhcaaGreatDoorRefC
import Derived.Test.YtjlnbahanghhcaaGreatDoorZCardPktAllUptop0

/- The law's own May: a packet's error, by the document (printed by wip/gen/mk_lawmay.py). -/
namespace Go.Proofs.YtjlnbahanghhcaaGreatDoor
open Go.RowKit
set_option linter.unusedVariables false
set_option linter.unusedSimpArgs false

theorem may_63 (h : Hd) : mayB { h with off := 63, sum := 0 } = mayB { h with off := sizeB h.typ h.x / 4, sum := 0 } := by
  have hz := sizeB_le h.typ h.x
  rw [Bool.eq_iff_iff, may_iff', may_iff']
  dsimp only
  constructor
  · rintro ⟨p1, p2, p3, p4, p5, p6⟩
    exact ⟨p1, p2, p3, Int.le_refl _, by omega, p6⟩
  · rintro ⟨p1, p2, p3, p4, p5, p6⟩
    exact ⟨p1, p2, p3, by omega, by omega, p6⟩
theorem obs_take3 (os : List Op) (k : Nat) (h : k < os.length) : (obs (os.take (k + 1))).length = (obs (os.take k)).length + (ob os[k]).length := by
  rw [List.take_succ_eq_append_getElem h]
  unfold obs
  rw [List.map_append, List.flatten_append, List.length_append]
  simp
theorem ob_len (t : Int) (d : ByteArray) : (ob ⟨t, d⟩).length = if 32 ≤ t then d.size + 2 else 1 := by
  unfold ob
  dsimp only
  split
  · simp only [List.length_cons, nb_len]
  · rfl
theorem all_take2 (os : List Op) (k : Nat) (h : k < os.length) : (os.take (k + 1)).all mayO = ((os.take k).all mayO && mayO os[k]) := by
  rw [List.take_succ_eq_append_getElem h, List.all_append]; simp
set_option maxHeartbeats 8000000 in
set_option maxRecDepth 100000 in
theorem law_May (h : Hd) (A : Option Addr) (cap B : Nat) (os : List Op) (data : ByteArray) (w : World) (hA : CellsAt w B A (ocells os)) (hB : B ≤ w.heap.size) (hn : os.length ≤ 1048576) (hs : ∀ o, o ∈ os → o.data.size ≤ 1048576) (hd : data.size ≤ 1048576) :
    Calls Tryz.prog 21 #[.agg #[.int .i64 h.src, .int .i64 h.dst, .int .i64 h.off, .int .i64 h.cc, .int .i64 h.cs, .int .i64 h.sum, .int .i64 h.typ, .bool h.x, .int .u64 h.seq, .int .u64 h.ack, .int .u32 h.serv, .int .i64 h.code, .int .u8 h.i0, .int .u8 h.i1, .int .u8 h.i2, .slice A os.length cap, .string data]] w fun e w' => e = .returned (.int .i64 (errP h os data)) ∧ Below w.heap.size w w' := by
  have hm := may_63 h
  have hE : ∀ E, putErr (mayB { h with off := sizeB h.typ h.x / 4, sum := 0 }) os (nOf h os : Nat) data.size h.cs = E → errP h os data = E := fun E h => h
  have hlen : (obs os).length ≤ 2000000000000 := by
    have h1 := obs_le 1048576 os hs
    have h2 : os.length * (1048576 + 2) ≤ 1048576 * (1048576 + 2) := Nat.mul_le_mul_right _ hn
    omega
  have hz := sizeB_le h.typ h.x
  have hN : os.all mayO = true → ((nOf h os : Nat) : Int) = ((((obs os).length : Int) + 3) / 4) * 4 + sizeB h.typ h.x := fun ha => by
    unfold nOf putO
    rw [ha, if_pos rfl, strOfNums_size]
    unfold pad4
    rw [List.length_append, List.length_replicate]
    omega
  obtain ⟨src, dst, off, cc, cs, sum, typ, x, seq, ack, serv, code, i0, i1, i2⟩ := h
  dsimp only at *
  have c1 := fun W => ref_MayHead ⟨src, dst, 63, cc, cs, 0, typ, x, seq, ack, serv, code, i0, i1, i2⟩ W
  rw [hm] at c1
  simp only [Hd.val_mk] at c1
  generalize hmb : mayB ⟨src, dst, sizeB typ x / 4, cc, cs, 0, typ, x, seq, ack, serv, code, i0, i1, i2⟩ = mb at *
  generalize errP ⟨src, dst, off, cc, cs, sum, typ, x, seq, ack, serv, code, i0, i1, i2⟩ os data = E at *
  generalize nOf ⟨src, dst, off, cc, cs, sum, typ, x, seq, ack, serv, code, i0, i1, i2⟩ os = N at *
  have c2 := ref_Size typ x
  generalize sizeB typ x = z at *
  obtain ⟨z0, z28⟩ := hz
  have HA := hide hA; have C1 := hide c1; have C2 := hide c2; have HE := hide hE; have HN := hide hN; have HS := hide hs; have HL := hide hlen
  clear hA c1 c2 hE hN hs hm hmb hlen
  go_enter Tryz.func21, Tryz.ntmps21
  go_wp2_with fail
  refine (C1.out _).mono ?_
  rintro e w1 ⟨rfl, hb1⟩
  have f15 : w1.cell? ⟨w.heap.size, 15, none⟩ = some (.slice A os.length cap) := (hb1.cell (by simp; omega)).trans (by first | (rw [World.cell?_alloc_lt _ _ _ (by simp), World.cell?_alloc_at _ _ _ _ rfl]; rfl) | simp)
  have f16 : w1.cell? ⟨w.heap.size, 16, none⟩ = some (.string data) := (hb1.cell (by simp; omega)).trans (by first | (rw [World.cell?_alloc_lt _ _ _ (by simp), World.cell?_alloc_at _ _ _ _ rfl]; rfl) | simp)
  have f4 : w1.cell? ⟨w.heap.size + 1, 4, none⟩ = some (.int .i64 cs) := (hb1.cell (by simp)).trans (by simp)
  have f6 : w1.cell? ⟨w.heap.size + 1, 6, none⟩ = some (.int .i64 typ) := (hb1.cell (by simp)).trans (by simp)
  have f7 : w1.cell? ⟨w.heap.size + 1, 7, none⟩ = some (.bool x) := (hb1.cell (by simp)).trans (by simp)
  have hz1 : w.heap.size + 2 ≤ w1.heap.size := by have := hb1.size; simpa using this
  have hbw : Below w.heap.size w w1 := (((Below.refl _ _).alloc (Nat.le_refl _) _).alloc (by simp) _).trans (hb1.mono (by simp; omega))
  have HBW := hide hbw
  clear hb1 hbw
  cases mb with
  | false =>
    go_wp2
    go_ret
    exact ⟨by rw [HE.out 3 (by unfold putErr; rw [if_pos rfl])]; rfl, HBW.out⟩
  | true =>
    go_wp2
    go_loopw [4, 18] (fun s4 s18 wr => ∃ k : Nat, k ≤ os.length ∧ s18 = .int .i64 k ∧ s4 = .int .i64 ((obs (os.take k)).length : Nat) ∧ Below (w.heap.size + 2) w1 wr ∧ Hid ((os.take k).all mayO = true) ∧ (obs (os.take k)).length ≤ (obs os).length) (fun _ x _ => os.length - (intOf x).toNat)
    case atStart => exact ⟨0, by omega, rfl, rfl, Below.refl _ _, hide (by simp), by simp [obs]⟩
    case round =>
      obtain ⟨k, hk, rfl, rfl, hb, H, hle⟩ := hrel
      have hl := HL.out
      have hsz := hb.size
      have hbw := HBW.out.trans (hb.mono (by omega))
      have g15 := (hb.cell (p := ⟨w.heap.size, 15, none⟩) (by show w.heap.size < _; omega)).trans f15
      have g16 := (hb.cell (p := ⟨w.heap.size, 16, none⟩) (by show w.heap.size < _; omega)).trans f16
      have g4 := (hb.cell (p := ⟨w.heap.size + 1, 4, none⟩) (by show w.heap.size + 1 < _; omega)).trans f4
      have g6 := (hb.cell (p := ⟨w.heap.size + 1, 6, none⟩) (by show w.heap.size + 1 < _; omega)).trans f6
      have g7 := (hb.cell (p := ⟨w.heap.size + 1, 7, none⟩) (by show w.heap.size + 1 < _; omega)).trans f7
      by_cases hlt : k < os.length
      · obtain ⟨ad, rfl, e0, e1⟩ := opts_at HA.out hbw hB k hlt
        have hat := all_take2 os k hlt
        have hot := obs_take3 os k hlt
        have hle2 : (obs (os.take (k + 1))).length ≤ (obs os).length := by
          have : obs os = obs (os.take (k + 1)) ++ obs (os.drop (k + 1)) := by unfold obs; rw [← List.flatten_append, ← List.map_append, List.take_append_drop]
          rw [this, List.length_append]; omega
        have hsd := HS.out os[k] (List.getElem_mem hlt)
        obtain ⟨o, ho'⟩ : ∃ o, os[k] = o := ⟨_, rfl⟩
        rw [ho'] at e0 e1 hat hot hsd
        obtain ⟨t, d⟩ := o
        rw [ob_len] at hot
        rw [H.out, Bool.true_and] at hat
        dsimp only at hsd e0 e1
        have d0 : ((d.size : Int)) ≤ 1048576 := by omega
        have c1 := fun W => ref_MayOpt t d W (by omega)
        have HB := hide hbw
        generalize hO : obs (os.take (k + 1)) = O1 at *
        generalize hO2 : obs (os.take k) = O0 at *
        have HO := hide hO
        cases hm : mayO ⟨t, d⟩
        · rw [hm] at c1
          have hall : os.all mayO = false := by
            have e : os.all mayO = (((os.take (k + 1)).all mayO) && ((os.drop (k + 1)).all mayO)) := by rw [← List.all_append, List.take_append_drop]
            rw [e, hat, hm]; rfl
          have C := hide c1
          have HF := hide hall
          clear c1 hm hat ho' hot hO hO2 hbw hb hall H
          go_wp2_with (go_at_call 57; (refine (C.out _).mono ?_); rintro e w2 ⟨rfl, hb2⟩)
          go_ret
          exact ⟨by rw [HE.out 7 (by unfold putErr; rw [if_neg (by decide), if_pos HF.out])]; rfl, HB.out.trans (hb2.mono HB.out.size)⟩
        · rw [hm] at c1 hat
          have C := hide c1
          have HAT := hide hat
          by_cases ht : 32 ≤ t
          · rw [if_pos ht] at hot
            have HOT := hide hot
            have HBB := hide hb
            clear c1 hm hat ho' hot hO hO2 hbw hb H
            have l0 : ((O0.length : Nat) : Int) ≤ 2000000000000 := by omega
            have HG := hide (And.intro g15 (And.intro g16 (And.intro g4 (And.intro g6 (And.intro g7 (And.intro e0 e1))))))
            go_wp2_with fail
            refine (C.out _).mono ?_
            rintro e w2 ⟨rfl, hb2⟩
            have k15 := (hb2.cell (p := ⟨w.heap.size, 15, none⟩) (by show w.heap.size < _; omega)).trans g15
            have hat2 : (ad.add (k * 2)).block < wr.heap.size := block_lt_of_cell e0
            have k0 := (hb2.cell (p := ad.add (k * 2)) hat2).trans e0
            have k1 := (hb2.cell (p := ⟨(ad.add (k * 2)).block, (ad.add (k * 2)).off + 1, none⟩) hat2).trans e1
            have hb3 := HBB.out.trans (hb2.mono (by omega)) 
            have HB3 := hide hb3
            clear hb2 hb3 hat2
            go_wp2
            go_roundw
            case rel => exact ⟨k + 1, by omega, by go_num, by rw [HO.out, HOT.out]; go_num, HB3.out, HAT, by rw [HO.out]; exact hle2⟩
            case measure => first | (simp [intOf]; done) | (simp [intOf]; omega)
          · rw [if_neg ht] at hot
            have ht' : t < 32 := by omega
            have HOT := hide hot
            have HBB := hide hb
            clear c1 hm hat ho' hot hO hO2 hbw hb H ht
            have l0 : ((O0.length : Nat) : Int) ≤ 2000000000000 := by omega
            go_wp2_with fail
            refine (C.out _).mono ?_
            rintro e w2 ⟨rfl, hb2⟩
            have k15 := (hb2.cell (p := ⟨w.heap.size, 15, none⟩) (by show w.heap.size < _; omega)).trans g15
            have hat2 : (ad.add (k * 2)).block < wr.heap.size := block_lt_of_cell e0
            have k0 := (hb2.cell (p := ad.add (k * 2)) hat2).trans e0
            have hb3 := HBB.out.trans (hb2.mono (by omega))
            have HB3 := hide hb3
            clear hb2 hb3 hat2
            go_wp2
            go_roundw
            case rel => exact ⟨k + 1, by omega, by go_num, by rw [HO.out, HOT.out]; go_num, HB3.out, HAT, by rw [HO.out]; exact hle2⟩
            case measure => first | (simp [intOf]; done) | (simp [intOf]; omega)
      · have hke : k = os.length := by omega
        subst hke
        rw [List.take_length] at H hle ⊢
        have hN := HN.out H.out
        have HA7 := hide H.out
        have hm2 : ((obs os).length : Int) ≤ 2000000000000 := by omega
        have hm0 : (0 : Int) ≤ ((obs os).length : Int) := by omega
        generalize hmm : (((obs os).length : Nat) : Int) = m at *
        have HBB := hide hbw
        have hm3 : 0 ≤ m + 3 := by omega
        obtain ⟨q, hq⟩ : ∃ q : Int, (m + 3) / 4 = q := ⟨_, rfl⟩
        have hq0 : 0 ≤ q ∧ q ≤ 500000000001 := by omega
        obtain ⟨q0, q1⟩ := hq0
        rw [hq] at hN
        clear H hb hbw hle hmm hl
        have hE13 : (1020 < q * 4 + z ∨ 1400 < (data.size : Int) ∨ 2500 < q * 4 + z + (data.size : Int)) → E = 13 := fun hh => HE.out 13 (by
          unfold putErr
          rw [if_neg (by decide), if_neg (by rw [HA7.out]; decide), if_pos (by rw [hN]; exact hh)])
        have hEc : ∀ b, ¬ (1020 < q * 4 + z ∨ 1400 < (data.size : Int) ∨ 2500 < q * 4 + z + (data.size : Int)) → covB (q * 4 + z + (data.size : Int)) (q * 4 + z) cs = b → E = if b = false then 5 else 0 := fun b hh hc => HE.out _ (by
          unfold putErr
          rw [if_neg (by decide), if_neg (by rw [HA7.out]; decide), if_neg (by rw [hN]; exact hh), hN, hc])
        have HE13 := hide hE13; have HEC := hide hEc
        clear hE13 hEc hN HE HN HA7
        have CW : Hid (∀ W, Calls Tryz.prog 19 #[.int .i64 typ, .bool x] W fun e w' => e = .returned (.int .i64 z) ∧ W = w') := hide (fun W => C2.out W)
        have h1n : 0 ≤ q * 4 + z := by omega
        go_upto_region 16 with (go_at_call 19; refine (CW.out _).mono ?_; rintro e w' ⟨rfl, rfl⟩)
        clear hq hm2 hm0 hm3 q0 q1
        by_cases l1 : 1020 < q * 4 + z
        · go_wp2
          all_goals first | (exfalso; omega) | (go_ret; exact ⟨by rw [HE13.out (.inl l1)]; rfl, HBB.out⟩)
        have l1' : q * 4 + z ≤ 1020 := by omega
        clear l1
        by_cases l2 : 1400 < (data.size : Int)
        · go_wp2
          all_goals first | (exfalso; omega) | (go_ret; exact ⟨by rw [HE13.out (.inr (.inl l2))]; rfl, HBB.out⟩)
        have l2' : (data.size : Int) ≤ 1400 := by omega
        clear l2
        by_cases l3 : 2500 < q * 4 + z + (data.size : Int)
        · go_wp2
          all_goals first | (exfalso; omega) | (go_ret; exact ⟨by rw [HE13.out (.inr (.inr l3))]; rfl, HBB.out⟩)
        have l3' : q * 4 + z + (data.size : Int) ≤ 2500 := by omega
        clear l3
        have c3 := fun W => ref_Covered (q * 4 + z + (data.size : Int)) (q * 4 + z) cs W (by omega) (by omega)
        have hec := fun b => HEC.out b (by omega)
        generalize covB (q * 4 + z + (data.size : Int)) (q * 4 + z) cs = b at *
        have hE := hec b rfl
        generalize (bif b then covN (q * 4 + z + (data.size : Int)) (q * 4 + z) cs else 0) = v at c3
        have CC := hide c3
        have HEE := hide hE
        clear c3 hec hE HEC HE13
        cases b
        · go_wp2_with (go_at_call 23; refine (CC.out _).mono ?_; rintro e w' ⟨rfl, rfl⟩)
          all_goals first | (exfalso; omega) | (go_ret; exact ⟨by rw [HEE.out]; rfl, HBB.out⟩)
        · go_wp2_with (go_at_call 23; refine (CC.out _).mono ?_; rintro e w' ⟨rfl, rfl⟩)
          all_goals first | (exfalso; omega) | (go_ret; exact ⟨by rw [HEE.out]; rfl, HBB.out⟩)
end Go.Proofs.YtjlnbahanghhcaaGreatDoor
