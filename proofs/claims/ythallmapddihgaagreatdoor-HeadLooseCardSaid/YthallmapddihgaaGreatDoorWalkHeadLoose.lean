/- HeadLoose: the walk, by hand: bytes of a head that say nothing. -/
import Derived.Test.YthallmapddihgaaGreatDoorRefMay
import Derived.Test.YthallmapddihgaaGreatDoorBaseD
import Derived.Test.YthallmapddihgaaGreatDoorPureHeadLoose
import Derived.Test.YthallmapddihgaaGreatDoorLooseGet
import Derived.Test.YthallmapddihgaaGreatDoorRaw
import Derived.Test.YthallmapddihgaaGreatDoorMadeZ
import Derived.Test.YthallmapddihgaaGreatDoorPureKit
import Derived.StillTailTactics
import Derived.Laws.StructEq
import Derived.Deep.AppendLies
import Derived.Laws.BitsLemmas
import Derived.Deep.DeepCutAuto
import Derived.IntWalk
import Derived.Deep.OwnRows
import Derived.Deep.RegionLaw
import Derived.Deep.CutBlock
namespace Go.Proofs.YthallmapddihgaaGreatDoor
open Go.RowKit Go.Proofs.YthallmapddihgaaGreatDoorW.PrintWords
set_option linter.unusedVariables false
set_option linter.unusedSimpArgs false
theorem raw_new (w : World) (s : ByteArray) (cap : Nat) : Raw (w.alloc (.cells (bytesRow s cap) 5 ((bytesRow s cap).size, (bytesRow s cap).size + 1))).drew w.heap.size (s.data.toList.map fun c => (c.toNat : Int)) := Raw.new w s cap 5 rfl
theorem slice_at (n m : Nat) (h : n = m) (s c : Nat) : Value.slice (some ⟨n, 0, none⟩) s c = Value.slice (some ⟨m, 0, none⟩) s c := by rw [h]
set_option maxHeartbeats 4000000 in
set_option maxRecDepth 100000 in
theorem HeadLoose_walk (HB0 : ∀ W : World, Calls Tryz.prog 14 #[] W fun e w' => e = .returned (.bool true) ∧ Below W.heap.size W w')
    (h : Hd) (hk : okH h = true) (junk : Int) (w : World) (c0 : 0 ≤ junk) (c1 : junk ≤ 255) :
    Calls Tryz.prog 5 #[h.val, .int .u8 junk] w fun e w' => e = .returned (.bool true) ∧ Below w.heap.size w w' := by
  obtain ⟨src, dst, off, cc, cs, sum, typ, x, seq, ack, serv, code, i0, i1, i2⟩ := h
  have hp := fun W => head_Put_any ⟨src, dst, 255, cc, cs, sum, typ, x, seq, ack, serv, code, i0, i1, i2⟩ (by unfold okH at hk ⊢; simp only [decide_eq_true_eq] at hk ⊢; refine ⟨?_, ?_⟩ <;> omega) W
  have hr := fun W => ref_MayHead ⟨src, dst, 255, cc, cs, sum, typ, x, seq, ack, serv, code, i0, i1, i2⟩ W
  rw [Hd.val_mk] at *
  generalize hmay : mayB ⟨src, dst, 255, cc, cs, sum, typ, x, seq, ack, serv, code, i0, i1, i2⟩ = may at *
  have hput : (may = true ∧ putH ⟨src, dst, 255, cc, cs, sum, typ, x, seq, ack, serv, code, i0, i1, i2⟩ = hdBytes ⟨src, dst, 255, cc, cs, sum, typ, x, seq, ack, serv, code, i0, i1, i2⟩) ∨ (may = false ∧ putH ⟨src, dst, 255, cc, cs, sum, typ, x, seq, ack, serv, code, i0, i1, i2⟩ = ⟨#[]⟩) := by
    rcases may with _ | _
    · exact .inr ⟨rfl, if_neg (by rw [hmay]; decide)⟩
    · exact .inl ⟨rfl, if_pos hmay⟩
  obtain ⟨p0, hp0⟩ : ∃ z, hdBytes ⟨src, dst, 255, cc, cs, sum, typ, x, seq, ack, serv, code, i0, i1, i2⟩ = z := ⟨_, rfl⟩
  rw [hp0] at hput
  have HP0 := hide hp0
  generalize putH ⟨src, dst, 255, cc, cs, sum, typ, x, seq, ack, serv, code, i0, i1, i2⟩ = p at *
  have HB := hide HB0; have HP := hide hp; have HR := hide hr; have HQ := hide hput; have HM := hide hmay; have HK := hide hk
  clear HB0 hp hr hput hk hmay hp0
  go_enter Tryz.func5, Tryz.ntmps5
  go_wp2_with fail
  refine (HB.out _).mono ?_
  rintro e w1 ⟨rfl, hb1⟩
  have m0 : w1.cell? ⟨w.heap.size, 0, none⟩ = some (.int .i64 src) := (hb1.cell (by simp)).trans (by rw [World.cell?_alloc_at _ _ _ _ rfl]; rfl)
  have m1 : w1.cell? ⟨w.heap.size, 1, none⟩ = some (.int .i64 dst) := (hb1.cell (by simp)).trans (by rw [World.cell?_alloc_at _ _ _ _ rfl]; rfl)
  have m2 : w1.cell? ⟨w.heap.size, 2, none⟩ = some (.int .i64 off) := (hb1.cell (by simp)).trans (by rw [World.cell?_alloc_at _ _ _ _ rfl]; rfl)
  have m3 : w1.cell? ⟨w.heap.size, 3, none⟩ = some (.int .i64 cc) := (hb1.cell (by simp)).trans (by rw [World.cell?_alloc_at _ _ _ _ rfl]; rfl)
  have m4 : w1.cell? ⟨w.heap.size, 4, none⟩ = some (.int .i64 cs) := (hb1.cell (by simp)).trans (by rw [World.cell?_alloc_at _ _ _ _ rfl]; rfl)
  have m5 : w1.cell? ⟨w.heap.size, 5, none⟩ = some (.int .i64 sum) := (hb1.cell (by simp)).trans (by rw [World.cell?_alloc_at _ _ _ _ rfl]; rfl)
  have m6 : w1.cell? ⟨w.heap.size, 6, none⟩ = some (.int .i64 typ) := (hb1.cell (by simp)).trans (by rw [World.cell?_alloc_at _ _ _ _ rfl]; rfl)
  have m7 : w1.cell? ⟨w.heap.size, 7, none⟩ = some (.bool x) := (hb1.cell (by simp)).trans (by rw [World.cell?_alloc_at _ _ _ _ rfl]; rfl)
  have m8 : w1.cell? ⟨w.heap.size, 8, none⟩ = some (.int .u64 seq) := (hb1.cell (by simp)).trans (by rw [World.cell?_alloc_at _ _ _ _ rfl]; rfl)
  have m9 : w1.cell? ⟨w.heap.size, 9, none⟩ = some (.int .u64 ack) := (hb1.cell (by simp)).trans (by rw [World.cell?_alloc_at _ _ _ _ rfl]; rfl)
  have m10 : w1.cell? ⟨w.heap.size, 10, none⟩ = some (.int .u32 serv) := (hb1.cell (by simp)).trans (by rw [World.cell?_alloc_at _ _ _ _ rfl]; rfl)
  have m11 : w1.cell? ⟨w.heap.size, 11, none⟩ = some (.int .i64 code) := (hb1.cell (by simp)).trans (by rw [World.cell?_alloc_at _ _ _ _ rfl]; rfl)
  have m12 : w1.cell? ⟨w.heap.size, 12, none⟩ = some (.int .u8 i0) := (hb1.cell (by simp)).trans (by rw [World.cell?_alloc_at _ _ _ _ rfl]; rfl)
  have m13 : w1.cell? ⟨w.heap.size, 13, none⟩ = some (.int .u8 i1) := (hb1.cell (by simp)).trans (by rw [World.cell?_alloc_at _ _ _ _ rfl]; rfl)
  have m14 : w1.cell? ⟨w.heap.size, 14, none⟩ = some (.int .u8 i2) := (hb1.cell (by simp)).trans (by rw [World.cell?_alloc_at _ _ _ _ rfl]; rfl)
  have f2 : w1.frozen? ⟨w.heap.size, 2, none⟩ = false := by
    have e := hb1.block w.heap.size (by simp)
    unfold World.frozen?
    rw [e, show (w.alloc _).heap[w.heap.size]? = some _ from by show (w.heap.push _)[w.heap.size]? = _; rw [Array.getElem?_push_size]]
    simp
  have hz1 : w.heap.size + 1 ≤ w1.heap.size := by have := hb1.size; simpa using this
  have hBw := (((Below.refl _ _).alloc (Nat.le_refl _) _).trans (hb1.mono (by simp)) : Below w.heap.size w w1)
  clear hb1
  go_wp2_with fail
  have n0 : (w1.setCell ⟨w.heap.size, 2, none⟩ (.int .i64 255)).cell? ⟨w.heap.size, 0, none⟩ = some (.int .i64 src) := (World.cell?_setCell_other _ _ _ _ (by simp)).trans m0
  have n1 : (w1.setCell ⟨w.heap.size, 2, none⟩ (.int .i64 255)).cell? ⟨w.heap.size, 1, none⟩ = some (.int .i64 dst) := (World.cell?_setCell_other _ _ _ _ (by simp)).trans m1
  have n2 : (w1.setCell ⟨w.heap.size, 2, none⟩ (.int .i64 255)).cell? ⟨w.heap.size, 2, none⟩ = some (.int .i64 255) := World.cell?_setCell_same _ _ _ m2
  have n3 : (w1.setCell ⟨w.heap.size, 2, none⟩ (.int .i64 255)).cell? ⟨w.heap.size, 3, none⟩ = some (.int .i64 cc) := (World.cell?_setCell_other _ _ _ _ (by simp)).trans m3
  have n4 : (w1.setCell ⟨w.heap.size, 2, none⟩ (.int .i64 255)).cell? ⟨w.heap.size, 4, none⟩ = some (.int .i64 cs) := (World.cell?_setCell_other _ _ _ _ (by simp)).trans m4
  have n5 : (w1.setCell ⟨w.heap.size, 2, none⟩ (.int .i64 255)).cell? ⟨w.heap.size, 5, none⟩ = some (.int .i64 sum) := (World.cell?_setCell_other _ _ _ _ (by simp)).trans m5
  have n6 : (w1.setCell ⟨w.heap.size, 2, none⟩ (.int .i64 255)).cell? ⟨w.heap.size, 6, none⟩ = some (.int .i64 typ) := (World.cell?_setCell_other _ _ _ _ (by simp)).trans m6
  have n7 : (w1.setCell ⟨w.heap.size, 2, none⟩ (.int .i64 255)).cell? ⟨w.heap.size, 7, none⟩ = some (.bool x) := (World.cell?_setCell_other _ _ _ _ (by simp)).trans m7
  have n8 : (w1.setCell ⟨w.heap.size, 2, none⟩ (.int .i64 255)).cell? ⟨w.heap.size, 8, none⟩ = some (.int .u64 seq) := (World.cell?_setCell_other _ _ _ _ (by simp)).trans m8
  have n9 : (w1.setCell ⟨w.heap.size, 2, none⟩ (.int .i64 255)).cell? ⟨w.heap.size, 9, none⟩ = some (.int .u64 ack) := (World.cell?_setCell_other _ _ _ _ (by simp)).trans m9
  have n10 : (w1.setCell ⟨w.heap.size, 2, none⟩ (.int .i64 255)).cell? ⟨w.heap.size, 10, none⟩ = some (.int .u32 serv) := (World.cell?_setCell_other _ _ _ _ (by simp)).trans m10
  have n11 : (w1.setCell ⟨w.heap.size, 2, none⟩ (.int .i64 255)).cell? ⟨w.heap.size, 11, none⟩ = some (.int .i64 code) := (World.cell?_setCell_other _ _ _ _ (by simp)).trans m11
  have n12 : (w1.setCell ⟨w.heap.size, 2, none⟩ (.int .i64 255)).cell? ⟨w.heap.size, 12, none⟩ = some (.int .u8 i0) := (World.cell?_setCell_other _ _ _ _ (by simp)).trans m12
  have n13 : (w1.setCell ⟨w.heap.size, 2, none⟩ (.int .i64 255)).cell? ⟨w.heap.size, 13, none⟩ = some (.int .u8 i1) := (World.cell?_setCell_other _ _ _ _ (by simp)).trans m13
  have n14 : (w1.setCell ⟨w.heap.size, 2, none⟩ (.int .i64 255)).cell? ⟨w.heap.size, 14, none⟩ = some (.int .u8 i2) := (World.cell?_setCell_other _ _ _ _ (by simp)).trans m14
  have hBs := hBw.setCell (p := ⟨w.heap.size, 2, none⟩) (Nat.le_refl _) (.int .i64 255)
  have hzs : (w1.setCell ⟨w.heap.size, 2, none⟩ (.int .i64 255)).heap.size = w1.heap.size := by simp
  clear m0 m1 m2 m3 m4 m5 m6 m7 m8 m9 m10 m11 m12 m13 m14 f2 hBw
  generalize w1.setCell ⟨w.heap.size, 2, none⟩ (.int .i64 255) = ws at *
  refine (HR.out _).mono ?_
  rintro e w2 ⟨rfl, hb2⟩
  have hlt : ∀ o, (⟨w.heap.size, o, none⟩ : Addr).block < ws.heap.size := fun o => by show w.heap.size < _; omega
  have k0 : w2.cell? ⟨w.heap.size, 0, none⟩ = some (.int .i64 src) := (hb2.cell (hlt 0)).trans n0
  have k1 : w2.cell? ⟨w.heap.size, 1, none⟩ = some (.int .i64 dst) := (hb2.cell (hlt 1)).trans n1
  have k2 : w2.cell? ⟨w.heap.size, 2, none⟩ = some (.int .i64 255) := (hb2.cell (hlt 2)).trans n2
  have k3 : w2.cell? ⟨w.heap.size, 3, none⟩ = some (.int .i64 cc) := (hb2.cell (hlt 3)).trans n3
  have k4 : w2.cell? ⟨w.heap.size, 4, none⟩ = some (.int .i64 cs) := (hb2.cell (hlt 4)).trans n4
  have k5 : w2.cell? ⟨w.heap.size, 5, none⟩ = some (.int .i64 sum) := (hb2.cell (hlt 5)).trans n5
  have k6 : w2.cell? ⟨w.heap.size, 6, none⟩ = some (.int .i64 typ) := (hb2.cell (hlt 6)).trans n6
  have k7 : w2.cell? ⟨w.heap.size, 7, none⟩ = some (.bool x) := (hb2.cell (hlt 7)).trans n7
  have k8 : w2.cell? ⟨w.heap.size, 8, none⟩ = some (.int .u64 seq) := (hb2.cell (hlt 8)).trans n8
  have k9 : w2.cell? ⟨w.heap.size, 9, none⟩ = some (.int .u64 ack) := (hb2.cell (hlt 9)).trans n9
  have k10 : w2.cell? ⟨w.heap.size, 10, none⟩ = some (.int .u32 serv) := (hb2.cell (hlt 10)).trans n10
  have k11 : w2.cell? ⟨w.heap.size, 11, none⟩ = some (.int .i64 code) := (hb2.cell (hlt 11)).trans n11
  have k12 : w2.cell? ⟨w.heap.size, 12, none⟩ = some (.int .u8 i0) := (hb2.cell (hlt 12)).trans n12
  have k13 : w2.cell? ⟨w.heap.size, 13, none⟩ = some (.int .u8 i1) := (hb2.cell (hlt 13)).trans n13
  have k14 : w2.cell? ⟨w.heap.size, 14, none⟩ = some (.int .u8 i2) := (hb2.cell (hlt 14)).trans n14
  have HB2 := hide (hBs.trans (hb2.mono hBs.size))
  have hz2 : w.heap.size + 1 ≤ w2.heap.size := by have := hb2.size; omega
  clear n0 n1 n2 n3 n4 n5 n6 n7 n8 n9 n10 n11 n12 n13 n14 hBs hb2 hlt hzs
  rcases HQ.out with ⟨rfl, rfl⟩ | ⟨rfl, rfl⟩
  case inr =>
    as_aux_lemma =>
      go_wp2_with fail
      refine (HP.out _).mono ?_
      rintro e w3 ⟨rfl, hb3⟩
      have HB3 := hide (HB2.out.trans (hb3.mono HB2.out.size))
      clear hb3
      go_wp2
      go_ret
      exact ⟨rfl, HB3.out⟩
  as_aux_lemma =>
    go_upto_region 7 with fail
    obtain ⟨zs, hzs⟩ : ∃ z, strOfNums (List.replicate 1020 0) = z := ⟨_, rfl⟩
    have HZS := hide hzs
    obtain ⟨q, hq⟩ : ∃ q, p ++ zs = q := ⟨_, rfl⟩
    have hps : p.size ≤ 28 := by
      have hl := PkB.head_len ⟨src, dst, 255, cc, cs, sum, typ, x, seq, ack, serv, code, i0, i1, i2⟩ HM.out
      rw [HP0.out] at hl
      have h28 := sizeB_le typ x
      have := hl.1
      dsimp only at this
      omega
    have hzs' : zs.size = 1020 := by rw [← HZS.out, strOfNums_size, List.length_replicate]
    have hqs : q.size = p.size + 1020 := by rw [← hq, ByteArray.size_append, hzs']
    have HQS := hide hqs
    have hq24 : (24 : Int) ≤ (q.size : Int) := by omega
    have hq1020 : (1020 : Int) ≤ (q.size : Int) := by omega
    have hqb : (q.size : Int) ≤ 5000 := by omega
    clear hqs
    go_cut [6] (fun v6 wx => ∃ (B cap : Nat), v6 = .slice (some ⟨B, 0, none⟩) q.size cap ∧ Raw wx B (PkB.rowL q) ∧ w.heap.size < B ∧ Below (w.heap.size + 1) w2 wx)
    case first =>
      as_aux_lemma =>
        have hmk : ∀ W, (Instr.makeSlice 36 (.int .i64 1020) (.int .i64 1020)).run Tryz.prog W = .ok (.slice (some ⟨W.heap.size, 0, none⟩) 1020 1020) (W.alloc (zcn 1020)) := fun W => make_n 1020 (by omega) W
        have hnew := MadeZ.new 1020
        have htx := fun w b => @MadeZ.text 1020 w b
        rw [hzs] at htx
        have hbel := @MadeZ.below 1020
        have hdr : ∀ (w : World) (b : Nat), MadeZ 1020 w b → MadeZ 1020 w.drew b := fun w b h => h
        generalize zcn 1020 = zo at hmk hnew
        generalize MadeZ 1020 = mz at *
        clear hzs
        have hbo := fun W => run_bytes_of_string (P := Tryz.prog) W 9 36 5 q Tryz.underlying9 Tryz.underlying36 Tryz.underlying5
        have hno : ¬ (9223372036854775807 < p.size + 1020) := by omega
        have htx2 := fun w => htx (w.alloc zo) w.heap.size (hnew w)
        have htx5 := fun w : World => htx (w.alloc zo).drew w.heap.size (hdr _ _ (hnew w))
        have hlt2 : w.heap.size < w2.heap.size := by omega
        have l0 : (w2.alloc zo).cell? ⟨w.heap.size, 0, none⟩ = some (.int .i64 src) := by simp [World.cell?_alloc_lt, hlt2, k0]
        have l1 : (w2.alloc zo).cell? ⟨w.heap.size, 1, none⟩ = some (.int .i64 dst) := by simp [World.cell?_alloc_lt, hlt2, k1]
        have l2 : (w2.alloc zo).cell? ⟨w.heap.size, 2, none⟩ = some (.int .i64 255) := by simp [World.cell?_alloc_lt, hlt2, k2]
        have l3 : (w2.alloc zo).cell? ⟨w.heap.size, 3, none⟩ = some (.int .i64 cc) := by simp [World.cell?_alloc_lt, hlt2, k3]
        have l4 : (w2.alloc zo).cell? ⟨w.heap.size, 4, none⟩ = some (.int .i64 cs) := by simp [World.cell?_alloc_lt, hlt2, k4]
        have l5 : (w2.alloc zo).cell? ⟨w.heap.size, 5, none⟩ = some (.int .i64 sum) := by simp [World.cell?_alloc_lt, hlt2, k5]
        have l6 : (w2.alloc zo).cell? ⟨w.heap.size, 6, none⟩ = some (.int .i64 typ) := by simp [World.cell?_alloc_lt, hlt2, k6]
        have l7 : (w2.alloc zo).cell? ⟨w.heap.size, 7, none⟩ = some (.bool x) := by simp [World.cell?_alloc_lt, hlt2, k7]
        have l8 : (w2.alloc zo).cell? ⟨w.heap.size, 8, none⟩ = some (.int .u64 seq) := by simp [World.cell?_alloc_lt, hlt2, k8]
        have l9 : (w2.alloc zo).cell? ⟨w.heap.size, 9, none⟩ = some (.int .u64 ack) := by simp [World.cell?_alloc_lt, hlt2, k9]
        have l10 : (w2.alloc zo).cell? ⟨w.heap.size, 10, none⟩ = some (.int .u32 serv) := by simp [World.cell?_alloc_lt, hlt2, k10]
        have l11 : (w2.alloc zo).cell? ⟨w.heap.size, 11, none⟩ = some (.int .i64 code) := by simp [World.cell?_alloc_lt, hlt2, k11]
        have l12 : (w2.alloc zo).cell? ⟨w.heap.size, 12, none⟩ = some (.int .u8 i0) := by simp [World.cell?_alloc_lt, hlt2, k12]
        have l13 : (w2.alloc zo).cell? ⟨w.heap.size, 13, none⟩ = some (.int .u8 i1) := by simp [World.cell?_alloc_lt, hlt2, k13]
        have l14 : (w2.alloc zo).cell? ⟨w.heap.size, 14, none⟩ = some (.int .u8 i2) := by simp [World.cell?_alloc_lt, hlt2, k14]
        go_region_law (first | (go_simp; go_at_call 24; refine (HP.out _).mono ?_; rintro e w3 ⟨rfl, hb3⟩; first | (have hz3 := hbel (hnew w2) hb3 (by simp); have htx3 := htx w3 _ hz3) | (have hz3 : mz w3 w2.heap.size := hbel (hnew w2.drew) hb3 (by simp); have htx3 := htx w3 _ hz3) | skip))
        all_goals go_wp2_with fail
        all_goals go_meet
        all_goals refine ⟨_, _, slice_at _ _ ?_ _ _, raw_new _ q _, ?_, ?_⟩
        all_goals try first | rfl | (exact (show w3.heap.size + 1 = (w3.alloc zo).heap.size from by simp))
        all_goals first
          | (have := hb3.size; simp at this ⊢; omega)
          | exact ((((((Below.refl (w.heap.size + 1) w2).drew.trans (hb3.mono (by simp; omega))).alloc (by have := hb3.size; simp at this ⊢; omega) _)).alloc (by have := hb3.size; simp at this ⊢; omega) _)).drew
          | exact (((((Below.refl (w.heap.size + 1) w2).alloc (by omega) _).drew.trans (hb3.mono (by simp; omega))).alloc (by have := hb3.size; simp at this ⊢; omega) _)).drew
          | exact (((((Below.refl (w.heap.size + 1) w2).alloc (by omega) _).trans (hb3.mono (by simp; omega))).alloc (by have := hb3.size; simp at this ⊢; omega) _)).drew
          | exact ((((Below.refl (w.heap.size + 1) w2).trans (hb3.mono (by simp; omega))).alloc (by have := hb3.size; simp at this ⊢; omega) _).alloc (by have := hb3.size; simp at this ⊢; omega) _).drew
    case rest =>
      obtain ⟨B, cap, rfl, hraw, hB, hbw⟩ := hcut
      have hl0 : (PkB.rowL q).length = q.size := PkB.rowL_len q
      have hFIN := fun (c : Nat) (hc : c < 256) (hc8 : c % 32 = byteAt q 8 % 32) (j nj : Int) => PkB.loose_get ⟨src, dst, 255, cc, cs, sum, typ, x, seq, ack, serv, code, i0, i1, i2⟩ HM.out (by have hk := HK.out; unfold okH at hk ⊢; simp only [decide_eq_true_eq] at hk ⊢; refine ⟨?_, ?_⟩ <;> omega) zs q (by rw [HP0.out]; exact hq) (by dsimp only; omega) (by omega) c hc hc8 j nj
      dsimp only at hFIN
      have hlq : (PkB.rowL q).length ≤ 5000 ∧ 1020 ≤ (PkB.rowL q).length := by omega
      have HL0 := hide hl0
      have hu : (PkB.rowL q)[8]'(by omega) = (((q.data.toList.getD 8 0).toNat : Nat) : Int) := by
        have h8 : 8 < q.data.toList.length := by rw [Array.length_toList]; show 8 < q.size; omega
        unfold PkB.rowL
        rw [List.getElem_map, List.getD_eq_getElem?_getD, List.getElem?_eq_getElem h8]; rfl
      have hc8 := hraw.cell 8 (by omega)
      have hf8 := hraw.frozen 8 (by omega)
      rw [hu] at hc8
      obtain ⟨c, hc256, hceq, hcmod⟩ := PkB.or_loose (q.data.toList.getD 8 0) junk c0 c1
      have hFIN := hFIN c hc256 hcmod
      have hq8 : (8 : Int) < (q.size : Int) := by omega
      have hq9 : (9 : Int) < (q.size : Int) := by omega
      have hq12 : (12 : Int) < (q.size : Int) := by omega
      have hq16 : (16 : Int) < (q.size : Int) := by omega
      have hq17 : (17 : Int) < (q.size : Int) := by omega
      have HF := hide hFIN; have HBW := hide hbw
      clear hFIN hcmod hu hbw
      generalize PkB.rowL q = L0 at *
      generalize (((q.data.toList.getD 8 0).toNat : Nat) : Int) = u0 at *
      have hL17 : 17 < L0.length := by omega
      clear hl0 hlq
      go_upto_region 9 with fail
      have hraw1 := hraw.setCell 8 (by omega) (c : Int)
      have hbw1 := HBW.out.setCell (p := ⟨B, 8, none⟩) (by show w.heap.size + 1 ≤ B; omega) (.int .u8 (c : Int))
      clear hc8 hf8 hceq hraw HBW
      generalize wc.setCell ⟨B, 8, none⟩ (.int .u8 (c : Int)) = w4 at *
      have g6 : w4.cell? ⟨w.heap.size, 6, none⟩ = some (.int .i64 typ) := (hbw1.cell (by show w.heap.size < w.heap.size + 1; omega)).trans k6
      have g7 : w4.cell? ⟨w.heap.size, 7, none⟩ = some (.bool x) := (hbw1.cell (by show w.heap.size < w.heap.size + 1; omega)).trans k7
      have hc9 := hraw1.cell 9 (by rw [List.length_set]; omega)
      have hf9 := hraw1.frozen 9 (by rw [List.length_set]; omega)
      go_upto_if 33 with fail
      go_cut [] (fun wx => Raw wx B (if x = true then (L0.set 8 c).set 9 junk else L0.set 8 c) ∧ Below (w.heap.size + 1) w2 wx)
      case first =>
        as_aux_lemma =>
          cases x
          · go_wp2_with fail
            go_meet
            exact ⟨hraw1, hbw1⟩
          · go_wp2_with fail
            go_meet
            exact ⟨hraw1.setCell 9 (by rw [List.length_set]; omega) junk, hbw1.setCell (p := ⟨B, 9, none⟩) (by show w.heap.size + 1 ≤ B; omega) _⟩
      case rest =>
        clear hraw1 hbw1 g6 g7 hc9 hf9
        obtain ⟨hraw1, hbw1⟩ := hcut
        have hL1 : (if x = true then (L0.set 8 (c : Int)).set 9 junk else L0.set 8 (c : Int)).length = L0.length := by split <;> simp
        have g6 : wc.cell? ⟨w.heap.size, 6, none⟩ = some (.int .i64 typ) := (hbw1.cell (by show w.heap.size < w.heap.size + 1; omega)).trans k6
        have g7 : wc.cell? ⟨w.heap.size, 7, none⟩ = some (.bool x) := (hbw1.cell (by show w.heap.size < w.heap.size + 1; omega)).trans k7
        have HA := hide (fun W => head_HasAck typ W)
        go_upto_region 11 with fail
        go_cut [43] (fun v43 wx => ∃ d : Bool, v43 = .bool d ∧ Hid (d = (ackB typ && x)) ∧ wx = wc)
        case first =>
          as_aux_lemma =>
            go_wp2_with fail
            refine (HA.out _).mono ?_
            rintro e w5 ⟨rfl, rfl⟩
            cases hack : ackB typ
            all_goals go_wp2_with fail
            all_goals go_meet
            all_goals exact ⟨_, rfl, hide (by rw [hack]; simp), rfl⟩
        case rest =>
          obtain ⟨d, rfl, HD, rfl⟩ := hcut
          go_upto_if 43 with fail
          go_cut [] (fun wx => (∃ nj : Int, Raw wx B (PkB.looseL L0 c junk nj x (ackB typ))) ∧ Below (w.heap.size + 1) w2 wx)
          case first =>
            as_aux_lemma =>
              have hc12 := hraw1.cell 12 (by omega)
              have hf12 := hraw1.frozen 12 (by omega)
              have hc16 := hraw1.cell 16 (by omega)
              have hf16 := hraw1.frozen 16 (by omega)
              have hc17 := hraw1.cell 17 (by omega)
              have hf17 := hraw1.frozen 17 (by omega)
              have HR1 := hide hraw1; have HW1 := hide hbw1
              clear hraw1 hbw1
              have HL1 := hide hL1
              cases d
              · go_wp2_with fail
                refine (HA.out _).mono ?_
                rintro e w5 ⟨rfl, rfl⟩
                cases hack : ackB typ
                · go_wp2_with fail
                  go_meet
                  exact ⟨⟨0, by rw [hack]; exact HR1.out⟩, HW1.out⟩
                · have HX : Hid (x = false) := hide (by have h2 := HD.out; rw [hack, Bool.true_and] at h2; exact h2.symm)
                  go_wp2_with fail
                  go_meet
                  exact ⟨⟨0, by rw [hack, HX.out]; have := HR1.out.setCell 12 (by rw [HL1.out]; omega) junk; rw [HX.out] at this; exact this⟩, HW1.out.setCell (p := ⟨B, 12, none⟩) (by show w.heap.size + 1 ≤ B; omega) _⟩
              · have hax : ackB typ = true ∧ x = true := Bool.and_eq_true_iff.1 HD.out.symm
                have HAX := hide hax
                clear hax
                go_wp2_with fail
                go_meet
                refine And.intro ?_ ((HW1.out.setCell (p := ⟨B, 16, none⟩) (by show w.heap.size + 1 ≤ B; omega) _).setCell (p := ⟨B, 17, none⟩) (by show w.heap.size + 1 ≤ B; omega) _)
                apply Exists.intro
                rw [PkB.looseL_tt L0 c junk _ x (ackB typ) HAX.out.1 HAX.out.2]
                exact (HR1.out.setCell 16 (by rw [HL1.out]; omega) junk).setCell 17 (by rw [List.length_set, HL1.out]; omega) _
          case rest =>
            clear hraw1 hbw1 g6 g7 hL1
            obtain ⟨⟨nj, hrf⟩, hbf⟩ := hcut
            have hfin := HF.out junk nj
            have hlf : (PkB.looseL L0 c junk nj x (ackB typ)).length = q.size := by rw [PkB.looseL_len]; exact HL0.out
            have hg := fun W => head_Get (strOfNums (PkB.looseL L0 c junk nj x (ackB typ))) (by rw [strOfNums_size]; omega) W
            rw [hfin] at hg
            simp only [Hd.val_mk] at hg
            generalize PkB.looseL L0 c junk nj x (ackB typ) = LF at *
            have HG := hide hg; have HBF := hide hbf; have HRF := hide hrf; have HLF := hide hlf
            have h9 : ∀ W : World, (Op.equalIn 9999 24 (.agg #[.int .u8 i0, .int .u8 i1, .int .u8 i2]) (.agg #[.int .u8 i0, .int .u8 i1, .int .u8 i2])).run Tryz.prog W = .ok true W := fun W => by rw [show (9999 : Nat) = 9997 + 2 from rfl, eq_three]; simp
            have H9 := hide h9
            clear hg hfin hbf hrf hlf HF h9 hL17 HL0
            go_wp2_with (refine wpList_bytes_back rfl (.tmp 58) rfl B cap q.size LF HLF.out.symm rfl HRF.out ?_)
            refine (HG.out _).mono ?_
            rintro e w5 ⟨rfl, hb5⟩
            have hzc : w.heap.size + 1 ≤ wc.heap.size := by have := HBF.out.size; omega
            have hb6 : Below (w.heap.size + 1) w2 w5 := HBF.out.trans (hb5.mono hzc)
            have hz5 : w.heap.size < w5.heap.size := by have := hb5.size; omega

            have g0 : w5.cell? ⟨w.heap.size, 0, none⟩ = some (.int .i64 src) := (hb6.cell (by show w.heap.size < w.heap.size + 1; omega)).trans k0
            have g1 : w5.cell? ⟨w.heap.size, 1, none⟩ = some (.int .i64 dst) := (hb6.cell (by show w.heap.size < w.heap.size + 1; omega)).trans k1
            have g2 : w5.cell? ⟨w.heap.size, 2, none⟩ = some (.int .i64 255) := (hb6.cell (by show w.heap.size < w.heap.size + 1; omega)).trans k2
            have g3 : w5.cell? ⟨w.heap.size, 3, none⟩ = some (.int .i64 cc) := (hb6.cell (by show w.heap.size < w.heap.size + 1; omega)).trans k3
            have g4 : w5.cell? ⟨w.heap.size, 4, none⟩ = some (.int .i64 cs) := (hb6.cell (by show w.heap.size < w.heap.size + 1; omega)).trans k4
            have g5 : w5.cell? ⟨w.heap.size, 5, none⟩ = some (.int .i64 sum) := (hb6.cell (by show w.heap.size < w.heap.size + 1; omega)).trans k5
            have g6 : w5.cell? ⟨w.heap.size, 6, none⟩ = some (.int .i64 typ) := (hb6.cell (by show w.heap.size < w.heap.size + 1; omega)).trans k6
            have g7 : w5.cell? ⟨w.heap.size, 7, none⟩ = some (.bool x) := (hb6.cell (by show w.heap.size < w.heap.size + 1; omega)).trans k7
            have g8 : w5.cell? ⟨w.heap.size, 8, none⟩ = some (.int .u64 seq) := (hb6.cell (by show w.heap.size < w.heap.size + 1; omega)).trans k8
            have g9 : w5.cell? ⟨w.heap.size, 9, none⟩ = some (.int .u64 ack) := (hb6.cell (by show w.heap.size < w.heap.size + 1; omega)).trans k9
            have g10 : w5.cell? ⟨w.heap.size, 10, none⟩ = some (.int .u32 serv) := (hb6.cell (by show w.heap.size < w.heap.size + 1; omega)).trans k10
            have g11 : w5.cell? ⟨w.heap.size, 11, none⟩ = some (.int .i64 code) := (hb6.cell (by show w.heap.size < w.heap.size + 1; omega)).trans k11
            have g12 : w5.cell? ⟨w.heap.size, 12, none⟩ = some (.int .u8 i0) := (hb6.cell (by show w.heap.size < w.heap.size + 1; omega)).trans k12
            have g13 : w5.cell? ⟨w.heap.size, 13, none⟩ = some (.int .u8 i1) := (hb6.cell (by show w.heap.size < w.heap.size + 1; omega)).trans k13
            have g14 : w5.cell? ⟨w.heap.size, 14, none⟩ = some (.int .u8 i2) := (hb6.cell (by show w.heap.size < w.heap.size + 1; omega)).trans k14
            have HB6 := hide (HB2.out.trans (hb6.mono (Nat.le_succ _)))
            have h9 := H9.out
            clear hb5 hb6 H9 k0 k1 k2 k3 k4 k5 k6 k7 k8 k9 k10 k11 k12 k13 k14 HG HBF HRF HLF hzc
            go_wp2
            go_ret
            exact ⟨rfl, by repeat (first | exact HB6.out | (refine Below.alloc ?_ (by omega) _))⟩
end Go.Proofs.YthallmapddihgaaGreatDoor
