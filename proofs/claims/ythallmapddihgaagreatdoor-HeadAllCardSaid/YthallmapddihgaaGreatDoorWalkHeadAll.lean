/- HeadAll: the walk (printed by wip/gen/mk_headall.py). -/
import Derived.Test.YthallmapddihgaaGreatDoorRefGetHead
import Derived.Test.YthallmapddihgaaGreatDoorRefPutHead
import Derived.Test.YthallmapddihgaaGreatDoorRefMay
import Derived.Test.YthallmapddihgaaGreatDoorHeadBack
import Derived.Test.YthallmapddihgaaGreatDoorPureHeadAll
import Derived.Test.YthallmapddihgaaGreatDoorMadeZ
import Derived.Test.YthallmapddihgaaGreatDoorText
import Derived.StillTailTactics
import Derived.Deep.RegionHeld3
import Derived.Deep.DeepCutAuto
import Derived.Deep.CutBlock
import Derived.IntWalk
namespace Go.Proofs.YthallmapddihgaaGreatDoor
open Go.RowKit
set_option linter.unusedVariables false
set_option linter.unusedSimpArgs false
theorem may_up (B : Nat) (h : Hd) (r : Bool) (hr : mayB h = r) : Hid (∀ W : World, B ≤ W.heap.size → Calls Tryz.prog 16 #[h.val] W fun e w' => e = .returned (.bool r) ∧ Below B W w' ∧ B ≤ w'.heap.size) :=
  hide (fun W hB => (head_May h W).mono fun e w' q => ⟨by rw [← hr]; exact q.1, q.2.mono hB, Nat.le_trans hB q.2.size⟩)
theorem rmay_up0 (h : Hd) (r : Bool) (hr : mayB h = r) : Hid (∀ W : World, Calls Tryz.prog 17 #[h.val] W fun e w' => e = .returned (.bool r) ∧ Below W.heap.size W w') :=
  hide (fun W => by have q := ref_MayHead h W; rw [hr] at q; exact q)
theorem rmay_up (B : Nat) (h : Hd) (r : Bool) (hr : mayB h = r) : Hid (∀ W : World, B ≤ W.heap.size → Calls Tryz.prog 17 #[h.val] W fun e w' => e = .returned (.bool r) ∧ Below B W w' ∧ B ≤ w'.heap.size) :=
  hide (fun W hB => (ref_MayHead h W).mono fun e w' q => ⟨by rw [← hr]; exact q.1, q.2.mono hB, Nat.le_trans hB q.2.size⟩)
set_option maxHeartbeats 8000000 in
set_option maxRecDepth 100000 in
theorem HeadAll_walk (HB0 : ∀ W : World, Calls Tryz.prog 14 #[] W fun e w' => e = .returned (.bool true) ∧ Below W.heap.size W w')
    (h : Hd) (hk : okH h = true) (b : ByteArray) (hb9 : b.size ≤ 140737488351232) (data : Int) (v0 : -9223372036854775808 ≤ data) (v1 : data ≤ 9223372036854775807) (w : World) :
    Calls Tryz.prog 3 #[h.val, .string b, .int .i64 data] w fun e w' => e = .returned (.bool true) ∧ Below w.heap.size w w' := by
  have HT := hide (fun W : World => law_Text b 60 W hb9)
  obtain ⟨t, ht⟩ : ∃ t, b.extract 0 (min b.size 60) = t := ⟨_, rfl⟩
  have ht3 : t.size ≤ 60 := by rw [← ht, ByteArray.size_extract]; omega
  rw [ht] at HT
  replace HT : Hid (∀ W : World, Calls Tryz.prog 15 #[.string b, .int .i64 60] W fun e w' => e = .returned (.string t) ∧ W = w') := HT
  have hG := fun W => head_Get t (by omega) W
  have hR := fun W => RH.ref_GetHead t (by omega) W
  obtain ⟨⟨⟨g0, g1, g2, g3, g4, g5, g6, g7, g8, g9, g10, g11, g12, g13, g14⟩, E0⟩, hg⟩ : ∃ g, getH t = g := ⟨_, rfl⟩
  rw [hg] at hG hR
  obtain ⟨may, hmay⟩ : ∃ m, mayB h = m := ⟨_, rfl⟩
  have M1 := may_up (w.heap.size + 1) h may hmay
  have M2 := rmay_up (w.heap.size + 1) h may hmay
  have M3 := rmay_up0 h may hmay
  have hp := fun W => head_Put_any h hk W
  obtain ⟨p, hpp⟩ : ∃ p, putH h = p := ⟨_, rfl⟩
  rw [hpp] at hp
  have hph : may = true → p = hdBytes h ∧ (∀ W, Calls Tryz.prog 25 #[h.val] W fun e w' => e = .returned (.string p) ∧ Below W.heap.size W w') ∧ ((p.size : Nat) : Int) = sizeB h.typ h.x := fun hm => by
    have hm' := hmay.trans hm
    have e : p = hdBytes h := by rw [← hpp]; exact if_pos hm'
    exact ⟨e, fun W => by rw [e]; exact RP.ref_PutHead h hm' hk W, by rw [e]; exact (PkB.head_len h hm').1⟩
  have hpn : may = false → p = ⟨#[]⟩ := fun hm => by rw [← hpp]; exact if_neg (by rw [hmay, hm]; decide)
  have hfin := headall_fin h
  have HKK := hide hk; have HMAY := hide hmay
  obtain ⟨src, dst, off, cc, cs, sum, typ, x, seq, ack, serv, code, i0, i1, i2⟩ := h
  simp only [Hd.val_mk] at hG hR hp hph M1 M2 M3
  dsimp only at hph hfin
  have HB := hide HB0; have HG := hide hG; have HR := hide hR; have HP := hide hp; have HPH := hide hph; have HPN := hide hpn; have HFIN := hide hfin
  have A1 := hide (fun W => head_HasAck typ W); have A2 := hide (fun W => ref_HasAck typ W); have A3 := hide (fun W => head_Size typ x W); have A4 := hide (fun W => ref_Size typ x W)
  clear HB0 ht hG hR hp hph hpn hmay hk hb9 hfin hpp hg
  go_enter Tryz.func3, Tryz.ntmps3
  go_upto_region 5 with (first | (go_at_call 14; refine (HB.out _).mono ?_; rintro e w1 ⟨rfl, hb1⟩) | (go_at_call 15; refine (HT.out _).mono ?_; rintro e w2 ⟨rfl, rfl⟩))
  have b1 := (Blk.new w #[.int .i64 src, .int .i64 dst, .int .i64 off, .int .i64 cc, .int .i64 cs, .int .i64 sum, .int .i64 typ, .bool x, .int .u64 seq, .int .u64 ack, .int .u32 serv, .int .i64 code, .int .u8 i0, .int .u8 i1, .int .u8 i2] 26).below hb1 (by simp)
  have hbw : Below w.heap.size w w1 := ((Below.refl _ _).alloc (Nat.le_refl _) _).trans (hb1.mono (by simp))
  have hz1 : w.heap.size + 1 ≤ w1.heap.size := by have := hb1.size; simpa using this
  have B1 := hide b1; have HBW := hide hbw
  clear hb1 hbw HT HB
  go_cut [45] (fun v45 wx => v45 = .bool false ∧ Below (w.heap.size + 1) w1 wx)
  case first =>
    as_aux_lemma =>
      have f0 := b1.cell (i := 0) (u := .int .i64 src) rfl
      have f1 := b1.cell (i := 1) (u := .int .i64 dst) rfl
      have f2 := b1.cell (i := 2) (u := .int .i64 off) rfl
      have f3 := b1.cell (i := 3) (u := .int .i64 cc) rfl
      have f4 := b1.cell (i := 4) (u := .int .i64 cs) rfl
      have f5 := b1.cell (i := 5) (u := .int .i64 sum) rfl
      have f6 := b1.cell (i := 6) (u := .int .i64 typ) rfl
      have f7 := b1.cell (i := 7) (u := .bool x) rfl
      have f8 := b1.cell (i := 8) (u := .int .u64 seq) rfl
      have f9 := b1.cell (i := 9) (u := .int .u64 ack) rfl
      have f10 := b1.cell (i := 10) (u := .int .u32 serv) rfl
      have f11 := b1.cell (i := 11) (u := .int .i64 code) rfl
      have f12 := b1.cell (i := 12) (u := .int .u8 i0) rfl
      have f13 := b1.cell (i := 13) (u := .int .u8 i1) rfl
      have f14 := b1.cell (i := 14) (u := .int .u8 i2) rfl
      clear b1
      go_region_held3 (fun w' => w'.cell? ⟨w.heap.size, 0, none⟩ = some (.int .i64 src) ∧ w'.cell? ⟨w.heap.size, 1, none⟩ = some (.int .i64 dst) ∧ w'.cell? ⟨w.heap.size, 2, none⟩ = some (.int .i64 off) ∧ w'.cell? ⟨w.heap.size, 3, none⟩ = some (.int .i64 cc) ∧ w'.cell? ⟨w.heap.size, 4, none⟩ = some (.int .i64 cs) ∧ w'.cell? ⟨w.heap.size, 5, none⟩ = some (.int .i64 sum) ∧ w'.cell? ⟨w.heap.size, 6, none⟩ = some (.int .i64 typ) ∧ w'.cell? ⟨w.heap.size, 7, none⟩ = some (.bool x) ∧ w'.cell? ⟨w.heap.size, 8, none⟩ = some (.int .u64 seq) ∧ w'.cell? ⟨w.heap.size, 9, none⟩ = some (.int .u64 ack) ∧ w'.cell? ⟨w.heap.size, 10, none⟩ = some (.int .u32 serv) ∧ w'.cell? ⟨w.heap.size, 11, none⟩ = some (.int .i64 code) ∧ w'.cell? ⟨w.heap.size, 12, none⟩ = some (.int .u8 i0) ∧ w'.cell? ⟨w.heap.size, 13, none⟩ = some (.int .u8 i1) ∧ w'.cell? ⟨w.heap.size, 14, none⟩ = some (.int .u8 i2))
        (first | go_keep | (go_split_ands; refine ⟨(hbB.cell (Nat.lt_succ_self _)).trans ?_, (hbB.cell (Nat.lt_succ_self _)).trans ?_, (hbB.cell (Nat.lt_succ_self _)).trans ?_, (hbB.cell (Nat.lt_succ_self _)).trans ?_, (hbB.cell (Nat.lt_succ_self _)).trans ?_, (hbB.cell (Nat.lt_succ_self _)).trans ?_, (hbB.cell (Nat.lt_succ_self _)).trans ?_, (hbB.cell (Nat.lt_succ_self _)).trans ?_, (hbB.cell (Nat.lt_succ_self _)).trans ?_, (hbB.cell (Nat.lt_succ_self _)).trans ?_, (hbB.cell (Nat.lt_succ_self _)).trans ?_, (hbB.cell (Nat.lt_succ_self _)).trans ?_, (hbB.cell (Nat.lt_succ_self _)).trans ?_, (hbB.cell (Nat.lt_succ_self _)).trans ?_, (hbB.cell (Nat.lt_succ_self _)).trans ?_⟩ <;> assumption) | (go_split_ands; refine ⟨(hbA.cell (Nat.lt_succ_self _)).trans ?_, (hbA.cell (Nat.lt_succ_self _)).trans ?_, (hbA.cell (Nat.lt_succ_self _)).trans ?_, (hbA.cell (Nat.lt_succ_self _)).trans ?_, (hbA.cell (Nat.lt_succ_self _)).trans ?_, (hbA.cell (Nat.lt_succ_self _)).trans ?_, (hbA.cell (Nat.lt_succ_self _)).trans ?_, (hbA.cell (Nat.lt_succ_self _)).trans ?_, (hbA.cell (Nat.lt_succ_self _)).trans ?_, (hbA.cell (Nat.lt_succ_self _)).trans ?_, (hbA.cell (Nat.lt_succ_self _)).trans ?_, (hbA.cell (Nat.lt_succ_self _)).trans ?_, (hbA.cell (Nat.lt_succ_self _)).trans ?_, (hbA.cell (Nat.lt_succ_self _)).trans ?_, (hbA.cell (Nat.lt_succ_self _)).trans ?_⟩ <;> assumption) | (refine ⟨(hbB.cell (Nat.lt_succ_self _)).trans ?_, (hbB.cell (Nat.lt_succ_self _)).trans ?_, (hbB.cell (Nat.lt_succ_self _)).trans ?_, (hbB.cell (Nat.lt_succ_self _)).trans ?_, (hbB.cell (Nat.lt_succ_self _)).trans ?_, (hbB.cell (Nat.lt_succ_self _)).trans ?_, (hbB.cell (Nat.lt_succ_self _)).trans ?_, (hbB.cell (Nat.lt_succ_self _)).trans ?_, (hbB.cell (Nat.lt_succ_self _)).trans ?_, (hbB.cell (Nat.lt_succ_self _)).trans ?_, (hbB.cell (Nat.lt_succ_self _)).trans ?_, (hbB.cell (Nat.lt_succ_self _)).trans ?_, (hbB.cell (Nat.lt_succ_self _)).trans ?_, (hbB.cell (Nat.lt_succ_self _)).trans ?_, (hbB.cell (Nat.lt_succ_self _)).trans ?_⟩ <;> assumption) | (refine ⟨(hbA.cell (Nat.lt_succ_self _)).trans ?_, (hbA.cell (Nat.lt_succ_self _)).trans ?_, (hbA.cell (Nat.lt_succ_self _)).trans ?_, (hbA.cell (Nat.lt_succ_self _)).trans ?_, (hbA.cell (Nat.lt_succ_self _)).trans ?_, (hbA.cell (Nat.lt_succ_self _)).trans ?_, (hbA.cell (Nat.lt_succ_self _)).trans ?_, (hbA.cell (Nat.lt_succ_self _)).trans ?_, (hbA.cell (Nat.lt_succ_self _)).trans ?_, (hbA.cell (Nat.lt_succ_self _)).trans ?_, (hbA.cell (Nat.lt_succ_self _)).trans ?_, (hbA.cell (Nat.lt_succ_self _)).trans ?_, (hbA.cell (Nat.lt_succ_self _)).trans ?_, (hbA.cell (Nat.lt_succ_self _)).trans ?_, (hbA.cell (Nat.lt_succ_self _)).trans ?_⟩ <;> assumption))
        (first | (go_at_call 16; (with_reducible refine (M1.out _ ?_).mono ?_); (first | assumption | (simp; omega)); rintro e w' ⟨rfl, hbA, zA⟩) | (go_at_call 17; (with_reducible refine (M2.out _ ?_).mono ?_); (first | assumption | (simp; omega)); rintro e w' ⟨rfl, hbB, zB⟩) | (go_at_call 18; (with_reducible refine (A1.out _).mono ?_); rintro e w' ⟨rfl, rfl⟩) | (go_at_call 19; (with_reducible refine (A2.out _).mono ?_); rintro e w' ⟨rfl, rfl⟩) | (go_at_call 20; (with_reducible refine (A3.out _).mono ?_); rintro e w' ⟨rfl, rfl⟩) | (go_at_call 21; (with_reducible refine (A4.out _).mono ?_); rintro e w' ⟨rfl, rfl⟩))
      all_goals (go_wp2_with fail; go_meet; exact ⟨rfl, ((Below.refl (w.heap.size + 1) w1).drew.trans hbA).trans hbB⟩)
  case rest =>
    clear b1
    obtain ⟨rfl, hb2⟩ := hcut
    have b2 := B1.out.below hb2 (Nat.lt_succ_self _)
    have HB2 := hide hb2; have B2 := hide b2
    have hz2 : w.heap.size + 1 ≤ wc.heap.size := by have := hb2.size; omega
    clear hb2 b2 A1 A2 A3 A4 M1
    go_upto_region 7 with fail
    go_cut [8, 9] (fun v8 v9 wx => ∃ G : Nat, v8 = .pointer (some ⟨G, 0, none⟩) ∧ v9 = .int .i64 E0 ∧ Blk wx G #[.int .i64 g0, .int .i64 g1, .int .i64 g2, .int .i64 g3, .int .i64 g4, .int .i64 g5, .int .i64 g6, .bool g7, .int .u64 g8, .int .u64 g9, .int .u32 g10, .int .i64 g11, .int .u8 g12, .int .u8 g13, .int .u8 g14] 26 ∧ w.heap.size < G ∧ Below (w.heap.size + 1) w1 wx)
    case first =>
      as_aux_lemma =>
        go_wp2_with fail
        refine (HG.out _).mono ?_
        rintro e w4 ⟨rfl, hb4⟩
        have hz4 := hb4.size
        have HB4 := hide (HB2.out.trans (hb4.mono hz2))
        clear hb4
        go_wp2_with fail
        go_meet
        exact ⟨_, rfl, rfl, Blk.new _ _ _, by omega, HB4.out.alloc (by omega) _⟩
    case rest =>
      obtain ⟨g, rfl, rfl, bg, hgz, hb3⟩ := hcut
      have BG := hide bg; have HB3 := hide hb3
      have hz3 : w.heap.size + 1 ≤ wc.heap.size := by have := hb3.size; omega
      have hg3 := bg.lt
      clear bg hb3 HB2 B2 hz2
      go_upto_region 8 with fail
      go_cut [10, 11] (fun v10 v11 wx => ∃ R : Nat, v10 = .pointer (some ⟨R, 0, none⟩) ∧ v11 = .int .i64 E0 ∧ Blk wx R #[.int .i64 g0, .int .i64 g1, .int .i64 g2, .int .i64 g3, .int .i64 g4, .int .i64 g5, .int .i64 g6, .bool g7, .int .u64 g8, .int .u64 g9, .int .u32 g10, .int .i64 g11, .int .u8 g12, .int .u8 g13, .int .u8 g14] 26 ∧ Blk wx g #[.int .i64 g0, .int .i64 g1, .int .i64 g2, .int .i64 g3, .int .i64 g4, .int .i64 g5, .int .i64 g6, .bool g7, .int .u64 g8, .int .u64 g9, .int .u32 g10, .int .i64 g11, .int .u8 g12, .int .u8 g13, .int .u8 g14] 26 ∧ Below (w.heap.size + 1) w1 wx)
      case first =>
        as_aux_lemma =>
          go_wp2_with fail
          refine (HR.out _).mono ?_
          rintro e w4 ⟨rfl, hb4⟩
          have hz4 := hb4.size
          have HB4 := hide (HB3.out.trans (hb4.mono hz3))
          have BG4 := hide (BG.out.below hb4 hg3)
          clear hb4
          go_wp2_with fail
          go_meet
          exact ⟨_, rfl, rfl, Blk.new _ _ _, BG4.out.alloc _, HB4.out.alloc (by omega) _⟩
      case rest =>
        clear BG HB3 hz3 hg3
        obtain ⟨r, rfl, rfl, br, bg, hb3⟩ := hcut
        have BR := hide br; have BG := hide bg; have HB3 := hide hb3
        clear br bg hb3
        go_upto_region 9 with fail
        go_cut [63] (fun v63 wx => v63 = .bool false ∧ wx = wc)
        case first =>
          as_aux_lemma =>
            have f0 := BG.out.cell (i := 0) (u := .int .i64 g0) rfl
            have f1 := BG.out.cell (i := 1) (u := .int .i64 g1) rfl
            have f2 := BG.out.cell (i := 2) (u := .int .i64 g2) rfl
            have f3 := BG.out.cell (i := 3) (u := .int .i64 g3) rfl
            have f4 := BG.out.cell (i := 4) (u := .int .i64 g4) rfl
            have f5 := BG.out.cell (i := 5) (u := .int .i64 g5) rfl
            have f6 := BG.out.cell (i := 6) (u := .int .i64 g6) rfl
            have f7 := BG.out.cell (i := 7) (u := .bool g7) rfl
            have f8 := BG.out.cell (i := 8) (u := .int .u64 g8) rfl
            have f9 := BG.out.cell (i := 9) (u := .int .u64 g9) rfl
            have f10 := BG.out.cell (i := 10) (u := .int .u32 g10) rfl
            have f11 := BG.out.cell (i := 11) (u := .int .i64 g11) rfl
            have f12 := BG.out.cell (i := 12) (u := .int .u8 g12) rfl
            have f13 := BG.out.cell (i := 13) (u := .int .u8 g13) rfl
            have f14 := BG.out.cell (i := 14) (u := .int .u8 g14) rfl
            have r0 := BR.out.cell (i := 0) (u := .int .i64 g0) rfl
            have r1 := BR.out.cell (i := 1) (u := .int .i64 g1) rfl
            have r2 := BR.out.cell (i := 2) (u := .int .i64 g2) rfl
            have r3 := BR.out.cell (i := 3) (u := .int .i64 g3) rfl
            have r4 := BR.out.cell (i := 4) (u := .int .i64 g4) rfl
            have r5 := BR.out.cell (i := 5) (u := .int .i64 g5) rfl
            have r6 := BR.out.cell (i := 6) (u := .int .i64 g6) rfl
            have r7 := BR.out.cell (i := 7) (u := .bool g7) rfl
            have r8 := BR.out.cell (i := 8) (u := .int .u64 g8) rfl
            have r9 := BR.out.cell (i := 9) (u := .int .u64 g9) rfl
            have r10 := BR.out.cell (i := 10) (u := .int .u32 g10) rfl
            have r11 := BR.out.cell (i := 11) (u := .int .i64 g11) rfl
            have r12 := BR.out.cell (i := 12) (u := .int .u8 g12) rfl
            have r13 := BR.out.cell (i := 13) (u := .int .u8 g13) rfl
            have r14 := BR.out.cell (i := 14) (u := .int .u8 g14) rfl
            have h9 : ∀ W : World, (Op.equalIn 9999 24 (.agg #[.int .u8 g12, .int .u8 g13, .int .u8 g14]) (.agg #[.int .u8 g12, .int .u8 g13, .int .u8 g14])).run Tryz.prog W = .ok true W := fun W => by rw [show (9999 : Nat) = 9997 + 2 from rfl, eq_three]; simp
            go_wp2_with fail
            go_meet
            exact ⟨by simp, rfl⟩
        case rest =>
          obtain ⟨rfl, rfl⟩ := hcut
          have hg3 := BG.out.lt
          have b3 := B1.out.below HB3.out (Nat.lt_succ_self _)
          have B3 := hide b3
          have hz3 : w.heap.size + 1 ≤ wc.heap.size := by have := HB3.out.size; omega
          clear b3 BR
          go_upto_region 11 with fail
          go_cut [12] (fun v12 wx => v12 = .string p ∧ Blk wx g #[.int .i64 g0, .int .i64 g1, .int .i64 g2, .int .i64 g3, .int .i64 g4, .int .i64 g5, .int .i64 g6, .bool g7, .int .u64 g8, .int .u64 g9, .int .u32 g10, .int .i64 g11, .int .u8 g12, .int .u8 g13, .int .u8 g14] 26 ∧ Below (w.heap.size + 1) w1 wx)
          case first =>
            as_aux_lemma =>
              have b3 := B3.out
              have f0 := b3.cell (i := 0) (u := .int .i64 src) rfl
              have f1 := b3.cell (i := 1) (u := .int .i64 dst) rfl
              have f2 := b3.cell (i := 2) (u := .int .i64 off) rfl
              have f3 := b3.cell (i := 3) (u := .int .i64 cc) rfl
              have f4 := b3.cell (i := 4) (u := .int .i64 cs) rfl
              have f5 := b3.cell (i := 5) (u := .int .i64 sum) rfl
              have f6 := b3.cell (i := 6) (u := .int .i64 typ) rfl
              have f7 := b3.cell (i := 7) (u := .bool x) rfl
              have f8 := b3.cell (i := 8) (u := .int .u64 seq) rfl
              have f9 := b3.cell (i := 9) (u := .int .u64 ack) rfl
              have f10 := b3.cell (i := 10) (u := .int .u32 serv) rfl
              have f11 := b3.cell (i := 11) (u := .int .i64 code) rfl
              have f12 := b3.cell (i := 12) (u := .int .u8 i0) rfl
              have f13 := b3.cell (i := 13) (u := .int .u8 i1) rfl
              have f14 := b3.cell (i := 14) (u := .int .u8 i2) rfl
              clear b3
              go_wp2_with fail
              refine (HP.out _).mono ?_
              rintro e w4 ⟨rfl, hb4⟩
              have HB4 := hide (HB3.out.trans (hb4.mono hz3))
              have BG4 := hide (BG.out.below hb4 hg3)
              clear hb4
              go_wp2_with fail
              go_meet
              exact ⟨rfl, BG4.out, HB4.out⟩
          case rest =>
            clear BG HB3 hz3 hg3 B3
            obtain ⟨rfl, bg, hb3⟩ := hcut
            have hg3 := bg.lt
            have b3 := B1.out.below hb3 (Nat.lt_succ_self _)
            have hz3 : w.heap.size + 1 ≤ wc.heap.size := by have := hb3.size; omega
            have f0 := b3.cell (i := 0) (u := .int .i64 src) rfl
            have f1 := b3.cell (i := 1) (u := .int .i64 dst) rfl
            have f2 := b3.cell (i := 2) (u := .int .i64 off) rfl
            have f3 := b3.cell (i := 3) (u := .int .i64 cc) rfl
            have f4 := b3.cell (i := 4) (u := .int .i64 cs) rfl
            have f5 := b3.cell (i := 5) (u := .int .i64 sum) rfl
            have f6 := b3.cell (i := 6) (u := .int .i64 typ) rfl
            have f7 := b3.cell (i := 7) (u := .bool x) rfl
            have f8 := b3.cell (i := 8) (u := .int .u64 seq) rfl
            have f9 := b3.cell (i := 9) (u := .int .u64 ack) rfl
            have f10 := b3.cell (i := 10) (u := .int .u32 serv) rfl
            have f11 := b3.cell (i := 11) (u := .int .i64 code) rfl
            have f12 := b3.cell (i := 12) (u := .int .u8 i0) rfl
            have f13 := b3.cell (i := 13) (u := .int .u8 i1) rfl
            have f14 := b3.cell (i := 14) (u := .int .u8 i2) rfl
            have BG := hide bg; have HB3 := hide hb3
            clear bg hb3 b3
            go_upto_if 68 with (go_at_call 17; refine (M3.out _).mono ?_; rintro e w5 ⟨rfl, hb5⟩)
            have HB5 := hide (HB3.out.trans (hb5.mono hz3))
            have bg5 := BG.out.below hb5 hg3
            have BG5 := hide bg5
            have hg5 := bg5.lt
            have hz5 : w.heap.size + 1 ≤ w5.heap.size := by have := hb5.size; omega
            clear hb5 bg5 BG HB3 f0 f1 f2 f3 f4 f5 f6 f7 f8 f9 f10 f11 f12 f13 f14
            cases may
            · obtain rfl : p = ⟨#[]⟩ := HPN.out rfl
              as_aux_lemma =>
                go_wp2
                go_ret
                exact ⟨rfl, HBW.out.trans (HB5.out.mono (Nat.le_succ _))⟩
            · obtain ⟨hpe, hput, hpz⟩ := HPH.out rfl
              have b5 := B1.out.below HB5.out (Nat.lt_succ_self _)
              have f0 := b5.cell (i := 0) (u := .int .i64 src) rfl
              have f1 := b5.cell (i := 1) (u := .int .i64 dst) rfl
              have f2 := b5.cell (i := 2) (u := .int .i64 off) rfl
              have f3 := b5.cell (i := 3) (u := .int .i64 cc) rfl
              have f4 := b5.cell (i := 4) (u := .int .i64 cs) rfl
              have f5 := b5.cell (i := 5) (u := .int .i64 sum) rfl
              have f6 := b5.cell (i := 6) (u := .int .i64 typ) rfl
              have f7 := b5.cell (i := 7) (u := .bool x) rfl
              have f8 := b5.cell (i := 8) (u := .int .u64 seq) rfl
              have f9 := b5.cell (i := 9) (u := .int .u64 ack) rfl
              have f10 := b5.cell (i := 10) (u := .int .u32 serv) rfl
              have f11 := b5.cell (i := 11) (u := .int .i64 code) rfl
              have f12 := b5.cell (i := 12) (u := .int .u8 i0) rfl
              have f13 := b5.cell (i := 13) (u := .int .u8 i1) rfl
              have f14 := b5.cell (i := 14) (u := .int .u8 i2) rfl
              have A3 := hide (fun W => head_Size typ x W)
              rw [← hpz] at A3
              have HPE := hide hpe; have HPUT := hide hput; have HPZ := hide hpz; have B5 := hide b5
              have hps : p.size ≤ 28 := by have := (sizeB_le typ x).2; omega
              clear hpe hput hpz b5 HPH HPN HP
              go_upto_region 14 with fail
              go_cut [84] (fun v84 wx => v84 = .bool false ∧ Blk wx g #[.int .i64 g0, .int .i64 g1, .int .i64 g2, .int .i64 g3, .int .i64 g4, .int .i64 g5, .int .i64 g6, .bool g7, .int .u64 g8, .int .u64 g9, .int .u32 g10, .int .i64 g11, .int .u8 g12, .int .u8 g13, .int .u8 g14] 26 ∧ Below (w.heap.size + 1) w1 wx)
              case first =>
                as_aux_lemma =>
                  go_wp2_with fail
                  refine (HPUT.out _).mono ?_
                  rintro e w6 ⟨rfl, hb6⟩
                  have HB6 := hide (HB5.out.trans (hb6.mono hz5))
                  have BG6 := hide (BG5.out.below hb6 hg5)
                  have k6 : w6.cell? ⟨w.heap.size, 6, none⟩ = some (.int .i64 typ) := (hb6.cell (by show w.heap.size < _; omega)).trans f6
                  have k7 : w6.cell? ⟨w.heap.size, 7, none⟩ = some (.bool x) := (hb6.cell (by show w.heap.size < _; omega)).trans f7
                  clear hb6
                  go_wp2_with (go_at_call 20; refine (A3.out _).mono ?_; rintro e w7 ⟨rfl, rfl⟩)
                  all_goals go_meet
                  all_goals exact ⟨by simp, BG6.out, HB6.out⟩
              case rest =>
                clear f0 f1 f2 f3 f4 f5 f6 f7 f8 f9 f10 f11 f12 f13 f14 A3 HPUT B5 HB5 BG5 hg5 hz5
                obtain ⟨rfl, bg, hb6⟩ := hcut
                have b6 := B1.out.below hb6 (Nat.lt_succ_self _)
                have f2 : wc.cell? ⟨w.heap.size, 2, none⟩ = some (.int .i64 off) := b6.cell rfl
                have hbd := may_bounds HMAY.out
                dsimp only at hbd
                have o0 : 0 ≤ off := by have := (sizeB_le typ x).1; omega
                have o1 : off ≤ 255 := by omega
                have hps28 : (p.size : Int) ≤ 28 := by omega
                have hps0 : (0 : Int) ≤ (p.size : Int) := by omega
                have dm0 : -8 ≤ data.tmod 9 := by have := Int.tmod_lt_of_pos data (show (0 : Int) < 9 by decide); have := Int.lt_tmod_of_pos data (show (0 : Int) < 9 by decide); omega
                have dm1 : data.tmod 9 ≤ 8 := by have := Int.tmod_lt_of_pos data (show (0 : Int) < 9 by decide); omega
                obtain ⟨n, hn⟩ : ∃ n : Nat, max 0 (min (4 * off - (p.size : Int) + data.tmod 9) 1100) = (n : Int) := ⟨(max 0 (min (4 * off - (p.size : Int) + data.tmod 9) 1100)).toNat, by omega⟩
                have hn11 : n ≤ 1100 := by omega
                have HN := hide hn; have BG := hide bg; have HB6 := hide hb6; have B6 := hide b6; have HBD := hide hbd
                clear bg hb6 b6 hbd
                go_upto_region 16 with fail
                obtain ⟨zs, hzs⟩ : ∃ z, strOfNums (List.replicate n 0) = z := ⟨_, rfl⟩
                have hzn : zs.size = n := by rw [← hzs, strOfNums_size, List.length_replicate]
                have hzw : w.heap.size + 1 ≤ wc.heap.size := by have := HB6.out.size; omega
                have hmk := fun W => make_n n (by omega) W
                have htx : ∀ W : World, (convert 36 9 (.slice (some ⟨W.heap.size, 0, none⟩) n n)).run Tryz.prog (W.alloc (zcn n)) = .ok (.string zs) (W.alloc (zcn n)) := fun W => by rw [← hzs]; exact (MadeZ.new n W).text
                generalize zcn n = zo at hmk htx
                have HZN := hide hzn; have HMK := hide hmk; have HTX := hide htx
                clear hzs hzn hmk htx
                go_cut [13] (fun v13 wx => v13 = .string zs ∧ Blk wx g #[.int .i64 g0, .int .i64 g1, .int .i64 g2, .int .i64 g3, .int .i64 g4, .int .i64 g5, .int .i64 g6, .bool g7, .int .u64 g8, .int .u64 g9, .int .u32 g10, .int .i64 g11, .int .u8 g12, .int .u8 g13, .int .u8 g14] 26 ∧ Below (w.heap.size + 1) w1 wx)
                case first =>
                  as_aux_lemma =>
                    have hn := HN.out
                    have hmk := HMK.out
                    have htx := HTX.out
                    go_wp2_with fail
                    go_meet
                    exact ⟨rfl, BG.out.alloc _, HB6.out.alloc hzw _⟩
                case rest =>
                  clear f2 BG HB6 B6 HMK HTX hzw
                  obtain ⟨rfl, bg, hb7⟩ := hcut
                  obtain ⟨q, hq⟩ : ∃ q, p ++ zs = q := ⟨_, rfl⟩
                  have hqs : q.size = p.size + n := by rw [← hq, ByteArray.size_append, HZN.out]
                  have hno : ¬ (9223372036854775807 < p.size + zs.size) := by have := HZN.out; omega
                  obtain ⟨⟨⟨k0, k1, k2, k3, k4, k5, k6, k7, k8, k9, k10, k11, k12, k13, k14⟩, E1⟩, hgq⟩ : ∃ z, getH q = z := ⟨_, rfl⟩
                  have hG2 := fun W => head_Get q (by omega) W
                  rw [hgq] at hG2
                  simp only [Hd.val_mk] at hG2
                  have hfin := HFIN.out HMAY.out HKK.out zs q (by rw [← HPE.out]; exact hq)
                  have HG2 := hide hG2; have HFN := hide hfin; have HGQ := hide hgq; have HQS := hide hqs
                  have BG := hide bg; have HB7 := hide hb7
                  have hg7 := bg.lt
                  have hz7 : w.heap.size + 1 ≤ wc.heap.size := by have := hb7.size; omega
                  clear hG2 hfin hgq hqs bg hb7
                  go_upto_region 17 with fail
                  go_cut [9] (fun v9 wx => v9 = .int .i64 E1 ∧ Blk wx g #[.int .i64 k0, .int .i64 k1, .int .i64 k2, .int .i64 k3, .int .i64 k4, .int .i64 k5, .int .i64 k6, .bool k7, .int .u64 k8, .int .u64 k9, .int .u32 k10, .int .i64 k11, .int .u8 k12, .int .u8 k13, .int .u8 k14] 26 ∧ Below (w.heap.size + 1) w1 wx)
                  case first =>
                    as_aux_lemma =>
                      go_wp2_with fail
                      refine (HG2.out _).mono ?_
                      rintro e w8 ⟨rfl, hb8⟩
                      have bg8 := BG.out.below hb8 hg7
                      have BG8 := hide bg8; have HB8 := hide (HB7.out.trans (hb8.mono hz7))
                      clear hb8 bg8
                      go_wp2_with (refine wpList_store_row rfl 26 _ _ rfl g #[.int .i64 k0, .int .i64 k1, .int .i64 k2, .int .i64 k3, .int .i64 k4, .int .i64 k5, .int .i64 k6, .bool k7, .int .u64 k8, .int .u64 k9, .int .u32 k10, .int .i64 k11, .int .u8 k12, .int .u8 k13, .int .u8 k14] rfl rfl 26 #[.int .i64 g0, .int .i64 g1, .int .i64 g2, .int .i64 g3, .int .i64 g4, .int .i64 g5, .int .i64 g6, .bool g7, .int .u64 g8, .int .u64 g9, .int .u32 g10, .int .i64 g11, .int .u8 g12, .int .u8 g13, .int .u8 g14] BG8.out (by kernel_rfl) rfl (by kernel_rfl) ?_)
                      go_meet
                      exact ⟨rfl, BG8.out.row, below_row HB8.out (by omega) _⟩
                  case rest =>
                    clear BG HB7 hg7 hz7 HG2 hno
                    obtain ⟨rfl, bg, hb8⟩ := hcut
                    have b8 := B1.out.below hb8 (Nat.lt_succ_self _)
                    have f2 : wc.cell? ⟨w.heap.size, 2, none⟩ = some (.int .i64 off) := b8.cell rfl
                    have hzn := HZN.out
                    have HB8 := hide (HBW.out.trans (hb8.mono (Nat.le_succ _)))
                    have hnI : (n : Int) ≤ 1100 := by omega
                    by_cases hlt : (p.size : Int) + (n : Int) < 4 * off
                    · obtain rfl : E1 = 4 := by
                        have h1 := HFN.out.2 (by have := HQS.out; omega)
                        rw [HGQ.out] at h1
                        exact congrArg Prod.snd h1
                      clear bg hb8 b8
                      as_aux_lemma =>
                        go_wp2
                        go_ret
                        exact ⟨rfl, HB8.out⟩
                    · have hle : 4 * off ≤ (p.size : Int) + (n : Int) := by omega
                      obtain ⟨hk, rfl⟩ : ⟨k0, k1, k2, k3, k4, k5, k6, k7, k8, k9, k10, k11, k12, k13, k14⟩ = (⟨src, dst, off, cc, cs, sum, typ, x, seq, ack, serv, code, i0, i1, i2⟩ : Hd) ∧ E1 = 0 := by
                        have h1 := HFN.out.1 (by have := HQS.out; omega)
                        rw [HGQ.out] at h1
                        exact ⟨congrArg Prod.fst h1, congrArg Prod.snd h1⟩
                      simp only [Hd.mk.injEq] at hk
                      obtain ⟨rfl, rfl, rfl, rfl, rfl, rfl, rfl, rfl, rfl, rfl, rfl, rfl, rfl, rfl, rfl⟩ := hk
                      have q0 := bg.cell (i := 0) (u := .int .i64 k0) rfl
                      have q1 := bg.cell (i := 1) (u := .int .i64 k1) rfl
                      have q2 := bg.cell (i := 2) (u := .int .i64 k2) rfl
                      have q3 := bg.cell (i := 3) (u := .int .i64 k3) rfl
                      have q4 := bg.cell (i := 4) (u := .int .i64 k4) rfl
                      have q5 := bg.cell (i := 5) (u := .int .i64 k5) rfl
                      have q6 := bg.cell (i := 6) (u := .int .i64 k6) rfl
                      have q7 := bg.cell (i := 7) (u := .bool k7) rfl
                      have q8 := bg.cell (i := 8) (u := .int .u64 k8) rfl
                      have q9 := bg.cell (i := 9) (u := .int .u64 k9) rfl
                      have q10 := bg.cell (i := 10) (u := .int .u32 k10) rfl
                      have q11 := bg.cell (i := 11) (u := .int .i64 k11) rfl
                      have q12 := bg.cell (i := 12) (u := .int .u8 k12) rfl
                      have q13 := bg.cell (i := 13) (u := .int .u8 k13) rfl
                      have q14 := bg.cell (i := 14) (u := .int .u8 k14) rfl
                      have m0 := b8.cell (i := 0) (u := .int .i64 k0) rfl
                      have m1 := b8.cell (i := 1) (u := .int .i64 k1) rfl
                      have m2 := b8.cell (i := 2) (u := .int .i64 k2) rfl
                      have m3 := b8.cell (i := 3) (u := .int .i64 k3) rfl
                      have m4 := b8.cell (i := 4) (u := .int .i64 k4) rfl
                      have m5 := b8.cell (i := 5) (u := .int .i64 k5) rfl
                      have m6 := b8.cell (i := 6) (u := .int .i64 k6) rfl
                      have m7 := b8.cell (i := 7) (u := .bool k7) rfl
                      have m8 := b8.cell (i := 8) (u := .int .u64 k8) rfl
                      have m9 := b8.cell (i := 9) (u := .int .u64 k9) rfl
                      have m10 := b8.cell (i := 10) (u := .int .u32 k10) rfl
                      have m11 := b8.cell (i := 11) (u := .int .i64 k11) rfl
                      have m12 := b8.cell (i := 12) (u := .int .u8 k12) rfl
                      have m13 := b8.cell (i := 13) (u := .int .u8 k13) rfl
                      have m14 := b8.cell (i := 14) (u := .int .u8 k14) rfl
                      have h9 : ∀ W : World, (Op.equalIn 9999 24 (.agg #[.int .u8 k12, .int .u8 k13, .int .u8 k14]) (.agg #[.int .u8 k12, .int .u8 k13, .int .u8 k14])).run Tryz.prog W = .ok true W := fun W => by rw [show (9999 : Nat) = 9997 + 2 from rfl, eq_three]; simp
                      clear bg hb8 b8 f2
                      as_aux_lemma =>
                        go_wp2
                        go_ret
                        exact ⟨rfl, HB8.out⟩
end Go.Proofs.YthallmapddihgaaGreatDoor
