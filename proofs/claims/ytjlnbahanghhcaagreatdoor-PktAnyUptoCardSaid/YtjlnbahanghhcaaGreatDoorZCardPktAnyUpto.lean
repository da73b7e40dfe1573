/- PktAny, where what comes in is of bulk at most 1048576: the law returns true, and what came in reads as it did; the row and its tied card. Conditions: that bound, and the row's own cells. -/
import Derived.Test.YtjlnbahanghhcaaGreatDoorZCardPktAnyUptop1
import Derived.Test.YtjlnbahanghhcaaGreatDoorZCardPktAnyUptop4
import Derived.Test.YtjlnbahanghhcaaGreatDoorZCardPktAnyUptop3
import Derived.Test.YtjlnbahanghhcaaGreatDoorZCardPktAnyUptop0
import Derived.StillTailTactics
import Derived.Deep.DeepCutAuto
import Derived.Deep.CutBlock
import Derived.Laws.BitsLemmas
import Derived.IntWalk
import Derived.Test.YtjlnbahanghhcaaGreatDoorRows
import Derived.Test.YtjlnbahanghhcaaGreatDoorCards
import Derived.Test.YtjlnbahanghhcaaGreatDoorTie
import Derived.Test.YtjlnbahanghhcaaGreatDoorBaseD
import Derived.WalkKit
import Derived.ProofKit
import Derived.OpenShut
import Derived.ShutString
import Derived.ChangeOld
import Derived.Below
import Derived.SizedLaws
import Derived.SevenTiedAt
import Derived.Handed
import Derived.LaidLaws
import Derived.LaidHandle
import Derived.Deep.DeepHandedRow

/- PktAny: the walk (printed by wip/gen/mk_pktany.py). -/
namespace Go.Proofs.YtjlnbahanghhcaaGreatDoor
open Go.RowKit
set_option linter.unusedVariables false
set_option linter.unusedSimpArgs false
theorem putP_size (h : Hd) (hk : okH h = true) (os : List Op) (d : ByteArray) : (putP h os d).1.size ≤ 2500 := by
  by_cases he : errP h os d = 0
  · obtain ⟨N, S, _, h1, _, _, h2, h3, _⟩ := PkB.put_back_getP h hk os d he
    omega
  · unfold putP; rw [if_neg he]; exact Nat.zero_le _
/-- what pkt.Get says where something is wrong. -/
theorem getP_err (b : ByteArray) (h : (PkB.getP b).2.2.2 ≠ 0) : (PkB.getP b).1 = hd0 ∧ (PkB.getP b).2.1 = [] ∧ (PkB.getP b).2.2.1 = ⟨#[]⟩ := by
  unfold PkB.getP at h ⊢
  split
  · exact ⟨rfl, rfl, rfl⟩
  · split
    · exact ⟨rfl, rfl, rfl⟩
    · split
      · exact ⟨rfl, rfl, rfl⟩
      · split
        · exact ⟨rfl, rfl, rfl⟩
        · rename_i h1 h2 h3 h4
          rw [if_neg h1, if_neg h2, if_neg h3, if_neg h4] at h
          split
          · exact ⟨rfl, rfl, rfl⟩
          · rename_i l hl
            rw [hl] at h
            exact absurd rfl h
/-- .. and where nothing is. -/
theorem getP_right (b : ByteArray) (h : (PkB.getP b).2.2.2 = 0) : ∃ g : Hd, getH b = (g, 0) ∧ b.size ≤ 2500 ∧ (PkB.getP b).1 = g ∧ (PkB.getO (b.extract (sizeB g.typ g.x).toNat (4 * g.off).toNat)).1 = (PkB.getP b).2.1.map PkB.ofS ∧ (PkB.getP b).2.2.1 = b.extract (4 * g.off).toNat b.size := by
  by_cases h0 : 2500 < b.size
  · unfold PkB.getP at h; rw [if_pos h0] at h; exact absurd (show (13 : Int) = 0 from h) (by decide)
  obtain ⟨⟨g, E⟩, hg⟩ : ∃ q, getH b = q := ⟨_, rfl⟩
  by_cases hE : E = 0
  case neg => unfold PkB.getP at h; rw [if_neg h0, hg] at h; dsimp only at h; rw [if_pos hE] at h; exact absurd h hE
  subst hE
  by_cases hc : covB b.size (4 * g.off) g.cs = false
  · unfold PkB.getP at h; rw [if_neg h0, hg] at h; dsimp only at h; rw [if_neg (fun h => h rfl), if_pos hc] at h; exact absurd (show (5 : Int) = 0 from h) (by decide)
  by_cases hs : PkB.sumAt b g ≠ 0
  · unfold PkB.getP at h; rw [if_neg h0, hg] at h; dsimp only at h; rw [if_neg (fun h => h rfl), if_neg hc, if_pos hs] at h; exact absurd (show (6 : Int) = 0 from h) (by decide)
  obtain ⟨e, q⟩ := PkB.getP_opts b g h0 hg (Bool.not_eq_false _ ▸ hc) (Decidable.not_not.1 hs)
  obtain ⟨q1, q2, q3⟩ := q h
  exact ⟨g, hg, by omega, q1, q2, q3⟩
theorem below_dnP {B : Nat} {a w : World} (h : Below B a w) (n : Nat) : Below B a (w.drewN n) := ⟨h.os, h.tape, h.output, h.size, h.block⟩
set_option maxHeartbeats 8000000 in
set_option maxRecDepth 100000 in
theorem PktAny_walk (HB0 : ∀ W : World, Calls Tryz.prog 11 #[] W fun e w' => e = .returned (.bool true) ∧ Below W.heap.size W w')
    (b : ByteArray) (hb9 : b.size ≤ 140737488351232) (h : Hd) (hk : okH h = true) (A : Option Addr) (cap : Nat) (os : List Op) (data : ByteArray) (w : World) (hA : CellsAt w w.heap.size A (ocells os)) (hn : os.length ≤ 1048576) (hs : ∀ o, o ∈ os → o.data.size ≤ 1048576) (hd : data.size ≤ 1048576)
    (n : Int) (hn0 : -9223372036854775808 ≤ n) (hn1 : n ≤ 9223372036854775807) (xb : Int) (x0 : 0 ≤ xb) (x1 : xb ≤ 255) :
    Calls Tryz.prog 3 #[.string b, .agg #[.int .i64 h.src, .int .i64 h.dst, .int .i64 h.off, .int .i64 h.cc, .int .i64 h.cs, .int .i64 h.sum, .int .i64 h.typ, .bool h.x, .int .u64 h.seq, .int .u64 h.ack, .int .u32 h.serv, .int .i64 h.code, .int .u8 h.i0, .int .u8 h.i1, .int .u8 h.i2, .slice A os.length cap, .string data], .int .i64 n, .int .u8 xb] w fun e w' => e = .returned (.bool true) ∧ Below w.heap.size w w' := by
  have HT := hide (fun W : World => law_Text b 2600 W hb9)
  obtain ⟨t, ht⟩ : ∃ t, b.extract 0 (min b.size 2600) = t := ⟨_, rfl⟩
  have ht3 : t.size ≤ 2600 := by rw [← ht, ByteArray.size_extract]; omega
  rw [ht] at HT
  replace HT : Hid (∀ W : World, Calls Tryz.prog 12 #[.string b, .int .i64 2600] W fun e w' => e = .returned (.string t) ∧ W = w') := HT
  have hlen : (obs os).length ≤ 140737488355000 := by
    have h1 := obs_le 1048576 os hs
    have h2 : os.length * (1048576 + 2) ≤ 1048576 * (1048576 + 2) := Nat.mul_le_mul_right _ hn
    omega
  have hp := fun (W : World) (hb : Below w.heap.size w W) => pkt_Put_any h hk A cap w.heap.size os data W (hA.below hb) hb.size hlen (by omega) (by omega)
  have hz := putP_size h hk os data
  obtain ⟨src, dst, off, cc, cs, sum, typ, x, seq, ack, serv, code, i0, i1, i2⟩ := h
  dsimp only at *
  generalize putP ⟨src, dst, off, cc, cs, sum, typ, x, seq, ack, serv, code, i0, i1, i2⟩ os data = p at *
  obtain ⟨s, f⟩ := p
  dsimp only at *
  have HB := hide HB0; have HP := hide hp
  clear HB0 hp hA hs hk hlen ht
  go_enter Tryz.func3, Tryz.ntmps3
  go_upto_region 5 with (first | (go_at_call 11; refine (HB.out _).mono ?_; rintro e w1 ⟨rfl, hb1⟩) | (go_at_call 12; refine (HT.out _).mono ?_; rintro e w2 ⟨rfl, rfl⟩))
  have b1 := (Blk.new w #[.int .i64 src, .int .i64 dst, .int .i64 off, .int .i64 cc, .int .i64 cs, .int .i64 sum, .int .i64 typ, .bool x, .int .u64 seq, .int .u64 ack, .int .u32 serv, .int .i64 code, .int .u8 i0, .int .u8 i1, .int .u8 i2, .slice A os.length cap, .string data] 29).below hb1 (by simp)
  have hbw : Below w.heap.size w w1 := ((Below.refl _ _).alloc (Nat.le_refl _) _).trans (hb1.mono (by simp))
  have HBW := hide hbw
  clear hb1 hbw HT HB
  have m0 := b1.cell (i := 0) (u := .int .i64 src) rfl
  have m1 := b1.cell (i := 1) (u := .int .i64 dst) rfl
  have m2 := b1.cell (i := 2) (u := .int .i64 off) rfl
  have m3 := b1.cell (i := 3) (u := .int .i64 cc) rfl
  have m4 := b1.cell (i := 4) (u := .int .i64 cs) rfl
  have m5 := b1.cell (i := 5) (u := .int .i64 sum) rfl
  have m6 := b1.cell (i := 6) (u := .int .i64 typ) rfl
  have m7 := b1.cell (i := 7) (u := .bool x) rfl
  have m8 := b1.cell (i := 8) (u := .int .u64 seq) rfl
  have m9 := b1.cell (i := 9) (u := .int .u64 ack) rfl
  have m10 := b1.cell (i := 10) (u := .int .u32 serv) rfl
  have m11 := b1.cell (i := 11) (u := .int .i64 code) rfl
  have m12 := b1.cell (i := 12) (u := .int .u8 i0) rfl
  have m13 := b1.cell (i := 13) (u := .int .u8 i1) rfl
  have m14 := b1.cell (i := 14) (u := .int .u8 i2) rfl
  have m15 := b1.cell (i := 15) (u := .slice A os.length cap) rfl
  have m16 := b1.cell (i := 16) (u := .string data) rfl
  clear b1
  go_upto_region 6 with (first | (go_at_call 13; refine (HP.out _ HBW.out).mono ?_; rintro e w3 ⟨rfl, hb3⟩))
  have HB3 := hide (HBW.out.trans (hb3.mono HBW.out.size))
  clear hb3 m0 m1 m2 m3 m4 m5 m6 m7 m8 m9 m10 m11 m12 m13 m14 m15 m16 HBW HP
  go_upto_if 34 with fail
  go_cut [10] (fun v10 wx => ∃ u : ByteArray, v10 = .string u ∧ u.size ≤ 2500 ∧ Below w.heap.size w wx)
  case first =>
    as_aux_lemma =>
      by_cases h0 : s.size = 0
      · have h1 : ¬ ((0 : Int) < (s.size : Int)) := by omega
        clear h0
        go_wp2_with fail
        all_goals go_meet
        all_goals exact ⟨s, rfl, hz, HB3.out⟩
      · have h1 : (0 : Int) < (s.size : Int) := by omega
        have h2 : (s.size : Int) ≤ 2500 := by omega
        obtain ⟨j, hj, ej⟩ : ∃ j : Nat, j < s.size ∧ (wrap64 (n.tmod (s.size : Int) + (s.size : Int))).tmod (s.size : Int) = (j : Int) := by
          obtain ⟨h1, h2⟩ := tmod_pos n (s.size : Int) (by omega) (by omega)
          exact ⟨_, by omega, (Int.toNat_of_nonneg h1).symm⟩
        have hji : (j : Int) < (s.size : Int) := by omega
        have hne : ((s.size : Int) == 0) = false := beq_eq_false_iff_ne.2 (by omega)
        clear h0
        go_upto_region 7 with fail
        go_upto_region 8 with (refine wpList_bytes_of rfl (.tmp 35) rfl s rfl ?_; intro cap2 w4 hraw hb4 hsz4)
        have hraw : Raw w4 w3.heap.size (s.data.toList.map fun c => (c.toNat : Int)) := hraw
        have hll : (s.data.toList.map fun c => (c.toNat : Int)).length = s.size := by rw [List.length_map, Array.length_toList]; rfl
        generalize (s.data.toList.map fun c => (c.toNat : Int)) = L at *
        have hjL : j < L.length := by omega
        obtain ⟨c0, hc⟩ : ∃ c0, w4.cell? ⟨w3.heap.size, j, none⟩ = some (.int .u8 c0) := ⟨_, hraw.cell j hjL⟩
        have hf := hraw.frozen j hjL
        have HLL := hide hll
        have HB4 := hide (HB3.out.trans (hb4.mono HB3.out.size))
        have hz3 := HB3.out.size
        clear hll hb4 hsz4
        go_upto_region 9 with fail
        have hraw2 := hraw.setCell j hjL (bits .xor .u8 c0 xb)
        have hb5 : Below w.heap.size w (w4.setCell ⟨w3.heap.size, j, none⟩ (.int .u8 (bits .xor .u8 c0 xb))) := HB4.out.setCell (p := ⟨w3.heap.size, j, none⟩) hz3 _
        have hll2 : s.size = (L.set j (bits .xor .u8 c0 xb)).length := by rw [List.length_set]; exact HLL.out.symm
        have hlz : (strOfNums (L.set j (bits .xor .u8 c0 xb))).size ≤ 2500 := by rw [strOfNums_size, ← hll2]; exact hz
        generalize (L.set j (bits .xor .u8 c0 xb)) = L2 at *
        generalize (w4.setCell ⟨w3.heap.size, j, none⟩ (.int .u8 (bits .xor .u8 c0 xb))) = w5 at *
        have HRW := hide hraw2; have HL2 := hide hll2; have HB5 := hide hb5
        clear hraw hraw2 hll2 hb5 hc hf hjL
        go_wp2_with (refine wpList_bytes_back rfl (.tmp 53) rfl w3.heap.size cap2 s.size L2 HL2.out rfl HRW.out ?_)
        all_goals go_meet
        all_goals exact ⟨_, rfl, hlz, HB5.out⟩
  case rest =>
    obtain ⟨u, rfl, hu, hbc⟩ := hcut
    clear HB3
    go_upto_region 10 with fail
    go_upto_region 11 with fail
    have bl := Blk.new wc #[.string t, .string u] 9
    have hbl := hbc.alloc hbc.size (.cells #[.string t, .string u] 9)
    have hzl : wc.heap.size + 1 ≤ (wc.alloc (.cells #[.string t, .string u] 9)).heap.size := by simp
    generalize (wc.alloc (.cells #[.string t, .string u] 9)) = wl at *
    have hzc := hbc.size
    clear hbc
    go_loopw [59] (fun x wr => ∃ k : Nat, k ≤ 2 ∧ x = .int .i64 k ∧ Blk wr wc.heap.size #[.string t, .string u] 9 ∧ Below w.heap.size w wr) (fun x _ => 2 - (intOf x).toNat)
    case atStart => exact ⟨0, by omega, rfl, bl, hbl⟩
    case round =>
      clear bl hbl hzl
      obtain ⟨k, hk, rfl, bl, hb⟩ := hrel
      by_cases hlt : k < 2
      case neg =>
        obtain rfl : k = 2 := by omega
        as_aux_lemma =>
          go_wp2
          go_ret
          exact ⟨rfl, hb⟩
      obtain ⟨v, hv, hc⟩ : ∃ v : ByteArray, v.size ≤ 2600 ∧ wr.cell? ⟨wc.heap.size, k, none⟩ = some (.string v) := by
        rcases (show k = 0 ∨ k = 1 by omega) with rfl | rfl
        · exact ⟨t, ht3, bl.cell rfl⟩
        · exact ⟨u, by omega, bl.cell rfl⟩
      have hki : (k : Int) < 2 := by omega
      have BL := hide bl; have HB := hide hb
      have hzb := bl.lt
      have hzr := hb.size
      clear bl hb
      go_upto_region 13 with fail
      clear hc
      have hg := fun W => PkB.pkt_Get_any v W
      have hw := fun W => law_wrong v (by omega) W
      have hri := getP_right v
      have her := getP_err v
      obtain ⟨⟨g, l, d, E⟩, hgp⟩ : ∃ q, PkB.getP v = q := ⟨_, rfl⟩
      rw [hgp] at hg hw hri her
      clear hgp
      dsimp only at hg hw hri her
      have HG := hide hg; have HW := hide hw
      clear hg hw
      by_cases hE : E = 0
      case neg =>
        obtain ⟨rfl, rfl, rfl⟩ := her hE
        clear her hri
        have hE1 : (E == 0) = false := beq_eq_false_iff_ne.2 hE
        have hE2 : (E != 0) = true := by simp [bne, hE1]
        clear hE
        have hg := HG.out
        simp only [hd0, List.length_nil] at hg
        have HG2 := hide hg
        have hq := fun (A2 : Option Addr) (c2 : Nat) (W : World) => pkt_Eq_same hd0 A2 none c2 0 0 [] ⟨#[]⟩ W (CellsAt.nil _ _ _) (CellsAt.nil _ _ _) (Nat.zero_le _) (by decide)
        simp only [hd0, List.length_nil] at hq
        have HQ := hide hq
        clear hg hq HG
        as_aux_lemma =>
          go_upto_region 14 with (go_at_call 14; refine (HG2.out _).mono ?_; rintro e w4 ⟨A2, c2, rfl, _, _, hb4⟩)
          have bq := Blk.new w4 #[.int .i64 0, .int .i64 0, .int .i64 0, .int .i64 0, .int .i64 0, .int .i64 0, .int .i64 0, .bool false, .int .u64 0, .int .u64 0, .int .u32 0, .int .i64 0, .int .u8 0, .int .u8 0, .int .u8 0, .slice A2 0 c2, .string ⟨#[]⟩] 29
          have bl4 := (BL.out.below hb4 hzb).alloc (.cells #[.int .i64 0, .int .i64 0, .int .i64 0, .int .i64 0, .int .i64 0, .int .i64 0, .int .i64 0, .bool false, .int .u64 0, .int .u64 0, .int .u32 0, .int .i64 0, .int .u8 0, .int .u8 0, .int .u8 0, .slice A2 0 c2, .string ⟨#[]⟩] 29)
          have hz4 := hb4.size
          have hb5 := (HB.out.trans (hb4.mono hzr)).alloc (Nat.le_trans hzr hz4) (.cells #[.int .i64 0, .int .i64 0, .int .i64 0, .int .i64 0, .int .i64 0, .int .i64 0, .int .i64 0, .bool false, .int .u64 0, .int .u64 0, .int .u32 0, .int .i64 0, .int .u8 0, .int .u8 0, .int .u8 0, .slice A2 0 c2, .string ⟨#[]⟩] 29)
          generalize (w4.alloc (.cells #[.int .i64 0, .int .i64 0, .int .i64 0, .int .i64 0, .int .i64 0, .int .i64 0, .int .i64 0, .bool false, .int .u64 0, .int .u64 0, .int .u32 0, .int .i64 0, .int .u8 0, .int .u8 0, .int .u8 0, .slice A2 0 c2, .string ⟨#[]⟩] 29)) = w5 at *
          have HBQ := hide bq; have HBL := hide bl4; have HB5 := hide hb5
          clear bq bl4 hb5 hb4
          go_upto_region 15 with (go_at_call 15; refine (HW.out _).mono ?_; rintro e w6 ⟨rfl, hb6⟩)
          have bq := HBQ.out.below hb6 HBQ.out.lt
          have bl6 := HBL.out.below hb6 HBL.out.lt
          have HBL6 := hide bl6
          have HB6 := hide (HB5.out.trans (hb6.mono HB5.out.size))
          clear HBQ HBL HB5 bl6 hb6
          have f0 := bq.cell (i := 0) (u := .int .i64 0) rfl
          have f1 := bq.cell (i := 1) (u := .int .i64 0) rfl
          have f2 := bq.cell (i := 2) (u := .int .i64 0) rfl
          have f3 := bq.cell (i := 3) (u := .int .i64 0) rfl
          have f4 := bq.cell (i := 4) (u := .int .i64 0) rfl
          have f5 := bq.cell (i := 5) (u := .int .i64 0) rfl
          have f6 := bq.cell (i := 6) (u := .int .i64 0) rfl
          have f7 := bq.cell (i := 7) (u := .bool false) rfl
          have f8 := bq.cell (i := 8) (u := .int .u64 0) rfl
          have f9 := bq.cell (i := 9) (u := .int .u64 0) rfl
          have f10 := bq.cell (i := 10) (u := .int .u32 0) rfl
          have f11 := bq.cell (i := 11) (u := .int .i64 0) rfl
          have f12 := bq.cell (i := 12) (u := .int .u8 0) rfl
          have f13 := bq.cell (i := 13) (u := .int .u8 0) rfl
          have f14 := bq.cell (i := 14) (u := .int .u8 0) rfl
          have f15 := bq.cell (i := 15) (u := .slice A2 0 c2) rfl
          have f16 := bq.cell (i := 16) (u := .string ⟨#[]⟩) rfl
          clear bq
          go_upto_region 17 with (go_at_call 16; refine (HQ.out _ _ _).mono ?_; rintro e w7 ⟨rfl, hb7⟩)
          have bl7 := HBL6.out.below hb7 HBL6.out.lt
          have hb8 := HB6.out.trans (hb7.mono HB6.out.size)
          clear f0 f1 f2 f3 f4 f5 f6 f7 f8 f9 f10 f11 f12 f13 f14 f15 f16 HB6 hb7 HBL6
          go_wp2_with fail
          go_roundw
          case rel => exact ⟨k + 1, by omega, by go_num, bl7, hb8⟩
          case measure => first | (simp [intOf]; done) | (simp [intOf]; omega)
      subst hE
      clear her
      obtain ⟨g', hgh, hv2, rfl, hgo, rfl⟩ := hri rfl
      clear hri
      obtain ⟨g0, g1, g2, g3, g4, g5, g6, g7, g8, g9, g10, g11, g12, g13, g14⟩ := g
      dsimp only at hgo
      have hR := fun W => RH.ref_GetHead v (by omega) W
      rw [hgh] at hR
      simp only [Hd.val_mk] at hR
      obtain ⟨p1, p2, p3, p4, p5, p6, p7⟩ := PkB.getH_place v _ hgh
      dsimp only at p1 p2 p3 p4 p5 p6 p7
      have hz9 := PkB.getO_len (v.extract (sizeB g6 g7).toNat (4 * g2).toNat)
      have hye : (v.extract (sizeB g6 g7).toNat (4 * g2).toNat).size ≤ 2600 := by rw [ByteArray.size_extract]; omega
      have hO := fun W => RG.ref_GetOpts_any (v.extract (sizeB g6 g7).toNat (4 * g2).toNat) (by omega) W
      have hg := HG.out
      obtain ⟨L, hL⟩ : ∃ L, l.map PkB.ofS = L := ⟨_, rfl⟩
      have hLl : l.length = L.length := by rw [← hL, List.length_map]
      rw [hL] at hgo
      rw [hgo] at hO hz9
      simp only [hL, hLl] at hg
      have hL9 : L.length ≤ 1000000000 := by omega
      clear hz9 hye hLl hL hgo hgh HG
      generalize (PkB.getO (v.extract (sizeB g6 g7).toNat (4 * g2).toNat)).2 = X at *
      have hS := fun W => ref_Size g6 g7 W
      generalize sizeB g6 g7 = Z at *
      have HR := hide hR; have HO := hide hO; have HG := hide hg; have HS := hide hS
      clear hR hO hg hS
      go_upto_region 14 with (go_at_call 14; refine (HG.out _).mono ?_; rintro e w4 ⟨A2, c2, rfl, hcc, hcl, hb4⟩)
      have bq := Blk.new w4 #[.int .i64 g0, .int .i64 g1, .int .i64 g2, .int .i64 g3, .int .i64 g4, .int .i64 g5, .int .i64 g6, .bool g7, .int .u64 g8, .int .u64 g9, .int .u32 g10, .int .i64 g11, .int .u8 g12, .int .u8 g13, .int .u8 g14, .slice A2 L.length c2, .string (v.extract (4 * g2).toNat v.size)] 29
      have bl4 := (BL.out.below hb4 hzb).alloc (.cells #[.int .i64 g0, .int .i64 g1, .int .i64 g2, .int .i64 g3, .int .i64 g4, .int .i64 g5, .int .i64 g6, .bool g7, .int .u64 g8, .int .u64 g9, .int .u32 g10, .int .i64 g11, .int .u8 g12, .int .u8 g13, .int .u8 g14, .slice A2 L.length c2, .string (v.extract (4 * g2).toNat v.size)] 29)
      have hz4 := hb4.size
      have hb5 := (HB.out.trans (hb4.mono hzr)).alloc (Nat.le_trans hzr hz4) (.cells #[.int .i64 g0, .int .i64 g1, .int .i64 g2, .int .i64 g3, .int .i64 g4, .int .i64 g5, .int .i64 g6, .bool g7, .int .u64 g8, .int .u64 g9, .int .u32 g10, .int .i64 g11, .int .u8 g12, .int .u8 g13, .int .u8 g14, .slice A2 L.length c2, .string (v.extract (4 * g2).toNat v.size)] 29)
      have hcl5 := (hcl.below ((Below.refl w4.heap.size w4).alloc (Nat.le_refl _) (.cells #[.int .i64 g0, .int .i64 g1, .int .i64 g2, .int .i64 g3, .int .i64 g4, .int .i64 g5, .int .i64 g6, .bool g7, .int .u64 g8, .int .u64 g9, .int .u32 g10, .int .i64 g11, .int .u8 g12, .int .u8 g13, .int .u8 g14, .slice A2 L.length c2, .string (v.extract (4 * g2).toNat v.size)] 29))).more (B' := (w4.alloc (.cells #[.int .i64 g0, .int .i64 g1, .int .i64 g2, .int .i64 g3, .int .i64 g4, .int .i64 g5, .int .i64 g6, .bool g7, .int .u64 g8, .int .u64 g9, .int .u32 g10, .int .i64 g11, .int .u8 g12, .int .u8 g13, .int .u8 g14, .slice A2 L.length c2, .string (v.extract (4 * g2).toNat v.size)] 29)).heap.size) (by simp)
      generalize (w4.alloc (.cells #[.int .i64 g0, .int .i64 g1, .int .i64 g2, .int .i64 g3, .int .i64 g4, .int .i64 g5, .int .i64 g6, .bool g7, .int .u64 g8, .int .u64 g9, .int .u32 g10, .int .i64 g11, .int .u8 g12, .int .u8 g13, .int .u8 g14, .slice A2 L.length c2, .string (v.extract (4 * g2).toNat v.size)] 29)) = w5 at *
      have HBQ := hide bq; have HBL := hide bl4; have HB5 := hide hb5; have HCL5 := hide hcl5
      clear bq bl4 hb5 hb4 hcl hcl5
      go_upto_region 15 with (go_at_call 15; refine (HW.out _).mono ?_; rintro e w6 ⟨rfl, hb6⟩)
      have HBQ6 := hide (HBQ.out.below hb6 HBQ.out.lt)
      have HBL6 := hide (HBL.out.below hb6 HBL.out.lt)
      have HB6 := hide (HB5.out.trans (hb6.mono HB5.out.size))
      have HCL6 := hide ((HCL5.out.below hb6).more hb6.size)
      have hz6 : w4.heap.size < w6.heap.size := HBQ6.out.lt
      clear HBQ HBL HB5 HCL5 hb6 HW HG
      go_upto_region 18 with fail
      go_upto_region 19 with (go_at_call 17; refine (HR.out _).mono ?_; rintro e w7 ⟨rfl, hb7⟩)
      have hz7 := hb7.size
      have br := Blk.new w7 #[.int .i64 g0, .int .i64 g1, .int .i64 g2, .int .i64 g3, .int .i64 g4, .int .i64 g5, .int .i64 g6, .bool g7, .int .u64 g8, .int .u64 g9, .int .u32 g10, .int .i64 g11, .int .u8 g12, .int .u8 g13, .int .u8 g14] 26
      have HBQ7 := hide ((HBQ6.out.below hb7 hz6).alloc (.cells #[.int .i64 g0, .int .i64 g1, .int .i64 g2, .int .i64 g3, .int .i64 g4, .int .i64 g5, .int .i64 g6, .bool g7, .int .u64 g8, .int .u64 g9, .int .u32 g10, .int .i64 g11, .int .u8 g12, .int .u8 g13, .int .u8 g14] 26))
      have HBL7 := hide ((HBL6.out.below hb7 HBL6.out.lt).alloc (.cells #[.int .i64 g0, .int .i64 g1, .int .i64 g2, .int .i64 g3, .int .i64 g4, .int .i64 g5, .int .i64 g6, .bool g7, .int .u64 g8, .int .u64 g9, .int .u32 g10, .int .i64 g11, .int .u8 g12, .int .u8 g13, .int .u8 g14] 26))
      have HB7 := hide ((HB6.out.trans (hb7.mono HB6.out.size)).alloc (Nat.le_trans HB6.out.size hz7) (.cells #[.int .i64 g0, .int .i64 g1, .int .i64 g2, .int .i64 g3, .int .i64 g4, .int .i64 g5, .int .i64 g6, .bool g7, .int .u64 g8, .int .u64 g9, .int .u32 g10, .int .i64 g11, .int .u8 g12, .int .u8 g13, .int .u8 g14] 26))
      have hb8 := hb7.alloc hz7 (.cells #[.int .i64 g0, .int .i64 g1, .int .i64 g2, .int .i64 g3, .int .i64 g4, .int .i64 g5, .int .i64 g6, .bool g7, .int .u64 g8, .int .u64 g9, .int .u32 g10, .int .i64 g11, .int .u8 g12, .int .u8 g13, .int .u8 g14] 26)
      have HCL7 := hide ((HCL6.out.below hb8).more hb8.size)
      have hz8 : w7.heap.size + 1 ≤ (w7.alloc (.cells #[.int .i64 g0, .int .i64 g1, .int .i64 g2, .int .i64 g3, .int .i64 g4, .int .i64 g5, .int .i64 g6, .bool g7, .int .u64 g8, .int .u64 g9, .int .u32 g10, .int .i64 g11, .int .u8 g12, .int .u8 g13, .int .u8 g14] 26)).heap.size := by simp
      generalize (w7.alloc (.cells #[.int .i64 g0, .int .i64 g1, .int .i64 g2, .int .i64 g3, .int .i64 g4, .int .i64 g5, .int .i64 g6, .bool g7, .int .u64 g8, .int .u64 g9, .int .u32 g10, .int .i64 g11, .int .u8 g12, .int .u8 g13, .int .u8 g14] 26)) = w8 at *
      have HBR := hide br
      clear br hb7 hb8 HBQ6 HBL6 HB6 HCL6 HR
      go_cut [20, 21] (fun v20 v21 wx => ∃ (A3 : Option Addr) (c3 : Nat), v20 = .slice A3 L.length c3 ∧ v21 = .int .i64 X ∧ L.length ≤ c3 ∧ CellsAt wx wx.heap.size A3 (ocells L) ∧ Below w8.heap.size w8 wx)
      case first =>
        as_aux_lemma =>
          have f2 := HBR.out.cell (i := 2) (u := .int .i64 g2) rfl
          have f6 := HBR.out.cell (i := 6) (u := .int .i64 g6) rfl
          have f7 := HBR.out.cell (i := 7) (u := .bool g7) rfl
          have OO : Hid (∀ W : World, w8.heap.size ≤ W.heap.size → Calls Tryz.prog 18 #[.string (v.extract Z.toNat (4 * g2).toNat)] W fun e w' => ∃ (A : Option Addr) (c : Nat), e = .returned (.tuple #[.slice A L.length c, .int .i64 X]) ∧ L.length ≤ c ∧ CellsAt w' w'.heap.size A (ocells L) ∧ Below w8.heap.size W w' ∧ w8.heap.size ≤ w'.heap.size) := hide (fun W hB => (HO.out W).mono fun e w' q => by obtain ⟨A, c, q1, q3, q4, q2⟩ := q; exact ⟨A, c, q1, q3, q4, q2.mono hB, Nat.le_trans hB q2.size⟩)
          have hz0 : (0 : Int) ≤ Z := by omega
          have hw : IntKind.i64.wrap (4 * g2) = 4 * g2 := by rw [IntKind.wrap_i64]; omega
          have hoff0 : (0 : Int) ≤ 4 * g2 := by omega
          have hnz : ¬ (Z < 0) := by omega
          have hno : ¬ (4 * g2 < Z) := by omega
          have hnb : ¬ ((v.size : Int) < 4 * g2) := by omega
          have hzz : w7.heap.size < w8.heap.size := by omega
          have hzw : w8.heap.size ≤ w8.heap.size := Nat.le_refl _
          go_region_held3 (fun w' => w'.cell? ⟨w7.heap.size, 2, none⟩ = some (.int .i64 g2) ∧ w'.cell? ⟨w7.heap.size, 6, none⟩ = some (.int .i64 g6) ∧ w'.cell? ⟨w7.heap.size, 7, none⟩ = some (.bool g7))
            (first | go_keep | (go_split_ands; refine ⟨(hbA.cell hzz).trans ?_, (hbA.cell hzz).trans ?_, (hbA.cell hzz).trans ?_⟩ <;> assumption) | (refine ⟨(hbA.cell hzz).trans ?_, (hbA.cell hzz).trans ?_, (hbA.cell hzz).trans ?_⟩ <;> assumption))
            (first | (go_at_call 18; (with_reducible refine (OO.out _ ?_).mono ?_); (first | assumption | (simp; omega)); rintro e w' ⟨A3, c3, rfl, hc3, hcl3, hbA, zA⟩) | (go_at_call 19; (with_reducible refine (HS.out _).mono ?_); rintro e w' ⟨rfl, rfl⟩))
          all_goals (go_wp2_with fail; go_meet; exact ⟨A3, c3, rfl, rfl, hc3, hcl3, (Below.refl w8.heap.size w8).drew.trans hbA⟩)
      case rest =>
        obtain ⟨A3, c3, rfl, rfl, hc3, hcl3, hb9⟩ := hcut
        have bq := HBQ7.out.below hb9 HBQ7.out.lt
        have br := HBR.out.below hb9 HBR.out.lt
        have bl := HBL7.out.below hb9 HBL7.out.lt
        have hbw := HB7.out.trans (hb9.mono HB7.out.size)
        have hcl := (HCL7.out.below hb9).more hb9.size
        have OP : Hid (∀ n, Calls Tryz.prog 20 #[.slice A2 L.length c2, .slice A3 L.length c3] (wc.drewN n) fun e w' => e = .returned (.bool true) ∧ ∃ m, w' = (wc.drewN n).drewN m) := hide (fun n => (RO.law_Opts_same A2 A3 c2 c3 wc.heap.size L (wc.drewN n) hL9 (hcl.below (below_dnP (Below.refl _ _) n)) (hcl3.below (below_dnP (Below.refl _ _) n)) hcc hc3).mono fun e w' q => ⟨q.1, q.2.out⟩)
        clear HBQ7 HBR HBL7 HB7 HCL7 hb9 hcl hcl3 HO HS
        have HBLL := hide bl; have HBW := hide hbw
        clear bl hbw
        have f0 := bq.cell (i := 0) (u := .int .i64 g0) rfl
        have f1 := bq.cell (i := 1) (u := .int .i64 g1) rfl
        have f2 := bq.cell (i := 2) (u := .int .i64 g2) rfl
        have f3 := bq.cell (i := 3) (u := .int .i64 g3) rfl
        have f4 := bq.cell (i := 4) (u := .int .i64 g4) rfl
        have f5 := bq.cell (i := 5) (u := .int .i64 g5) rfl
        have f6 := bq.cell (i := 6) (u := .int .i64 g6) rfl
        have f7 := bq.cell (i := 7) (u := .bool g7) rfl
        have f8 := bq.cell (i := 8) (u := .int .u64 g8) rfl
        have f9 := bq.cell (i := 9) (u := .int .u64 g9) rfl
        have f10 := bq.cell (i := 10) (u := .int .u32 g10) rfl
        have f11 := bq.cell (i := 11) (u := .int .i64 g11) rfl
        have f12 := bq.cell (i := 12) (u := .int .u8 g12) rfl
        have f13 := bq.cell (i := 13) (u := .int .u8 g13) rfl
        have f14 := bq.cell (i := 14) (u := .int .u8 g14) rfl
        have f15 := bq.cell (i := 15) (u := .slice A2 L.length c2) rfl
        have f16 := bq.cell (i := 16) (u := .string (v.extract (4 * g2).toNat v.size)) rfl
        have r0 := br.cell (i := 0) (u := .int .i64 g0) rfl
        have r1 := br.cell (i := 1) (u := .int .i64 g1) rfl
        have r2 := br.cell (i := 2) (u := .int .i64 g2) rfl
        have r3 := br.cell (i := 3) (u := .int .i64 g3) rfl
        have r4 := br.cell (i := 4) (u := .int .i64 g4) rfl
        have r5 := br.cell (i := 5) (u := .int .i64 g5) rfl
        have r6 := br.cell (i := 6) (u := .int .i64 g6) rfl
        have r7 := br.cell (i := 7) (u := .bool g7) rfl
        have r8 := br.cell (i := 8) (u := .int .u64 g8) rfl
        have r9 := br.cell (i := 9) (u := .int .u64 g9) rfl
        have r10 := br.cell (i := 10) (u := .int .u32 g10) rfl
        have r11 := br.cell (i := 11) (u := .int .i64 g11) rfl
        have r12 := br.cell (i := 12) (u := .int .u8 g12) rfl
        have r13 := br.cell (i := 13) (u := .int .u8 g13) rfl
        have r14 := br.cell (i := 14) (u := .int .u8 g14) rfl
        have h9 : ∀ W : World, (Op.equalIn 9999 24 (.agg #[.int .u8 g12, .int .u8 g13, .int .u8 g14]) (.agg #[.int .u8 g12, .int .u8 g13, .int .u8 g14])).run Tryz.prog W = .ok true W := fun W => by rw [show (9999 : Nat) = 9997 + 2 from rfl, eq_three]; simp
        have hw : IntKind.i64.wrap (4 * g2) = 4 * g2 := by rw [IntKind.wrap_i64]; omega
        have hoff0 : (0 : Int) ≤ 4 * g2 := by omega
        have hnb : ¬ ((v.size : Int) < 4 * g2) := by omega
        clear bq br
        as_aux_lemma =>
          go_upto_region 20 with fail
          go_quiet ((go_at_call 20; exact Calls.quiet_of (OP.out _)))
          go_wp2_with fail
          go_roundw
          case rel => exact ⟨k + 1, by omega, by go_num, Blk.drewN HBLL.out _, below_dnP HBW.out _⟩
          case measure => first | (simp [intOf]; done) | (simp [intOf]; omega)
end Go.Proofs.YtjlnbahanghhcaaGreatDoor

/- PktAny, where what comes in is of bulk at most 1048576: the law returns true, and what came in reads as it did; the row and its tied card. Conditions: that bound, and the row's own cells. -/
namespace Go.Proofs.YtjlnbahanghhcaaGreatDoor.pktAnyUpto
open Go.ChangeShapes Go.WideShapes Go.ChangeAt Go.RowKit
open Go.ChangeMaps (open_string shut_string)
set_option linter.unusedVariables false
theorem own : ownKnob Tryz.prog.godebug = none := by kernel_rfl
theorem laidOut : laidOutB Tryz.prog = true := by kernel_rfl
set_option maxRecDepth 100000 in
theorem contract (H : Type) (enc : TypeId × Value → H) (W : World) (base : Nat) (args : Array Value) (ds gs : List (DataW H)) (before : List MemPlace)
    (hval0 : ∀ (j : Nat) t v, Tryz.f3.params[j]? = some t → args[j]? = some v → Value.okWide Tryz.prog W .any base t v)
    (hW : DataW.Whole enc Tryz.prog Tryz.f3.params.toList Rows.pktAnySpec.vars false W args.toList ds gs before) (hk : Rows.uptoBulkAll (ds ++ gs) ≤ 1048576)
    (hsz0 : (DataW.weightsEach Tryz.prog (Tryz.f3.params.toList ++ Rows.pktAnySpec.plain.varTypes Tryz.prog) (ds ++ gs)).all (· ≤ reachBytes) = true) :
    Calls Tryz.prog 3 args W fun e W' => ∃ v, e = .returned v ∧ Rows.pktAnySpec.post enc Tryz.prog Tryz.f3 false true false false W args v W' := by
  have hsz : (DataW.weightsEach Tryz.prog (Tryz.f3.params.toList ++ Rows.pktAnySpec.plain.varTypes Tryz.prog) (ds ++ gs)).all (· ≤ reachBytes) = true := hsz0
  have hval : ∀ (j : Nat) t v, Tryz.f3.params[j]? = some t → args[j]? = some v → Value.okWide Tryz.prog W .any base t v := hval0
  have hW' := hW
  obtain ⟨p, q, hA0, hV, rfl, hfz, hnd⟩ := hW
  have hA : DataW.TrodAll enc Tryz.prog W 0 (fun _ => true) true Tryz.f3.params.toList args.toList ds p := hA0
  rw [Tryz.params3] at hA hval hsz
  obtain ⟨v0, vs0, d0, ds0, p0, q0, hargs, rfl, rfl, h0, r0⟩ := trodAll_cons hA
  obtain ⟨v1, vs1, d1, ds1, p1, q1, rfl, rfl, rfl, h1, r1⟩ := trodAll_cons r0
  obtain ⟨v2, vs2, d2, ds2, p2, q2, rfl, rfl, rfl, h2, r2⟩ := trodAll_cons r1
  obtain ⟨v3, vs3, d3, ds3, p3, q3, rfl, rfl, rfl, h3, r3⟩ := trodAll_cons r2
  obtain ⟨rfl, rfl, rfl⟩ := trodAll_nil r3
  obtain rfl : args = #[v0, v1, v2, v3] := by cases args; simp_all
  obtain ⟨rfl, rfl⟩ := trodVars_none hV
  obtain ⟨a0, rfl, rfl, rfl, y0⟩ := open_string Tryz.underlying9 (hval 0 9 v0 rfl rfl) h0
  have w0 : a0.size ≤ 140737488351232 := by
    have z := sized_string hsz (j := 0) (t := 9) rfl rfl
    rw [Array.length_toList] at z
    exact z
  obtain ⟨cs1, rfl, hsz1⟩ := okWide_struct Tryz.underlying29 (hval 1 29 v1 rfl rfl)
  have k1 := h1
  have lt1 : ∀ x ∈ p1, x.block < W.heap.size := by obtain ⟨m, hm⟩ := k1; exact DataW.trod_lt m _ _ _ hm
  obtain ⟨fuel1, hf1⟩ := h1
  have hf1 : DataW.trod enc Tryz.prog W 0 (fun _ => true) true fuel1 29 cs1.toList = some _ := hf1
  obtain ⟨hc1, vv1, d1s, y10, y11, nn1, hcs1, t10, t11, bk11, bk12⟩ := open_pkt Tryz.underlying29 (by kernel_rfl) rfl (by kernel_rfl) rfl (by kernel_rfl) rfl (by kernel_rfl) Tryz.underlying9 hf1
  obtain ⟨a1_0, a1_1, a1_2, a1_3, a1_4, a1_5, a1_6, a1_7, a1_8, a1_9, a1_10, a1_11, a1_12, a1_13, a1_14, hch1, wa1_0, wa1_1, wa1_2, wa1_3, wa1_4, wa1_5, wa1_6, wa1_8, wa1_9, wa1_10, wa1_11, wa1_12, wa1_13, wa1_14⟩ := open_head (e := 5) Tryz.underlying26 (by kernel_rfl) rfl (by kernel_rfl) rfl (by kernel_rfl) rfl (by kernel_rfl) rfl (by kernel_rfl) rfl (by kernel_rfl) rfl (by kernel_rfl) rfl (by kernel_rfl) rfl (by kernel_rfl) rfl (by kernel_rfl) rfl (by kernel_rfl) rfl (by kernel_rfl) rfl (by kernel_rfl) rfl (by kernel_rfl) (by kernel_rfl) (by kernel_rfl) (by kernel_rfl) (by kernel_rfl) (by kernel_rfl) (by kernel_rfl) (by kernel_rfl) (by kernel_rfl) (by kernel_rfl) (by kernel_rfl) (by kernel_rfl) (by kernel_rfl) (by kernel_rfl) (by kernel_rfl) (by kernel_rfl) t10
  obtain ⟨A1, cap1, os1, hv1, hcap1, hno1, hso1, hwf1, hcell1⟩ := open_optsB Tryz.underlying27 Tryz.underlying50 (by kernel_rfl) rfl rfl (by kernel_rfl) (by kernel_rfl) Tryz.underlying3 Tryz.underlying9 t11
  obtain rfl : vv1 = .slice A1 os1.length cap1 := (List.cons.inj hv1).1
  obtain rfl : cs1 = #[.int .i64 a1_0, .int .i64 a1_1, .int .i64 a1_2, .int .i64 a1_3, .int .i64 a1_4, .int .i64 a1_5, .int .i64 a1_6, .bool a1_7, .int .u64 a1_8, .int .u64 a1_9, .int .u32 a1_10, .int .i64 a1_11, .int .u8 a1_12, .int .u8 a1_13, .int .u8 a1_14, .slice A1 os1.length cap1, .string d1s] := by rw [← Array.toArray_toList (xs := cs1), hcs1, hch1]; rfl
  have oka1 : okH ⟨a1_0, a1_1, a1_2, a1_3, a1_4, a1_5, a1_6, a1_7, a1_8, a1_9, a1_10, a1_11, a1_12, a1_13, a1_14⟩ = true := by
    have q8 := wfu64 wa1_8; have q9 := wfu64 wa1_9; have q10 := wfu32 wa1_10; have q12 := wfu8 wa1_12; have q13 := wfu8 wa1_13; have q14 := wfu8 wa1_14
    unfold okH; exact decide_eq_true (by dsimp only; omega)
  have bulk1 : Rows.uptoBulk d1 ≤ 1048576 := by simp only [Rows.uptoBulkAll, List.cons_append, List.nil_append] at hk; omega
  have hat1 : CellsAt W W.heap.size A1 (ocells os1) := fun k u hu => by
    obtain ⟨ad, e, hc⟩ := hcell1 k u hu
    exact ⟨ad, e, by have := block_lt_of_cell hc; rwa [add_block] at this, hc⟩
  obtain ⟨a2, rfl, rfl, rfl, w2⟩ := open_int Tryz.underlying3 (hval 2 3 v2 rfl rfl) h2
  obtain ⟨a3, rfl, rfl, rfl, w3⟩ := open_int Tryz.underlying5 (hval 3 5 v3 rfl rfl) h3
  clear hA0 hval0 hsz0 hsz
  refine (PktAny_walk begun_true a0 w0 ⟨a1_0, a1_1, a1_2, a1_3, a1_4, a1_5, a1_6, a1_7, a1_8, a1_9, a1_10, a1_11, a1_12, a1_13, a1_14⟩ oka1 A1 cap1 os1 d1s W hat1 (Nat.le_trans hno1 (Nat.le_trans bk11 bulk1)) (fun o ho => Nat.le_trans (hso1 o ho) (Nat.le_trans bk11 bulk1)) (Nat.le_trans bk12 bulk1) a2 (wfi64 w2).1 (by have := (wfi64 w2).2; omega) a3 (by have := wfu8 w3; omega) (by have := wfu8 w3; omega)).mono fun e W' ⟨he, bel⟩ => ?_
  subst he
  exact ⟨_, rfl, _, _, _, [], _, [], hW', trodAll_mk1 (shut_bool Tryz.underlying4 _), (trodAll_cons_mk (shut_string Tryz.underlying9 y0) (trodAll_cons_mk (Below.trod laidOut (by kernel_rfl) (of_decide_eq_true (by kernel_rfl)) k1 bel lt1) (trodAll_cons_mk (shut_int Tryz.underlying3 w2) (trodAll_cons_mk (shut_int Tryz.underlying5 w3) trodAll_mk0)))), rfl, bel.frame _, fun h => by cases h⟩
theorem laid_met (os : Os) : laidMet Tryz.prog theLaid ((laidWorld os).forCall (fun _ _ => 0) ⟨#[], #[.string ByteArray.empty, .agg #[.int .i64 0, .int .i64 0, .int .i64 0, .int .i64 0, .int .i64 0, .int .i64 0, .int .i64 0, .bool false, .int .u64 0, .int .u64 0, .int .u32 0, .int .i64 0, .int .u8 0, .int .u8 0, .int .u8 0, .slice none 0 0, .string ByteArray.empty], .int .i64 0, .int .u8 0], []⟩).memory := laidMet_of_run' 8 (by kernel_rfl) (by kernel_rfl)
theorem reads (os : Os) {H : Type} (enc : TypeId × Value → H) : ∃ places, DataW.whole enc Tryz.prog ((laidWorld os).forCall (fun _ _ => 0) ⟨#[], #[.string ByteArray.empty, .agg #[.int .i64 0, .int .i64 0, .int .i64 0, .int .i64 0, .int .i64 0, .int .i64 0, .int .i64 0, .bool false, .int .u64 0, .int .u64 0, .int .u32 0, .int .i64 0, .int .u8 0, .int .u8 0, .int .u8 0, .slice none 0 0, .string ByteArray.empty], .int .i64 0, .int .u8 0], []⟩).memory Tryz.f3.params.toList Rows.pktAnySpec.vars false (#[.string ByteArray.empty, .agg #[.int .i64 0, .int .i64 0, .int .i64 0, .int .i64 0, .int .i64 0, .int .i64 0, .int .i64 0, .bool false, .int .u64 0, .int .u64 0, .int .u32 0, .int .i64 0, .int .u8 0, .int .u8 0, .int .u8 0, .slice none 0 0, .string ByteArray.empty], .int .i64 0, .int .u8 0] : Array Value).toList 8 = some ([.lit (.string []), .agg [.agg [.lit (.int .i64 0), .lit (.int .i64 0), .lit (.int .i64 0), .lit (.int .i64 0), .lit (.int .i64 0), .lit (.int .i64 0), .lit (.int .i64 0), .lit (.bool false), .lit (.int .u64 0), .lit (.int .u64 0), .lit (.int .u32 0), .lit (.int .i64 0), .agg [.lit (.int .u8 0), .lit (.int .u8 0), .lit (.int .u8 0)]], .nil, .lit (.string [])], .lit (.int .i64 0), .lit (.int .u8 0)], [], places) :=
  ⟨[], by kernel_rfl⟩
set_option maxRecDepth 100000 in
theorem lifted (os : Os) (started : os.Started) (H : Type) (enc : TypeId × Value → H) (F : Stop.Interp) :
    ReturnsInHanded {} Tryz.checked os 3 .any ((Rows.OpenSpec.upto Rows.pktAnySpec).preRow enc Tryz.prog Tryz.f3 Rows.pktAnyUptoRow.domain false Rows.pktAnyUptoRow.laid) (((Rows.OpenSpec.upto Rows.pktAnySpec).at F).post enc Tryz.prog Tryz.f3 false true false false) := by
  obtain ⟨places, hx⟩ := reads os enc
  refine returnsInHanded_of_row (C := Tryz.checked) (s := Rows.OpenSpec.upto Rows.pktAnySpec) own started (by kernel_rfl) Tryz.func3
    (witness_row_at (enc := enc) (C := Tryz.checked) false (laidWorld os) #[.string ByteArray.empty, .agg #[.int .i64 0, .int .i64 0, .int .i64 0, .int .i64 0, .int .i64 0, .int .i64 0, .int .i64 0, .bool false, .int .u64 0, .int .u64 0, .int .u32 0, .int .i64 0, .int .u8 0, .int .u8 0, .int .u8 0, .slice none 0 0, .string ByteArray.empty], .int .i64 0, .int .u8 0] rfl (by kernel_rfl) (by kernel_rfl) (by kernel_rfl)
      (OpenSpec.preRow_of_cond 8 hx (by kernel_rfl) (fun k hk => by cases hk; kernel_rfl) (by kernel_rfl) (laid_met os))) ?_
  intro W base args ds gs before hval hW _ hcond hsz hL _ _
  exact contract H enc W base args ds gs before hval hW (of_decide_eq_true (hcond _ rfl)) hsz
theorem proved : Rows.PktAnyUptoSaid :=
  OpenClaim.holds_of_cond 3 Tryz.f3 rfl rfl rfl rfl rfl rfl rfl ⟨rfl, rfl, rfl, rfl, rfl⟩ rfl rfl rfl rfl rfl (by kernel_rfl) Tryz.func3 (by kernel_rfl)
    (of_decide_eq_true (by kernel_rfl)) (by unfold Func.isWrapper; first | (rw [if_pos (by decide +kernel)]; kernel_rfl) | (rw [if_neg (by decide +kernel)]; exact ⟨rfl, rfl⟩))
    (fun os started H enc _ F => by rw [OpenClaim.pre_eq_preRow]; exact lifted os started H enc F)
end Go.Proofs.YtjlnbahanghhcaaGreatDoor.pktAnyUpto
namespace Go.Proofs.YtjlnbahanghhcaaGreatDoor
/-- The second form's tied card. -/
theorem pktAnyUpto_card : Rows.PktAnyUptoCardSaid :=
  Claim7.holds_tied_plain_at .later [] [.data, .data, .data, .data, .sentinel, .sentinel, .pinned] true (true, "c61f58d00015e028108068e52a3a82f94dd8d24d449566641fca9c5d49e2af6b") true
    pktAnyUpto.proved (fun _ h => by cases h) (by kernel_rfl) (fun _ h => by cases h) pktAnyUpto_row_tie rfl ⟨rfl, rfl⟩ (by kernel_rfl) rfl
    (fun f fn hf hfn => by
      obtain rfl : f = 3 := Option.some.inj ((show Tryz.prog.funcNamed "muleteer/muleteerlaw1.PktAny" = some 3 by kernel_rfl).symm.trans hf) |>.symm
      obtain rfl : fn = Tryz.f3 := (Option.some.inj (Tryz.func3.symm.trans hfn)).symm
      exact ⟨by kernel_rfl, fun j t ht => by
        rw [Tryz.params3] at ht
        rcases j with _ | _ | _ | _ | j
        · simp at ht; subst ht; kernel_rfl
        · simp at ht; subst ht; kernel_rfl
        · simp at ht; subst ht; kernel_rfl
        · simp at ht; subst ht; kernel_rfl
        · simp at ht
      ⟩)
    (by kernel_rfl)
#print axioms pktAnyUpto_card
end Go.Proofs.YtjlnbahanghhcaaGreatDoor
