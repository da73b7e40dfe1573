/- PktBit: the walk (printed by wip/gen/mk_pktbit.py). -/
import Derived.Test.YtdhnfmhbdblkjaaGreatDoorBitP
import Derived.Test.YtdhnfmhbdblkjaaGreatDoorRaw
import Derived.Test.YtdhnfmhbdblkjaaGreatDoorLawMay
import Derived.StillTailTactics
import Derived.Deep.DeepCutAuto
import Derived.Deep.CutBlock
import Derived.Laws.BitsLemmas
import Derived.IntWalk
namespace Go.Proofs.YtdhnfmhbdblkjaaGreatDoor
open Go.RowKit
set_option linter.unusedVariables false
set_option linter.unusedSimpArgs false
set_option maxHeartbeats 8000000 in
set_option maxRecDepth 100000 in
theorem PktBit_walk (HB0 : ∀ W : World, Calls Tryz.prog 12 #[] W fun e w' => e = .returned (.bool true) ∧ Below W.heap.size W w')
    (h : Hd) (hk : okH h = true) (A : Option Addr) (cap : Nat) (os : List Op) (data : ByteArray) (w : World) (hA : CellsAt w w.heap.size A (ocells os)) (hn : os.length ≤ 1048576) (hs : ∀ o, o ∈ os → o.data.size ≤ 1048576) (hd : data.size ≤ 1048576)
    (n : Int) (hn0 : -9223372036854775808 ≤ n) (hn1 : n ≤ 9223372036854775807) :
    Calls Tryz.prog 9 #[.agg #[.int .i64 h.src, .int .i64 h.dst, .int .i64 h.off, .int .i64 h.cc, .int .i64 h.cs, .int .i64 h.sum, .int .i64 h.typ, .bool h.x, .int .u64 h.seq, .int .u64 h.ack, .int .u32 h.serv, .int .i64 h.code, .int .u8 h.i0, .int .u8 h.i1, .int .u8 h.i2, .slice A os.length cap, .string data], .int .i64 n] w fun e w' => e = .returned (.bool true) ∧ Below w.heap.size w w' := by
  have hk0 : okH { h with cs := 0 } = true := by unfold okH at hk ⊢; exact decide_eq_true (of_decide_eq_true hk)
  have hlen : (obs os).length ≤ 140737488355000 := by
    have h1 := obs_le 1048576 os hs
    have h2 : os.length * (1048576 + 2) ≤ 1048576 * (1048576 + 2) := Nat.mul_le_mul_right _ hn
    omega
  have hsay := put_says { h with cs := 0 } hk0 os data rfl
  have hp := fun (W : World) (hb : Below w.heap.size w W) => pkt_Put_any { h with cs := 0 } hk0 A cap w.heap.size os data W (hA.below hb) hb.size hlen (by omega) (by omega)
  have hm := fun (W : World) (hb : Below w.heap.size w W) => law_May { h with cs := 0 } A cap w.heap.size os data W (hA.below hb) hb.size hn hs hd
  obtain ⟨src, dst, off, cc, cs, sum, typ, x, seq, ack, serv, code, i0, i1, i2⟩ := h
  dsimp only at *
  have he2 : errP ⟨src, dst, off, cc, 0, sum, typ, x, seq, ack, serv, code, i0, i1, i2⟩ os data ≠ 0 → (putP ⟨src, dst, off, cc, 0, sum, typ, x, seq, ack, serv, code, i0, i1, i2⟩ os data).2 = errP ⟨src, dst, off, cc, 0, sum, typ, x, seq, ack, serv, code, i0, i1, i2⟩ os data := fun h0 => by unfold putP; rw [if_neg h0]
  generalize errP ⟨src, dst, off, cc, 0, sum, typ, x, seq, ack, serv, code, i0, i1, i2⟩ os data = E at *
  generalize putP ⟨src, dst, off, cc, 0, sum, typ, x, seq, ack, serv, code, i0, i1, i2⟩ os data = p at *
  obtain ⟨b, f⟩ := p
  dsimp only at *
  have HB := hide HB0; have HP := hide hp; have HM := hide hm; have HSAY := hide hsay; have HE2 := hide he2
  clear HB0 hp hm hsay he2 hA hs hk hk0 hlen
  go_enter Tryz.func9, Tryz.ntmps9
  go_wp2_with fail
  refine (HB.out _).mono ?_
  rintro e w1 ⟨rfl, hb1⟩
  have b1 := (Blk.new w #[.int .i64 src, .int .i64 dst, .int .i64 off, .int .i64 cc, .int .i64 cs, .int .i64 sum, .int .i64 typ, .bool x, .int .u64 seq, .int .u64 ack, .int .u32 serv, .int .i64 code, .int .u8 i0, .int .u8 i1, .int .u8 i2, .slice A os.length cap, .string data] 41).below hb1 (by simp)
  have hbw : Below w.heap.size w w1 := ((Below.refl _ _).alloc (Nat.le_refl _) _).trans (hb1.mono (by simp))
  have hz1 : w.heap.size + 1 ≤ w1.heap.size := by have := hb1.size; simpa using this
  have r4 := b1.frozen 4
  have t4 := b1.cell (i := 4) (u := .int .i64 cs) rfl
  have BB1 := hide b1; have HBW := hide hbw
  clear b1 hb1 hbw
  go_upto_region 5 with fail
  have b2 := BB1.out.set 4 (.int .i64 0) (cs' := #[.int .i64 src, .int .i64 dst, .int .i64 off, .int .i64 cc, .int .i64 0, .int .i64 sum, .int .i64 typ, .bool x, .int .u64 seq, .int .u64 ack, .int .u32 serv, .int .i64 code, .int .u8 i0, .int .u8 i1, .int .u8 i2, .slice A os.length cap, .string data]) rfl
  have hbw2 := HBW.out.setCell (p := ⟨w.heap.size, 4, none⟩) (Nat.le_refl _) (.int .i64 0)
  have hz2 : w.heap.size + 1 ≤ (w1.setCell ⟨w.heap.size, 4, none⟩ (.int .i64 0)).heap.size := by simp; omega
  generalize (w1.setCell ⟨w.heap.size, 4, none⟩ (.int .i64 0)) = w2 at *
  have m0 := b2.cell (i := 0) (u := .int .i64 src) rfl
  have m1 := b2.cell (i := 1) (u := .int .i64 dst) rfl
  have m2 := b2.cell (i := 2) (u := .int .i64 off) rfl
  have m3 := b2.cell (i := 3) (u := .int .i64 cc) rfl
  have m4 := b2.cell (i := 4) (u := .int .i64 0) rfl
  have m5 := b2.cell (i := 5) (u := .int .i64 sum) rfl
  have m6 := b2.cell (i := 6) (u := .int .i64 typ) rfl
  have m7 := b2.cell (i := 7) (u := .bool x) rfl
  have m8 := b2.cell (i := 8) (u := .int .u64 seq) rfl
  have m9 := b2.cell (i := 9) (u := .int .u64 ack) rfl
  have m10 := b2.cell (i := 10) (u := .int .u32 serv) rfl
  have m11 := b2.cell (i := 11) (u := .int .i64 code) rfl
  have m12 := b2.cell (i := 12) (u := .int .u8 i0) rfl
  have m13 := b2.cell (i := 13) (u := .int .u8 i1) rfl
  have m14 := b2.cell (i := 14) (u := .int .u8 i2) rfl
  have m15 := b2.cell (i := 15) (u := .slice A os.length cap) rfl
  have m16 := b2.cell (i := 16) (u := .string data) rfl
  have BB2 := hide b2; have HBW2 := hide hbw2
  clear b2 hbw2 r4 t4 BB1 HBW hz1
  go_wp2_with fail
  refine (HP.out _ HBW2.out).mono ?_
  rintro e w3 ⟨rfl, hb3⟩
  have BB3 := hide (BB2.out.below hb3 (by omega))
  have hb3w := HBW2.out.trans (hb3.mono HBW2.out.size)
  have HBW3 := hide hb3w
  clear hb3 hb3w BB2 m0 m1 m2 m3 m4 m5 m6 m7 m8 m9 m10 m11 m12 m13 m14 m15 m16
  by_cases hE : E = 0
  · obtain ⟨q1, q2, q3, q4, rfl⟩ := HSAY.out hE
    have HQ := hide (And.intro q3 q4)
    clear HSAY HE2 HM HP q3 q4 hE BB3
    have q1' : (b.size : Int) ≤ 2500 := by omega
    have q2' : (12 : Int) ≤ (b.size : Int) := by omega
    go_upto_region 9 with fail
    obtain ⟨m, hm, em⟩ : ∃ m : Nat, m < 8 * b.size ∧ (wrap64 (n.tmod (8 * (b.size : Int)) + 8 * (b.size : Int))).tmod (8 * (b.size : Int)) = (m : Int) := by
      obtain ⟨h1, h2⟩ := tmod_pos n (8 * (b.size : Int)) (by omega) (by omega)
      exact ⟨_, by omega, (Int.toNat_of_nonneg h1).symm⟩
    rw [em]
    clear em
    obtain ⟨k, hk, ek⟩ : ∃ k : Nat, k = m / 8 ∧ IntKind.i64.wrap ((m : Int) / 8) = (k : Int) := ⟨m / 8, rfl, by rw [IntWalk.i64_in _ (by omega)]; omega⟩
    obtain ⟨r, hr, er⟩ : ∃ r : Nat, r = m % 8 ∧ (m : Int).tmod 8 = (r : Int) := ⟨m % 8, rfl, by rw [Int.tmod_eq_emod_of_nonneg (by omega)]; omega⟩
    have hkb : k < b.size := by omega
    have hr8 : r < 8 := by omega
    have ek2 : (m : Int) / 8 = (k : Int) := by omega
    have er2 : (m : Int) % 8 = (r : Int) := by omega
    have ek3 : IntKind.i64.wrap (k : Int) = (k : Int) := IntWalk.i64_in _ (by omega)
    have HK := hide hk; have HR := hide hr
    clear hk hr
    by_cases h5 : k = 5 ∧ r < 4
    · obtain ⟨rfl, r4⟩ := h5
      have r4i : (r : Int) < 4 := by omega
      as_aux_lemma =>
        go_wp2
        all_goals go_ret
        all_goals exact ⟨rfl, HBW3.out⟩
    · have c5 : ((k : Int) == 5) = false ∨ (((k : Int) == 5) = true ∧ 4 ≤ (r : Int)) := by
        by_cases hk5 : k = 5
        · exact .inr ⟨beq_iff_eq.2 (by omega), by omega⟩
        · exact .inl (beq_eq_false_iff_ne.2 (by omega))
      have HG := hide (fun W => get_bit b (by omega) HQ.out.1 HQ.out.2 k r hkb hr8 h5 W)
      have H5 := hide h5
      clear h5 HQ
      have hl : (b.data.toList.map fun c => (c.toNat : Int)).length = b.size := by rw [List.length_map, size_bytes]
      have tail : ∀ (go : True), True := fun _ => trivial
      rcases c5 with c5 | ⟨c5, c6⟩
      all_goals
        as_aux_lemma =>
          go_upto_region 11 with fail
          go_upto_region 12 with (refine wpList_bytes_of rfl (.tmp 48) rfl b rfl ?_; intro cap2 w4 hraw hb4 hsz4)
          have hkL : k < (b.data.toList.map fun c => (c.toNat : Int)).length := by rw [hl]; exact hkb
          have hc := hraw.cell k hkL
          have hf := hraw.frozen k hkL
          have hv0 : (b.data.toList.map fun c => (c.toNat : Int))[k]'hkL = (b.data.toList.map fun c => (c.toNat : Int)).getD k 0 := by rw [List.getD_eq_getElem?_getD, List.getElem?_eq_getElem hkL]; rfl
          rw [hv0] at hc
          have htu : turned b k r = (b.data.toList.map fun c => (c.toNat : Int)).set k (bits BinOp.xor IntKind.u8 ((b.data.toList.map fun c => (c.toNat : Int)).getD k 0) (IntKind.u8.wrap (2 ^ r))) := rfl
          clear hv0
          generalize (b.data.toList.map fun c => (c.toNat : Int)).getD k 0 = x0 at hc htu
          generalize (b.data.toList.map fun c => (c.toNat : Int)) = L at hraw hl hkL htu
          have hkt : (k : Int) < (b.size : Int) := by omega
          have hr0 : (0 : Int) ≤ (r : Int) := by omega
          obtain ⟨q, hq⟩ : ∃ q : Int, IntKind.u8.wrap (2 ^ r) = q := ⟨_, rfl⟩
          obtain ⟨v, hv⟩ : ∃ v : Int, bits BinOp.xor IntKind.u8 x0 q = v := ⟨_, rfl⟩
          rw [hq, hv] at htu
          have HTU := hide htu
          clear htu
          go_still_tail 10, (by kernel_rfl)
          change wpList _ _ _ _ _ w4.drew
          go_upto_region 13 with fail
          have hraw2 := (hraw.setCell k hkL v).drew
          have hbw5 := ((HBW3.out.trans (hb4.mono HBW3.out.size)).setCell (p := ⟨w3.heap.size, k, none⟩) (by show w.heap.size ≤ w3.heap.size; exact HBW3.out.size) (.int .u8 v)).drew
          generalize (w4.setCell ⟨w3.heap.size, k, none⟩ (.int .u8 v)).drew = w5 at *
          rw [← HTU.out] at hraw2
          have HRW := hide hraw2; have HB5 := hide hbw5
          have hll : b.size = (turned b k r).length := by rw [HTU.out, List.length_set]; exact hl.symm
          have HLL := hide hll
          clear hraw hb4 hsz4 hc hf hraw2 hbw5 hll hl hkL HTU hq hv
          go_wp2_with (refine wpList_bytes_back rfl (.tmp 61) rfl w3.heap.size cap2 b.size (turned b k r) HLL.out rfl HRW.out ?_)
          refine (HG.out _).mono ?_
          rintro e w6 ⟨E6, rfl, hE6, hb6⟩
          have e6 : (E6 != 0) = true := bne_iff_ne.2 hE6
          have HB6 := hide (HB5.out.trans (hb6.mono HB5.out.size))
          clear hb6 hE6
          go_wp2
          go_ret
          exact ⟨rfl, HB6.out.alloc HB6.out.size _⟩
  · have hE1 : (E != 0) = true := bne_iff_ne.2 hE
    obtain rfl := HE2.out hE
    have hEE : (f == f) = true := beq_self_eq_true _
    have b3 := BB3.out
    have m0 := b3.cell (i := 0) (u := .int .i64 src) rfl
    have m1 := b3.cell (i := 1) (u := .int .i64 dst) rfl
    have m2 := b3.cell (i := 2) (u := .int .i64 off) rfl
    have m3 := b3.cell (i := 3) (u := .int .i64 cc) rfl
    have m4 := b3.cell (i := 4) (u := .int .i64 0) rfl
    have m5 := b3.cell (i := 5) (u := .int .i64 sum) rfl
    have m6 := b3.cell (i := 6) (u := .int .i64 typ) rfl
    have m7 := b3.cell (i := 7) (u := .bool x) rfl
    have m8 := b3.cell (i := 8) (u := .int .u64 seq) rfl
    have m9 := b3.cell (i := 9) (u := .int .u64 ack) rfl
    have m10 := b3.cell (i := 10) (u := .int .u32 serv) rfl
    have m11 := b3.cell (i := 11) (u := .int .i64 code) rfl
    have m12 := b3.cell (i := 12) (u := .int .u8 i0) rfl
    have m13 := b3.cell (i := 13) (u := .int .u8 i1) rfl
    have m14 := b3.cell (i := 14) (u := .int .u8 i2) rfl
    have m15 := b3.cell (i := 15) (u := .slice A os.length cap) rfl
    have m16 := b3.cell (i := 16) (u := .string data) rfl
    clear hE b3 BB3 HSAY HE2 HP
    as_aux_lemma =>
      go_wp2_with fail
      refine (HM.out _ HBW3.out).mono ?_
      rintro e w4 ⟨rfl, hb4⟩
      have HB4 := hide (HBW3.out.trans (hb4.mono HBW3.out.size))
      clear hb4 hEE
      go_wp2
      go_ret
      exact ⟨ret_bool (by simp), HB4.out⟩
end Go.Proofs.YtdhnfmhbdblkjaaGreatDoor
