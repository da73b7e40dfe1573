/- PktCover: the walk (printed by wip/gen/mk_pktcover.py). -/
import Derived.Test.YthallmapddihgaaGreatDoorPureCover
import Derived.Test.YthallmapddihgaaGreatDoorGetPAny
import Derived.Test.YthallmapddihgaaGreatDoorRaw
import Derived.Test.YthallmapddihgaaGreatDoorLawMay
import Derived.StillTailTactics
import Derived.Deep.DeepCutAuto
import Derived.Deep.CutBlock
import Derived.Laws.BitsLemmas
import Derived.IntWalk
namespace Go.Proofs.YthallmapddihgaaGreatDoor
open Go.RowKit
set_option linter.unusedVariables false
set_option linter.unusedSimpArgs false
theorem xor_nat (a b : Nat) (ha : a < 256) (hb : b < 256) : bits .xor .u8 a b = ((a ^^^ b : Nat) : Int) := by
  have ha' : a % 2 ^ IntKind.u8.bits = a := Nat.mod_eq_of_lt ha
  have hb' : b % 2 ^ IntKind.u8.bits = b := Nat.mod_eq_of_lt hb
  have hlt : a ^^^ b < 2 ^ 8 := Nat.xor_lt_two_pow (n := 8) ha hb
  simp only [bits, BitVec.ofInt_natCast, BitVec.toNat_xor, BitVec.toNat_ofNat, ha', hb']
  exact wraps_u8 _ (Int.natCast_nonneg _) (by omega)
theorem xor_any (a : UInt8) (x : Int) (h0 : 0 ≤ x) (h1 : x ≤ 255) (hx : x ≠ 0) : ∃ v : UInt8, bits BinOp.xor IntKind.u8 ((a.toNat : Nat) : Int) x = ((v.toNat : Nat) : Int) ∧ v.toNat ≠ a.toNat := by
  obtain ⟨y, rfl⟩ := Int.eq_ofNat_of_zero_le h0
  have ha : a.toNat < 256 := a.toNat_lt
  have e := xor_nat a.toNat y ha (by omega)
  have hlt : a.toNat ^^^ y < 256 := Nat.xor_lt_two_pow (n := 8) ha (by omega)
  refine ⟨UInt8.ofNat (a.toNat ^^^ y), ?_, ?_⟩
  · rw [UInt8.toNat_ofNat_of_lt' hlt]; exact e
  · rw [UInt8.toNat_ofNat_of_lt' hlt]
    intro h
    have h2 : a.toNat ^^^ (a.toNat ^^^ y) = a.toNat ^^^ a.toNat := by rw [h]
    rw [← Nat.xor_assoc, Nat.xor_self, Nat.zero_xor] at h2
    omega
theorem set_text (b : ByteArray) (k : Nat) (v : UInt8) : strOfNums ((b.data.toList.map fun c => (c.toNat : Int)).set k ((v.toNat : Nat) : Int)) = PkB.setB b k v := by
  refine ByteArray.ext (Array.toList_inj.1 ?_)
  rw [PkB.setB_list, strOfNums_data, List.map_set, List.map_map]
  congr 1
  · rw [List.map_congr_left (g := id) (fun x _ => by simp), List.map_id]
  · simp
set_option maxHeartbeats 8000000 in
set_option maxRecDepth 100000 in
theorem PktCover_walk (HB0 : ∀ W : World, Calls Tryz.prog 14 #[] W fun e w' => e = .returned (.bool true) ∧ Below W.heap.size W w')
    (h : Hd) (hk : okH h = true) (A : Option Addr) (cap : Nat) (os : List Op) (data : ByteArray) (w : World) (hA : CellsAt w w.heap.size A (ocells os)) (hn : os.length ≤ 1048576) (hs : ∀ o, o ∈ os → o.data.size ≤ 1048576) (hd : data.size ≤ 1048576)
    (cover : Int) (v0 : -9223372036854775808 ≤ cover) (v1 : cover ≤ 9223372036854775807) (n : Int) (hn0 : -9223372036854775808 ≤ n) (hn1 : n ≤ 9223372036854775807) (xb : Int) (x0 : 0 ≤ xb) (x1 : xb ≤ 255) :
    Calls Tryz.prog 8 #[.agg #[.int .i64 h.src, .int .i64 h.dst, .int .i64 h.off, .int .i64 h.cc, .int .i64 h.cs, .int .i64 h.sum, .int .i64 h.typ, .bool h.x, .int .u64 h.seq, .int .u64 h.ack, .int .u32 h.serv, .int .i64 h.code, .int .u8 h.i0, .int .u8 h.i1, .int .u8 h.i2, .slice A os.length cap, .string data], .int .i64 cover, .int .i64 n, .int .u8 xb] w fun e w' => e = .returned (.bool true) ∧ Below w.heap.size w w' := by
  obtain ⟨m, hm8, em⟩ : ∃ m : Nat, m < 8 ∧ (wrap64 (cover.tmod 8 + 8)).tmod 8 = (m : Int) := by
    obtain ⟨h1, h2⟩ := tmod_pos cover 8 (by omega) (by omega)
    exact ⟨_, by omega, (Int.toNat_of_nonneg h1).symm⟩
  obtain ⟨cz, hcz⟩ : ∃ z : Int, 1 + (m : Int) = z := ⟨_, rfl⟩
  have ecz : wrap64 (1 + (m : Int)) = cz := by rw [wrap64_eq]; omega
  have cz1 : 1 ≤ cz := by omega
  have cz8 : cz ≤ 8 := by omega
  have EM := hide em; have ECZ := hide ecz
  clear em ecz hcz
  have hk0 : okH { h with cs := cz } = true := by unfold okH at hk ⊢; exact decide_eq_true (of_decide_eq_true hk)
  have hlen : (obs os).length ≤ 140737488355000 := by
    have h1 := obs_le 1048576 os hs
    have h2 : os.length * (1048576 + 2) ≤ 1048576 * (1048576 + 2) := Nat.mul_le_mul_right _ hn
    omega
  have hsay := PkB.put_back_getP { h with cs := cz } hk0 os data
  have hp := fun (W : World) (hb : Below w.heap.size w W) => pkt_Put_any { h with cs := cz } hk0 A cap w.heap.size os data W (hA.below hb) hb.size hlen (by omega) (by omega)
  have hm := fun (W : World) (hb : Below w.heap.size w W) => law_May { h with cs := cz } A cap w.heap.size os data W (hA.below hb) hb.size hn hs hd
  obtain ⟨src, dst, off, cc, cs, sum, typ, x, seq, ack, serv, code, i0, i1, i2⟩ := h
  dsimp only at *
  have he2 : errP ⟨src, dst, off, cc, cz, sum, typ, x, seq, ack, serv, code, i0, i1, i2⟩ os data ≠ 0 → (putP ⟨src, dst, off, cc, cz, sum, typ, x, seq, ack, serv, code, i0, i1, i2⟩ os data).2 = errP ⟨src, dst, off, cc, cz, sum, typ, x, seq, ack, serv, code, i0, i1, i2⟩ os data := fun h0 => by unfold putP; rw [if_neg h0]
  generalize errP ⟨src, dst, off, cc, cz, sum, typ, x, seq, ack, serv, code, i0, i1, i2⟩ os data = E at *
  generalize nOf ⟨src, dst, off, cc, cz, sum, typ, x, seq, ack, serv, code, i0, i1, i2⟩ os = NO at *
  generalize putP ⟨src, dst, off, cc, cz, sum, typ, x, seq, ack, serv, code, i0, i1, i2⟩ os data = p at *
  obtain ⟨b, f⟩ := p
  dsimp only at *
  have HB := hide HB0; have HP := hide hp; have HM := hide hm; have HSAY := hide hsay; have HE2 := hide he2
  clear HB0 hp hm hsay he2 hA hs hk hk0 hlen
  go_enter Tryz.func8, Tryz.ntmps8
  go_wp2_with fail
  refine (HB.out _).mono ?_
  rintro e w1 ⟨rfl, hb1⟩
  have b1 := (Blk.new w #[.int .i64 src, .int .i64 dst, .int .i64 off, .int .i64 cc, .int .i64 cs, .int .i64 sum, .int .i64 typ, .bool x, .int .u64 seq, .int .u64 ack, .int .u32 serv, .int .i64 code, .int .u8 i0, .int .u8 i1, .int .u8 i2, .slice A os.length cap, .string data] 54).below hb1 (by simp)
  have hbw : Below w.heap.size w w1 := ((Below.refl _ _).alloc (Nat.le_refl _) _).trans (hb1.mono (by simp))
  have hz1 : w.heap.size + 1 ≤ w1.heap.size := by have := hb1.size; simpa using this
  have r4 := b1.frozen 4
  have t4 := b1.cell (i := 4) (u := .int .i64 cs) rfl
  have BB1 := hide b1; have HBW := hide hbw
  clear b1 hb1 hbw
  go_upto_region 5 with fail
  rw [EM.out, ECZ.out]
  have b2 := BB1.out.set 4 (.int .i64 cz) (cs' := #[.int .i64 src, .int .i64 dst, .int .i64 off, .int .i64 cc, .int .i64 cz, .int .i64 sum, .int .i64 typ, .bool x, .int .u64 seq, .int .u64 ack, .int .u32 serv, .int .i64 code, .int .u8 i0, .int .u8 i1, .int .u8 i2, .slice A os.length cap, .string data]) rfl
  have hbw2 := HBW.out.setCell (p := ⟨w.heap.size, 4, none⟩) (Nat.le_refl _) (.int .i64 cz)
  have hz2 : w.heap.size + 1 ≤ (w1.setCell ⟨w.heap.size, 4, none⟩ (.int .i64 cz)).heap.size := by simp; omega
  generalize (w1.setCell ⟨w.heap.size, 4, none⟩ (.int .i64 cz)) = w2 at *
  have m0 := b2.cell (i := 0) (u := .int .i64 src) rfl
  have m1 := b2.cell (i := 1) (u := .int .i64 dst) rfl
  have m2 := b2.cell (i := 2) (u := .int .i64 off) rfl
  have m3 := b2.cell (i := 3) (u := .int .i64 cc) rfl
  have m4 := b2.cell (i := 4) (u := .int .i64 cz) rfl
  have m5 := b2.cell (i := 5) (u := .int .i64 sum) rfl
  have m6 := b2.cell (i := 6) (u := .int .i64 typ) rfl
  have m7 := b2.cell (i := 7) (u := .bool x) rfl
  have m8 := b2.cell (i := 8) (u := .int .u64 seq) rfl
  have m9 := b2.cell (i := 9) (u := .int .u64 ack) rfl
  have m10 := b2.cell (i := 10) (u := .int .u32 serv) rfl
  have m11 := b2.cell (i := 11) (u := .int .i64 code) rfl
  have m12 := b2.cell (i := 12) (u := .int .u8 i0) rfl
  have m13 := b2.cell (i := 13) (u := .int .u8 i1) rfl
  have m14 := b2.cell (i := 14) (u := .int .u8 i2) rfl
  have m15 := b2.cell (i := 15) (u := .slice A os.length cap) rfl
  have m16 := b2.cell (i := 16) (u := .string data) rfl
  have BB2 := hide b2; have HBW2 := hide hbw2
  clear b2 hbw2 r4 t4 BB1 HBW hz1
  go_wp2_with fail
  refine (HP.out _ HBW2.out).mono ?_
  rintro e w3 ⟨rfl, hb3⟩
  have BB3 := hide (BB2.out.below hb3 (by omega))
  have hz3 : w.heap.size + 1 ≤ w3.heap.size := by have := hb3.size; omega
  have hb3w := HBW2.out.trans (hb3.mono HBW2.out.size)
  have HBW3 := hide hb3w
  clear hb3 hb3w BB2 m0 m1 m2 m3 m4 m5 m6 m7 m8 m9 m10 m11 m12 m13 m14 m15 m16
  by_cases hE : E = 0
  · obtain ⟨N, S, hN, hN2, hS2, rfl, hbz, hdz, hgp⟩ := HSAY.out hE
    clear HSAY HE2 HM HP hE hN
    cases hsc : PkB.scan (os.map fun o => (⟨o.typ, o.data⟩ : PkB.SO)) false with
    | none =>
      rw [hsc] at hgp
      have hg := fun W => PkB.pkt_Get_any b W
      simp only [hgp, hd0] at hg
      have HG := hide hg
      clear hg hgp hsc
      as_aux_lemma =>
        go_upto_region 8 with fail
        go_wp2_with fail
        refine (HG.out _).mono ?_
        rintro e w4 ⟨A2, c2, rfl, _, _, hb4⟩
        have HB4 := hide (HBW3.out.trans (hb4.mono HBW3.out.size))
        clear hb4
        go_wp2
        go_ret
        exact ⟨rfl, HB4.out.alloc HB4.out.size _⟩
    | some l =>
      rw [hsc] at hgp
      have hgt := PkB.get_turn b _ l data hgp
      have hg := fun W => PkB.pkt_Get_any b W
      simp only [hgp] at hg
      dsimp only at hgt
      have HG := hide hg; have HGT := hide hgt
      clear hg hgp hsc hgt
      have hN0 : (0 : Int) ≤ (N : Int) := by omega
      have hN5 : (N : Int) ≤ 255 := by omega
      go_upto_region 8 with fail
      go_cut [12, 13] (fun v12 v13 wx => ∃ (B : Nat) (A2 : Option Addr) (c2 : Nat), v12 = .pointer (some ⟨B, 0, none⟩) ∧ v13 = .int .i64 0 ∧ Blk wx B #[.int .i64 src, .int .i64 dst, .int .i64 (N : Nat), .int .i64 cc, .int .i64 cz, .int .i64 (S : Nat), .int .i64 typ, .bool x, .int .u64 seq, .int .u64 ack, .int .u32 serv, .int .i64 code, .int .u8 i0, .int .u8 i1, .int .u8 i2, .slice A2 l.length c2, .string data] 54 ∧ w.heap.size < B ∧ Below (w.heap.size + 1) w3 wx)
      case first =>
        as_aux_lemma =>
          go_wp2_with fail
          refine (HG.out _).mono ?_
          rintro e w4 ⟨A2, c2, rfl, _, _, hb4⟩
          have hz4 := hb4.size
          have HB4 := hide hb4
          clear hb4
          go_wp2_with fail
          go_meet
          exact ⟨_, A2, c2, rfl, rfl, Blk.new _ _ _, by omega, ((Below.refl (w.heap.size + 1) w3).trans (HB4.out.mono hz3)).alloc (by omega) _⟩
      case rest =>
        obtain ⟨B, A2, c2, rfl, rfl, bq, hB, hb4⟩ := hcut
        have bp := BB3.out.below hb4 (Nat.lt_succ_self _)
        have q2 := bq.cell (i := 2) (u := .int .i64 (N : Nat)) rfl
        have q16 := bq.cell (i := 16) (u := .string data) rfl
        have p4 := bp.cell (i := 4) (u := .int .i64 cz) rfl
        have p16 := bp.cell (i := 16) (u := .string data) rfl
        have HB4 := hide hb4; have BP := hide bp; have BQ := hide bq
        clear hb4 bp bq BB3
        by_cases hx : xb = 0 ∨ data.size = 0
        · have hbw4 := HBW3.out.trans (HB4.out.mono (Nat.le_succ _))
          have HW4 := hide hbw4
          clear HG HGT hbw4
          have c5 : (xb == 0) = true ∨ ((xb == 0) = false ∧ ((data.size : Int) == 0) = true) := by
            by_cases h0 : xb = 0
            · exact .inl (beq_iff_eq.2 h0)
            · exact .inr ⟨beq_eq_false_iff_ne.2 h0, beq_iff_eq.2 (by omega)⟩
          clear hx
          rcases c5 with c5 | ⟨c5, c6⟩
          all_goals
            as_aux_lemma =>
              go_wp2
              all_goals go_ret
              all_goals exact ⟨ret_bool (by simp), HW4.out⟩
        · have hx0 : xb ≠ 0 := fun h0 => hx (.inl h0)
          have hdz0 : 0 < data.size := by omega
          have c5 : (xb == 0) = false := beq_eq_false_iff_ne.2 hx0
          have c6 : ((data.size : Int) == 0) = false := beq_eq_false_iff_ne.2 (by omega)
          clear hx
          go_upto_region 14 with fail
          obtain ⟨j, hj, ej⟩ : ∃ j : Nat, j < data.size ∧ (wrap64 (n.tmod (data.size : Int) + (data.size : Int))).tmod (data.size : Int) = (j : Int) := by
            obtain ⟨h1, h2⟩ := tmod_pos n (data.size : Int) (by omega) (by omega)
            exact ⟨_, by omega, (Int.toNat_of_nonneg h1).symm⟩
          obtain ⟨k, hkk⟩ : ∃ k : Nat, k = 4 * N + j := ⟨_, rfl⟩
          have hd1 : (data.size : Int) ≤ 1400 := by omega
          have hd00 : (0 : Int) < (data.size : Int) := by omega
          have EJ := hide ej
          have hwk : ((4 * N + j : Nat) : Int) = (k : Int) := by omega
          go_cut [15] (fun v15 wx => v15 = .int .i64 (k : Nat) ∧ wx = wc.drew)
          case first =>
            as_aux_lemma =>
              go_region
              all_goals go_wp2_with fail
              all_goals go_meet
              all_goals exact ⟨by first | (congr 1; done) | (congr 1; omega), rfl⟩
          case rest =>
            obtain ⟨rfl, rfl⟩ := hcut
            have hkb : k < b.size := by omega
            have hkt : (k : Int) < (b.size : Int) := by omega
            have hk4 : 4 * (N : Int) ≤ (k : Int) := by omega
            have hk9 : (k : Int) ≤ 2500 := by omega
            have hbi : (b.size : Int) ≤ 2500 := by omega
            clear ej hkk hwk EJ hj hN2 hN0 hbz q2 q16 p4 p16 hn0 hn1 v0 v1 EM ECZ
            go_upto_region 15 with fail
            go_upto_region 16 with (refine wpList_bytes_of rfl (.tmp 90) rfl b rfl ?_; intro cap2 w5 hraw hb5 hsz5)
            have hraw : Raw w5 wc.heap.size (b.data.toList.map fun c => (c.toNat : Int)) := hraw
            have hb5 : Below wc.heap.size wc.drew w5 := hb5
            clear hsz5
            have hkL : k < (b.data.toList.map fun c => (c.toNat : Int)).length := by rw [List.length_map, Array.length_toList]; exact hkb
            have hc := hraw.cell k hkL
            have hf := hraw.frozen k hkL
            have hkb' : k < b.data.toList.length := by rw [Array.length_toList]; exact hkb
            have hv0 : (b.data.toList.map fun c => (c.toNat : Int))[k]'hkL = (((b.data.toList[k]'hkb').toNat : Nat) : Int) := by rw [List.getElem_map]
            have hby : byteAt b k = (b.data.toList[k]'hkb').toNat := by unfold byteAt; rw [List.getD_eq_getElem?_getD, List.getElem?_eq_getElem hkb']; rfl
            rw [hv0] at hc
            obtain ⟨v, hv, hvne⟩ := xor_any (b.data.toList[k]'hkb') xb x0 x1 hx0
            rw [← hby] at hvne
            have hgt := HGT.out (by omega) k hk4 hkb v hvne
            have htx := set_text b k v
            generalize (((b.data.toList[k]'hkb').toNat : Nat) : Int) = u0 at *
            clear hv0 hby hvne HGT
            have hll : (b.data.toList.map fun c => (c.toNat : Int)).length = b.size := by rw [List.length_map, Array.length_toList]; rfl
            generalize (b.data.toList.map fun c => (c.toNat : Int)) = L at *
            have HT := hide htx; have HGT := hide hgt; have HLL := hide hll
            clear htx hgt hll
            go_upto_region 17 with fail
            have hraw2 := hraw.setCell k hkL ((v.toNat : Nat) : Int)
            have hb6 : Below (w.heap.size + 1) w3 (w5.setCell ⟨wc.heap.size, k, none⟩ (.int .u8 ((v.toNat : Nat) : Int))) := (HB4.out.drew.trans (hb5.mono (by have := HB4.out.size; omega))).setCell (p := ⟨wc.heap.size, k, none⟩) (by show w.heap.size + 1 ≤ wc.heap.size; have := HB4.out.size; omega) _
            have hBc : B < wc.heap.size := BQ.out.lt
            have bq5 := (BQ.out.drew.below hb5 hBc).far (p := ⟨wc.heap.size, k, none⟩) (by show B ≠ wc.heap.size; omega) (.int .u8 ((v.toNat : Nat) : Int))
            have hz6 : B < (w5.setCell ⟨wc.heap.size, k, none⟩ (.int .u8 ((v.toNat : Nat) : Int))).heap.size := bq5.lt
            have hll2 : b.size = (L.set k ((v.toNat : Nat) : Int)).length := by rw [List.length_set]; exact HLL.out.symm
            have bp5 := (BP.out.drew.below hb5 (Nat.lt_trans hB hBc)).far (p := ⟨wc.heap.size, k, none⟩) (by show w.heap.size ≠ wc.heap.size; omega) (.int .u8 ((v.toNat : Nat) : Int))
            have hbw6 := HBW3.out.trans (hb6.mono (Nat.le_succ _))
            have hg2 := fun W => PkB.pkt_Get_any (strOfNums (L.set k ((v.toNat : Nat) : Int))) W
            rw [HT.out] at hg2
            have htx2 := HT.out
            generalize L.set k ((v.toNat : Nat) : Int) = L2 at *
            generalize (w5.setCell ⟨wc.heap.size, k, none⟩ (.int .u8 ((v.toNat : Nat) : Int))) = w6 at *
            have HRW := hide hraw2; have HLL2 := hide hll2; have BQ5 := hide bq5; have BP5 := hide bp5; have HW6 := hide hbw6; have HTX := hide htx2
            clear hraw2 hll2 bq5 bp5 hb6 hbw6 hc hf hv hraw hb5 hkL hkb' hkb HT htx2 HB4 BP BQ HLL c6 hx0 hBc
            rcases Int.lt_or_le (k : Int) (4 * (N : Int) + 4 * (cz - 1)) with hkn | hkn
            · have he := HGT.out.1 hkn
              simp only [he, hd0] at hg2
              have HG2 := hide hg2
              clear hg2 he HGT HG
              as_aux_lemma =>
                go_wp2_with (refine wpList_bytes_back rfl (.tmp 100) rfl wc.heap.size cap2 b.size L2 HLL2.out rfl HRW.out ?_)
                rw [HTX.out]
                refine (HG2.out _).mono ?_
                rintro e w7 ⟨A3, c3, rfl, _, _, hb7⟩
                have HB7 := hide (HW6.out.trans (hb7.mono HW6.out.size))
                clear hb7
                go_wp2
                go_ret
                exact ⟨rfl, HB7.out.alloc HB7.out.size _⟩
            · obtain ⟨d2, hd2, _, he⟩ := HGT.out.2 hkn
              have hd3 : ¬ d2.toList = data.toList := fun h => hd2 (Go.WideShapes.bytes_inj (by rw [← ByteArray.toList_eq, ← ByteArray.toList_eq]; exact h))
              simp only [he] at hg2
              have HG2 := hide hg2
              clear hg2 he HGT HG
              go_cut [17, 18] (fun v17 v18 wx => ∃ (G : Nat) (A3 : Option Addr) (c3 : Nat), v17 = .pointer (some ⟨G, 0, none⟩) ∧ v18 = .int .i64 0 ∧ Blk wx G #[.int .i64 src, .int .i64 dst, .int .i64 (N : Nat), .int .i64 cc, .int .i64 cz, .int .i64 (S : Nat), .int .i64 typ, .bool x, .int .u64 seq, .int .u64 ack, .int .u32 serv, .int .i64 code, .int .u8 i0, .int .u8 i1, .int .u8 i2, .slice A3 l.length c3, .string d2] 54 ∧ Blk wx B #[.int .i64 src, .int .i64 dst, .int .i64 (N : Nat), .int .i64 cc, .int .i64 cz, .int .i64 (S : Nat), .int .i64 typ, .bool x, .int .u64 seq, .int .u64 ack, .int .u32 serv, .int .i64 code, .int .u8 i0, .int .u8 i1, .int .u8 i2, .slice A2 l.length c2, .string data] 54 ∧ wx.cell? ⟨w.heap.size, 16, none⟩ = some (.string data) ∧ Below w.heap.size w wx)
              case first =>
                as_aux_lemma =>
                  go_wp2_with (refine wpList_bytes_back rfl (.tmp 100) rfl wc.heap.size cap2 b.size L2 HLL2.out rfl HRW.out ?_)
                  rw [HTX.out]
                  refine (HG2.out _).mono ?_
                  rintro e w7 ⟨A3, c3, rfl, _, _, hb7⟩
                  have bq7 := BQ5.out.below hb7 hz6
                  have bp7 := BP5.out.below hb7 (by omega)
                  have HB7 := hide (HW6.out.trans (hb7.mono HW6.out.size)); have BQ7 := hide bq7; have BP7 := hide bp7
                  clear hb7 bq7 bp7
                  go_wp2_with fail
                  go_meet
                  exact ⟨_, A3, c3, rfl, rfl, Blk.new _ _ _, BQ7.out.alloc _, (BP7.out.alloc _).cell (i := 16) rfl, HB7.out.alloc HB7.out.size _⟩
              case rest =>
                obtain ⟨G, A3, c3, rfl, rfl, bg, bq, hp16, hbe⟩ := hcut
                have g0 := bg.cell (i := 0) (u := .int .i64 src) rfl
                have g1 := bg.cell (i := 1) (u := .int .i64 dst) rfl
                have g2 := bg.cell (i := 2) (u := .int .i64 (N : Nat)) rfl
                have g3 := bg.cell (i := 3) (u := .int .i64 cc) rfl
                have g4 := bg.cell (i := 4) (u := .int .i64 cz) rfl
                have g5 := bg.cell (i := 5) (u := .int .i64 (S : Nat)) rfl
                have g6 := bg.cell (i := 6) (u := .int .i64 typ) rfl
                have g7 := bg.cell (i := 7) (u := .bool x) rfl
                have g8 := bg.cell (i := 8) (u := .int .u64 seq) rfl
                have g9 := bg.cell (i := 9) (u := .int .u64 ack) rfl
                have g10 := bg.cell (i := 10) (u := .int .u32 serv) rfl
                have g11 := bg.cell (i := 11) (u := .int .i64 code) rfl
                have g12 := bg.cell (i := 12) (u := .int .u8 i0) rfl
                have g13 := bg.cell (i := 13) (u := .int .u8 i1) rfl
                have g14 := bg.cell (i := 14) (u := .int .u8 i2) rfl
                have g16 := bg.cell (i := 16) (u := .string d2) rfl
                have q0 := bq.cell (i := 0) (u := .int .i64 src) rfl
                have q1 := bq.cell (i := 1) (u := .int .i64 dst) rfl
                have q2 := bq.cell (i := 2) (u := .int .i64 (N : Nat)) rfl
                have q3 := bq.cell (i := 3) (u := .int .i64 cc) rfl
                have q4 := bq.cell (i := 4) (u := .int .i64 cz) rfl
                have q5 := bq.cell (i := 5) (u := .int .i64 (S : Nat)) rfl
                have q6 := bq.cell (i := 6) (u := .int .i64 typ) rfl
                have q7 := bq.cell (i := 7) (u := .bool x) rfl
                have q8 := bq.cell (i := 8) (u := .int .u64 seq) rfl
                have q9 := bq.cell (i := 9) (u := .int .u64 ack) rfl
                have q10 := bq.cell (i := 10) (u := .int .u32 serv) rfl
                have q11 := bq.cell (i := 11) (u := .int .i64 code) rfl
                have q12 := bq.cell (i := 12) (u := .int .u8 i0) rfl
                have q13 := bq.cell (i := 13) (u := .int .u8 i1) rfl
                have q14 := bq.cell (i := 14) (u := .int .u8 i2) rfl
                have h9 : ∀ W : World, (Op.equalIn 9999 24 (.agg #[.int .u8 i0, .int .u8 i1, .int .u8 i2]) (.agg #[.int .u8 i0, .int .u8 i1, .int .u8 i2])).run Tryz.prog W = .ok true W := fun W => by rw [show (9999 : Nat) = 9997 + 2 from rfl, eq_three]; simp
                have HBE := hide hbe
                clear bg bq hbe HRW HTX HW6 BQ5 BP5
                as_aux_lemma =>
                  go_wp2
                  all_goals go_ret
                  all_goals exact ⟨ret_bool (by simp [hd2, hd3]), HBE.out⟩
  · have hE1 : (E != 0) = true := bne_iff_ne.2 hE
    obtain rfl := HE2.out hE
    have hEE : (f == f) = true := beq_self_eq_true _
    have b3 := BB3.out
    have m0 := b3.cell (i := 0) (u := .int .i64 src) rfl
    have m1 := b3.cell (i := 1) (u := .int .i64 dst) rfl
    have m2 := b3.cell (i := 2) (u := .int .i64 off) rfl
    have m3 := b3.cell (i := 3) (u := .int .i64 cc) rfl
    have m4 := b3.cell (i := 4) (u := .int .i64 cz) rfl
    have m5 := b3.cell (i := 5) (u := .int .i64 sum) rfl
    have m6 := b3.cell (i := 6) (u := .int .i64 typ) rfl
    have m7 := b3.cell (i := 7) (u := .bool x) rfl
    have m8 := b3.cell (i := 8) (u := .int .u64 seq) rfl
    have m9 := b3.cell (i := 9) (u := .int .u64 ack) rfl
    have m10 := b3.cell (i := 10) (u := .int .u32 serv) rfl
    have m11 := b3.cell (i := 11) (u := .int .i64 code) rfl
    have m12 := b3.cell (i := 12) (u := .int .u8 i0) rfl
    have m13 := b3.cell (i := 13) (u := .int .u8 i1) rfl
    have m14 := b3.cell (i := 14) (u := .int .u8 i2) rfl
    have m15 := b3.cell (i := 15) (u := .slice A os.length cap) rfl
    have m16 := b3.cell (i := 16) (u := .string data) rfl
    clear hE b3 BB3 HSAY HE2 HP
    as_aux_lemma =>
      go_wp2_with fail
      refine (HM.out _ HBW3.out).mono ?_
      rintro e w4 ⟨rfl, hb4⟩
      have HB4 := hide (HBW3.out.trans (hb4.mono HBW3.out.size))
      clear hb4 hEE
      go_wp2
      go_ret
      exact ⟨ret_bool (by simp), HB4.out⟩
end Go.Proofs.YthallmapddihgaaGreatDoor
