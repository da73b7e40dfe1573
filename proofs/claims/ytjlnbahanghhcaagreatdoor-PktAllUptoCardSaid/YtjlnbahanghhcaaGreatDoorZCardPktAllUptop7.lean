/- Contracts and laws that the claim's proof needs: WalkPktAll. Conditions: each theorem's own. -/
import Derived.Test.YtjlnbahanghhcaaGreatDoorZCardPktAllUptop1
import Derived.Test.YtjlnbahanghhcaaGreatDoorZCardPktAllUptop2
import Derived.Test.YtjlnbahanghhcaaGreatDoorZCardPktAllUptop4
import Derived.Test.YtjlnbahanghhcaaGreatDoorZCardPktAllUptop5
import Derived.Test.YtjlnbahanghhcaaGreatDoorZCardPktAllUptop6
import Derived.StillTailTactics
import Derived.BigQuiet
import Derived.Deep.DeepCutAuto
import Derived.Deep.CutBlock
import Derived.IntWalk

/- PktAll: the walk (printed by wip/gen/mk_pktall.py). -/
namespace Go.Proofs.YtjlnbahanghhcaaGreatDoor
open Go.RowKit
set_option linter.unusedVariables false
set_option linter.unusedSimpArgs false
theorem wants_step (os : List Op) (k : Nat) (h : k < os.length) (u : List Op) (m l : Bool) (o : Op) (ho : os[k] = o) (e : PkB.wants (os.take k) = (u, m, l)) :
    (o.typ = 0 → PkB.wants (os.take (k + 1)) = (u, m, l)) ∧ (o.typ ≠ 0 → PkB.wants (os.take (k + 1)) = (u ++ [o], m || (l && decide (o.typ = 1)), decide (o.typ = 1))) := by
  rw [PkB.wants_take os k h, e, ho]
  unfold PkB.stp
  exact ⟨fun h => by rw [if_pos h], fun h => by rw [if_neg h]⟩
theorem map_same (u : List Op) : (u.map fun o => (⟨o.typ, o.data⟩ : PkB.SO)).map PkB.ofS = u := by
  rw [List.map_map]; exact List.map_id'' (fun o => rfl) u
theorem below_dnP {B : Nat} {a w : World} (h : Below B a w) (n : Nat) : Below B a (w.drewN n) := ⟨h.os, h.tape, h.output, h.size, h.block⟩
set_option maxHeartbeats 8000000 in
set_option maxRecDepth 100000 in
theorem PktAll_walk (HB0 : ∀ W : World, Calls Tryz.prog 11 #[] W fun e w' => e = .returned (.bool true) ∧ Below W.heap.size W w')
    (h : Hd) (hk : okH h = true) (A : Option Addr) (cap : Nat) (os : List Op) (data : ByteArray) (w : World) (hA : CellsAt w w.heap.size A (ocells os)) (hcap : os.length ≤ cap) (hn : os.length ≤ 1048576) (hs : ∀ o, o ∈ os → o.data.size ≤ 1048576) (hd : data.size ≤ 1048576) :
    Calls Tryz.prog 4 #[.agg #[.int .i64 h.src, .int .i64 h.dst, .int .i64 h.off, .int .i64 h.cc, .int .i64 h.cs, .int .i64 h.sum, .int .i64 h.typ, .bool h.x, .int .u64 h.seq, .int .u64 h.ack, .int .u32 h.serv, .int .i64 h.code, .int .u8 h.i0, .int .u8 h.i1, .int .u8 h.i2, .slice A os.length cap, .string data]] w fun e w' => e = .returned (.bool true) ∧ Below w.heap.size w w' := by
  have hlen : (obs os).length ≤ 140737488355000 := by
    have h1 := obs_le 1048576 os hs
    have h2 : os.length * (1048576 + 2) ≤ 1048576 * (1048576 + 2) := Nat.mul_le_mul_right _ hn
    omega
  have hsay := PkB.put_all h hk os data
  have hp := fun (W : World) (hb : Below w.heap.size w W) => pkt_Put_any h hk A cap w.heap.size os data W (hA.below hb) hb.size hlen (by omega) (by omega)
  have hm := fun (W : World) (hb : Below w.heap.size w W) => law_May h A cap w.heap.size os data W (hA.below hb) hb.size hn hs hd
  have he2 : errP h os data ≠ 0 → (putP h os data) = (⟨#[]⟩, errP h os data) := fun h0 => by unfold putP; rw [if_neg h0]
  have hws := PkB.wants_scan os
  obtain ⟨src, dst, off, cc, cs, sum, typ, x, seq, ack, serv, code, i0, i1, i2⟩ := h
  dsimp only at *
  generalize errP ⟨src, dst, off, cc, cs, sum, typ, x, seq, ack, serv, code, i0, i1, i2⟩ os data = E at *
  generalize putP ⟨src, dst, off, cc, cs, sum, typ, x, seq, ack, serv, code, i0, i1, i2⟩ os data = p at *
  obtain ⟨b, f⟩ := p
  dsimp only at *
  have HB := hide HB0; have HP := hide hp; have HM := hide hm; have HSAY := hide hsay; have HE2 := hide he2; have HA := hide hA; have HWS := hide hws
  clear HB0 hp hm hsay he2 hA hs hk hlen hws
  go_enter Tryz.func4, Tryz.ntmps4
  go_upto_region 4 with (go_at_call 11; refine (HB.out _).mono ?_; rintro e w1 ⟨rfl, hb1⟩)
  have b1 := (Blk.new w #[.int .i64 src, .int .i64 dst, .int .i64 off, .int .i64 cc, .int .i64 cs, .int .i64 sum, .int .i64 typ, .bool x, .int .u64 seq, .int .u64 ack, .int .u32 serv, .int .i64 code, .int .u8 i0, .int .u8 i1, .int .u8 i2, .slice A os.length cap, .string data] 29).below hb1 (by simp)
  have hbw : Below w.heap.size w w1 := ((Below.refl _ _).alloc (Nat.le_refl _) _).trans (hb1.mono (by simp))
  have HBW := hide hbw; have B1 := hide b1
  clear hb1 hbw HB
  have m0 := b1.cell (i := 0) (u := .int .i64 src) rfl
  have m1 := b1.cell (i := 1) (u := .int .i64 dst) rfl
  have m2 := b1.cell (i := 2) (u := .int .i64 off) rfl
  have m3 := b1.cell (i := 3) (u := .int .i64 cc) rfl
  have m4 := b1.cell (i := 4) (u := .int .i64 cs) rfl
  have m5 := b1.cell (i := 5) (u := .int .i64 sum) rfl
  have m6 := b1.cell (i := 6) (u := .int .i64 typ) rfl
  have m7 := b1.cell (i := 7) (u := .bool x) rfl
  have m8 := b1.cell (i := 8) (u := .int .u64 seq) rfl
  have m9 := b1.cell (i := 9) (u := .int .u64 ack) rfl
  have m10 := b1.cell (i := 10) (u := .int .u32 serv) rfl
  have m11 := b1.cell (i := 11) (u := .int .i64 code) rfl
  have m12 := b1.cell (i := 12) (u := .int .u8 i0) rfl
  have m13 := b1.cell (i := 13) (u := .int .u8 i1) rfl
  have m14 := b1.cell (i := 14) (u := .int .u8 i2) rfl
  have m15 := b1.cell (i := 15) (u := .slice A os.length cap) rfl
  have m16 := b1.cell (i := 16) (u := .string data) rfl
  clear b1
  go_upto_region 5 with (go_at_call 13; refine (HP.out _ HBW.out).mono ?_; rintro e w2 ⟨rfl, hb2⟩)
  have b2 := B1.out.below hb2 B1.out.lt
  have hbw2 := HBW.out.trans (hb2.mono HBW.out.size)
  have HBW2 := hide hbw2; have B2 := hide b2
  clear m0 m1 m2 m3 m4 m5 m6 m7 m8 m9 m10 m11 m12 m13 m14 m15 m16 B1 HBW HP hb2 hbw2
  have m0 := b2.cell (i := 0) (u := .int .i64 src) rfl
  have m1 := b2.cell (i := 1) (u := .int .i64 dst) rfl
  have m2 := b2.cell (i := 2) (u := .int .i64 off) rfl
  have m3 := b2.cell (i := 3) (u := .int .i64 cc) rfl
  have m4 := b2.cell (i := 4) (u := .int .i64 cs) rfl
  have m5 := b2.cell (i := 5) (u := .int .i64 sum) rfl
  have m6 := b2.cell (i := 6) (u := .int .i64 typ) rfl
  have m7 := b2.cell (i := 7) (u := .bool x) rfl
  have m8 := b2.cell (i := 8) (u := .int .u64 seq) rfl
  have m9 := b2.cell (i := 9) (u := .int .u64 ack) rfl
  have m10 := b2.cell (i := 10) (u := .int .u32 serv) rfl
  have m11 := b2.cell (i := 11) (u := .int .i64 code) rfl
  have m12 := b2.cell (i := 12) (u := .int .u8 i0) rfl
  have m13 := b2.cell (i := 13) (u := .int .u8 i1) rfl
  have m14 := b2.cell (i := 14) (u := .int .u8 i2) rfl
  have m15 := b2.cell (i := 15) (u := .slice A os.length cap) rfl
  have m16 := b2.cell (i := 16) (u := .string data) rfl
  clear b2
  go_upto_region 6 with (go_at_call 21; refine (HM.out _ HBW2.out).mono ?_; rintro e w3 ⟨rfl, hb3⟩)
  have HBW3 := hide (HBW2.out.trans (hb3.mono HBW2.out.size)); have B3 := hide (B2.out.below hb3 B2.out.lt)
  clear m0 m1 m2 m3 m4 m5 m6 m7 m8 m9 m10 m11 m12 m13 m14 m15 m16 B2 HBW2 HM hb3
  by_cases hE : E = 0
  case neg =>
    have he := HE2.out hE
    obtain rfl : b = ⟨#[]⟩ := congrArg Prod.fst he
    obtain rfl : f = E := congrArg Prod.snd he
    have hE1 : (f == 0) = false := beq_eq_false_iff_ne.2 hE
    have hE2 : (f != 0) = true := by simp [bne, hE1]
    clear he HE2 HSAY HWS hE
    as_aux_lemma =>
      go_wp2
      all_goals go_ret
      all_goals exact ⟨rfl, HBW3.out⟩
  obtain ⟨N, S, n, hN2, rfl, hbz, hdz, hall, hsz, hcov, hcn, hnb, hg0, hg1⟩ := HSAY.out hE
  subst hE
  have hp2 := fun (W : World) (hb : Below w.heap.size w W) => RPO.ref_PutOpts A cap w.heap.size os W (HA.out.below hb) hcap (by omega) hall
  have HPO := hide hp2; have HCN := hide hcn; have HCOV := hide hcov; have HSZ := hide hsz; have HBZ := hide hbz; have HG0 := hide hg0; have HG1 := hide hg1; have HDZ := hide hdz; have HNB := hide hnb
  clear HSAY HE2 hp2 hcn hcov hsz hbz hg0 hg1 hdz hnb hall hcap
  obtain ⟨⟨qh, ql, qd, qe⟩, hgq⟩ : ∃ q, PkB.getP b = q := ⟨_, rfl⟩
  have hg := fun W => PkB.pkt_Get_any b W
  rw [hgq] at hg
  dsimp only at hg
  obtain ⟨q0, q1, q2, q3, q4, q5, q6, q7, q8, q9, q10, q11, q12, q13, q14⟩ := qh
  dsimp only at hg
  have HG := hide hg; have HGQ := hide hgq
  clear hg hgq
  go_upto_region 10 with fail
  as_aux_lemma =>
    go_upto_region 13 with (go_at_call 14; refine (HG.out _).mono ?_; rintro e w4 ⟨A2, c2, rfl, hcc, hcl, hb4⟩)
    have bq := Blk.new w4 #[.int .i64 q0, .int .i64 q1, .int .i64 q2, .int .i64 q3, .int .i64 q4, .int .i64 q5, .int .i64 q6, .bool q7, .int .u64 q8, .int .u64 q9, .int .u32 q10, .int .i64 q11, .int .u8 q12, .int .u8 q13, .int .u8 q14, .slice A2 ql.length c2, .string qd] 29
    have hz4 := hb4.size
    have bp := (B3.out.below hb4 B3.out.lt).alloc (.cells #[.int .i64 q0, .int .i64 q1, .int .i64 q2, .int .i64 q3, .int .i64 q4, .int .i64 q5, .int .i64 q6, .bool q7, .int .u64 q8, .int .u64 q9, .int .u32 q10, .int .i64 q11, .int .u8 q12, .int .u8 q13, .int .u8 q14, .slice A2 ql.length c2, .string qd] 29)
    have hb5 := (HBW3.out.trans (hb4.mono HBW3.out.size)).alloc (Nat.le_trans HBW3.out.size hz4) (.cells #[.int .i64 q0, .int .i64 q1, .int .i64 q2, .int .i64 q3, .int .i64 q4, .int .i64 q5, .int .i64 q6, .bool q7, .int .u64 q8, .int .u64 q9, .int .u32 q10, .int .i64 q11, .int .u8 q12, .int .u8 q13, .int .u8 q14, .slice A2 ql.length c2, .string qd] 29)
    have hcl5 := (hcl.below ((Below.refl w4.heap.size w4).alloc (Nat.le_refl _) (.cells #[.int .i64 q0, .int .i64 q1, .int .i64 q2, .int .i64 q3, .int .i64 q4, .int .i64 q5, .int .i64 q6, .bool q7, .int .u64 q8, .int .u64 q9, .int .u32 q10, .int .i64 q11, .int .u8 q12, .int .u8 q13, .int .u8 q14, .slice A2 ql.length c2, .string qd] 29))).more (B' := (w4.alloc (.cells #[.int .i64 q0, .int .i64 q1, .int .i64 q2, .int .i64 q3, .int .i64 q4, .int .i64 q5, .int .i64 q6, .bool q7, .int .u64 q8, .int .u64 q9, .int .u32 q10, .int .i64 q11, .int .u8 q12, .int .u8 q13, .int .u8 q14, .slice A2 ql.length c2, .string qd] 29)).heap.size) (by simp)
    generalize (w4.alloc (.cells #[.int .i64 q0, .int .i64 q1, .int .i64 q2, .int .i64 q3, .int .i64 q4, .int .i64 q5, .int .i64 q6, .bool q7, .int .u64 q8, .int .u64 q9, .int .u32 q10, .int .i64 q11, .int .u8 q12, .int .u8 q13, .int .u8 q14, .slice A2 ql.length c2, .string qd] 29)) = w5 at *
    have HBQ := hide bq; have HBP := hide bp; have HB5 := hide hb5; have HCL5 := hide hcl5
    have hpa := HA.out.below hb5
    have HPA := hide hpa
    have m15 := bp.cell (i := 15) (u := .slice A os.length cap) rfl
    clear bq bp hb5 hcl5 hcl hb4 hpa B3 HBW3 HG HA
    have hn5 : (os.length : Int) ≤ 1048576 := by omega
    go_upto_region 14 with fail
    clear m15
    have hzz := HBQ.out.lt
    have hzw := HB5.out.size
    have hpl := HBP.out.lt
    have HCC := hide hcc
    clear hcc hz4
    as_aux_lemma =>
      go_loopw [9, 10, 11, 49] (fun v9 v10 v11 x wr => ∃ (k : Nat) (u : List Op) (m l : Bool), k ≤ os.length ∧ x = .int .i64 k ∧ v9 = .bool m ∧ v10 = .bool l ∧ Hid (PkB.wants (os.take k) = (u, m, l)) ∧ Hid (Go.Proofs.YtjlnbahanghhcaaGreatDoorW.PrintWords.Kd.R Go.Proofs.YtjlnbahanghhcaaGreatDoor.PoptGet.k50 50 wr w5.heap.size (fun _ => True) v11 (u.map (fun o : Op => (⟨o.typ, o.data⟩ : PkB.SO)))) ∧ Below w5.heap.size w5 wr) (fun _ _ _ x _ => os.length - (intOf x).toNat)
      case atStart => exact ⟨0, [], false, false, by omega, rfl, rfl, rfl, hide rfl, hide (Go.Proofs.YtjlnbahanghhcaaGreatDoorW.PrintWords.Kd.R_nil _ _ _ _ _), Below.refl _ _⟩
      case round =>
        obtain ⟨k, u, m, l, hk, rfl, rfl, rfl, HW, HR, hb⟩ := hrel
        by_cases hlt : k < os.length
        case pos =>
          as_aux_lemma =>
            clear HGQ HG0 HG1 HWS HSZ HCOV HCN HPO HBZ HDZ HNB
            have hki : (k : Int) < (os.length : Int) := by omega
            have hul : u.length ≤ k := by
              have := PkB.wants_len os k hk
              rw [HW.out] at this; exact this
            obtain ⟨ad, rfl, f0, f1⟩ := opts_at HPA.out hb hzw k hlt
            have hst := fun o => wants_step os k hlt u m l o
            have hst := hst _ rfl HW.out
            obtain ⟨o, ho'⟩ : ∃ o, os[k] = o := ⟨_, rfl⟩
            have hat := fun (W : World) (hb : Below w5.heap.size w5 W) => opts_at HPA.out hb hzw k hlt
            rw [ho'] at f0 f1 hst
            have HAT : Hid (∀ (W : World), Below w5.heap.size w5 W → W.cell? (ad.add (k * 2)) = some (.int .i64 o.typ) ∧ W.cell? ⟨(ad.add (k * 2)).block, (ad.add (k * 2)).off + 1, none⟩ = some (.string o.data)) := hide (fun W hb => by
              obtain ⟨ad', e', g0, g1⟩ := hat W hb
              injection e' with e'
              subst e'
              rw [ho'] at g0 g1
              exact ⟨g0, g1⟩)
            have HST := hide hst
            clear hst hat ho' HW
            have bpr := HBP.out.below hb hpl
            have m15 := bpr.cell (i := 15) (u := .slice (some ad) os.length cap) rfl
            have HBS := hide hb
            clear bpr
            by_cases h0 : o.typ = 0
            case pos =>
              have e0 : (o.typ != 0) = false := by rw [h0]; rfl
              have HW1 := hide (HST.out.1 h0)
              clear HST h0
              as_aux_lemma =>
                go_wp2
                go_roundw
                case rel => exact ⟨k + 1, u, m, l, by omega, by go_num, rfl, rfl, HW1, HR, HBS.out⟩
                case measure => first | (simp [intOf]; done) | (simp [intOf]; omega)
            case neg =>
              have e0 : (o.typ != 0) = true := by simp [bne, h0]
              have HW1 := HST.out.2 h0
              clear HST h0
              have hzr := hb.size
              clear hb
              go_upto_region 18 with (first | (at_builtin; refine Go.Proofs.YtjlnbahanghhcaaGreatDoorW.PrintWords.Kd.R_append Go.Proofs.YtjlnbahanghhcaaGreatDoor.PoptGet.k50 (w0 := w5) w5.heap.size rfl (.tmp 59) (.tmp 65) 27 50 (.agg #[(.int .i64 0), (.string ⟨#[]⟩)]) 24 rfl Tryz.underlying27 Go.Proofs.YtjlnbahanghhcaaGreatDoor.PoptGet.info50 rfl (by decide) (by omega) u11 (u.map (fun o : Op => (⟨o.typ, o.data⟩ : PkB.SO))) (⟨o.typ, o.data⟩ : PkB.SO) [.int .i64 o.typ, .string o.data] (fun _ => True) (fun _ => False) rfl rfl ?aP (fun _ hk => hk.elim) ?aF ?aO ?aB ?aS ?aL ?_; (case aP => exact Go.Proofs.YtjlnbahanghhcaaGreatDoor.PoptGet.k50_mkM _ _ _ (⟨o.typ, o.data⟩ : PkB.SO)); (case aB => exact HBS.out); (case aF => exact (fun _ _ => trivial)); (case aO => exact HR.out); (case aS => exact HBS.out.size); (case aL => rw [List.length_map]; omega); intro v102 w11 hor hb11 hg11 hat11))
              have HR1 : Hid (Go.Proofs.YtjlnbahanghhcaaGreatDoorW.PrintWords.Kd.R Go.Proofs.YtjlnbahanghhcaaGreatDoor.PoptGet.k50 50 w11 w5.heap.size (fun _ => True) v102 ((u ++ [o]).map (fun o : Op => (⟨o.typ, o.data⟩ : PkB.SO)))) := hide (by rw [List.map_append]; exact hor)
              clear f0 f1 m15 HR hor hg11 hat11 hzr HBS
              obtain ⟨g0, g1⟩ := HAT.out _ hb11
              have bpr := HBP.out.below hb11 hpl
              have m15 := bpr.cell (i := 15) (u := .slice (some ad) os.length cap) rfl
              have HB11 := hide hb11
              clear bpr hb11 HAT
              as_aux_lemma =>
                by_cases h1 : o.typ = 1
                · have e1 : (o.typ == 1) = true := by rw [h1]; rfl
                  have hd1 : decide (o.typ = 1) = true := decide_eq_true h1
                  rw [hd1] at HW1
                  clear h1 hd1
                  cases m <;> cases l
                  all_goals (simp only [Bool.or_true, Bool.or_false, Bool.true_or, Bool.false_or, Bool.and_true, Bool.and_false, Bool.true_and, Bool.false_and] at HW1; replace HW1 := hide HW1; as_aux_lemma => (go_wp2; go_roundw; (case rel => exact ⟨k + 1, _, _, _, by omega, by go_num, rfl, rfl, HW1, HR1, HB11.out⟩); (case measure => first | (simp [intOf]; done) | (simp [intOf]; omega))))
                · have e1 : (o.typ == 1) = false := beq_eq_false_iff_ne.2 h1
                  have hd1 : decide (o.typ = 1) = false := decide_eq_false h1
                  rw [hd1] at HW1
                  clear h1 hd1
                  cases m <;> cases l
                  all_goals (simp only [Bool.or_true, Bool.or_false, Bool.true_or, Bool.false_or, Bool.and_true, Bool.and_false, Bool.true_and, Bool.false_and] at HW1; replace HW1 := hide HW1; as_aux_lemma => (go_wp2; go_roundw; (case rel => exact ⟨k + 1, _, _, _, by omega, by go_num, rfl, rfl, HW1, HR1, HB11.out⟩); (case measure => first | (simp [intOf]; done) | (simp [intOf]; omega))))
        case neg =>
          obtain rfl : k = os.length := by omega
          have hki : ¬ ((os.length : Int) < (os.length : Int)) := by omega
          have hw := HW.out
          rw [List.take_length] at hw
          have hws := HWS.out
          rw [hw] at hws
          dsimp only at hws
          obtain ⟨hw0, hw1⟩ := hws
          have hun : u.length ≤ os.length := by
            have := PkB.wants_len os os.length (Nat.le_refl _)
            rw [HW.out] at this; exact this
          clear HW HWS hw hlt
          have HBR := hide hb
          cases hsc : PkB.scan (os.map (fun o : Op => (⟨o.typ, o.data⟩ : PkB.SO))) false with
          | none =>
            have hml := hw0 hsc
            have hq := HGQ.out.symm.trans (HG0.out hsc)
            obtain rfl : qe = 7 := congrArg (fun t => t.2.2.2) hq
            clear hw0 hw1 hsc hq HGQ HG0 HG1 hb
            as_aux_lemma =>
              cases m <;> cases l
              case false.false => exact absurd hml (by decide)
              all_goals (clear hml; as_aux_lemma => (go_wp2; go_ret; exact ⟨rfl, HB5.out.trans (HBR.out.mono hzw)⟩))
          | some l2 =>
            obtain ⟨hml, hul⟩ := hw1 l2 hsc
            obtain ⟨hq, hsum⟩ := HG1.out l2 hsc
            have hq := hq.symm.trans HGQ.out
            simp only [Prod.mk.injEq, Hd.mk.injEq] at hq
            obtain ⟨⟨rfl, rfl, rfl, rfl, rfl, rfl, rfl, rfl, rfl, rfl, rfl, rfl, rfl, rfl, rfl⟩, rfl, rfl, rfl⟩ := hq
            obtain rfl : m = false := by cases m with | false => rfl | true => exact absurd hml (by simp)
            obtain rfl : l = false := by cases l with | false => rfl | true => exact absurd hml (by simp)
            clear hw0 hw1 hsc HGQ HG0 HG1 hml
            subst hul
            have hrr := HR.out
            have hcl := HCL5.out
            obtain ⟨A3, c3, hv11, hc3, hC3⟩ := Go.Proofs.YtjlnbahanghhcaaGreatDoorW.PrintWords.Kd.R_reads hrr
            have hL3 := PkB.opts_cells hC3
            rw [map_same] at hL3
            have hll : l2.length = (l2.map PkB.ofS).length := by rw [List.length_map]
            rw [List.length_map, List.length_map] at hv11
            rw [List.length_map] at hc3
            obtain ⟨L, hL⟩ : ∃ L, l2.map PkB.ofS = L := ⟨_, rfl⟩
            rw [hL] at hL3 hcl hll hc3 hun
            subst hv11
            have HCC2 : Hid (L.length ≤ c2) := hide (Nat.le_trans (Nat.le_of_eq hll.symm) HCC.out)
            have HLL := hide hll
            have HUN := hide hun
            have HL3 := hide hL3; have HCL := hide hcl; have HC3 := hide hc3; have HSUM := hide hsum
            clear HR hrr hC3 HCL5 HCC hL3 hcl hc3 hsum hL hll hun
            go_upto_region 23 with fail
            have bp6 := HBP.out.below hb hpl
            have m0 := bp6.cell (i := 0) (u := .int .i64 src) rfl
            have m1 := bp6.cell (i := 1) (u := .int .i64 dst) rfl
            have m2 := bp6.cell (i := 2) (u := .int .i64 off) rfl
            have m3 := bp6.cell (i := 3) (u := .int .i64 cc) rfl
            have m4 := bp6.cell (i := 4) (u := .int .i64 cs) rfl
            have m5 := bp6.cell (i := 5) (u := .int .i64 sum) rfl
            have m6 := bp6.cell (i := 6) (u := .int .i64 typ) rfl
            have m7 := bp6.cell (i := 7) (u := .bool x) rfl
            have m8 := bp6.cell (i := 8) (u := .int .u64 seq) rfl
            have m9 := bp6.cell (i := 9) (u := .int .u64 ack) rfl
            have m10 := bp6.cell (i := 10) (u := .int .u32 serv) rfl
            have m11 := bp6.cell (i := 11) (u := .int .i64 code) rfl
            have m12 := bp6.cell (i := 12) (u := .int .u8 i0) rfl
            have m13 := bp6.cell (i := 13) (u := .int .u8 i1) rfl
            have m14 := bp6.cell (i := 14) (u := .int .u8 i2) rfl
            go_upto_region 24 with fail
            have bh := Blk.new wr #[.int .i64 src, .int .i64 dst, .int .i64 off, .int .i64 cc, .int .i64 cs, .int .i64 sum, .int .i64 typ, .bool x, .int .u64 seq, .int .u64 ack, .int .u32 serv, .int .i64 code, .int .u8 i0, .int .u8 i1, .int .u8 i2] 26
            have HBP7 := hide (bp6.alloc (.cells #[.int .i64 src, .int .i64 dst, .int .i64 off, .int .i64 cc, .int .i64 cs, .int .i64 sum, .int .i64 typ, .bool x, .int .u64 seq, .int .u64 ack, .int .u32 serv, .int .i64 code, .int .u8 i0, .int .u8 i1, .int .u8 i2] 26))
            have bq7 := (HBQ.out.below hb hzz).alloc (.cells #[.int .i64 src, .int .i64 dst, .int .i64 off, .int .i64 cc, .int .i64 cs, .int .i64 sum, .int .i64 typ, .bool x, .int .u64 seq, .int .u64 ack, .int .u32 serv, .int .i64 code, .int .u8 i0, .int .u8 i1, .int .u8 i2] 26)
            have hb7 := hb.alloc hb.size (.cells #[.int .i64 src, .int .i64 dst, .int .i64 off, .int .i64 cc, .int .i64 cs, .int .i64 sum, .int .i64 typ, .bool x, .int .u64 seq, .int .u64 ack, .int .u32 serv, .int .i64 code, .int .u8 i0, .int .u8 i1, .int .u8 i2] 26)
            have hzr := hb.size
            have HBR7 := hide ((Below.refl wr.heap.size wr).alloc (Nat.le_refl _) (.cells #[.int .i64 src, .int .i64 dst, .int .i64 off, .int .i64 cc, .int .i64 cs, .int .i64 sum, .int .i64 typ, .bool x, .int .u64 seq, .int .u64 ack, .int .u32 serv, .int .i64 code, .int .u8 i0, .int .u8 i1, .int .u8 i2] 26))
            generalize (wr.alloc (.cells #[.int .i64 src, .int .i64 dst, .int .i64 off, .int .i64 cc, .int .i64 cs, .int .i64 sum, .int .i64 typ, .bool x, .int .u64 seq, .int .u64 ack, .int .u32 serv, .int .i64 code, .int .u8 i0, .int .u8 i1, .int .u8 i2] 26)) = wh at *
            clear bp6 m0 m1 m2 m3 m4 m5 m6 m7 m8 m9 m10 m11 m12 m13 m14 hb HBR
            have r2 := bh.frozen 2
            have r5 := bh.frozen 5
            have c2h := bh.cell (i := 2) (u := .int .i64 off) rfl
            have c5h := bh.cell (i := 5) (u := .int .i64 sum) rfl
            have d2 := bq7.cell (i := 2) (u := .int .i64 (N : Nat)) rfl
            have d5 := bq7.cell (i := 5) (u := .int .i64 (S : Nat)) rfl
            have HBH := hide bh; have HBQ7 := hide bq7; have HB7 := hide hb7
            clear bh bq7 hb7
            as_aux_lemma =>
              go_cut [] (fun wx => Blk wx wr.heap.size #[.int .i64 src, .int .i64 dst, .int .i64 (N : Nat), .int .i64 cc, .int .i64 cs, .int .i64 (S : Nat), .int .i64 typ, .bool x, .int .u64 seq, .int .u64 ack, .int .u32 serv, .int .i64 code, .int .u8 i0, .int .u8 i1, .int .u8 i2] 26 ∧ Blk wx w4.heap.size #[.int .i64 src, .int .i64 dst, .int .i64 (N : Nat), .int .i64 cc, .int .i64 cs, .int .i64 (S : Nat), .int .i64 typ, .bool x, .int .u64 seq, .int .u64 ack, .int .u32 serv, .int .i64 code, .int .u8 i0, .int .u8 i1, .int .u8 i2, .slice A2 l2.length c2, .string data] 29 ∧ Blk wx w.heap.size #[.int .i64 src, .int .i64 dst, .int .i64 off, .int .i64 cc, .int .i64 cs, .int .i64 sum, .int .i64 typ, .bool x, .int .u64 seq, .int .u64 ack, .int .u32 serv, .int .i64 code, .int .u8 i0, .int .u8 i1, .int .u8 i2, .slice A os.length cap, .string data] 29 ∧ Below w5.heap.size w5 wx ∧ Below wr.heap.size wr wx)
              case first =>
                as_aux_lemma =>
                  go_region
                  all_goals go_wp2_with fail
                  all_goals go_meet
                  all_goals first
                    | exact ⟨(HBH.out.drew.set 2 (.int .i64 (N : Nat)) rfl).set 5 (.int .i64 (S : Nat)) rfl, (HBQ7.out.drew.far (p := ⟨wr.heap.size, 2, none⟩) (Nat.ne_of_lt (Nat.lt_of_lt_of_le hzz hzr)) _).far (p := ⟨wr.heap.size, 5, none⟩) (Nat.ne_of_lt (Nat.lt_of_lt_of_le hzz hzr)) _, (HBP7.out.drew.far (p := ⟨wr.heap.size, 2, none⟩) (Nat.ne_of_lt (Nat.lt_of_lt_of_le hpl hzr)) _).far (p := ⟨wr.heap.size, 5, none⟩) (Nat.ne_of_lt (Nat.lt_of_lt_of_le hpl hzr)) _, (HB7.out.drew.setCell (p := ⟨wr.heap.size, 2, none⟩) hzr _).setCell (p := ⟨wr.heap.size, 5, none⟩) hzr _, (HBR7.out.drew.setCell (p := ⟨wr.heap.size, 2, none⟩) (Nat.le_refl _) _).setCell (p := ⟨wr.heap.size, 5, none⟩) (Nat.le_refl _) _⟩
                    | exact ⟨(HBH.out.drew.set 5 (.int .i64 (S : Nat)) rfl).set 2 (.int .i64 (N : Nat)) rfl, (HBQ7.out.drew.far (p := ⟨wr.heap.size, 5, none⟩) (Nat.ne_of_lt (Nat.lt_of_lt_of_le hzz hzr)) _).far (p := ⟨wr.heap.size, 2, none⟩) (Nat.ne_of_lt (Nat.lt_of_lt_of_le hzz hzr)) _, (HBP7.out.drew.far (p := ⟨wr.heap.size, 5, none⟩) (Nat.ne_of_lt (Nat.lt_of_lt_of_le hpl hzr)) _).far (p := ⟨wr.heap.size, 2, none⟩) (Nat.ne_of_lt (Nat.lt_of_lt_of_le hpl hzr)) _, (HB7.out.drew.setCell (p := ⟨wr.heap.size, 5, none⟩) hzr _).setCell (p := ⟨wr.heap.size, 2, none⟩) hzr _, (HBR7.out.drew.setCell (p := ⟨wr.heap.size, 5, none⟩) (Nat.le_refl _) _).setCell (p := ⟨wr.heap.size, 2, none⟩) (Nat.le_refl _) _⟩
              case rest =>
                obtain ⟨bh8, bq8, bp8, hb8, hbr8⟩ := hcut
                clear r2 r5 c2h c5h d2 d5 HBH HBQ7 HB7 HBP7 HBQ HBP HBR7
                have m15 := bp8.cell (i := 15) (u := .slice A os.length cap) rfl
                have hbw := HB5.out.trans (hb8.mono hzw)
                have HBH8 := hide bh8; have HBQ8 := hide bq8; have HBP8 := hide bp8; have HB8 := hide hb8; have HBR8 := hide hbr8; have HBWC := hide hbw
                clear bh8 bq8 bp8 hb8 hbw hbr8
                obtain ⟨po, hpo⟩ : ∃ po, strOfNums (putO os) = po := ⟨_, rfl⟩
                have HPO2 : Hid (∀ (W : World), Below w.heap.size w W → Calls Tryz.prog 22 #[.slice A os.length cap] W fun e w' => e = .returned (.string po) ∧ Below W.heap.size W w') := hide (by rw [← hpo]; exact HPO.out)
                have hsz := HSZ.out
                rw [hpo] at hsz
                clear HPO HSZ hpo
                go_upto_region 26 with (go_at_call 22; refine (HPO2.out _ HBWC.out).mono ?_; rintro e w9 ⟨rfl, hb9⟩)
                have hlh := HBH8.out.lt
                have bh9 := HBH8.out.below hb9 hlh
                have HBQ9 := hide (HBQ8.out.below hb9 HBQ8.out.lt); have HBP9 := hide (HBP8.out.below hb9 HBP8.out.lt)
                have hb99 := HB8.out.trans (hb9.mono HB8.out.size)
                have HB9 := hide hb99
                have HBR9 := hide (HBR8.out.trans (hb9.mono HBR8.out.size))
                clear m15 HPO2 HBWC HBQ8 HBP8 HB8 HBH8 hb9 hlh HBR8
                have n2 := bh9.cell (i := 2) (u := .int .i64 (N : Nat)) rfl
                have n4 := bh9.cell (i := 4) (u := .int .i64 cs) rfl
                have n6 := bh9.cell (i := 6) (u := .int .i64 typ) rfl
                have n7 := bh9.cell (i := 7) (u := .bool x) rfl
                have HBH9 := hide bh9
                clear bh9 hb99
                have hS := fun W => ref_Size typ x W
                have hsz0 : 0 ≤ sizeB typ x := by obtain ⟨z, hz, _⟩ := size_four typ x; omega
                generalize sizeB typ x = Z at *
                have hC := fun W => ref_Covered (b.size : Nat) (4 * (N : Int)) cs W (by omega) (by have := HBZ.out; have := HDZ.out; omega)
                rw [HCOV.out] at hC
                simp only [cond_true] at hC
                rw [HCN.out] at hC
                have HS := hide hS; have HC := hide hC
                have hN3 : (N : Int) ≤ 255 := by omega
                have hN0 : 0 ≤ (N : Int) := by omega
                clear hS hC HCOV HCN
                go_upto_region 28 with (first | (go_at_call 19; refine (HS.out _).mono ?_; rintro e w' ⟨rfl, rfl⟩) | (go_at_call 23; refine (HC.out _).mono ?_; rintro e w' ⟨rfl, rfl⟩))
                clear n2 n4 n6 n7 HS HC
                have hbz : (b.size : Int) = 4 * (N : Int) + (data.size : Int) := by have := HBZ.out; omega
                have hnn : (n : Int) ≤ (b.size : Int) := by have := HNB.out; omega
                have hn0 : 0 ≤ (n : Int) := by omega
                have hdd : (data.size : Int) ≤ 1400 := by have := HDZ.out; omega
                have s1 : (4 * (N : Int) == Z + (po.size : Int)) = true := beq_iff_eq.2 hsz.symm
                have s2 : ((b.size : Int) == 4 * (N : Int) + (data.size : Int)) = true := beq_iff_eq.2 hbz
                have hpz : (po.size : Int) ≤ 1020 := by omega
                have hZ9 : Z ≤ 1020 := by omega
                have h9 : ∀ W : World, (Op.equalIn 9999 24 (.agg #[.int .u8 i0, .int .u8 i1, .int .u8 i2]) (.agg #[.int .u8 i0, .int .u8 i1, .int .u8 i2])).run Tryz.prog W = .ok true W := fun W => by rw [show (9999 : Nat) = 9997 + 2 from rfl, eq_three]; simp
                have hSU := fun W => ref_Sum (b.extract 0 n) (by rw [ByteArray.size_extract]; omega) W
                rw [HSUM.out] at hSU
                have hL9 : L.length ≤ 1048576 := Nat.le_trans HUN.out hn
                have hclw := HCL.out.below HB9.out
                have hO := RO.law_Opts_same A2 A3 c2 c3 wr.heap.size L w9 (by omega) (hclw.more hzr) (HL3.out.below HBR9.out) HCC2.out HC3.out
                rw [← HLL.out] at hO
                have hz9 := HB9.out.size
                have hQ := fun (W : World) (hb : Below w9.heap.size w9 W) => pkt_Eq_same ⟨src, dst, (N : Nat), cc, cs, (S : Nat), typ, x, seq, ack, serv, code, i0, i1, i2⟩ A2 A2 c2 c2 w5.heap.size L data W (hclw.below (hb.mono hz9)) (hclw.below (hb.mono hz9)) (Nat.le_trans hz9 hb.size) (by omega)
                simp only [← HLL.out] at hQ
                try dsimp only at hQ
                have HO := hide hO; have HQ := hide hQ; have HSU := hide hSU
                clear hO hQ hSU hclw HCL HL3 HCC2 HC3 HSUM HUN hL9 hz9 HBR9 HBZ HNB HDZ
                have bq := HBQ9.out
                have bh := HBH9.out
                have p16 := HBP9.out.cell (i := 16) (u := .string data) rfl
                have q0 := bq.cell (i := 0) (u := .int .i64 src) rfl
                have q1 := bq.cell (i := 1) (u := .int .i64 dst) rfl
                have q2 := bq.cell (i := 2) (u := .int .i64 (N : Nat)) rfl
                have q3 := bq.cell (i := 3) (u := .int .i64 cc) rfl
                have q4 := bq.cell (i := 4) (u := .int .i64 cs) rfl
                have q5 := bq.cell (i := 5) (u := .int .i64 (S : Nat)) rfl
                have q6 := bq.cell (i := 6) (u := .int .i64 typ) rfl
                have q7 := bq.cell (i := 7) (u := .bool x) rfl
                have q8 := bq.cell (i := 8) (u := .int .u64 seq) rfl
                have q9 := bq.cell (i := 9) (u := .int .u64 ack) rfl
                have q10 := bq.cell (i := 10) (u := .int .u32 serv) rfl
                have q11 := bq.cell (i := 11) (u := .int .i64 code) rfl
                have q12 := bq.cell (i := 12) (u := .int .u8 i0) rfl
                have q13 := bq.cell (i := 13) (u := .int .u8 i1) rfl
                have q14 := bq.cell (i := 14) (u := .int .u8 i2) rfl
                have q15 := bq.cell (i := 15) (u := .slice A2 l2.length c2) rfl
                have q16 := bq.cell (i := 16) (u := .string data) rfl
                have h0 := bh.cell (i := 0) (u := .int .i64 src) rfl
                have h1 := bh.cell (i := 1) (u := .int .i64 dst) rfl
                have h2 := bh.cell (i := 2) (u := .int .i64 (N : Nat)) rfl
                have h3 := bh.cell (i := 3) (u := .int .i64 cc) rfl
                have h4 := bh.cell (i := 4) (u := .int .i64 cs) rfl
                have h5 := bh.cell (i := 5) (u := .int .i64 (S : Nat)) rfl
                have h6 := bh.cell (i := 6) (u := .int .i64 typ) rfl
                have h7 := bh.cell (i := 7) (u := .bool x) rfl
                have h8 := bh.cell (i := 8) (u := .int .u64 seq) rfl
                have h9 := bh.cell (i := 9) (u := .int .u64 ack) rfl
                have h10 := bh.cell (i := 10) (u := .int .u32 serv) rfl
                have h11 := bh.cell (i := 11) (u := .int .i64 code) rfl
                have h12 := bh.cell (i := 12) (u := .int .u8 i0) rfl
                have h13 := bh.cell (i := 13) (u := .int .u8 i1) rfl
                have h14 := bh.cell (i := 14) (u := .int .u8 i2) rfl
                clear bq bh
                go_wp2_with (first | (go_at_call 20; refine (HO.out).mono ?_; rintro e w10 ⟨rfl, hd10⟩; have hb10 : Below w9.heap.size w9 w10 := (by obtain ⟨z, rfl⟩ := hd10.out; exact below_dnP (Below.refl _ _) z); have HB10 := hide hb10; have bq := HBQ9.out.below hb10 HBQ9.out.lt; have y16 := (HBP9.out.below hb10 HBP9.out.lt).cell (i := 16) (u := .string data) rfl; have y0 := bq.cell (i := 0) (u := .int .i64 src) rfl; have y1 := bq.cell (i := 1) (u := .int .i64 dst) rfl; have y2 := bq.cell (i := 2) (u := .int .i64 (N : Nat)) rfl; have y3 := bq.cell (i := 3) (u := .int .i64 cc) rfl; have y4 := bq.cell (i := 4) (u := .int .i64 cs) rfl; have y5 := bq.cell (i := 5) (u := .int .i64 (S : Nat)) rfl; have y6 := bq.cell (i := 6) (u := .int .i64 typ) rfl; have y7 := bq.cell (i := 7) (u := .bool x) rfl; have y8 := bq.cell (i := 8) (u := .int .u64 seq) rfl; have y9 := bq.cell (i := 9) (u := .int .u64 ack) rfl; have y10 := bq.cell (i := 10) (u := .int .u32 serv) rfl; have y11 := bq.cell (i := 11) (u := .int .i64 code) rfl; have y12 := bq.cell (i := 12) (u := .int .u8 i0) rfl; have y13 := bq.cell (i := 13) (u := .int .u8 i1) rfl; have y14 := bq.cell (i := 14) (u := .int .u8 i2) rfl; have y15 := bq.cell (i := 15) (u := .slice A2 l2.length c2) rfl; have y17 := bq.cell (i := 16) (u := .string data) rfl; clear bq hb10 hd10) | (go_at_call 24; refine (HSU.out _).mono ?_; rintro e w' ⟨rfl, rfl⟩) | (go_at_call 16; refine (HQ.out _ HB10.out).mono ?_; rintro e w11 ⟨rfl, hb11⟩))
                all_goals go_ret
                all_goals exact ⟨rfl, (HB5.out.trans (HB9.out.mono hzw)).trans (((HB10.out.trans (hb11.mono HB10.out.size))).mono (HB5.out.trans (HB9.out.mono hzw)).size)⟩
end Go.Proofs.YtjlnbahanghhcaaGreatDoor
