/- PktTypes: the walk, classes of types (printed by wip/gen/mk_types.py). -/
import Derived.Test.YtdhnfmhbdblkjaaDoorTypesB
import Derived.Test.YtdhnfmhbdblkjaaDoorText
import Derived.StillTailTactics
import Derived.Deep.DeepCutAuto
import Derived.Deep.CutBlock
import Derived.IntWalk
import Derived.Deep.QuietTactic
import Derived.BigQuiet
import Derived.Laws.StructEq
namespace Go.Proofs.YtdhnfmhbdblkjaaDoor
open Go.RowKit
set_option linter.unusedVariables false
set_option linter.unusedSimpArgs false
theorem below_dn2 {B : Nat} {a w : World} (h : Below B a w) (n : Nat) : Below B a (w.drewN n) := ⟨h.os, h.tape, h.output, h.size, h.block⟩

set_option maxHeartbeats 8000000 in
set_option maxRecDepth 100000 in
theorem types_F (HB0 : ∀ W : World, Calls Tryd.prog 6 #[] W fun e w' => e = .returned (.bool true) ∧ Below W.heap.size W w')
    (a0 : Int) (x : Bool) (s a serv c : Int) (data : ByteArray) (w : World) (hd : data.size ≤ 140737488351232) (s0 : 0 ≤ s) (a1 : 0 ≤ a) (v0 : 0 ≤ serv) (v1 : serv < 4294967296) (c0 : 0 ≤ c) (c1 : c < 256)
    (T : Nat) (hT : T = 3 ∨ T = 4) (hm : (wrap64 (a0.tmod 10 + 10)).tmod 10 = (T : Int)) (hX : (x || ((T : Int) != 2 && ((T : Int) != 3 && (T : Int) != 4))) = false) :
    Calls Tryd.prog 3 #[.int .i64 a0, .bool x, .int .u64 s, .int .u64 a, .int .u32 serv, .int .u8 c, .string data] w fun e w' => e = .returned (.bool true) ∧ Below w.heap.size w w' := by
  have HB := hide HB0
  have HT := hide (fun W : World => law_Text data 50 W hd)
  obtain ⟨t, ht⟩ : ∃ t, data.extract 0 (min data.size 50) = t := ⟨_, rfl⟩
  have ht3 : t.size ≤ 50 := by rw [← ht, ByteArray.size_extract]; omega
  rw [ht] at HT
  replace HT : Hid (∀ W : World, Calls Tryd.prog 8 #[.string data, .int .i64 50] W fun e w' => e = .returned (.string t) ∧ W = w') := HT
  clear ht HB0
  obtain ⟨b, N, Sm, hN, hP, hG⟩ := PkB.types_int T (by omega) false (.inr (by omega)) (s % 16777216) (a % 16777216) 0 0 0 0 0 (by omega) (by omega) (by omega) (by omega) (by omega) (by omega) (by omega) (by unfold mostB; rw [if_neg (by decide)]; omega) (by unfold mostB; rw [if_neg (by decide)]; omega) (.inr (by rcases hT with rfl | rfl <;> decide)) (by omega) (.inl rfl) (by omega) (by omega) (by omega) (by omega) (.inr ⟨rfl, rfl, rfl, rfl⟩) t ht3
  have hsz : sizeB (T : Int) false = 16 := (by rcases hT with rfl | rfl <;> decide)
  rw [hsz] at hN
  obtain rfl : N = 4 := by omega
  have PP := hide hP; have PG := hide hG
  have CS : Hid (∀ W : World, Calls Tryd.prog 11 #[.int .i64 (T : Int), .bool false] W fun e w' => e = .returned (.int .i64 16) ∧ w' = W) := hide (fun W => (head_Size (T : Int) false W).mono fun _ _ h => ⟨by rw [h.1, hsz], h.2.symm⟩)
  have CA : Hid (∀ W : World, Calls Tryd.prog 7 #[.int .i64 (T : Int)] W fun e w' => e = .returned (.bool true) ∧ W = w') := hide (fun W => (head_HasAck (T : Int) W).mono fun _ _ h => ⟨h.1.trans (congrArg Ending.returned (congrArg Value.bool (show ackB (T : Int) = true from (by rcases hT with rfl | rfl <;> decide)))), h.2⟩)
  have h9 : ∀ W : World, (Op.equalIn 9999 25 (.agg #[.int .u8 0, .int .u8 0, .int .u8 0]) (.agg #[.int .u8 0, .int .u8 0, .int .u8 0])).run Tryd.prog W = .ok true W := fun W => by rw [show (9999 : Nat) = 9997 + 2 from rfl, eq_three]; simp
  have e0 : ((T : Int) == 0) = false := beq_eq_false_iff_ne.2 (by omega)
  have e1 : ((T : Int) == 1) = false := beq_eq_false_iff_ne.2 (by omega)
  have e7 : ((T : Int) == 7) = false := beq_eq_false_iff_ne.2 (by omega)
  clear hsz
  have H9 := hide h9
  have HX := hide hX
  clear hP hG hN h9 hX hT
  go_enter Tryd.func3, Tryd.ntmps3
  go_upto_region 5 with (go_at_call 6; refine (HB.out _).mono ?_; rintro e w1 ⟨rfl, hb1⟩)
  go_cut [1] (fun s1 wx => s1 = .bool false ∧ w1 = wx)
  case first =>
    have hX := HX.out
    cases x
    · rcases q2 : ((T : Int) != 2) with _ | _ <;> rcases q3 : ((T : Int) != 3) with _ | _ <;> rcases q4 : ((T : Int) != 4) with _ | _
      all_goals
        rw [q2, q3, q4] at hX
        first
          | (exfalso; revert hX; decide)
          | (clear hX; go_wp2; all_goals go_meet; all_goals exact ⟨rfl, rfl⟩)
    · first
        | (exfalso; revert hX; simp; done)
        | (clear hX; go_wp2; all_goals go_meet; all_goals exact ⟨rfl, rfl⟩)
  case rest =>
    obtain ⟨rfl, rfl⟩ := hcut
    clear HX
    go_wp2_with (first | (go_at_call 7; refine (CA.out _).mono ?_; rintro e w' ⟨rfl, rfl⟩) | (go_at_call 8; refine (HT.out _).mono ?_; rintro e w2 ⟨rfl, rfl⟩))
    refine (PP.out _).mono ?_
    rintro e w3 ⟨rfl, hb3⟩
    have m0 : w3.cell? ⟨w1.heap.size, 0, none⟩ = some (.int .i64 7) := (hb3.cell (by simp)).trans (by rw [World.cell?_alloc_at _ _ _ _ rfl]; rfl)
    have m1 : w3.cell? ⟨w1.heap.size, 1, none⟩ = some (.int .i64 9) := (hb3.cell (by simp)).trans (by rw [World.cell?_alloc_at _ _ _ _ rfl]; rfl)
    have m2 : w3.cell? ⟨w1.heap.size, 2, none⟩ = some (.int .i64 0) := (hb3.cell (by simp)).trans (by rw [World.cell?_alloc_at _ _ _ _ rfl]; rfl)
    have m3 : w3.cell? ⟨w1.heap.size, 3, none⟩ = some (.int .i64 0) := (hb3.cell (by simp)).trans (by rw [World.cell?_alloc_at _ _ _ _ rfl]; rfl)
    have m4 : w3.cell? ⟨w1.heap.size, 4, none⟩ = some (.int .i64 0) := (hb3.cell (by simp)).trans (by rw [World.cell?_alloc_at _ _ _ _ rfl]; rfl)
    have m5 : w3.cell? ⟨w1.heap.size, 5, none⟩ = some (.int .i64 0) := (hb3.cell (by simp)).trans (by rw [World.cell?_alloc_at _ _ _ _ rfl]; rfl)
    have m6 : w3.cell? ⟨w1.heap.size, 6, none⟩ = some (.int .i64 (T : Int)) := (hb3.cell (by simp)).trans (by rw [World.cell?_alloc_at _ _ _ _ rfl]; rfl)
    have m7 : w3.cell? ⟨w1.heap.size, 7, none⟩ = some (.bool false) := (hb3.cell (by simp)).trans (by rw [World.cell?_alloc_at _ _ _ _ rfl]; rfl)
    have m8 : w3.cell? ⟨w1.heap.size, 8, none⟩ = some (.int .u64 (s % 16777216)) := (hb3.cell (by simp)).trans (by rw [World.cell?_alloc_at _ _ _ _ rfl]; rfl)
    have m9 : w3.cell? ⟨w1.heap.size, 9, none⟩ = some (.int .u64 (a % 16777216)) := (hb3.cell (by simp)).trans (by rw [World.cell?_alloc_at _ _ _ _ rfl]; rfl)
    have m10 : w3.cell? ⟨w1.heap.size, 10, none⟩ = some (.int .u32 0) := (hb3.cell (by simp)).trans (by rw [World.cell?_alloc_at _ _ _ _ rfl]; rfl)
    have m11 : w3.cell? ⟨w1.heap.size, 11, none⟩ = some (.int .i64 0) := (hb3.cell (by simp)).trans (by rw [World.cell?_alloc_at _ _ _ _ rfl]; rfl)
    have m12 : w3.cell? ⟨w1.heap.size, 12, none⟩ = some (.int .u8 0) := (hb3.cell (by simp)).trans (by rw [World.cell?_alloc_at _ _ _ _ rfl]; rfl)
    have m13 : w3.cell? ⟨w1.heap.size, 13, none⟩ = some (.int .u8 0) := (hb3.cell (by simp)).trans (by rw [World.cell?_alloc_at _ _ _ _ rfl]; rfl)
    have m14 : w3.cell? ⟨w1.heap.size, 14, none⟩ = some (.int .u8 0) := (hb3.cell (by simp)).trans (by rw [World.cell?_alloc_at _ _ _ _ rfl]; rfl)
    have hz3 : w1.heap.size + 1 ≤ w3.heap.size := by have := hb3.size; simpa using this
    replace hb3 := ((hb1.alloc hb1.size _).trans (hb3.mono (by simp; have := hb1.size; omega)))
    have HB3 := hide hb3
    clear hb3
    have HM := hide (And.intro m0 (And.intro m1 (And.intro m2 (And.intro m3 (And.intro m4 (And.intro m5 (And.intro m6 (And.intro m7 (And.intro m8 (And.intro m9 (And.intro m10 (And.intro m11 (And.intro m12 (And.intro m13 m14))))))))))))))
    clear m0 m1 m2 m3 m4 m5 m6 m7 m8 m9 m10 m11 m12 m13 m14
    go_wp2_with fail
    refine (PG.out _).mono ?_
    rintro e w4 ⟨A', c', rfl, hb4⟩
    have hlt : ∀ o, (⟨w1.heap.size, o, none⟩ : Addr).block < w3.heap.size := fun o => by show w1.heap.size < _; omega
    obtain ⟨m0, m1, m2, m3, m4, m5, m6, m7, m8, m9, m10, m11, m12, m13, m14⟩ := HM.out
    have k0 : w4.cell? ⟨w1.heap.size, 0, none⟩ = some (.int .i64 7) := (hb4.cell (hlt 0)).trans m0
    have k1 : w4.cell? ⟨w1.heap.size, 1, none⟩ = some (.int .i64 9) := (hb4.cell (hlt 1)).trans m1
    have k2 : w4.cell? ⟨w1.heap.size, 2, none⟩ = some (.int .i64 0) := (hb4.cell (hlt 2)).trans m2
    have k3 : w4.cell? ⟨w1.heap.size, 3, none⟩ = some (.int .i64 0) := (hb4.cell (hlt 3)).trans m3
    have k4 : w4.cell? ⟨w1.heap.size, 4, none⟩ = some (.int .i64 0) := (hb4.cell (hlt 4)).trans m4
    have k5 : w4.cell? ⟨w1.heap.size, 5, none⟩ = some (.int .i64 0) := (hb4.cell (hlt 5)).trans m5
    have k6 : w4.cell? ⟨w1.heap.size, 6, none⟩ = some (.int .i64 (T : Int)) := (hb4.cell (hlt 6)).trans m6
    have k7 : w4.cell? ⟨w1.heap.size, 7, none⟩ = some (.bool false) := (hb4.cell (hlt 7)).trans m7
    have k8 : w4.cell? ⟨w1.heap.size, 8, none⟩ = some (.int .u64 (s % 16777216)) := (hb4.cell (hlt 8)).trans m8
    have k9 : w4.cell? ⟨w1.heap.size, 9, none⟩ = some (.int .u64 (a % 16777216)) := (hb4.cell (hlt 9)).trans m9
    have k10 : w4.cell? ⟨w1.heap.size, 10, none⟩ = some (.int .u32 0) := (hb4.cell (hlt 10)).trans m10
    have k11 : w4.cell? ⟨w1.heap.size, 11, none⟩ = some (.int .i64 0) := (hb4.cell (hlt 11)).trans m11
    have k12 : w4.cell? ⟨w1.heap.size, 12, none⟩ = some (.int .u8 0) := (hb4.cell (hlt 12)).trans m12
    have k13 : w4.cell? ⟨w1.heap.size, 13, none⟩ = some (.int .u8 0) := (hb4.cell (hlt 13)).trans m13
    have k14 : w4.cell? ⟨w1.heap.size, 14, none⟩ = some (.int .u8 0) := (hb4.cell (hlt 14)).trans m14
    have hz4 : w3.heap.size ≤ w4.heap.size := hb4.size
    have hl4 : w1.heap.size < w4.heap.size := by omega
    have hn4 : ¬ (w1.heap.size = w4.heap.size) := by omega
    have hn4' : ¬ (w4.heap.size = w1.heap.size) := by omega
    have hb5 := HB3.out.trans (hb4.mono HB3.out.size)
    have HB5 := hide hb5
    clear hb4 hb5 hz3 hlt hz4 HM m0 m1 m2 m3 m4 m5 m6 m7 m8 m9 m10 m11 m12 m13 m14
    go_upto_region 21 with fail
    go_quiet ((go_at_call 11; exact Calls.quiet_of_same (CS.out _)))
    have h9 := H9.out
    clear H9
    go_wp2
    go_ret
    exact ⟨rfl, by repeat (first | exact HB5.out | (refine Below.setCell ?_ (show w.heap.size ≤ w4.heap.size from HB5.out.size) _) | (refine below_dn2 ?_ _) | (refine Below.alloc ?_ HB5.out.size _))⟩

set_option maxHeartbeats 8000000 in
set_option maxRecDepth 100000 in
theorem types_G (HB0 : ∀ W : World, Calls Tryd.prog 6 #[] W fun e w' => e = .returned (.bool true) ∧ Below W.heap.size W w')
    (a0 : Int) (x : Bool) (s a serv c : Int) (data : ByteArray) (w : World) (hd : data.size ≤ 140737488351232) (s0 : 0 ≤ s) (a1 : 0 ≤ a) (v0 : 0 ≤ serv) (v1 : serv < 4294967296) (c0 : 0 ≤ c) (c1 : c < 256)
    (hm : (wrap64 (a0.tmod 10 + 10)).tmod 10 = 2) (hX : (x || (2 != 2 && (2 != 3 && 2 != 4))) = false) :
    Calls Tryd.prog 3 #[.int .i64 a0, .bool x, .int .u64 s, .int .u64 a, .int .u32 serv, .int .u8 c, .string data] w fun e w' => e = .returned (.bool true) ∧ Below w.heap.size w w' := by
  have HB := hide HB0
  have HT := hide (fun W : World => law_Text data 50 W hd)
  obtain ⟨t, ht⟩ : ∃ t, data.extract 0 (min data.size 50) = t := ⟨_, rfl⟩
  have ht3 : t.size ≤ 50 := by rw [← ht, ByteArray.size_extract]; omega
  rw [ht] at HT
  replace HT : Hid (∀ W : World, Calls Tryd.prog 8 #[.string data, .int .i64 50] W fun e w' => e = .returned (.string t) ∧ W = w') := HT
  clear ht HB0
  obtain ⟨b, N, Sm, hN, hP, hG⟩ := PkB.types_int 2 (by omega) false (.inr (by omega)) (s % 16777216) (0) 0 0 0 0 0 (by omega) (by omega) (by omega) (by omega) (by omega) (by omega) (by omega) (by unfold mostB; rw [if_neg (by decide)]; omega) (by decide) (.inl rfl) (by omega) (.inl rfl) (by omega) (by omega) (by omega) (by omega) (.inr ⟨rfl, rfl, rfl, rfl⟩) t ht3
  rw [show sizeB ((2 : Nat) : Int) false = 12 from by decide] at hN
  obtain rfl : N = 3 := by omega
  have PP := hide hP; have PG := hide hG
  have CS : Hid (∀ W : World, Calls Tryd.prog 11 #[.int .i64 2, .bool false] W fun e w' => e = .returned (.int .i64 12) ∧ w' = W) := hide (fun W => (head_Size 2 false W).mono fun _ _ h => ⟨h.1, h.2.symm⟩)
  have CA : Hid (∀ W : World, Calls Tryd.prog 7 #[.int .i64 2] W fun e w' => e = .returned (.bool false) ∧ W = w') := hide (fun W => (head_HasAck 2 W).mono fun _ _ h => ⟨h.1.trans (congrArg Ending.returned (congrArg Value.bool (show ackB 2 = false from (by decide)))), h.2⟩)
  have h9 : ∀ W : World, (Op.equalIn 9999 25 (.agg #[.int .u8 0, .int .u8 0, .int .u8 0]) (.agg #[.int .u8 0, .int .u8 0, .int .u8 0])).run Tryd.prog W = .ok true W := fun W => by rw [show (9999 : Nat) = 9997 + 2 from rfl, eq_three]; simp
  have H9 := hide h9
  have HX := hide hX
  clear hP hG hN h9 hX
  go_enter Tryd.func3, Tryd.ntmps3
  go_upto_region 5 with (go_at_call 6; refine (HB.out _).mono ?_; rintro e w1 ⟨rfl, hb1⟩)
  go_cut [1] (fun s1 wx => s1 = .bool false ∧ w1 = wx)
  case first =>
    have hX := HX.out
    cases x
    · skip
      all_goals
        first
          | (exfalso; revert hX; decide)
          | (clear hX; go_wp2; all_goals go_meet; all_goals exact ⟨rfl, rfl⟩)
    · first
        | (exfalso; revert hX; simp; done)
        | (clear hX; go_wp2; all_goals go_meet; all_goals exact ⟨rfl, rfl⟩)
  case rest =>
    obtain ⟨rfl, rfl⟩ := hcut
    clear HX
    go_wp2_with (first | (go_at_call 7; refine (CA.out _).mono ?_; rintro e w' ⟨rfl, rfl⟩) | (go_at_call 8; refine (HT.out _).mono ?_; rintro e w2 ⟨rfl, rfl⟩))
    refine (PP.out _).mono ?_
    rintro e w3 ⟨rfl, hb3⟩
    have m0 : w3.cell? ⟨w1.heap.size, 0, none⟩ = some (.int .i64 7) := (hb3.cell (by simp)).trans (by rw [World.cell?_alloc_at _ _ _ _ rfl]; rfl)
    have m1 : w3.cell? ⟨w1.heap.size, 1, none⟩ = some (.int .i64 9) := (hb3.cell (by simp)).trans (by rw [World.cell?_alloc_at _ _ _ _ rfl]; rfl)
    have m2 : w3.cell? ⟨w1.heap.size, 2, none⟩ = some (.int .i64 0) := (hb3.cell (by simp)).trans (by rw [World.cell?_alloc_at _ _ _ _ rfl]; rfl)
    have m3 : w3.cell? ⟨w1.heap.size, 3, none⟩ = some (.int .i64 0) := (hb3.cell (by simp)).trans (by rw [World.cell?_alloc_at _ _ _ _ rfl]; rfl)
    have m4 : w3.cell? ⟨w1.heap.size, 4, none⟩ = some (.int .i64 0) := (hb3.cell (by simp)).trans (by rw [World.cell?_alloc_at _ _ _ _ rfl]; rfl)
    have m5 : w3.cell? ⟨w1.heap.size, 5, none⟩ = some (.int .i64 0) := (hb3.cell (by simp)).trans (by rw [World.cell?_alloc_at _ _ _ _ rfl]; rfl)
    have m6 : w3.cell? ⟨w1.heap.size, 6, none⟩ = some (.int .i64 2) := (hb3.cell (by simp)).trans (by rw [World.cell?_alloc_at _ _ _ _ rfl]; rfl)
    have m7 : w3.cell? ⟨w1.heap.size, 7, none⟩ = some (.bool false) := (hb3.cell (by simp)).trans (by rw [World.cell?_alloc_at _ _ _ _ rfl]; rfl)
    have m8 : w3.cell? ⟨w1.heap.size, 8, none⟩ = some (.int .u64 (s % 16777216)) := (hb3.cell (by simp)).trans (by rw [World.cell?_alloc_at _ _ _ _ rfl]; rfl)
    have m9 : w3.cell? ⟨w1.heap.size, 9, none⟩ = some (.int .u64 (0)) := (hb3.cell (by simp)).trans (by rw [World.cell?_alloc_at _ _ _ _ rfl]; rfl)
    have m10 : w3.cell? ⟨w1.heap.size, 10, none⟩ = some (.int .u32 0) := (hb3.cell (by simp)).trans (by rw [World.cell?_alloc_at _ _ _ _ rfl]; rfl)
    have m11 : w3.cell? ⟨w1.heap.size, 11, none⟩ = some (.int .i64 0) := (hb3.cell (by simp)).trans (by rw [World.cell?_alloc_at _ _ _ _ rfl]; rfl)
    have m12 : w3.cell? ⟨w1.heap.size, 12, none⟩ = some (.int .u8 0) := (hb3.cell (by simp)).trans (by rw [World.cell?_alloc_at _ _ _ _ rfl]; rfl)
    have m13 : w3.cell? ⟨w1.heap.size, 13, none⟩ = some (.int .u8 0) := (hb3.cell (by simp)).trans (by rw [World.cell?_alloc_at _ _ _ _ rfl]; rfl)
    have m14 : w3.cell? ⟨w1.heap.size, 14, none⟩ = some (.int .u8 0) := (hb3.cell (by simp)).trans (by rw [World.cell?_alloc_at _ _ _ _ rfl]; rfl)
    have hz3 : w1.heap.size + 1 ≤ w3.heap.size := by have := hb3.size; simpa using this
    replace hb3 := ((hb1.alloc hb1.size _).trans (hb3.mono (by simp; have := hb1.size; omega)))
    have HB3 := hide hb3
    clear hb3
    have HM := hide (And.intro m0 (And.intro m1 (And.intro m2 (And.intro m3 (And.intro m4 (And.intro m5 (And.intro m6 (And.intro m7 (And.intro m8 (And.intro m9 (And.intro m10 (And.intro m11 (And.intro m12 (And.intro m13 m14))))))))))))))
    clear m0 m1 m2 m3 m4 m5 m6 m7 m8 m9 m10 m11 m12 m13 m14
    go_wp2_with fail
    refine (PG.out _).mono ?_
    rintro e w4 ⟨A', c', rfl, hb4⟩
    have hlt : ∀ o, (⟨w1.heap.size, o, none⟩ : Addr).block < w3.heap.size := fun o => by show w1.heap.size < _; omega
    obtain ⟨m0, m1, m2, m3, m4, m5, m6, m7, m8, m9, m10, m11, m12, m13, m14⟩ := HM.out
    have k0 : w4.cell? ⟨w1.heap.size, 0, none⟩ = some (.int .i64 7) := (hb4.cell (hlt 0)).trans m0
    have k1 : w4.cell? ⟨w1.heap.size, 1, none⟩ = some (.int .i64 9) := (hb4.cell (hlt 1)).trans m1
    have k2 : w4.cell? ⟨w1.heap.size, 2, none⟩ = some (.int .i64 0) := (hb4.cell (hlt 2)).trans m2
    have k3 : w4.cell? ⟨w1.heap.size, 3, none⟩ = some (.int .i64 0) := (hb4.cell (hlt 3)).trans m3
    have k4 : w4.cell? ⟨w1.heap.size, 4, none⟩ = some (.int .i64 0) := (hb4.cell (hlt 4)).trans m4
    have k5 : w4.cell? ⟨w1.heap.size, 5, none⟩ = some (.int .i64 0) := (hb4.cell (hlt 5)).trans m5
    have k6 : w4.cell? ⟨w1.heap.size, 6, none⟩ = some (.int .i64 2) := (hb4.cell (hlt 6)).trans m6
    have k7 : w4.cell? ⟨w1.heap.size, 7, none⟩ = some (.bool false) := (hb4.cell (hlt 7)).trans m7
    have k8 : w4.cell? ⟨w1.heap.size, 8, none⟩ = some (.int .u64 (s % 16777216)) := (hb4.cell (hlt 8)).trans m8
    have k9 : w4.cell? ⟨w1.heap.size, 9, none⟩ = some (.int .u64 (0)) := (hb4.cell (hlt 9)).trans m9
    have k10 : w4.cell? ⟨w1.heap.size, 10, none⟩ = some (.int .u32 0) := (hb4.cell (hlt 10)).trans m10
    have k11 : w4.cell? ⟨w1.heap.size, 11, none⟩ = some (.int .i64 0) := (hb4.cell (hlt 11)).trans m11
    have k12 : w4.cell? ⟨w1.heap.size, 12, none⟩ = some (.int .u8 0) := (hb4.cell (hlt 12)).trans m12
    have k13 : w4.cell? ⟨w1.heap.size, 13, none⟩ = some (.int .u8 0) := (hb4.cell (hlt 13)).trans m13
    have k14 : w4.cell? ⟨w1.heap.size, 14, none⟩ = some (.int .u8 0) := (hb4.cell (hlt 14)).trans m14
    have hz4 : w3.heap.size ≤ w4.heap.size := hb4.size
    have hl4 : w1.heap.size < w4.heap.size := by omega
    have hn4 : ¬ (w1.heap.size = w4.heap.size) := by omega
    have hn4' : ¬ (w4.heap.size = w1.heap.size) := by omega
    have hb5 := HB3.out.trans (hb4.mono HB3.out.size)
    have HB5 := hide hb5
    clear hb4 hb5 hz3 hlt hz4 HM m0 m1 m2 m3 m4 m5 m6 m7 m8 m9 m10 m11 m12 m13 m14
    go_upto_region 21 with fail
    go_quiet ((go_at_call 11; exact Calls.quiet_of_same (CS.out _)))
    have h9 := H9.out
    clear H9
    go_wp2
    go_ret
    exact ⟨rfl, by repeat (first | exact HB5.out | (refine Below.setCell ?_ (show w.heap.size ≤ w4.heap.size from HB5.out.size) _) | (refine below_dn2 ?_ _) | (refine Below.alloc ?_ HB5.out.size _))⟩
end Go.Proofs.YtdhnfmhbdblkjaaDoor
