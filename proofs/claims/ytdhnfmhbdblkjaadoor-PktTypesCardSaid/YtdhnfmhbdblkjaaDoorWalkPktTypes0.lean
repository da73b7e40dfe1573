/- PktTypes: the walk, classes of types (printed by wip/gen/mk_types.py). -/
import Derived.Test.YtdhnfmhbdblkjaaDoorTypesB
import Derived.Test.YtdhnfmhbdblkjaaDoorText
import Derived.StillTailTactics
import Derived.Deep.DeepCutAuto
import Derived.Deep.CutBlock
import Derived.IntWalk
import Derived.Deep.QuietTactic
import Derived.BigQuiet
import Derived.Laws.StructEq
namespace Go.Proofs.YtdhnfmhbdblkjaaDoor
open Go.RowKit
set_option linter.unusedVariables false
set_option linter.unusedSimpArgs false
theorem below_dn0 {B : Nat} {a w : World} (h : Below B a w) (n : Nat) : Below B a (w.drewN n) := ⟨h.os, h.tape, h.output, h.size, h.block⟩

set_option maxHeartbeats 8000000 in
set_option maxRecDepth 100000 in
theorem types_A (HB0 : ∀ W : World, Calls Tryd.prog 6 #[] W fun e w' => e = .returned (.bool true) ∧ Below W.heap.size W w')
    (a0 : Int) (x : Bool) (s a serv c : Int) (data : ByteArray) (w : World) (hd : data.size ≤ 140737488351232) (s0 : 0 ≤ s) (a1 : 0 ≤ a) (v0 : 0 ≤ serv) (v1 : serv < 4294967296) (c0 : 0 ≤ c) (c1 : c < 256)
    (hm : (wrap64 (a0.tmod 10 + 10)).tmod 10 = 0) (hX : (x || (0 != 2 && (0 != 3 && 0 != 4))) = true) :
    Calls Tryd.prog 3 #[.int .i64 a0, .bool x, .int .u64 s, .int .u64 a, .int .u32 serv, .int .u8 c, .string data] w fun e w' => e = .returned (.bool true) ∧ Below w.heap.size w w' := by
  have HB := hide HB0
  have HT := hide (fun W : World => law_Text data 50 W hd)
  obtain ⟨t, ht⟩ : ∃ t, data.extract 0 (min data.size 50) = t := ⟨_, rfl⟩
  have ht3 : t.size ≤ 50 := by rw [← ht, ByteArray.size_extract]; omega
  rw [ht] at HT
  replace HT : Hid (∀ W : World, Calls Tryd.prog 8 #[.string data, .int .i64 50] W fun e w' => e = .returned (.string t) ∧ W = w') := HT
  clear ht HB0
  obtain ⟨b, N, Sm, hN, hP, hG⟩ := PkB.types_int 0 (by omega) true (.inl rfl) (s % 281474976710656) (0) serv 0 0 0 0 (by omega) (by omega) (by omega) (by omega) (by omega) (by omega) (by omega) (by unfold mostB; rw [if_pos rfl]; omega) (by decide) (.inl rfl) (by omega) (.inr (by decide)) (by omega) (by omega) (by omega) (by omega) (.inr ⟨rfl, rfl, rfl, rfl⟩) t ht3
  rw [show sizeB ((0 : Nat) : Int) true = 20 from by decide] at hN
  obtain rfl : N = 5 := by omega
  have PP := hide hP; have PG := hide hG
  have CS : Hid (∀ W : World, Calls Tryd.prog 11 #[.int .i64 0, .bool true] W fun e w' => e = .returned (.int .i64 20) ∧ w' = W) := hide (fun W => (head_Size 0 true W).mono fun _ _ h => ⟨h.1, h.2.symm⟩)
  have CA : Hid (∀ W : World, Calls Tryd.prog 7 #[.int .i64 0] W fun e w' => e = .returned (.bool false) ∧ W = w') := hide (fun W => (head_HasAck 0 W).mono fun _ _ h => ⟨h.1.trans (congrArg Ending.returned (congrArg Value.bool (show ackB 0 = false from (by decide)))), h.2⟩)
  have h9 : ∀ W : World, (Op.equalIn 9999 25 (.agg #[.int .u8 0, .int .u8 0, .int .u8 0]) (.agg #[.int .u8 0, .int .u8 0, .int .u8 0])).run Tryd.prog W = .ok true W := fun W => by rw [show (9999 : Nat) = 9997 + 2 from rfl, eq_three]; simp
  have H9 := hide h9
  have HX := hide hX
  clear hP hG hN h9 hX
  go_enter Tryd.func3, Tryd.ntmps3
  go_upto_region 5 with (go_at_call 6; refine (HB.out _).mono ?_; rintro e w1 ⟨rfl, hb1⟩)
  go_cut [1] (fun s1 wx => s1 = .bool true ∧ w1 = wx)
  case first =>
    have hX := HX.out
    cases x
    · skip
      all_goals
        first
          | (exfalso; revert hX; decide)
          | (clear hX; go_wp2; all_goals go_meet; all_goals exact ⟨rfl, rfl⟩)
    · first
        | (exfalso; revert hX; simp; done)
        | (clear hX; go_wp2; all_goals go_meet; all_goals exact ⟨rfl, rfl⟩)
  case rest =>
    obtain ⟨rfl, rfl⟩ := hcut
    clear HX
    go_wp2_with (first | (go_at_call 7; refine (CA.out _).mono ?_; rintro e w' ⟨rfl, rfl⟩) | (go_at_call 8; refine (HT.out _).mono ?_; rintro e w2 ⟨rfl, rfl⟩))
    refine (PP.out _).mono ?_
    rintro e w3 ⟨rfl, hb3⟩
    have m0 : w3.cell? ⟨w1.heap.size, 0, none⟩ = some (.int .i64 7) := (hb3.cell (by simp)).trans (by rw [World.cell?_alloc_at _ _ _ _ rfl]; rfl)
    have m1 : w3.cell? ⟨w1.heap.size, 1, none⟩ = some (.int .i64 9) := (hb3.cell (by simp)).trans (by rw [World.cell?_alloc_at _ _ _ _ rfl]; rfl)
    have m2 : w3.cell? ⟨w1.heap.size, 2, none⟩ = some (.int .i64 0) := (hb3.cell (by simp)).trans (by rw [World.cell?_alloc_at _ _ _ _ rfl]; rfl)
    have m3 : w3.cell? ⟨w1.heap.size, 3, none⟩ = some (.int .i64 0) := (hb3.cell (by simp)).trans (by rw [World.cell?_alloc_at _ _ _ _ rfl]; rfl)
    have m4 : w3.cell? ⟨w1.heap.size, 4, none⟩ = some (.int .i64 0) := (hb3.cell (by simp)).trans (by rw [World.cell?_alloc_at _ _ _ _ rfl]; rfl)
    have m5 : w3.cell? ⟨w1.heap.size, 5, none⟩ = some (.int .i64 0) := (hb3.cell (by simp)).trans (by rw [World.cell?_alloc_at _ _ _ _ rfl]; rfl)
    have m6 : w3.cell? ⟨w1.heap.size, 6, none⟩ = some (.int .i64 0) := (hb3.cell (by simp)).trans (by rw [World.cell?_alloc_at _ _ _ _ rfl]; rfl)
    have m7 : w3.cell? ⟨w1.heap.size, 7, none⟩ = some (.bool true) := (hb3.cell (by simp)).trans (by rw [World.cell?_alloc_at _ _ _ _ rfl]; rfl)
    have m8 : w3.cell? ⟨w1.heap.size, 8, none⟩ = some (.int .u64 (s % 281474976710656)) := (hb3.cell (by simp)).trans (by rw [World.cell?_alloc_at _ _ _ _ rfl]; rfl)
    have m9 : w3.cell? ⟨w1.heap.size, 9, none⟩ = some (.int .u64 (0)) := (hb3.cell (by simp)).trans (by rw [World.cell?_alloc_at _ _ _ _ rfl]; rfl)
    have m10 : w3.cell? ⟨w1.heap.size, 10, none⟩ = some (.int .u32 serv) := (hb3.cell (by simp)).trans (by rw [World.cell?_alloc_at _ _ _ _ rfl]; rfl)
    have m11 : w3.cell? ⟨w1.heap.size, 11, none⟩ = some (.int .i64 0) := (hb3.cell (by simp)).trans (by rw [World.cell?_alloc_at _ _ _ _ rfl]; rfl)
    have m12 : w3.cell? ⟨w1.heap.size, 12, none⟩ = some (.int .u8 0) := (hb3.cell (by simp)).trans (by rw [World.cell?_alloc_at _ _ _ _ rfl]; rfl)
    have m13 : w3.cell? ⟨w1.heap.size, 13, none⟩ = some (.int .u8 0) := (hb3.cell (by simp)).trans (by rw [World.cell?_alloc_at _ _ _ _ rfl]; rfl)
    have m14 : w3.cell? ⟨w1.heap.size, 14, none⟩ = some (.int .u8 0) := (hb3.cell (by simp)).trans (by rw [World.cell?_alloc_at _ _ _ _ rfl]; rfl)
    have hz3 : w1.heap.size + 1 ≤ w3.heap.size := by have := hb3.size; simpa using this
    replace hb3 := ((hb1.alloc hb1.size _).trans (hb3.mono (by simp; have := hb1.size; omega)))
    have HB3 := hide hb3
    clear hb3
    have HM := hide (And.intro m0 (And.intro m1 (And.intro m2 (And.intro m3 (And.intro m4 (And.intro m5 (And.intro m6 (And.intro m7 (And.intro m8 (And.intro m9 (And.intro m10 (And.intro m11 (And.intro m12 (And.intro m13 m14))))))))))))))
    clear m0 m1 m2 m3 m4 m5 m6 m7 m8 m9 m10 m11 m12 m13 m14
    go_wp2_with fail
    refine (PG.out _).mono ?_
    rintro e w4 ⟨A', c', rfl, hb4⟩
    have hlt : ∀ o, (⟨w1.heap.size, o, none⟩ : Addr).block < w3.heap.size := fun o => by show w1.heap.size < _; omega
    obtain ⟨m0, m1, m2, m3, m4, m5, m6, m7, m8, m9, m10, m11, m12, m13, m14⟩ := HM.out
    have k0 : w4.cell? ⟨w1.heap.size, 0, none⟩ = some (.int .i64 7) := (hb4.cell (hlt 0)).trans m0
    have k1 : w4.cell? ⟨w1.heap.size, 1, none⟩ = some (.int .i64 9) := (hb4.cell (hlt 1)).trans m1
    have k2 : w4.cell? ⟨w1.heap.size, 2, none⟩ = some (.int .i64 0) := (hb4.cell (hlt 2)).trans m2
    have k3 : w4.cell? ⟨w1.heap.size, 3, none⟩ = some (.int .i64 0) := (hb4.cell (hlt 3)).trans m3
    have k4 : w4.cell? ⟨w1.heap.size, 4, none⟩ = some (.int .i64 0) := (hb4.cell (hlt 4)).trans m4
    have k5 : w4.cell? ⟨w1.heap.size, 5, none⟩ = some (.int .i64 0) := (hb4.cell (hlt 5)).trans m5
    have k6 : w4.cell? ⟨w1.heap.size, 6, none⟩ = some (.int .i64 0) := (hb4.cell (hlt 6)).trans m6
    have k7 : w4.cell? ⟨w1.heap.size, 7, none⟩ = some (.bool true) := (hb4.cell (hlt 7)).trans m7
    have k8 : w4.cell? ⟨w1.heap.size, 8, none⟩ = some (.int .u64 (s % 281474976710656)) := (hb4.cell (hlt 8)).trans m8
    have k9 : w4.cell? ⟨w1.heap.size, 9, none⟩ = some (.int .u64 (0)) := (hb4.cell (hlt 9)).trans m9
    have k10 : w4.cell? ⟨w1.heap.size, 10, none⟩ = some (.int .u32 serv) := (hb4.cell (hlt 10)).trans m10
    have k11 : w4.cell? ⟨w1.heap.size, 11, none⟩ = some (.int .i64 0) := (hb4.cell (hlt 11)).trans m11
    have k12 : w4.cell? ⟨w1.heap.size, 12, none⟩ = some (.int .u8 0) := (hb4.cell (hlt 12)).trans m12
    have k13 : w4.cell? ⟨w1.heap.size, 13, none⟩ = some (.int .u8 0) := (hb4.cell (hlt 13)).trans m13
    have k14 : w4.cell? ⟨w1.heap.size, 14, none⟩ = some (.int .u8 0) := (hb4.cell (hlt 14)).trans m14
    have hz4 : w3.heap.size ≤ w4.heap.size := hb4.size
    have hl4 : w1.heap.size < w4.heap.size := by omega
    have hn4 : ¬ (w1.heap.size = w4.heap.size) := by omega
    have hn4' : ¬ (w4.heap.size = w1.heap.size) := by omega
    have hb5 := HB3.out.trans (hb4.mono HB3.out.size)
    have HB5 := hide hb5
    clear hb4 hb5 hz3 hlt hz4 HM m0 m1 m2 m3 m4 m5 m6 m7 m8 m9 m10 m11 m12 m13 m14
    go_upto_region 21 with fail
    go_quiet ((go_at_call 11; exact Calls.quiet_of_same (CS.out _)))
    have h9 := H9.out
    clear H9
    go_wp2
    go_ret
    exact ⟨rfl, by repeat (first | exact HB5.out | (refine Below.setCell ?_ (show w.heap.size ≤ w4.heap.size from HB5.out.size) _) | (refine below_dn0 ?_ _) | (refine Below.alloc ?_ HB5.out.size _))⟩

set_option maxHeartbeats 8000000 in
set_option maxRecDepth 100000 in
theorem types_B (HB0 : ∀ W : World, Calls Tryd.prog 6 #[] W fun e w' => e = .returned (.bool true) ∧ Below W.heap.size W w')
    (a0 : Int) (x : Bool) (s a serv c : Int) (data : ByteArray) (w : World) (hd : data.size ≤ 140737488351232) (s0 : 0 ≤ s) (a1 : 0 ≤ a) (v0 : 0 ≤ serv) (v1 : serv < 4294967296) (c0 : 0 ≤ c) (c1 : c < 256)
    (hm : (wrap64 (a0.tmod 10 + 10)).tmod 10 = 1) (hX : (x || (1 != 2 && (1 != 3 && 1 != 4))) = true) :
    Calls Tryd.prog 3 #[.int .i64 a0, .bool x, .int .u64 s, .int .u64 a, .int .u32 serv, .int .u8 c, .string data] w fun e w' => e = .returned (.bool true) ∧ Below w.heap.size w w' := by
  have HB := hide HB0
  have HT := hide (fun W : World => law_Text data 50 W hd)
  obtain ⟨t, ht⟩ : ∃ t, data.extract 0 (min data.size 50) = t := ⟨_, rfl⟩
  have ht3 : t.size ≤ 50 := by rw [← ht, ByteArray.size_extract]; omega
  rw [ht] at HT
  replace HT : Hid (∀ W : World, Calls Tryd.prog 8 #[.string data, .int .i64 50] W fun e w' => e = .returned (.string t) ∧ W = w') := HT
  clear ht HB0
  obtain ⟨b, N, Sm, hN, hP, hG⟩ := PkB.types_int 1 (by omega) true (.inl rfl) (s % 281474976710656) (a % 281474976710656) serv 0 0 0 0 (by omega) (by omega) (by omega) (by omega) (by omega) (by omega) (by omega) (by unfold mostB; rw [if_pos rfl]; omega) (by unfold mostB; rw [if_pos rfl]; omega) (.inr (by decide)) (by omega) (.inr (by decide)) (by omega) (by omega) (by omega) (by omega) (.inr ⟨rfl, rfl, rfl, rfl⟩) t ht3
  rw [show sizeB ((1 : Nat) : Int) true = 28 from by decide] at hN
  obtain rfl : N = 7 := by omega
  have PP := hide hP; have PG := hide hG
  have CS : Hid (∀ W : World, Calls Tryd.prog 11 #[.int .i64 1, .bool true] W fun e w' => e = .returned (.int .i64 28) ∧ w' = W) := hide (fun W => (head_Size 1 true W).mono fun _ _ h => ⟨h.1, h.2.symm⟩)
  have CA : Hid (∀ W : World, Calls Tryd.prog 7 #[.int .i64 1] W fun e w' => e = .returned (.bool true) ∧ W = w') := hide (fun W => (head_HasAck 1 W).mono fun _ _ h => ⟨h.1.trans (congrArg Ending.returned (congrArg Value.bool (show ackB 1 = true from (by decide)))), h.2⟩)
  have h9 : ∀ W : World, (Op.equalIn 9999 25 (.agg #[.int .u8 0, .int .u8 0, .int .u8 0]) (.agg #[.int .u8 0, .int .u8 0, .int .u8 0])).run Tryd.prog W = .ok true W := fun W => by rw [show (9999 : Nat) = 9997 + 2 from rfl, eq_three]; simp
  have H9 := hide h9
  have HX := hide hX
  clear hP hG hN h9 hX
  go_enter Tryd.func3, Tryd.ntmps3
  go_upto_region 5 with (go_at_call 6; refine (HB.out _).mono ?_; rintro e w1 ⟨rfl, hb1⟩)
  go_cut [1] (fun s1 wx => s1 = .bool true ∧ w1 = wx)
  case first =>
    have hX := HX.out
    cases x
    · skip
      all_goals
        first
          | (exfalso; revert hX; decide)
          | (clear hX; go_wp2; all_goals go_meet; all_goals exact ⟨rfl, rfl⟩)
    · first
        | (exfalso; revert hX; simp; done)
        | (clear hX; go_wp2; all_goals go_meet; all_goals exact ⟨rfl, rfl⟩)
  case rest =>
    obtain ⟨rfl, rfl⟩ := hcut
    clear HX
    go_wp2_with (first | (go_at_call 7; refine (CA.out _).mono ?_; rintro e w' ⟨rfl, rfl⟩) | (go_at_call 8; refine (HT.out _).mono ?_; rintro e w2 ⟨rfl, rfl⟩))
    refine (PP.out _).mono ?_
    rintro e w3 ⟨rfl, hb3⟩
    have m0 : w3.cell? ⟨w1.heap.size, 0, none⟩ = some (.int .i64 7) := (hb3.cell (by simp)).trans (by rw [World.cell?_alloc_at _ _ _ _ rfl]; rfl)
    have m1 : w3.cell? ⟨w1.heap.size, 1, none⟩ = some (.int .i64 9) := (hb3.cell (by simp)).trans (by rw [World.cell?_alloc_at _ _ _ _ rfl]; rfl)
    have m2 : w3.cell? ⟨w1.heap.size, 2, none⟩ = some (.int .i64 0) := (hb3.cell (by simp)).trans (by rw [World.cell?_alloc_at _ _ _ _ rfl]; rfl)
    have m3 : w3.cell? ⟨w1.heap.size, 3, none⟩ = some (.int .i64 0) := (hb3.cell (by simp)).trans (by rw [World.cell?_alloc_at _ _ _ _ rfl]; rfl)
    have m4 : w3.cell? ⟨w1.heap.size, 4, none⟩ = some (.int .i64 0) := (hb3.cell (by simp)).trans (by rw [World.cell?_alloc_at _ _ _ _ rfl]; rfl)
    have m5 : w3.cell? ⟨w1.heap.size, 5, none⟩ = some (.int .i64 0) := (hb3.cell (by simp)).trans (by rw [World.cell?_alloc_at _ _ _ _ rfl]; rfl)
    have m6 : w3.cell? ⟨w1.heap.size, 6, none⟩ = some (.int .i64 1) := (hb3.cell (by simp)).trans (by rw [World.cell?_alloc_at _ _ _ _ rfl]; rfl)
    have m7 : w3.cell? ⟨w1.heap.size, 7, none⟩ = some (.bool true) := (hb3.cell (by simp)).trans (by rw [World.cell?_alloc_at _ _ _ _ rfl]; rfl)
    have m8 : w3.cell? ⟨w1.heap.size, 8, none⟩ = some (.int .u64 (s % 281474976710656)) := (hb3.cell (by simp)).trans (by rw [World.cell?_alloc_at _ _ _ _ rfl]; rfl)
    have m9 : w3.cell? ⟨w1.heap.size, 9, none⟩ = some (.int .u64 (a % 281474976710656)) := (hb3.cell (by simp)).trans (by rw [World.cell?_alloc_at _ _ _ _ rfl]; rfl)
    have m10 : w3.cell? ⟨w1.heap.size, 10, none⟩ = some (.int .u32 serv) := (hb3.cell (by simp)).trans (by rw [World.cell?_alloc_at _ _ _ _ rfl]; rfl)
    have m11 : w3.cell? ⟨w1.heap.size, 11, none⟩ = some (.int .i64 0) := (hb3.cell (by simp)).trans (by rw [World.cell?_alloc_at _ _ _ _ rfl]; rfl)
    have m12 : w3.cell? ⟨w1.heap.size, 12, none⟩ = some (.int .u8 0) := (hb3.cell (by simp)).trans (by rw [World.cell?_alloc_at _ _ _ _ rfl]; rfl)
    have m13 : w3.cell? ⟨w1.heap.size, 13, none⟩ = some (.int .u8 0) := (hb3.cell (by simp)).trans (by rw [World.cell?_alloc_at _ _ _ _ rfl]; rfl)
    have m14 : w3.cell? ⟨w1.heap.size, 14, none⟩ = some (.int .u8 0) := (hb3.cell (by simp)).trans (by rw [World.cell?_alloc_at _ _ _ _ rfl]; rfl)
    have hz3 : w1.heap.size + 1 ≤ w3.heap.size := by have := hb3.size; simpa using this
    replace hb3 := ((hb1.alloc hb1.size _).trans (hb3.mono (by simp; have := hb1.size; omega)))
    have HB3 := hide hb3
    clear hb3
    have HM := hide (And.intro m0 (And.intro m1 (And.intro m2 (And.intro m3 (And.intro m4 (And.intro m5 (And.intro m6 (And.intro m7 (And.intro m8 (And.intro m9 (And.intro m10 (And.intro m11 (And.intro m12 (And.intro m13 m14))))))))))))))
    clear m0 m1 m2 m3 m4 m5 m6 m7 m8 m9 m10 m11 m12 m13 m14
    go_wp2_with fail
    refine (PG.out _).mono ?_
    rintro e w4 ⟨A', c', rfl, hb4⟩
    have hlt : ∀ o, (⟨w1.heap.size, o, none⟩ : Addr).block < w3.heap.size := fun o => by show w1.heap.size < _; omega
    obtain ⟨m0, m1, m2, m3, m4, m5, m6, m7, m8, m9, m10, m11, m12, m13, m14⟩ := HM.out
    have k0 : w4.cell? ⟨w1.heap.size, 0, none⟩ = some (.int .i64 7) := (hb4.cell (hlt 0)).trans m0
    have k1 : w4.cell? ⟨w1.heap.size, 1, none⟩ = some (.int .i64 9) := (hb4.cell (hlt 1)).trans m1
    have k2 : w4.cell? ⟨w1.heap.size, 2, none⟩ = some (.int .i64 0) := (hb4.cell (hlt 2)).trans m2
    have k3 : w4.cell? ⟨w1.heap.size, 3, none⟩ = some (.int .i64 0) := (hb4.cell (hlt 3)).trans m3
    have k4 : w4.cell? ⟨w1.heap.size, 4, none⟩ = some (.int .i64 0) := (hb4.cell (hlt 4)).trans m4
    have k5 : w4.cell? ⟨w1.heap.size, 5, none⟩ = some (.int .i64 0) := (hb4.cell (hlt 5)).trans m5
    have k6 : w4.cell? ⟨w1.heap.size, 6, none⟩ = some (.int .i64 1) := (hb4.cell (hlt 6)).trans m6
    have k7 : w4.cell? ⟨w1.heap.size, 7, none⟩ = some (.bool true) := (hb4.cell (hlt 7)).trans m7
    have k8 : w4.cell? ⟨w1.heap.size, 8, none⟩ = some (.int .u64 (s % 281474976710656)) := (hb4.cell (hlt 8)).trans m8
    have k9 : w4.cell? ⟨w1.heap.size, 9, none⟩ = some (.int .u64 (a % 281474976710656)) := (hb4.cell (hlt 9)).trans m9
    have k10 : w4.cell? ⟨w1.heap.size, 10, none⟩ = some (.int .u32 serv) := (hb4.cell (hlt 10)).trans m10
    have k11 : w4.cell? ⟨w1.heap.size, 11, none⟩ = some (.int .i64 0) := (hb4.cell (hlt 11)).trans m11
    have k12 : w4.cell? ⟨w1.heap.size, 12, none⟩ = some (.int .u8 0) := (hb4.cell (hlt 12)).trans m12
    have k13 : w4.cell? ⟨w1.heap.size, 13, none⟩ = some (.int .u8 0) := (hb4.cell (hlt 13)).trans m13
    have k14 : w4.cell? ⟨w1.heap.size, 14, none⟩ = some (.int .u8 0) := (hb4.cell (hlt 14)).trans m14
    have hz4 : w3.heap.size ≤ w4.heap.size := hb4.size
    have hl4 : w1.heap.size < w4.heap.size := by omega
    have hn4 : ¬ (w1.heap.size = w4.heap.size) := by omega
    have hn4' : ¬ (w4.heap.size = w1.heap.size) := by omega
    have hb5 := HB3.out.trans (hb4.mono HB3.out.size)
    have HB5 := hide hb5
    clear hb4 hb5 hz3 hlt hz4 HM m0 m1 m2 m3 m4 m5 m6 m7 m8 m9 m10 m11 m12 m13 m14
    go_upto_region 21 with fail
    go_quiet ((go_at_call 11; exact Calls.quiet_of_same (CS.out _)))
    have h9 := H9.out
    clear H9
    go_wp2
    go_ret
    exact ⟨rfl, by repeat (first | exact HB5.out | (refine Below.setCell ?_ (show w.heap.size ≤ w4.heap.size from HB5.out.size) _) | (refine below_dn0 ?_ _) | (refine Below.alloc ?_ HB5.out.size _))⟩

set_option maxHeartbeats 8000000 in
set_option maxRecDepth 100000 in
theorem types_C (HB0 : ∀ W : World, Calls Tryd.prog 6 #[] W fun e w' => e = .returned (.bool true) ∧ Below W.heap.size W w')
    (a0 : Int) (x : Bool) (s a serv c : Int) (data : ByteArray) (w : World) (hd : data.size ≤ 140737488351232) (s0 : 0 ≤ s) (a1 : 0 ≤ a) (v0 : 0 ≤ serv) (v1 : serv < 4294967296) (c0 : 0 ≤ c) (c1 : c < 256)
    (hm : (wrap64 (a0.tmod 10 + 10)).tmod 10 = 7) (hX : (x || (7 != 2 && (7 != 3 && 7 != 4))) = true) :
    Calls Tryd.prog 3 #[.int .i64 a0, .bool x, .int .u64 s, .int .u64 a, .int .u32 serv, .int .u8 c, .string data] w fun e w' => e = .returned (.bool true) ∧ Below w.heap.size w w' := by
  have HB := hide HB0
  have HT := hide (fun W : World => law_Text data 50 W hd)
  obtain ⟨t, ht⟩ : ∃ t, data.extract 0 (min data.size 50) = t := ⟨_, rfl⟩
  have ht3 : t.size ≤ 50 := by rw [← ht, ByteArray.size_extract]; omega
  rw [ht] at HT
  replace HT : Hid (∀ W : World, Calls Tryd.prog 8 #[.string data, .int .i64 50] W fun e w' => e = .returned (.string t) ∧ W = w') := HT
  clear ht HB0
  obtain ⟨b, N, Sm, hN, hP, hG⟩ := PkB.types_int 7 (by omega) true (.inl rfl) (s % 281474976710656) (a % 281474976710656) 0 c c 1 2 (by omega) (by omega) (by omega) (by omega) (by omega) (by omega) (by omega) (by unfold mostB; rw [if_pos rfl]; omega) (by unfold mostB; rw [if_pos rfl]; omega) (.inr (by decide)) (by omega) (.inl rfl) (by omega) (by omega) (by omega) (by omega) (.inl rfl) t ht3
  rw [show sizeB ((7 : Nat) : Int) true = 28 from by decide] at hN
  obtain rfl : N = 7 := by omega
  have PP := hide hP; have PG := hide hG
  have CS : Hid (∀ W : World, Calls Tryd.prog 11 #[.int .i64 7, .bool true] W fun e w' => e = .returned (.int .i64 28) ∧ w' = W) := hide (fun W => (head_Size 7 true W).mono fun _ _ h => ⟨h.1, h.2.symm⟩)
  have CA : Hid (∀ W : World, Calls Tryd.prog 7 #[.int .i64 7] W fun e w' => e = .returned (.bool true) ∧ W = w') := hide (fun W => (head_HasAck 7 W).mono fun _ _ h => ⟨h.1.trans (congrArg Ending.returned (congrArg Value.bool (show ackB 7 = true from (by decide)))), h.2⟩)
  have h9 : ∀ W : World, (Op.equalIn 9999 25 (.agg #[.int .u8 c, .int .u8 1, .int .u8 2]) (.agg #[.int .u8 c, .int .u8 1, .int .u8 2])).run Tryd.prog W = .ok true W := fun W => by rw [show (9999 : Nat) = 9997 + 2 from rfl, eq_three]; simp
  have H9 := hide h9
  have HX := hide hX
  clear hP hG hN h9 hX
  go_enter Tryd.func3, Tryd.ntmps3
  go_upto_region 5 with (go_at_call 6; refine (HB.out _).mono ?_; rintro e w1 ⟨rfl, hb1⟩)
  go_cut [1] (fun s1 wx => s1 = .bool true ∧ w1 = wx)
  case first =>
    have hX := HX.out
    cases x
    · skip
      all_goals
        first
          | (exfalso; revert hX; decide)
          | (clear hX; go_wp2; all_goals go_meet; all_goals exact ⟨rfl, rfl⟩)
    · first
        | (exfalso; revert hX; simp; done)
        | (clear hX; go_wp2; all_goals go_meet; all_goals exact ⟨rfl, rfl⟩)
  case rest =>
    obtain ⟨rfl, rfl⟩ := hcut
    clear HX
    go_wp2_with (first | (go_at_call 7; refine (CA.out _).mono ?_; rintro e w' ⟨rfl, rfl⟩) | (go_at_call 8; refine (HT.out _).mono ?_; rintro e w2 ⟨rfl, rfl⟩))
    refine (PP.out _).mono ?_
    rintro e w3 ⟨rfl, hb3⟩
    have m0 : w3.cell? ⟨w1.heap.size, 0, none⟩ = some (.int .i64 7) := (hb3.cell (by simp)).trans (by rw [World.cell?_alloc_at _ _ _ _ rfl]; rfl)
    have m1 : w3.cell? ⟨w1.heap.size, 1, none⟩ = some (.int .i64 9) := (hb3.cell (by simp)).trans (by rw [World.cell?_alloc_at _ _ _ _ rfl]; rfl)
    have m2 : w3.cell? ⟨w1.heap.size, 2, none⟩ = some (.int .i64 0) := (hb3.cell (by simp)).trans (by rw [World.cell?_alloc_at _ _ _ _ rfl]; rfl)
    have m3 : w3.cell? ⟨w1.heap.size, 3, none⟩ = some (.int .i64 0) := (hb3.cell (by simp)).trans (by rw [World.cell?_alloc_at _ _ _ _ rfl]; rfl)
    have m4 : w3.cell? ⟨w1.heap.size, 4, none⟩ = some (.int .i64 0) := (hb3.cell (by simp)).trans (by rw [World.cell?_alloc_at _ _ _ _ rfl]; rfl)
    have m5 : w3.cell? ⟨w1.heap.size, 5, none⟩ = some (.int .i64 0) := (hb3.cell (by simp)).trans (by rw [World.cell?_alloc_at _ _ _ _ rfl]; rfl)
    have m6 : w3.cell? ⟨w1.heap.size, 6, none⟩ = some (.int .i64 7) := (hb3.cell (by simp)).trans (by rw [World.cell?_alloc_at _ _ _ _ rfl]; rfl)
    have m7 : w3.cell? ⟨w1.heap.size, 7, none⟩ = some (.bool true) := (hb3.cell (by simp)).trans (by rw [World.cell?_alloc_at _ _ _ _ rfl]; rfl)
    have m8 : w3.cell? ⟨w1.heap.size, 8, none⟩ = some (.int .u64 (s % 281474976710656)) := (hb3.cell (by simp)).trans (by rw [World.cell?_alloc_at _ _ _ _ rfl]; rfl)
    have m9 : w3.cell? ⟨w1.heap.size, 9, none⟩ = some (.int .u64 (a % 281474976710656)) := (hb3.cell (by simp)).trans (by rw [World.cell?_alloc_at _ _ _ _ rfl]; rfl)
    have m10 : w3.cell? ⟨w1.heap.size, 10, none⟩ = some (.int .u32 0) := (hb3.cell (by simp)).trans (by rw [World.cell?_alloc_at _ _ _ _ rfl]; rfl)
    have m11 : w3.cell? ⟨w1.heap.size, 11, none⟩ = some (.int .i64 c) := (hb3.cell (by simp)).trans (by rw [World.cell?_alloc_at _ _ _ _ rfl]; rfl)
    have m12 : w3.cell? ⟨w1.heap.size, 12, none⟩ = some (.int .u8 c) := (hb3.cell (by simp)).trans (by rw [World.cell?_alloc_at _ _ _ _ rfl]; rfl)
    have m13 : w3.cell? ⟨w1.heap.size, 13, none⟩ = some (.int .u8 1) := (hb3.cell (by simp)).trans (by rw [World.cell?_alloc_at _ _ _ _ rfl]; rfl)
    have m14 : w3.cell? ⟨w1.heap.size, 14, none⟩ = some (.int .u8 2) := (hb3.cell (by simp)).trans (by rw [World.cell?_alloc_at _ _ _ _ rfl]; rfl)
    have hz3 : w1.heap.size + 1 ≤ w3.heap.size := by have := hb3.size; simpa using this
    replace hb3 := ((hb1.alloc hb1.size _).trans (hb3.mono (by simp; have := hb1.size; omega)))
    have HB3 := hide hb3
    clear hb3
    have HM := hide (And.intro m0 (And.intro m1 (And.intro m2 (And.intro m3 (And.intro m4 (And.intro m5 (And.intro m6 (And.intro m7 (And.intro m8 (And.intro m9 (And.intro m10 (And.intro m11 (And.intro m12 (And.intro m13 m14))))))))))))))
    clear m0 m1 m2 m3 m4 m5 m6 m7 m8 m9 m10 m11 m12 m13 m14
    go_wp2_with fail
    refine (PG.out _).mono ?_
    rintro e w4 ⟨A', c', rfl, hb4⟩
    have hlt : ∀ o, (⟨w1.heap.size, o, none⟩ : Addr).block < w3.heap.size := fun o => by show w1.heap.size < _; omega
    obtain ⟨m0, m1, m2, m3, m4, m5, m6, m7, m8, m9, m10, m11, m12, m13, m14⟩ := HM.out
    have k0 : w4.cell? ⟨w1.heap.size, 0, none⟩ = some (.int .i64 7) := (hb4.cell (hlt 0)).trans m0
    have k1 : w4.cell? ⟨w1.heap.size, 1, none⟩ = some (.int .i64 9) := (hb4.cell (hlt 1)).trans m1
    have k2 : w4.cell? ⟨w1.heap.size, 2, none⟩ = some (.int .i64 0) := (hb4.cell (hlt 2)).trans m2
    have k3 : w4.cell? ⟨w1.heap.size, 3, none⟩ = some (.int .i64 0) := (hb4.cell (hlt 3)).trans m3
    have k4 : w4.cell? ⟨w1.heap.size, 4, none⟩ = some (.int .i64 0) := (hb4.cell (hlt 4)).trans m4
    have k5 : w4.cell? ⟨w1.heap.size, 5, none⟩ = some (.int .i64 0) := (hb4.cell (hlt 5)).trans m5
    have k6 : w4.cell? ⟨w1.heap.size, 6, none⟩ = some (.int .i64 7) := (hb4.cell (hlt 6)).trans m6
    have k7 : w4.cell? ⟨w1.heap.size, 7, none⟩ = some (.bool true) := (hb4.cell (hlt 7)).trans m7
    have k8 : w4.cell? ⟨w1.heap.size, 8, none⟩ = some (.int .u64 (s % 281474976710656)) := (hb4.cell (hlt 8)).trans m8
    have k9 : w4.cell? ⟨w1.heap.size, 9, none⟩ = some (.int .u64 (a % 281474976710656)) := (hb4.cell (hlt 9)).trans m9
    have k10 : w4.cell? ⟨w1.heap.size, 10, none⟩ = some (.int .u32 0) := (hb4.cell (hlt 10)).trans m10
    have k11 : w4.cell? ⟨w1.heap.size, 11, none⟩ = some (.int .i64 c) := (hb4.cell (hlt 11)).trans m11
    have k12 : w4.cell? ⟨w1.heap.size, 12, none⟩ = some (.int .u8 c) := (hb4.cell (hlt 12)).trans m12
    have k13 : w4.cell? ⟨w1.heap.size, 13, none⟩ = some (.int .u8 1) := (hb4.cell (hlt 13)).trans m13
    have k14 : w4.cell? ⟨w1.heap.size, 14, none⟩ = some (.int .u8 2) := (hb4.cell (hlt 14)).trans m14
    have hz4 : w3.heap.size ≤ w4.heap.size := hb4.size
    have hl4 : w1.heap.size < w4.heap.size := by omega
    have hn4 : ¬ (w1.heap.size = w4.heap.size) := by omega
    have hn4' : ¬ (w4.heap.size = w1.heap.size) := by omega
    have hb5 := HB3.out.trans (hb4.mono HB3.out.size)
    have HB5 := hide hb5
    clear hb4 hb5 hz3 hlt hz4 HM m0 m1 m2 m3 m4 m5 m6 m7 m8 m9 m10 m11 m12 m13 m14
    go_upto_region 21 with fail
    go_quiet ((go_at_call 11; exact Calls.quiet_of_same (CS.out _)))
    have h9 := H9.out
    clear H9
    go_wp2
    go_ret
    exact ⟨rfl, by repeat (first | exact HB5.out | (refine Below.setCell ?_ (show w.heap.size ≤ w4.heap.size from HB5.out.size) _) | (refine below_dn0 ?_ _) | (refine Below.alloc ?_ HB5.out.size _))⟩
end Go.Proofs.YtdhnfmhbdblkjaaDoor
