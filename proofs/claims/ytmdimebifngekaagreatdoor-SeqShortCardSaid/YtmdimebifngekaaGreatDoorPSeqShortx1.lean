/- What this seat's Go functions compute, as Lean functions, and that they do. Written by a program of this session's (wip/pr/pr.py) by means of the kit's printer, with contracts of ours for some functions; conditions: none beyond each theorem's own. -/
import Derived.Test.YtmdimebifngekaaGreatDoorPSeqShortx0
namespace Go.Proofs.YtmdimebifngekaaGreatDoor.PSeqShort
open Go.RowKit Go.Proofs.YtmdimebifngekaaGreatDoorW.PrintWords Go.Proofs.YtmdimebifngekaaGreatDoorW.PrintLast Go.Proofs.YtmdimebifngekaaGreatDoorW.PrintMore
attribute [local go_sem] max2_int min2_int max_two min_two max_three min_three max_four min_four   -- for this text's walks alone
set_option linter.unusedVariables false
set_option linter.unusedSimpArgs false

/-! ### muleteerlaw1_begun: function 15: a contract of ours -/
def muleteerlaw1_begun.f  : Option (Bool) := some true
theorem muleteerlaw1_begun.calls  (r : Bool) (w : World)  (h : muleteerlaw1_begun.f  = some r) :
    Calls Tryz.prog 15 #[] w fun e w' => e = .returned (.bool r) ∧ Below w.heap.size w w' := by
  cases h; exact begun_true w

/-! ### muleteerref1_Seq: function 31 -/
def muleteerref1_Seq.f (a0 : Int) : Option (Int) := some (Int.tmod a0 281474976710656)
set_option maxHeartbeats 8000000 in
set_option maxRecDepth 100000 in
theorem muleteerref1_Seq.calls (a0 : Int) (r : Int) (w : World) (h : muleteerref1_Seq.f a0 = some r) :
    Calls Tryz.prog 31 #[.int .u64 a0] w fun e w' => e = .returned (.int .u64 r) ∧ Drawn0 w w' := by
  have H : (some (Int.tmod a0 281474976710656)) = some r := h
  clear h
  obtain rfl := Option.some.inj H
  go_enter Tryz.func31, Tryz.ntmps31
  go_wp2
  go_ret
  exact ⟨by first | rfl | (simp; done) | (simp [*]; done), by repeat (first | exact Drawn0.refl _ | apply Drawn0.step)⟩

/-! ### muleteerref1_Step: function 33 -/
def muleteerref1_Step.f (a0 : Int) (a1 : Int) : Option (Int) := if (Int.tmod a1 281474976710656) < 0 then ((muleteerref1_Seq.f a0).bind fun t101 => ((muleteerref1_Seq.f (IntKind.u64.wrap (t101 + (IntKind.u64.wrap (wrap64 ((Int.tmod a1 281474976710656) + 281474976710656)))))).bind fun t102 => (some t102))) else ((muleteerref1_Seq.f a0).bind fun t103 => ((muleteerref1_Seq.f (IntKind.u64.wrap (t103 + (IntKind.u64.wrap (Int.tmod a1 281474976710656))))).bind fun t104 => (some t104)))
set_option maxHeartbeats 8000000 in
set_option maxRecDepth 100000 in
theorem muleteerref1_Step.calls (a0 : Int) (a1 : Int) (r : Int) (w : World) (h : muleteerref1_Step.f a0 a1 = some r) :
    Calls Tryz.prog 33 #[.int .u64 a0, .int .i64 a1] w fun e w' => e = .returned (.int .u64 r) ∧ Drawn0 w w' := by
  have H : (if (Int.tmod a1 281474976710656) < 0 then ((muleteerref1_Seq.f a0).bind fun t101 => ((muleteerref1_Seq.f (IntKind.u64.wrap (t101 + (IntKind.u64.wrap (wrap64 ((Int.tmod a1 281474976710656) + 281474976710656)))))).bind fun t102 => (some t102))) else ((muleteerref1_Seq.f a0).bind fun t103 => ((muleteerref1_Seq.f (IntKind.u64.wrap (t103 + (IntKind.u64.wrap (Int.tmod a1 281474976710656))))).bind fun t104 => (some t104)))) = some r := h
  clear h
  by_cases c3 : (Int.tmod a1 281474976710656) < 0
  · rw [if_pos c3] at H
    have c3b0 : decide ((Int.tmod a1 281474976710656) < 0) = true := decide_eq_true c3
    clear c3
    replace H := Option.bind_eq_some_iff.mp H
    obtain ⟨t101, A40, H⟩ := H
    replace H : ((muleteerref1_Seq.f (IntKind.u64.wrap (t101 + (IntKind.u64.wrap (wrap64 ((Int.tmod a1 281474976710656) + 281474976710656)))))).bind fun t102 => (some t102)) = some r := H
    have A4 := Aside0.mk A40
    clear A40
    replace H := Option.bind_eq_some_iff.mp H
    obtain ⟨t102, A50, H⟩ := H
    replace H : (some t102) = some r := H
    have A5 := Aside0.mk A50
    clear A50
    obtain rfl := Option.some.inj H
    go_enter Tryz.func33, Tryz.ntmps33
    go_wp2_with (first | ((with_reducible refine gate_callee (f := 31) rfl ?_); refine goesL_ (some 13) rfl rfl Tryz.func31 (by kernel_rfl) rfl #[.int .u64 a0] rfl (by (try simp only [List.map_toArray, List.map_cons, List.map_nil]); first | done | rfl | (simp only [List.length_drop, List.length_take]; rfl)) ?_; (with_reducible refine (muleteerref1_Seq.calls a0 t101 _ A4.out).mono ?_); rintro e w' ⟨rfl, ⟨nd, rfl⟩⟩; refine ⟨_, rfl, ?_⟩) | ((with_reducible refine gate_callee (f := 31) rfl ?_); refine goesL_ (some 17) rfl rfl Tryz.func31 (by kernel_rfl) rfl #[.int .u64 (IntKind.u64.wrap (t101 + (IntKind.u64.wrap (wrap64 ((Int.tmod a1 281474976710656) + 281474976710656)))))] rfl (by (try simp only [List.map_toArray, List.map_cons, List.map_nil]); first | done | rfl | (simp only [List.length_drop, List.length_take]; rfl)) ?_; (with_reducible refine (muleteerref1_Seq.calls (IntKind.u64.wrap (t101 + (IntKind.u64.wrap (wrap64 ((Int.tmod a1 281474976710656) + 281474976710656))))) t102 _ A5.out).mono ?_); rintro e w' ⟨rfl, ⟨nd, rfl⟩⟩; refine ⟨_, rfl, ?_⟩))
    go_ret
    exact ⟨by first | rfl | (simp; done) | (simp [*]; done), by repeat (first | exact Drawn0.refl _ | apply Drawn0.step)⟩
  · rw [if_neg c3] at H
    have c3b0 : decide ((Int.tmod a1 281474976710656) < 0) = false := decide_eq_false c3
    clear c3
    replace H := Option.bind_eq_some_iff.mp H
    obtain ⟨t103, A60, H⟩ := H
    replace H : ((muleteerref1_Seq.f (IntKind.u64.wrap (t103 + (IntKind.u64.wrap (Int.tmod a1 281474976710656))))).bind fun t104 => (some t104)) = some r := H
    have A6 := Aside0.mk A60
    clear A60
    replace H := Option.bind_eq_some_iff.mp H
    obtain ⟨t104, A70, H⟩ := H
    replace H : (some t104) = some r := H
    have A7 := Aside0.mk A70
    clear A70
    obtain rfl := Option.some.inj H
    go_enter Tryz.func33, Tryz.ntmps33
    go_wp2_with (first | ((with_reducible refine gate_callee (f := 31) rfl ?_); refine goesL_ (some 13) rfl rfl Tryz.func31 (by kernel_rfl) rfl #[.int .u64 a0] rfl (by (try simp only [List.map_toArray, List.map_cons, List.map_nil]); first | done | rfl | (simp only [List.length_drop, List.length_take]; rfl)) ?_; (with_reducible refine (muleteerref1_Seq.calls a0 t103 _ A6.out).mono ?_); rintro e w' ⟨rfl, ⟨nd, rfl⟩⟩; refine ⟨_, rfl, ?_⟩) | ((with_reducible refine gate_callee (f := 31) rfl ?_); refine goesL_ (some 17) rfl rfl Tryz.func31 (by kernel_rfl) rfl #[.int .u64 (IntKind.u64.wrap (t103 + (IntKind.u64.wrap (Int.tmod a1 281474976710656))))] rfl (by (try simp only [List.map_toArray, List.map_cons, List.map_nil]); first | done | rfl | (simp only [List.length_drop, List.length_take]; rfl)) ?_; (with_reducible refine (muleteerref1_Seq.calls (IntKind.u64.wrap (t103 + (IntKind.u64.wrap (Int.tmod a1 281474976710656)))) t104 _ A7.out).mono ?_); rintro e w' ⟨rfl, ⟨nd, rfl⟩⟩; refine ⟨_, rfl, ?_⟩))
    go_ret
    exact ⟨by first | rfl | (simp; done) | (simp [*]; done), by repeat (first | exact Drawn0.refl _ | apply Drawn0.step)⟩

/-! ### seq_Of: function 30: a contract of ours -/
def seq_Of.f (a0 : Int) : Option (Int) := if 0 ≤ a0 ∧ a0 < 18446744073709551616 then some (a0 % 281474976710656) else none
theorem seq_Of.calls (a0 : Int) (r : Int) (w : World)  (h : seq_Of.f a0 = some r) :
    Calls Tryz.prog 30 #[.int .u64 a0] w fun e w' => e = .returned (.int .u64 r) ∧ Drawn0 w w' := by
  unfold seq_Of.f at h
  split at h
  · rename_i hc
    obtain rfl := Option.some.inj h
    exact (seq_Of a0 hc.1 hc.2 w).mono fun e w' hq => ⟨hq.1, same_drawn hq.2⟩
  · cases h

/-! ### seq_Diff: function 34 -/
def seq_Diff.f (a0 : Int) (a1 : Int) : Option (Int) := (seq_Of.f (IntKind.u64.wrap (a0 - a1))).bind fun t105 => (if t105 ≥ 140737488355328 then (some (wrap64 ((wrap64 (t105)) - 281474976710656))) else (some (wrap64 (t105))))
set_option maxHeartbeats 8000000 in
set_option maxRecDepth 100000 in
theorem seq_Diff.calls (a0 : Int) (a1 : Int) (r : Int) (w : World) (h : seq_Diff.f a0 a1 = some r) :
    Calls Tryz.prog 34 #[.int .u64 a0, .int .u64 a1] w fun e w' => e = .returned (.int .i64 r) ∧ Drawn0 w w' := by
  have H : ((seq_Of.f (IntKind.u64.wrap (a0 - a1))).bind fun t105 => (if t105 ≥ 140737488355328 then (some (wrap64 ((wrap64 (t105)) - 281474976710656))) else (some (wrap64 (t105))))) = some r := h
  clear h
  replace H := Option.bind_eq_some_iff.mp H
  obtain ⟨t105, A30, H⟩ := H
  replace H : (if t105 ≥ 140737488355328 then (some (wrap64 ((wrap64 (t105)) - 281474976710656))) else (some (wrap64 (t105)))) = some r := H
  have A3 := Aside0.mk A30
  clear A30
  by_cases c4 : t105 ≥ 140737488355328
  · rw [if_pos c4] at H
    have c4b0 : decide (140737488355328 ≤ t105) = true := decide_eq_true c4
    clear c4
    obtain rfl := Option.some.inj H
    go_enter Tryz.func34, Tryz.ntmps34
    go_wp2_with (first | ((with_reducible refine gate_callee (f := 30) rfl ?_); refine goesL_ (some 9) rfl rfl Tryz.func30 (by kernel_rfl) rfl #[.int .u64 (IntKind.u64.wrap (a0 - a1))] rfl (by (try simp only [List.map_toArray, List.map_cons, List.map_nil]); first | done | rfl | (simp only [List.length_drop, List.length_take]; rfl)) ?_; (with_reducible refine (seq_Of.calls (IntKind.u64.wrap (a0 - a1)) t105 _ A3.out).mono ?_); rintro e w' ⟨rfl, ⟨nd, rfl⟩⟩; refine ⟨_, rfl, ?_⟩))
    go_ret
    exact ⟨by first | rfl | (simp; done) | (simp [*]; done), by repeat (first | exact Drawn0.refl _ | apply Drawn0.step)⟩
  · rw [if_neg c4] at H
    have c4b0 : decide (140737488355328 ≤ t105) = false := decide_eq_false c4
    clear c4
    obtain rfl := Option.some.inj H
    go_enter Tryz.func34, Tryz.ntmps34
    go_wp2_with (first | ((with_reducible refine gate_callee (f := 30) rfl ?_); refine goesL_ (some 9) rfl rfl Tryz.func30 (by kernel_rfl) rfl #[.int .u64 (IntKind.u64.wrap (a0 - a1))] rfl (by (try simp only [List.map_toArray, List.map_cons, List.map_nil]); first | done | rfl | (simp only [List.length_drop, List.length_take]; rfl)) ?_; (with_reducible refine (seq_Of.calls (IntKind.u64.wrap (a0 - a1)) t105 _ A3.out).mono ?_); rintro e w' ⟨rfl, ⟨nd, rfl⟩⟩; refine ⟨_, rfl, ?_⟩))
    go_ret
    exact ⟨by first | rfl | (simp; done) | (simp [*]; done), by repeat (first | exact Drawn0.refl _ | apply Drawn0.step)⟩

/-! ### seq_Add: function 32 -/
def seq_Add.f (a0 : Int) (a1 : Int) : Option (Int) := (seq_Of.f (IntKind.u64.wrap (a0 + (IntKind.u64.wrap (a1))))).bind fun t106 => (some t106)
set_option maxHeartbeats 8000000 in
set_option maxRecDepth 100000 in
theorem seq_Add.calls (a0 : Int) (a1 : Int) (r : Int) (w : World) (h : seq_Add.f a0 a1 = some r) :
    Calls Tryz.prog 32 #[.int .u64 a0, .int .i64 a1] w fun e w' => e = .returned (.int .u64 r) ∧ Drawn0 w w' := by
  have H : ((seq_Of.f (IntKind.u64.wrap (a0 + (IntKind.u64.wrap (a1))))).bind fun t106 => (some t106)) = some r := h
  clear h
  replace H := Option.bind_eq_some_iff.mp H
  obtain ⟨t106, A30, H⟩ := H
  replace H : (some t106) = some r := H
  have A3 := Aside0.mk A30
  clear A30
  obtain rfl := Option.some.inj H
  go_enter Tryz.func32, Tryz.ntmps32
  go_wp2_with (first | ((with_reducible refine gate_callee (f := 30) rfl ?_); refine goesL_ (some 9) rfl rfl Tryz.func30 (by kernel_rfl) rfl #[.int .u64 (IntKind.u64.wrap (a0 + (IntKind.u64.wrap (a1))))] rfl (by (try simp only [List.map_toArray, List.map_cons, List.map_nil]); first | done | rfl | (simp only [List.length_drop, List.length_take]; rfl)) ?_; (with_reducible refine (seq_Of.calls (IntKind.u64.wrap (a0 + (IntKind.u64.wrap (a1)))) t106 _ A3.out).mono ?_); rintro e w' ⟨rfl, ⟨nd, rfl⟩⟩; refine ⟨_, rfl, ?_⟩))
  go_ret
  exact ⟨by first | rfl | (simp; done) | (simp [*]; done), by repeat (first | exact Drawn0.refl _ | apply Drawn0.step)⟩

/-! ### seq_Long: function 40 -/
def seq_Long.f (a0 : Int) (a1 : Int) : Option (Int) := if (wrap64 (Go.bits .and .u64 (IntKind.u64.wrap ((IntKind.u64.wrap (a0)) - a1)) 16777215)) ≥ 8388608 then ((seq_Add.f a1 (wrap64 ((wrap64 (Go.bits .and .u64 (IntKind.u64.wrap ((IntKind.u64.wrap (a0)) - a1)) 16777215)) - 16777216))).bind fun t107 => (some t107)) else ((seq_Add.f a1 (wrap64 (Go.bits .and .u64 (IntKind.u64.wrap ((IntKind.u64.wrap (a0)) - a1)) 16777215))).bind fun t108 => (some t108))
set_option maxHeartbeats 8000000 in
set_option maxRecDepth 100000 in
theorem seq_Long.calls (a0 : Int) (a1 : Int) (r : Int) (w : World) (h : seq_Long.f a0 a1 = some r) :
    Calls Tryz.prog 40 #[.int .u32 a0, .int .u64 a1] w fun e w' => e = .returned (.int .u64 r) ∧ Drawn0 w w' := by
  have H : (if (wrap64 (Go.bits .and .u64 (IntKind.u64.wrap ((IntKind.u64.wrap (a0)) - a1)) 16777215)) ≥ 8388608 then ((seq_Add.f a1 (wrap64 ((wrap64 (Go.bits .and .u64 (IntKind.u64.wrap ((IntKind.u64.wrap (a0)) - a1)) 16777215)) - 16777216))).bind fun t107 => (some t107)) else ((seq_Add.f a1 (wrap64 (Go.bits .and .u64 (IntKind.u64.wrap ((IntKind.u64.wrap (a0)) - a1)) 16777215))).bind fun t108 => (some t108))) = some r := h
  clear h
  by_cases c3 : (wrap64 (Go.bits .and .u64 (IntKind.u64.wrap ((IntKind.u64.wrap (a0)) - a1)) 16777215)) ≥ 8388608
  · rw [if_pos c3] at H
    have c3b0 : decide (8388608 ≤ (wrap64 (Go.bits .and .u64 (IntKind.u64.wrap ((IntKind.u64.wrap (a0)) - a1)) 16777215))) = true := decide_eq_true c3
    clear c3
    replace H := Option.bind_eq_some_iff.mp H
    obtain ⟨t107, A40, H⟩ := H
    replace H : (some t107) = some r := H
    have A4 := Aside0.mk A40
    clear A40
    obtain rfl := Option.some.inj H
    go_enter Tryz.func40, Tryz.ntmps40
    go_wp2_with (first | ((with_reducible refine gate_callee (f := 32) rfl ?_); refine goesL_ (some 18) rfl rfl Tryz.func32 (by kernel_rfl) rfl #[.int .u64 a1, .int .i64 (wrap64 ((wrap64 (Go.bits .and .u64 (IntKind.u64.wrap ((IntKind.u64.wrap (a0)) - a1)) 16777215)) - 16777216))] rfl (by (try simp only [List.map_toArray, List.map_cons, List.map_nil]); first | done | rfl | (simp only [List.length_drop, List.length_take]; rfl)) ?_; (with_reducible refine (seq_Add.calls a1 (wrap64 ((wrap64 (Go.bits .and .u64 (IntKind.u64.wrap ((IntKind.u64.wrap (a0)) - a1)) 16777215)) - 16777216)) t107 _ A4.out).mono ?_); rintro e w' ⟨rfl, ⟨nd, rfl⟩⟩; refine ⟨_, rfl, ?_⟩))
    go_ret
    exact ⟨by first | rfl | (simp; done) | (simp [*]; done), by repeat (first | exact Drawn0.refl _ | apply Drawn0.step)⟩
  · rw [if_neg c3] at H
    have c3b0 : decide (8388608 ≤ (wrap64 (Go.bits .and .u64 (IntKind.u64.wrap ((IntKind.u64.wrap (a0)) - a1)) 16777215))) = false := decide_eq_false c3
    clear c3
    replace H := Option.bind_eq_some_iff.mp H
    obtain ⟨t108, A50, H⟩ := H
    replace H : (some t108) = some r := H
    have A5 := Aside0.mk A50
    clear A50
    obtain rfl := Option.some.inj H
    go_enter Tryz.func40, Tryz.ntmps40
    go_wp2_with (first | ((with_reducible refine gate_callee (f := 32) rfl ?_); refine goesL_ (some 18) rfl rfl Tryz.func32 (by kernel_rfl) rfl #[.int .u64 a1, .int .i64 (wrap64 (Go.bits .and .u64 (IntKind.u64.wrap ((IntKind.u64.wrap (a0)) - a1)) 16777215))] rfl (by (try simp only [List.map_toArray, List.map_cons, List.map_nil]); first | done | rfl | (simp only [List.length_drop, List.length_take]; rfl)) ?_; (with_reducible refine (seq_Add.calls a1 (wrap64 (Go.bits .and .u64 (IntKind.u64.wrap ((IntKind.u64.wrap (a0)) - a1)) 16777215)) t108 _ A5.out).mono ?_); rintro e w' ⟨rfl, ⟨nd, rfl⟩⟩; refine ⟨_, rfl, ?_⟩))
    go_ret
    exact ⟨by first | rfl | (simp; done) | (simp [*]; done), by repeat (first | exact Drawn0.refl _ | apply Drawn0.step)⟩

/-! ### muleteerref1_Long: function 41 -/
def muleteerref1_Long.f (a0 : Int) (a1 : Int) : Option (Int) := (muleteerref1_Seq.f a1).bind fun t109 => (if (Int.tmod (wrap64 ((wrap64 ((wrap64 (Int.tmod a0 16777216)) - (wrap64 (Int.tmod t109 16777216)))) + 16777216)) 16777216) ≥ 8388608 then ((muleteerref1_Step.f a1 (wrap64 ((Int.tmod (wrap64 ((wrap64 ((wrap64 (Int.tmod a0 16777216)) - (wrap64 (Int.tmod t109 16777216)))) + 16777216)) 16777216) - 16777216))).bind fun t110 => (some t110)) else ((muleteerref1_Step.f a1 (Int.tmod (wrap64 ((wrap64 ((wrap64 (Int.tmod a0 16777216)) - (wrap64 (Int.tmod t109 16777216)))) + 16777216)) 16777216)).bind fun t111 => (some t111)))
set_option maxHeartbeats 8000000 in
set_option maxRecDepth 100000 in
theorem muleteerref1_Long.calls (a0 : Int) (a1 : Int) (r : Int) (w : World) (h : muleteerref1_Long.f a0 a1 = some r) :
    Calls Tryz.prog 41 #[.int .u32 a0, .int .u64 a1] w fun e w' => e = .returned (.int .u64 r) ∧ Drawn0 w w' := by
  have H : ((muleteerref1_Seq.f a1).bind fun t109 => (if (Int.tmod (wrap64 ((wrap64 ((wrap64 (Int.tmod a0 16777216)) - (wrap64 (Int.tmod t109 16777216)))) + 16777216)) 16777216) ≥ 8388608 then ((muleteerref1_Step.f a1 (wrap64 ((Int.tmod (wrap64 ((wrap64 ((wrap64 (Int.tmod a0 16777216)) - (wrap64 (Int.tmod t109 16777216)))) + 16777216)) 16777216) - 16777216))).bind fun t110 => (some t110)) else ((muleteerref1_Step.f a1 (Int.tmod (wrap64 ((wrap64 ((wrap64 (Int.tmod a0 16777216)) - (wrap64 (Int.tmod t109 16777216)))) + 16777216)) 16777216)).bind fun t111 => (some t111)))) = some r := h
  clear h
  replace H := Option.bind_eq_some_iff.mp H
  obtain ⟨t109, A30, H⟩ := H
  replace H : (if (Int.tmod (wrap64 ((wrap64 ((wrap64 (Int.tmod a0 16777216)) - (wrap64 (Int.tmod t109 16777216)))) + 16777216)) 16777216) ≥ 8388608 then ((muleteerref1_Step.f a1 (wrap64 ((Int.tmod (wrap64 ((wrap64 ((wrap64 (Int.tmod a0 16777216)) - (wrap64 (Int.tmod t109 16777216)))) + 16777216)) 16777216) - 16777216))).bind fun t110 => (some t110)) else ((muleteerref1_Step.f a1 (Int.tmod (wrap64 ((wrap64 ((wrap64 (Int.tmod a0 16777216)) - (wrap64 (Int.tmod t109 16777216)))) + 16777216)) 16777216)).bind fun t111 => (some t111))) = some r := H
  have A3 := Aside0.mk A30
  clear A30
  by_cases c4 : (Int.tmod (wrap64 ((wrap64 ((wrap64 (Int.tmod a0 16777216)) - (wrap64 (Int.tmod t109 16777216)))) + 16777216)) 16777216) ≥ 8388608
  · rw [if_pos c4] at H
    have c4b0 : decide (8388608 ≤ (Int.tmod (wrap64 ((wrap64 ((wrap64 (Int.tmod a0 16777216)) - (wrap64 (Int.tmod t109 16777216)))) + 16777216)) 16777216)) = true := decide_eq_true c4
    clear c4
    replace H := Option.bind_eq_some_iff.mp H
    obtain ⟨t110, A50, H⟩ := H
    replace H : (some t110) = some r := H
    have A5 := Aside0.mk A50
    clear A50
    obtain rfl := Option.some.inj H
    go_enter Tryz.func41, Tryz.ntmps41
    go_wp2_with (first | ((with_reducible refine gate_callee (f := 31) rfl ?_); refine goesL_ (some 10) rfl rfl Tryz.func31 (by kernel_rfl) rfl #[.int .u64 a1] rfl (by (try simp only [List.map_toArray, List.map_cons, List.map_nil]); first | done | rfl | (simp only [List.length_drop, List.length_take]; rfl)) ?_; (with_reducible refine (muleteerref1_Seq.calls a1 t109 _ A3.out).mono ?_); rintro e w' ⟨rfl, ⟨nd, rfl⟩⟩; refine ⟨_, rfl, ?_⟩) | ((with_reducible refine gate_callee (f := 33) rfl ?_); refine goesL_ (some 22) rfl rfl Tryz.func33 (by kernel_rfl) rfl #[.int .u64 a1, .int .i64 (wrap64 ((Int.tmod (wrap64 ((wrap64 ((wrap64 (Int.tmod a0 16777216)) - (wrap64 (Int.tmod t109 16777216)))) + 16777216)) 16777216) - 16777216))] rfl (by (try simp only [List.map_toArray, List.map_cons, List.map_nil]); first | done | rfl | (simp only [List.length_drop, List.length_take]; rfl)) ?_; (with_reducible refine (muleteerref1_Step.calls a1 (wrap64 ((Int.tmod (wrap64 ((wrap64 ((wrap64 (Int.tmod a0 16777216)) - (wrap64 (Int.tmod t109 16777216)))) + 16777216)) 16777216) - 16777216)) t110 _ A5.out).mono ?_); rintro e w' ⟨rfl, ⟨nd, rfl⟩⟩; refine ⟨_, rfl, ?_⟩))
    go_ret
    exact ⟨by first | rfl | (simp; done) | (simp [*]; done), by repeat (first | exact Drawn0.refl _ | apply Drawn0.step)⟩
  · rw [if_neg c4] at H
    have c4b0 : decide (8388608 ≤ (Int.tmod (wrap64 ((wrap64 ((wrap64 (Int.tmod a0 16777216)) - (wrap64 (Int.tmod t109 16777216)))) + 16777216)) 16777216)) = false := decide_eq_false c4
    clear c4
    replace H := Option.bind_eq_some_iff.mp H
    obtain ⟨t111, A60, H⟩ := H
    replace H : (some t111) = some r := H
    have A6 := Aside0.mk A60
    clear A60
    obtain rfl := Option.some.inj H
    go_enter Tryz.func41, Tryz.ntmps41
    go_wp2_with (first | ((with_reducible refine gate_callee (f := 31) rfl ?_); refine goesL_ (some 10) rfl rfl Tryz.func31 (by kernel_rfl) rfl #[.int .u64 a1] rfl (by (try simp only [List.map_toArray, List.map_cons, List.map_nil]); first | done | rfl | (simp only [List.length_drop, List.length_take]; rfl)) ?_; (with_reducible refine (muleteerref1_Seq.calls a1 t109 _ A3.out).mono ?_); rintro e w' ⟨rfl, ⟨nd, rfl⟩⟩; refine ⟨_, rfl, ?_⟩) | ((with_reducible refine gate_callee (f := 33) rfl ?_); refine goesL_ (some 22) rfl rfl Tryz.func33 (by kernel_rfl) rfl #[.int .u64 a1, .int .i64 (Int.tmod (wrap64 ((wrap64 ((wrap64 (Int.tmod a0 16777216)) - (wrap64 (Int.tmod t109 16777216)))) + 16777216)) 16777216)] rfl (by (try simp only [List.map_toArray, List.map_cons, List.map_nil]); first | done | rfl | (simp only [List.length_drop, List.length_take]; rfl)) ?_; (with_reducible refine (muleteerref1_Step.calls a1 (Int.tmod (wrap64 ((wrap64 ((wrap64 (Int.tmod a0 16777216)) - (wrap64 (Int.tmod t109 16777216)))) + 16777216)) 16777216) t111 _ A6.out).mono ?_); rintro e w' ⟨rfl, ⟨nd, rfl⟩⟩; refine ⟨_, rfl, ?_⟩))
    go_ret
    exact ⟨by first | rfl | (simp; done) | (simp [*]; done), by repeat (first | exact Drawn0.refl _ | apply Drawn0.step)⟩

/-! ### seq_Short: function 42 -/
def seq_Short.f (a0 : Int) : Option (Int) := some ((Go.bits .and .u64 a0 16777215) % 4294967296)
set_option maxHeartbeats 8000000 in
set_option maxRecDepth 100000 in
theorem seq_Short.calls (a0 : Int) (r : Int) (w : World) (h : seq_Short.f a0 = some r) :
    Calls Tryz.prog 42 #[.int .u64 a0] w fun e w' => e = .returned (.int .u32 r) ∧ Drawn0 w w' := by
  have H : (some ((Go.bits .and .u64 a0 16777215) % 4294967296)) = some r := h
  clear h
  obtain rfl := Option.some.inj H
  go_enter Tryz.func42, Tryz.ntmps42
  go_wp2
  go_ret
  exact ⟨by first | rfl | (simp; done) | (simp [*]; done), by repeat (first | exact Drawn0.refl _ | apply Drawn0.step)⟩

/-! ### muleteerlaw1_SeqShort: function 9 -/
mutual
def muleteerlaw1_SeqShort.j0 : Nat → Int → Int → Int → Bool → Option (Bool)
  | 0, _, _, _, _ => none
  | k + 1, x1, x2, x8, x33 => if x33 = true then (some false) else ((seq_Diff.f x8 x1).bind fun t115 => (if t115 < (-8388608) then (muleteerlaw1_SeqShort.j1 k x1 x2 true) else (muleteerlaw1_SeqShort.j1 k x1 x2 (decide (t115 ≥ 8388608)))))
def muleteerlaw1_SeqShort.j1 : Nat → Int → Int → Bool → Option (Bool)
  | 0, _, _, _ => none
  | k + 1, x1, x2, x42 => if x42 = true then (some false) else ((muleteerref1_Step.f x1 (Int.tmod x2 8388608)).bind fun t116 => ((seq_Short.f t116).bind fun t117 => (if t117 = ((Int.tmod t116 16777216) % 4294967296) then ((seq_Short.f t116).bind fun t118 => ((seq_Long.f t118 x1).bind fun t119 => (some (t119 == t116)))) else (some false))))
end
def muleteerlaw1_SeqShort.f (k : Nat) (a0 : Int) (a1 : Int) (a2 : Int) : Option (Bool) := (muleteerlaw1_begun.f).bind fun t112 => (if t112 = true then ((seq_Long.f a0 a1).bind fun t113 => ((muleteerref1_Long.f a0 a1).bind fun t114 => (if t113 = t114 then (if t113 > 281474976710655 then (muleteerlaw1_SeqShort.j0 k a1 a2 t113 true) else (muleteerlaw1_SeqShort.j0 k a1 a2 t113 (((Int.tmod t113 16777216) % 4294967296) != (Int.tmod a0 16777216)))) else (muleteerlaw1_SeqShort.j0 k a1 a2 t113 true)))) else (some false))
theorem muleteerlaw1_SeqShort.mono_l : ∀ k, (∀ y0 y1 y2 y3, LeO (muleteerlaw1_SeqShort.j0 k y0 y1 y2 y3) (muleteerlaw1_SeqShort.j0 (k + 1) y0 y1 y2 y3)) ∧ (∀ y0 y1 y2, LeO (muleteerlaw1_SeqShort.j1 k y0 y1 y2) (muleteerlaw1_SeqShort.j1 (k + 1) y0 y1 y2))
  | 0 => ⟨fun _ _ _ _ r h => by simp [muleteerlaw1_SeqShort.j0] at h, fun _ _ _ r h => by simp [muleteerlaw1_SeqShort.j1] at h⟩
  | k + 1 => by
    obtain ⟨ih0, ih1⟩ := muleteerlaw1_SeqShort.mono_l k
    refine ⟨?_, ?_⟩
    · intro y0 y1 y2 y3
      unfold muleteerlaw1_SeqShort.j0
      repeat' first
      | (with_reducible exact ih0 _ _ _ _)
      | (with_reducible exact ih1 _ _ _)
      | (with_reducible exact LeO.refl _)
      | (with_reducible exact LeO.none _)
      | (with_reducible refine LeO.ite ?_ ?_)
      | (with_reducible refine LeO.bind ?_ (fun _ => ?_))
      | exact ih0 _ _ _ _
      | exact ih1 _ _ _
      | exact LeO.none _
      | refine LeO.ite ?_ ?_
      | refine LeO.bind ?_ (fun _ => ?_)
    · intro y0 y1 y2
      unfold muleteerlaw1_SeqShort.j1
      repeat' first
      | (with_reducible exact ih0 _ _ _ _)
      | (with_reducible exact ih1 _ _ _)
      | (with_reducible exact LeO.refl _)
      | (with_reducible exact LeO.none _)
      | (with_reducible refine LeO.ite ?_ ?_)
      | (with_reducible refine LeO.bind ?_ (fun _ => ?_))
      | exact ih0 _ _ _ _
      | exact ih1 _ _ _
      | exact LeO.none _
      | refine LeO.ite ?_ ?_
      | refine LeO.bind ?_ (fun _ => ?_)
theorem muleteerlaw1_SeqShort.mono : ∀ a0 a1 a2 k, LeO (muleteerlaw1_SeqShort.f k a0 a1 a2) (muleteerlaw1_SeqShort.f (k + 1) a0 a1 a2) := by
  intro a0 a1 a2 k
  obtain ⟨ih0, ih1⟩ := muleteerlaw1_SeqShort.mono_l k
  unfold muleteerlaw1_SeqShort.f
  repeat' first
      | (with_reducible exact ih0 _ _ _ _)
      | (with_reducible exact ih1 _ _ _)
      | (with_reducible exact LeO.refl _)
      | (with_reducible exact LeO.none _)
      | (with_reducible refine LeO.ite ?_ ?_)
      | (with_reducible refine LeO.bind ?_ (fun _ => ?_))
      | exact ih0 _ _ _ _
      | exact ih1 _ _ _
      | exact LeO.none _
      | refine LeO.ite ?_ ?_
      | refine LeO.bind ?_ (fun _ => ?_)
set_option maxHeartbeats 8000000 in
set_option maxRecDepth 100000 in
theorem muleteerlaw1_SeqShort.calls (k : Nat) (a0 : Int) (a1 : Int) (a2 : Int) (r : Bool) (w : World) (h : muleteerlaw1_SeqShort.f k a0 a1 a2 = some r) :
    Calls Tryz.prog 9 #[.int .u32 a0, .int .u64 a1, .int .i64 a2] w fun e w' => e = .returned (.bool r) ∧ Below w.heap.size w w' := by
  have HB := Aside0.mk (Below.refl w.heap.size w)
  have H : ((muleteerlaw1_begun.f).bind fun t112 => (if t112 = true then ((seq_Long.f a0 a1).bind fun t113 => ((muleteerref1_Long.f a0 a1).bind fun t114 => (if t113 = t114 then (if t113 > 281474976710655 then (muleteerlaw1_SeqShort.j0 k a1 a2 t113 true) else (muleteerlaw1_SeqShort.j0 k a1 a2 t113 (((Int.tmod t113 16777216) % 4294967296) != (Int.tmod a0 16777216)))) else (muleteerlaw1_SeqShort.j0 k a1 a2 t113 true)))) else (some false))) = some r := h
  clear h
  replace H := Option.bind_eq_some_iff.mp H
  obtain ⟨t112, A40, H⟩ := H
  replace H : (if t112 = true then ((seq_Long.f a0 a1).bind fun t113 => ((muleteerref1_Long.f a0 a1).bind fun t114 => (if t113 = t114 then (if t113 > 281474976710655 then (muleteerlaw1_SeqShort.j0 k a1 a2 t113 true) else (muleteerlaw1_SeqShort.j0 k a1 a2 t113 (((Int.tmod t113 16777216) % 4294967296) != (Int.tmod a0 16777216)))) else (muleteerlaw1_SeqShort.j0 k a1 a2 t113 true)))) else (some false)) = some r := H
  have A4 := Aside0.mk A40
  clear A40
  by_cases c5 : t112 = true
  · subst c5
    have H1 : ((seq_Long.f a0 a1).bind fun t113 => ((muleteerref1_Long.f a0 a1).bind fun t114 => (if t113 = t114 then (if t113 > 281474976710655 then (muleteerlaw1_SeqShort.j0 k a1 a2 t113 true) else (muleteerlaw1_SeqShort.j0 k a1 a2 t113 (((Int.tmod t113 16777216) % 4294967296) != (Int.tmod a0 16777216)))) else (muleteerlaw1_SeqShort.j0 k a1 a2 t113 true)))) = some r := by rw [if_pos rfl] at H; exact H
    clear H
    have H := H1
    clear H1
    replace H := Option.bind_eq_some_iff.mp H
    obtain ⟨t113, A60, H⟩ := H
    replace H : ((muleteerref1_Long.f a0 a1).bind fun t114 => (if t113 = t114 then (if t113 > 281474976710655 then (muleteerlaw1_SeqShort.j0 k a1 a2 t113 true) else (muleteerlaw1_SeqShort.j0 k a1 a2 t113 (((Int.tmod t113 16777216) % 4294967296) != (Int.tmod a0 16777216)))) else (muleteerlaw1_SeqShort.j0 k a1 a2 t113 true))) = some r := H
    have A6 := Aside0.mk A60
    clear A60
    have HC7 := Aside0.mk H
    clear H
    go_enter Tryz.func9, Tryz.ntmps9
    go_upto_region 5 with (first | ((with_reducible refine gate_callee (f := 15) rfl ?_); refine goesL_ (some 11) rfl rfl Tryz.func15 (by kernel_rfl) rfl #[] rfl (by (try simp only [List.map_toArray, List.map_cons, List.map_nil]); first | done | rfl | (simp only [List.length_drop, List.length_take]; rfl)) ?_; (with_reducible refine (muleteerlaw1_begun.calls  true _ A4.out).mono ?_); rintro e w8 ⟨rfl, hb⟩; refine ⟨_, rfl, ?_⟩; have n0_ := Aside0.mk (below_step (by repeat (first | (with_reducible first | exact HB.out | apply below_alloc | apply pw_below_drewN | apply below_drew1) | exact HB.out)) hb); clear HB; have HB := n0_; clear n0_; (try clear hb); (try clear hb2); (try clear hk); (try clear hi)) | ((with_reducible refine gate_callee (f := 40) rfl ?_); refine goesL_ (some 16) rfl rfl Tryz.func40 (by kernel_rfl) rfl #[.int .u32 a0, .int .u64 a1] rfl (by (try simp only [List.map_toArray, List.map_cons, List.map_nil]); first | done | rfl | (simp only [List.length_drop, List.length_take]; rfl)) ?_; (with_reducible refine (seq_Long.calls a0 a1 t113 _ A6.out).mono ?_); rintro e w' ⟨rfl, ⟨nd, rfl⟩⟩; refine ⟨_, rfl, ?_⟩))
    (try simp only [Act.put, List.setIfInBounds_toArray, List.set_cons_zero, List.set_cons_succ])
    go_cut [33] (fun v33 wc => ∃ (kq : Nat) (x33_6 : Bool), v33 = .bool x33_6 ∧ Aside0 (muleteerlaw1_SeqShort.j0 kq a1 a2 t113 x33_6 = some r) ∧ Aside0 (kq ≤ k) ∧ Aside0 (Below w.heap.size w wc))
    case first =>
      have H := HC7.out
      clear HC7
      replace H := Option.bind_eq_some_iff.mp H
      obtain ⟨t114, A90, H⟩ := H
      replace H : (if t113 = t114 then (if t113 > 281474976710655 then (muleteerlaw1_SeqShort.j0 k a1 a2 t113 true) else (muleteerlaw1_SeqShort.j0 k a1 a2 t113 (((Int.tmod t113 16777216) % 4294967296) != (Int.tmod a0 16777216)))) else (muleteerlaw1_SeqShort.j0 k a1 a2 t113 true)) = some r := H
      have A9 := Aside0.mk A90
      clear A90
      by_cases c10 : t113 = t114
      · rw [if_pos c10] at H
        have c10b0 : (t113 == t114) = true := beq_iff_eq.mpr c10
        have c10b1 : (t113 != t114) = false := bne_eq_false_iff_eq.mpr c10
        clear c10
        (first | rw [c10b0] | (simp only [i64_w, i32_w]; rw [c10b0]) | skip)
        by_cases c11 : t113 > 281474976710655
        · rw [if_pos c11] at H
          have c11b0 : decide (281474976710655 < t113) = true := decide_eq_true c11
          clear c11
          have H' := Aside0.mk H
          clear H
          go_wp2_with (first | ((with_reducible refine gate_callee (f := 41) rfl ?_); refine goesL_ (some 20) rfl rfl Tryz.func41 (by kernel_rfl) rfl #[.int .u32 a0, .int .u64 a1] rfl (by (try simp only [List.map_toArray, List.map_cons, List.map_nil]); first | done | rfl | (simp only [List.length_drop, List.length_take]; rfl)) ?_; (with_reducible refine (muleteerref1_Long.calls a0 a1 t114 _ A9.out).mono ?_); rintro e w' ⟨rfl, ⟨nd, rfl⟩⟩; refine ⟨_, rfl, ?_⟩))
          go_meet
          case rel => exact ⟨_, (true), (by first | rfl | (simp; done) | (simp [*]; done)), H', ⟨by first | omega | exact Nat.le_refl _⟩, ⟨by repeat (first | (with_reducible first | exact HB.out | apply below_alloc | apply pw_below_drewN | apply below_drew1) | exact HB.out)⟩⟩
        · rw [if_neg c11] at H
          have c11b0 : decide (281474976710655 < t113) = false := decide_eq_false c11
          clear c11
          have H' := Aside0.mk H
          clear H
          go_wp2_with (first | ((with_reducible refine gate_callee (f := 41) rfl ?_); refine goesL_ (some 20) rfl rfl Tryz.func41 (by kernel_rfl) rfl #[.int .u32 a0, .int .u64 a1] rfl (by (try simp only [List.map_toArray, List.map_cons, List.map_nil]); first | done | rfl | (simp only [List.length_drop, List.length_take]; rfl)) ?_; (with_reducible refine (muleteerref1_Long.calls a0 a1 t114 _ A9.out).mono ?_); rintro e w' ⟨rfl, ⟨nd, rfl⟩⟩; refine ⟨_, rfl, ?_⟩))
          go_meet
          case rel => exact ⟨_, ((((Int.tmod t113 16777216) % 4294967296) != (Int.tmod a0 16777216))), (by first | rfl | (simp; done) | (simp [*]; done)), H', ⟨by first | omega | exact Nat.le_refl _⟩, ⟨by repeat (first | (with_reducible first | exact HB.out | apply below_alloc | apply pw_below_drewN | apply below_drew1) | exact HB.out)⟩⟩
      · rw [if_neg c10] at H
        have c10b0 : (t113 == t114) = false := beq_eq_false_iff_ne.mpr c10
        have c10b1 : (t113 != t114) = true := bne_iff_ne.mpr c10
        (first | rw [c10b0] | (simp only [i64_w, i32_w]; rw [c10b0]) | skip)
        have H' := Aside0.mk H
        clear H
        go_wp2_with (first | ((with_reducible refine gate_callee (f := 41) rfl ?_); refine goesL_ (some 20) rfl rfl Tryz.func41 (by kernel_rfl) rfl #[.int .u32 a0, .int .u64 a1] rfl (by (try simp only [List.map_toArray, List.map_cons, List.map_nil]); first | done | rfl | (simp only [List.length_drop, List.length_take]; rfl)) ?_; (with_reducible refine (muleteerref1_Long.calls a0 a1 t114 _ A9.out).mono ?_); rintro e w' ⟨rfl, ⟨nd, rfl⟩⟩; refine ⟨_, rfl, ?_⟩))
        go_meet
        case rel => exact ⟨_, (true), (by first | rfl | (simp; done) | (simp [*]; done)), H', ⟨by first | omega | exact Nat.le_refl _⟩, ⟨by repeat (first | (with_reducible first | exact HB.out | apply below_alloc | apply pw_below_drewN | apply below_drew1) | exact HB.out)⟩⟩
    case rest =>
      clear HC7
      try clear c1
      try clear p2
      try clear c4
      try clear c5
      try clear c9
      try clear c10
      try clear c10b0
      try clear c10b1
      try clear c11
      try clear c11b0
      obtain ⟨kq, x33_6, rfl, HA, HJ6, HB⟩ := hcut
      cases kq with
      | zero => exact absurd HA.out (by simp [muleteerlaw1_SeqShort.j0])
      | succ kj6 =>
        have H := HA.out
        clear HA
        simp only [muleteerlaw1_SeqShort.j0] at H
        by_cases c12 : x33_6 = true
        · subst c12
          have H1 : (some false) = some r := by rw [if_pos rfl] at H; exact H
          clear H
          have H := H1
          clear H1
          obtain rfl := Option.some.inj H
          go_wp2
          go_ret
          exact ⟨by first | rfl | (simp [errW_none, errW_some] <;> rfl) | (simp [*, errW_none, errW_some] <;> rfl), by repeat (first | (with_reducible first | exact HB.out | apply below_alloc | apply pw_below_drewN | apply below_drew1) | exact HB.out)⟩
        · replace c12 := Bool.eq_false_iff.mpr c12
          subst c12
          have H1 : ((seq_Diff.f t113 a1).bind fun t115 => (if t115 < (-8388608) then (muleteerlaw1_SeqShort.j1 kj6 a1 a2 true) else (muleteerlaw1_SeqShort.j1 kj6 a1 a2 (decide (t115 ≥ 8388608))))) = some r := by rw [if_neg (show ¬ (false = true) by decide)] at H; exact H
          clear H
          have H := H1
          clear H1
          replace H := Option.bind_eq_some_iff.mp H
          obtain ⟨t115, A130, H⟩ := H
          replace H : (if t115 < (-8388608) then (muleteerlaw1_SeqShort.j1 kj6 a1 a2 true) else (muleteerlaw1_SeqShort.j1 kj6 a1 a2 (decide (t115 ≥ 8388608)))) = some r := H
          have A13 := Aside0.mk A130
          clear A130
          have HC14 := Aside0.mk H
          clear H
          go_upto_region 8 with (first | ((with_reducible refine gate_callee (f := 34) rfl ?_); refine goesL_ (some 36) rfl rfl Tryz.func34 (by kernel_rfl) rfl #[.int .u64 t113, .int .u64 a1] rfl (by (try simp only [List.map_toArray, List.map_cons, List.map_nil]); first | done | rfl | (simp only [List.length_drop, List.length_take]; rfl)) ?_; (with_reducible refine (seq_Diff.calls t113 a1 t115 _ A13.out).mono ?_); rintro e w' ⟨rfl, ⟨nd, rfl⟩⟩; refine ⟨_, rfl, ?_⟩))
          (try simp only [Act.put, List.setIfInBounds_toArray, List.set_cons_zero, List.set_cons_succ])
          go_cut [42] (fun v42 wc => ∃ (kq : Nat) (x42_13 : Bool), v42 = .bool x42_13 ∧ Aside0 (muleteerlaw1_SeqShort.j1 kq a1 a2 x42_13 = some r) ∧ Aside0 (kq ≤ kj6) ∧ Aside0 (Below w.heap.size w wc))
          case first =>
            have H := HC14.out
            clear HC14
            by_cases c15 : t115 < (-8388608)
            · rw [if_pos c15] at H
              have c15b0 : decide (t115 < (-8388608)) = true := decide_eq_true c15
              clear c15
              (first | rw [c15b0] | (simp only [i64_w, i32_w]; rw [c15b0]) | skip)
              have H' := Aside0.mk H
              clear H
              go_wp2
              go_meet
              case rel => exact ⟨_, (true), (by first | rfl | (simp; done) | (simp [*]; done)), H', ⟨by have := HJ6.out; first | omega | exact Nat.le_refl _⟩, ⟨by repeat (first | (with_reducible first | exact HB.out | apply below_alloc | apply pw_below_drewN | apply below_drew1) | exact HB.out)⟩⟩
            · rw [if_neg c15] at H
              have c15b0 : decide (t115 < (-8388608)) = false := decide_eq_false c15
              clear c15
              (first | rw [c15b0] | (simp only [i64_w, i32_w]; rw [c15b0]) | skip)
              have H' := Aside0.mk H
              clear H
              go_wp2
              go_meet
              case rel => exact ⟨_, (decide (t115 ≥ 8388608)), (by first | rfl | (simp; done) | (simp [*]; done)), H', ⟨by have := HJ6.out; first | omega | exact Nat.le_refl _⟩, ⟨by repeat (first | (with_reducible first | exact HB.out | apply below_alloc | apply pw_below_drewN | apply below_drew1) | exact HB.out)⟩⟩
          case rest =>
            clear HC14
            try clear c1
            try clear p2
            try clear c3
            try clear c4
            try clear c5
            try clear c9
            try clear c10
            try clear c10b0
            try clear c10b1
            try clear c11
            try clear c11b0
            try clear c12
            try clear c15
            try clear c15b0
            try clear p2
            obtain ⟨kq, x42_13, rfl, HA, HJ13, HB⟩ := hcut
            cases kq with
            | zero => exact absurd HA.out (by simp [muleteerlaw1_SeqShort.j1])
            | succ kj13 =>
              have H := HA.out
              clear HA
              simp only [muleteerlaw1_SeqShort.j1] at H
              by_cases c16 : x42_13 = true
              · subst c16
                have H1 : (some false) = some r := by rw [if_pos rfl] at H; exact H
                clear H
                have H := H1
                clear H1
                obtain rfl := Option.some.inj H
                go_wp2
                go_ret
                exact ⟨by first | rfl | (simp [errW_none, errW_some] <;> rfl) | (simp [*, errW_none, errW_some] <;> rfl), by repeat (first | (with_reducible first | exact HB.out | apply below_alloc | apply pw_below_drewN | apply below_drew1) | exact HB.out)⟩
              · replace c16 := Bool.eq_false_iff.mpr c16
                subst c16
                have H1 : ((muleteerref1_Step.f a1 (Int.tmod a2 8388608)).bind fun t116 => ((seq_Short.f t116).bind fun t117 => (if t117 = ((Int.tmod t116 16777216) % 4294967296) then ((seq_Short.f t116).bind fun t118 => ((seq_Long.f t118 a1).bind fun t119 => (some (t119 == t116)))) else (some false)))) = some r := by rw [if_neg (show ¬ (false = true) by decide)] at H; exact H
                clear H
                have H := H1
                clear H1
                replace H := Option.bind_eq_some_iff.mp H
                obtain ⟨t116, A170, H⟩ := H
                replace H : ((seq_Short.f t116).bind fun t117 => (if t117 = ((Int.tmod t116 16777216) % 4294967296) then ((seq_Short.f t116).bind fun t118 => ((seq_Long.f t118 a1).bind fun t119 => (some (t119 == t116)))) else (some false))) = some r := H
                have A17 := Aside0.mk A170
                clear A170
                replace H := Option.bind_eq_some_iff.mp H
                obtain ⟨t117, A180, H⟩ := H
                replace H : (if t117 = ((Int.tmod t116 16777216) % 4294967296) then ((seq_Short.f t116).bind fun t118 => ((seq_Long.f t118 a1).bind fun t119 => (some (t119 == t116)))) else (some false)) = some r := H
                have A18 := Aside0.mk A180
                clear A180
                by_cases c19 : t117 = ((Int.tmod t116 16777216) % 4294967296)
                · rw [if_pos c19] at H
                  have c19b0 : (t117 == ((Int.tmod t116 16777216) % 4294967296)) = true := beq_iff_eq.mpr c19
                  have c19b1 : (t117 != ((Int.tmod t116 16777216) % 4294967296)) = false := bne_eq_false_iff_eq.mpr c19
                  clear c19
                  replace H := Option.bind_eq_some_iff.mp H
                  obtain ⟨t118, A200, H⟩ := H
                  have e_ := Option.some.inj (A18.out.symm.trans A200)
                  subst e_
                  replace H : ((seq_Long.f t117 a1).bind fun t119 => (some (t119 == t116))) = some r := H
                  have A20 := Aside0.mk A200
                  clear A200
                  replace H := Option.bind_eq_some_iff.mp H
                  obtain ⟨t119, A210, H⟩ := H
                  replace H : (some (t119 == t116)) = some r := H
                  have A21 := Aside0.mk A210
                  clear A210
                  obtain rfl := Option.some.inj H
                  go_wp2_with (first | ((with_reducible refine gate_callee (f := 33) rfl ?_); refine goesL_ (some 47) rfl rfl Tryz.func33 (by kernel_rfl) rfl #[.int .u64 a1, .int .i64 (Int.tmod a2 8388608)] rfl (by (try simp only [List.map_toArray, List.map_cons, List.map_nil]); first | done | rfl | (simp only [List.length_drop, List.length_take]; rfl)) ?_; (with_reducible refine (muleteerref1_Step.calls a1 (Int.tmod a2 8388608) t116 _ A17.out).mono ?_); rintro e w' ⟨rfl, ⟨nd, rfl⟩⟩; refine ⟨_, rfl, ?_⟩) | ((with_reducible refine gate_callee (f := 42) rfl ?_); refine goesL_ (some 49) rfl rfl Tryz.func42 (by kernel_rfl) rfl #[.int .u64 t116] rfl (by (try simp only [List.map_toArray, List.map_cons, List.map_nil]); first | done | rfl | (simp only [List.length_drop, List.length_take]; rfl)) ?_; (with_reducible refine (seq_Short.calls t116 t117 _ A18.out).mono ?_); rintro e w' ⟨rfl, ⟨nd, rfl⟩⟩; refine ⟨_, rfl, ?_⟩) | (go_at_call 42; (with_reducible refine (seq_Short.calls t116 t117 _ A20.out).mono ?_); rintro e w' ⟨rfl, ⟨nd, rfl⟩⟩) | (go_at_call 40; (with_reducible refine (seq_Long.calls t117 a1 t119 _ A21.out).mono ?_); rintro e w' ⟨rfl, ⟨nd, rfl⟩⟩))
                  go_ret
                  exact ⟨by first | rfl | (simp [errW_none, errW_some] <;> rfl) | (simp [*, errW_none, errW_some] <;> rfl), by repeat (first | (with_reducible first | exact HB.out | apply below_alloc | apply pw_below_drewN | apply below_drew1) | exact HB.out)⟩
                · rw [if_neg c19] at H
                  have c19b0 : (t117 == ((Int.tmod t116 16777216) % 4294967296)) = false := beq_eq_false_iff_ne.mpr c19
                  have c19b1 : (t117 != ((Int.tmod t116 16777216) % 4294967296)) = true := bne_iff_ne.mpr c19
                  obtain rfl := Option.some.inj H
                  go_wp2_with (first | ((with_reducible refine gate_callee (f := 33) rfl ?_); refine goesL_ (some 47) rfl rfl Tryz.func33 (by kernel_rfl) rfl #[.int .u64 a1, .int .i64 (Int.tmod a2 8388608)] rfl (by (try simp only [List.map_toArray, List.map_cons, List.map_nil]); first | done | rfl | (simp only [List.length_drop, List.length_take]; rfl)) ?_; (with_reducible refine (muleteerref1_Step.calls a1 (Int.tmod a2 8388608) t116 _ A17.out).mono ?_); rintro e w' ⟨rfl, ⟨nd, rfl⟩⟩; refine ⟨_, rfl, ?_⟩) | ((with_reducible refine gate_callee (f := 42) rfl ?_); refine goesL_ (some 49) rfl rfl Tryz.func42 (by kernel_rfl) rfl #[.int .u64 t116] rfl (by (try simp only [List.map_toArray, List.map_cons, List.map_nil]); first | done | rfl | (simp only [List.length_drop, List.length_take]; rfl)) ?_; (with_reducible refine (seq_Short.calls t116 t117 _ A18.out).mono ?_); rintro e w' ⟨rfl, ⟨nd, rfl⟩⟩; refine ⟨_, rfl, ?_⟩))
                  go_ret
                  exact ⟨by first | rfl | (simp [errW_none, errW_some] <;> rfl) | (simp [*, errW_none, errW_some] <;> rfl), by repeat (first | (with_reducible first | exact HB.out | apply below_alloc | apply pw_below_drewN | apply below_drew1) | exact HB.out)⟩
  · replace c5 := Bool.eq_false_iff.mpr c5
    subst c5
    have H1 : (some false) = some r := by rw [if_neg (show ¬ (false = true) by decide)] at H; exact H
    clear H
    have H := H1
    clear H1
    obtain rfl := Option.some.inj H
    go_enter Tryz.func9, Tryz.ntmps9
    go_wp2_with (first | ((with_reducible refine gate_callee (f := 15) rfl ?_); refine goesL_ (some 11) rfl rfl Tryz.func15 (by kernel_rfl) rfl #[] rfl (by (try simp only [List.map_toArray, List.map_cons, List.map_nil]); first | done | rfl | (simp only [List.length_drop, List.length_take]; rfl)) ?_; (with_reducible refine (muleteerlaw1_begun.calls  false _ A4.out).mono ?_); rintro e w22 ⟨rfl, hb⟩; refine ⟨_, rfl, ?_⟩; have n0_ := Aside0.mk (below_step (by repeat (first | (with_reducible first | exact HB.out | apply below_alloc | apply pw_below_drewN | apply below_drew1) | exact HB.out)) hb); clear HB; have HB := n0_; clear n0_; (try clear hb); (try clear hb2); (try clear hk); (try clear hi)))
    go_ret
    exact ⟨by first | rfl | (simp [errW_none, errW_some] <;> rfl) | (simp [*, errW_none, errW_some] <;> rfl), by repeat (first | (with_reducible first | exact HB.out | apply below_alloc | apply pw_below_drewN | apply below_drew1) | exact HB.out)⟩

/-- THE ONE PURE STATEMENT of muleteerlaw1_SeqShort: yours. -/
def muleteerlaw1_SeqShort.Pure : Prop := ∀ (a0 : Int) (a1 : Int) (a2 : Int), (Lit.int .u32 a0).wf = true → (Lit.int .u64 a1).wf = true → (Lit.int .i64 a2).wf = true → ∃ k, muleteerlaw1_SeqShort.f k a0 a1 a2 = some true
theorem muleteerlaw1_SeqShort.walk (P : muleteerlaw1_SeqShort.Pure) (a0 : Int) (a1 : Int) (a2 : Int) (w : World) (w0 : (Lit.int .u32 a0).wf = true) (w1 : (Lit.int .u64 a1).wf = true) (w2 : (Lit.int .i64 a2).wf = true) :
    Calls Tryz.prog 9 #[.int .u32 a0, .int .u64 a1, .int .i64 a2] w fun e w' => e = .returned (.bool true) ∧ Below w.heap.size w w' := by
  obtain ⟨k, h⟩ := P a0 a1 a2 w0 w1 w2
  refine (muleteerlaw1_SeqShort.calls k a0 a1 a2 true w h).mono ?_
  rintro e w' ⟨rfl, hd⟩
  exact ⟨rfl, hd⟩

end Go.Proofs.YtmdimebifngekaaGreatDoor.PSeqShort
