/- What this seat's Go functions compute, as Lean functions, and that they do. Written by a program of this session's (wip/pr/pr.py) by means of the kit's printer, with contracts of ours for some functions; conditions: none beyond each theorem's own. -/
import Derived.Test.YtmdimebifngekaaGreatDoorPSeqAllx0
namespace Go.Proofs.YtmdimebifngekaaGreatDoor.PSeqAll
open Go.RowKit Go.Proofs.YtmdimebifngekaaGreatDoorW.PrintWords Go.Proofs.YtmdimebifngekaaGreatDoorW.PrintLast Go.Proofs.YtmdimebifngekaaGreatDoorW.PrintMore
attribute [local go_sem] max2_int min2_int max_two min_two max_three min_three max_four min_four   -- for this text's walks alone
set_option linter.unusedVariables false
set_option linter.unusedSimpArgs false

/-! ### muleteerlaw1_begun: function 15: a contract of ours -/
def muleteerlaw1_begun.f  : Option (Bool) := some true
theorem muleteerlaw1_begun.calls  (r : Bool) (w : World)  (h : muleteerlaw1_begun.f  = some r) :
    Calls Tryz.prog 15 #[] w fun e w' => e = .returned (.bool r) ∧ Below w.heap.size w w' := by
  cases h; exact begun_true w

/-! ### seq_Of: function 30: a contract of ours -/
def seq_Of.f (a0 : Int) : Option (Int) := if 0 ≤ a0 ∧ a0 < 18446744073709551616 then some (a0 % 281474976710656) else none
theorem seq_Of.calls (a0 : Int) (r : Int) (w : World)  (h : seq_Of.f a0 = some r) :
    Calls Tryz.prog 30 #[.int .u64 a0] w fun e w' => e = .returned (.int .u64 r) ∧ Drawn0 w w' := by
  unfold seq_Of.f at h
  split at h
  · rename_i hc
    obtain rfl := Option.some.inj h
    exact (seq_Of a0 hc.1 hc.2 w).mono fun e w' hq => ⟨hq.1, same_drawn hq.2⟩
  · cases h

/-! ### muleteerref1_Seq: function 31 -/
def muleteerref1_Seq.f (a0 : Int) : Option (Int) := some (Int.tmod a0 281474976710656)
set_option maxHeartbeats 8000000 in
set_option maxRecDepth 100000 in
theorem muleteerref1_Seq.calls (a0 : Int) (r : Int) (w : World) (h : muleteerref1_Seq.f a0 = some r) :
    Calls Tryz.prog 31 #[.int .u64 a0] w fun e w' => e = .returned (.int .u64 r) ∧ Drawn0 w w' := by
  have H : (some (Int.tmod a0 281474976710656)) = some r := h
  clear h
  obtain rfl := Option.some.inj H
  go_enter Tryz.func31, Tryz.ntmps31
  go_wp2
  go_ret
  exact ⟨by first | rfl | (simp; done) | (simp [*]; done), by repeat (first | exact Drawn0.refl _ | apply Drawn0.step)⟩

/-! ### seq_Add: function 32 -/
def seq_Add.f (a0 : Int) (a1 : Int) : Option (Int) := (seq_Of.f (IntKind.u64.wrap (a0 + (IntKind.u64.wrap (a1))))).bind fun t101 => (some t101)
set_option maxHeartbeats 8000000 in
set_option maxRecDepth 100000 in
theorem seq_Add.calls (a0 : Int) (a1 : Int) (r : Int) (w : World) (h : seq_Add.f a0 a1 = some r) :
    Calls Tryz.prog 32 #[.int .u64 a0, .int .i64 a1] w fun e w' => e = .returned (.int .u64 r) ∧ Drawn0 w w' := by
  have H : ((seq_Of.f (IntKind.u64.wrap (a0 + (IntKind.u64.wrap (a1))))).bind fun t101 => (some t101)) = some r := h
  clear h
  replace H := Option.bind_eq_some_iff.mp H
  obtain ⟨t101, A30, H⟩ := H
  replace H : (some t101) = some r := H
  have A3 := Aside0.mk A30
  clear A30
  obtain rfl := Option.some.inj H
  go_enter Tryz.func32, Tryz.ntmps32
  go_wp2_with (first | ((with_reducible refine gate_callee (f := 30) rfl ?_); refine goesL_ (some 9) rfl rfl Tryz.func30 (by kernel_rfl) rfl #[.int .u64 (IntKind.u64.wrap (a0 + (IntKind.u64.wrap (a1))))] rfl (by (try simp only [List.map_toArray, List.map_cons, List.map_nil]); first | done | rfl | (simp only [List.length_drop, List.length_take]; rfl)) ?_; (with_reducible refine (seq_Of.calls (IntKind.u64.wrap (a0 + (IntKind.u64.wrap (a1)))) t101 _ A3.out).mono ?_); rintro e w' ⟨rfl, ⟨nd, rfl⟩⟩; refine ⟨_, rfl, ?_⟩))
  go_ret
  exact ⟨by first | rfl | (simp; done) | (simp [*]; done), by repeat (first | exact Drawn0.refl _ | apply Drawn0.step)⟩

/-! ### muleteerref1_Step: function 33 -/
def muleteerref1_Step.f (a0 : Int) (a1 : Int) : Option (Int) := if (Int.tmod a1 281474976710656) < 0 then ((muleteerref1_Seq.f a0).bind fun t102 => ((muleteerref1_Seq.f (IntKind.u64.wrap (t102 + (IntKind.u64.wrap (wrap64 ((Int.tmod a1 281474976710656) + 281474976710656)))))).bind fun t103 => (some t103))) else ((muleteerref1_Seq.f a0).bind fun t104 => ((muleteerref1_Seq.f (IntKind.u64.wrap (t104 + (IntKind.u64.wrap (Int.tmod a1 281474976710656))))).bind fun t105 => (some t105)))
set_option maxHeartbeats 8000000 in
set_option maxRecDepth 100000 in
theorem muleteerref1_Step.calls (a0 : Int) (a1 : Int) (r : Int) (w : World) (h : muleteerref1_Step.f a0 a1 = some r) :
    Calls Tryz.prog 33 #[.int .u64 a0, .int .i64 a1] w fun e w' => e = .returned (.int .u64 r) ∧ Drawn0 w w' := by
  have H : (if (Int.tmod a1 281474976710656) < 0 then ((muleteerref1_Seq.f a0).bind fun t102 => ((muleteerref1_Seq.f (IntKind.u64.wrap (t102 + (IntKind.u64.wrap (wrap64 ((Int.tmod a1 281474976710656) + 281474976710656)))))).bind fun t103 => (some t103))) else ((muleteerref1_Seq.f a0).bind fun t104 => ((muleteerref1_Seq.f (IntKind.u64.wrap (t104 + (IntKind.u64.wrap (Int.tmod a1 281474976710656))))).bind fun t105 => (some t105)))) = some r := h
  clear h
  by_cases c3 : (Int.tmod a1 281474976710656) < 0
  · rw [if_pos c3] at H
    have c3b0 : decide ((Int.tmod a1 281474976710656) < 0) = true := decide_eq_true c3
    clear c3
    replace H := Option.bind_eq_some_iff.mp H
    obtain ⟨t102, A40, H⟩ := H
    replace H : ((muleteerref1_Seq.f (IntKind.u64.wrap (t102 + (IntKind.u64.wrap (wrap64 ((Int.tmod a1 281474976710656) + 281474976710656)))))).bind fun t103 => (some t103)) = some r := H
    have A4 := Aside0.mk A40
    clear A40
    replace H := Option.bind_eq_some_iff.mp H
    obtain ⟨t103, A50, H⟩ := H
    replace H : (some t103) = some r := H
    have A5 := Aside0.mk A50
    clear A50
    obtain rfl := Option.some.inj H
    go_enter Tryz.func33, Tryz.ntmps33
    go_wp2_with (first | ((with_reducible refine gate_callee (f := 31) rfl ?_); refine goesL_ (some 13) rfl rfl Tryz.func31 (by kernel_rfl) rfl #[.int .u64 a0] rfl (by (try simp only [List.map_toArray, List.map_cons, List.map_nil]); first | done | rfl | (simp only [List.length_drop, List.length_take]; rfl)) ?_; (with_reducible refine (muleteerref1_Seq.calls a0 t102 _ A4.out).mono ?_); rintro e w' ⟨rfl, ⟨nd, rfl⟩⟩; refine ⟨_, rfl, ?_⟩) | ((with_reducible refine gate_callee (f := 31) rfl ?_); refine goesL_ (some 17) rfl rfl Tryz.func31 (by kernel_rfl) rfl #[.int .u64 (IntKind.u64.wrap (t102 + (IntKind.u64.wrap (wrap64 ((Int.tmod a1 281474976710656) + 281474976710656)))))] rfl (by (try simp only [List.map_toArray, List.map_cons, List.map_nil]); first | done | rfl | (simp only [List.length_drop, List.length_take]; rfl)) ?_; (with_reducible refine (muleteerref1_Seq.calls (IntKind.u64.wrap (t102 + (IntKind.u64.wrap (wrap64 ((Int.tmod a1 281474976710656) + 281474976710656))))) t103 _ A5.out).mono ?_); rintro e w' ⟨rfl, ⟨nd, rfl⟩⟩; refine ⟨_, rfl, ?_⟩))
    go_ret
    exact ⟨by first | rfl | (simp; done) | (simp [*]; done), by repeat (first | exact Drawn0.refl _ | apply Drawn0.step)⟩
  · rw [if_neg c3] at H
    have c3b0 : decide ((Int.tmod a1 281474976710656) < 0) = false := decide_eq_false c3
    clear c3
    replace H := Option.bind_eq_some_iff.mp H
    obtain ⟨t104, A60, H⟩ := H
    replace H : ((muleteerref1_Seq.f (IntKind.u64.wrap (t104 + (IntKind.u64.wrap (Int.tmod a1 281474976710656))))).bind fun t105 => (some t105)) = some r := H
    have A6 := Aside0.mk A60
    clear A60
    replace H := Option.bind_eq_some_iff.mp H
    obtain ⟨t105, A70, H⟩ := H
    replace H : (some t105) = some r := H
    have A7 := Aside0.mk A70
    clear A70
    obtain rfl := Option.some.inj H
    go_enter Tryz.func33, Tryz.ntmps33
    go_wp2_with (first | ((with_reducible refine gate_callee (f := 31) rfl ?_); refine goesL_ (some 13) rfl rfl Tryz.func31 (by kernel_rfl) rfl #[.int .u64 a0] rfl (by (try simp only [List.map_toArray, List.map_cons, List.map_nil]); first | done | rfl | (simp only [List.length_drop, List.length_take]; rfl)) ?_; (with_reducible refine (muleteerref1_Seq.calls a0 t104 _ A6.out).mono ?_); rintro e w' ⟨rfl, ⟨nd, rfl⟩⟩; refine ⟨_, rfl, ?_⟩) | ((with_reducible refine gate_callee (f := 31) rfl ?_); refine goesL_ (some 17) rfl rfl Tryz.func31 (by kernel_rfl) rfl #[.int .u64 (IntKind.u64.wrap (t104 + (IntKind.u64.wrap (Int.tmod a1 281474976710656))))] rfl (by (try simp only [List.map_toArray, List.map_cons, List.map_nil]); first | done | rfl | (simp only [List.length_drop, List.length_take]; rfl)) ?_; (with_reducible refine (muleteerref1_Seq.calls (IntKind.u64.wrap (t104 + (IntKind.u64.wrap (Int.tmod a1 281474976710656)))) t105 _ A7.out).mono ?_); rintro e w' ⟨rfl, ⟨nd, rfl⟩⟩; refine ⟨_, rfl, ?_⟩))
    go_ret
    exact ⟨by first | rfl | (simp; done) | (simp [*]; done), by repeat (first | exact Drawn0.refl _ | apply Drawn0.step)⟩

/-! ### seq_Diff: function 34 -/
def seq_Diff.f (a0 : Int) (a1 : Int) : Option (Int) := (seq_Of.f (IntKind.u64.wrap (a0 - a1))).bind fun t106 => (if t106 ≥ 140737488355328 then (some (wrap64 ((wrap64 (t106)) - 281474976710656))) else (some (wrap64 (t106))))
set_option maxHeartbeats 8000000 in
set_option maxRecDepth 100000 in
theorem seq_Diff.calls (a0 : Int) (a1 : Int) (r : Int) (w : World) (h : seq_Diff.f a0 a1 = some r) :
    Calls Tryz.prog 34 #[.int .u64 a0, .int .u64 a1] w fun e w' => e = .returned (.int .i64 r) ∧ Drawn0 w w' := by
  have H : ((seq_Of.f (IntKind.u64.wrap (a0 - a1))).bind fun t106 => (if t106 ≥ 140737488355328 then (some (wrap64 ((wrap64 (t106)) - 281474976710656))) else (some (wrap64 (t106))))) = some r := h
  clear h
  replace H := Option.bind_eq_some_iff.mp H
  obtain ⟨t106, A30, H⟩ := H
  replace H : (if t106 ≥ 140737488355328 then (some (wrap64 ((wrap64 (t106)) - 281474976710656))) else (some (wrap64 (t106)))) = some r := H
  have A3 := Aside0.mk A30
  clear A30
  by_cases c4 : t106 ≥ 140737488355328
  · rw [if_pos c4] at H
    have c4b0 : decide (140737488355328 ≤ t106) = true := decide_eq_true c4
    clear c4
    obtain rfl := Option.some.inj H
    go_enter Tryz.func34, Tryz.ntmps34
    go_wp2_with (first | ((with_reducible refine gate_callee (f := 30) rfl ?_); refine goesL_ (some 9) rfl rfl Tryz.func30 (by kernel_rfl) rfl #[.int .u64 (IntKind.u64.wrap (a0 - a1))] rfl (by (try simp only [List.map_toArray, List.map_cons, List.map_nil]); first | done | rfl | (simp only [List.length_drop, List.length_take]; rfl)) ?_; (with_reducible refine (seq_Of.calls (IntKind.u64.wrap (a0 - a1)) t106 _ A3.out).mono ?_); rintro e w' ⟨rfl, ⟨nd, rfl⟩⟩; refine ⟨_, rfl, ?_⟩))
    go_ret
    exact ⟨by first | rfl | (simp; done) | (simp [*]; done), by repeat (first | exact Drawn0.refl _ | apply Drawn0.step)⟩
  · rw [if_neg c4] at H
    have c4b0 : decide (140737488355328 ≤ t106) = false := decide_eq_false c4
    clear c4
    obtain rfl := Option.some.inj H
    go_enter Tryz.func34, Tryz.ntmps34
    go_wp2_with (first | ((with_reducible refine gate_callee (f := 30) rfl ?_); refine goesL_ (some 9) rfl rfl Tryz.func30 (by kernel_rfl) rfl #[.int .u64 (IntKind.u64.wrap (a0 - a1))] rfl (by (try simp only [List.map_toArray, List.map_cons, List.map_nil]); first | done | rfl | (simp only [List.length_drop, List.length_take]; rfl)) ?_; (with_reducible refine (seq_Of.calls (IntKind.u64.wrap (a0 - a1)) t106 _ A3.out).mono ?_); rintro e w' ⟨rfl, ⟨nd, rfl⟩⟩; refine ⟨_, rfl, ?_⟩))
    go_ret
    exact ⟨by first | rfl | (simp; done) | (simp [*]; done), by repeat (first | exact Drawn0.refl _ | apply Drawn0.step)⟩

/-! ### muleteerref1_Diff: function 35 -/
def muleteerref1_Diff.f (a0 : Int) (a1 : Int) : Option (Int) := (muleteerref1_Seq.f a0).bind fun t107 => ((muleteerref1_Seq.f a1).bind fun t108 => (if (Int.tmod (IntKind.u64.wrap ((IntKind.u64.wrap (t107 + 281474976710656)) - t108)) 281474976710656) ≥ 140737488355328 then (some (wrap64 ((wrap64 (Int.tmod (IntKind.u64.wrap ((IntKind.u64.wrap (t107 + 281474976710656)) - t108)) 281474976710656)) - 281474976710656))) else (some (wrap64 (Int.tmod (IntKind.u64.wrap ((IntKind.u64.wrap (t107 + 281474976710656)) - t108)) 281474976710656)))))
set_option maxHeartbeats 8000000 in
set_option maxRecDepth 100000 in
theorem muleteerref1_Diff.calls (a0 : Int) (a1 : Int) (r : Int) (w : World) (h : muleteerref1_Diff.f a0 a1 = some r) :
    Calls Tryz.prog 35 #[.int .u64 a0, .int .u64 a1] w fun e w' => e = .returned (.int .i64 r) ∧ Drawn0 w w' := by
  have H : ((muleteerref1_Seq.f a0).bind fun t107 => ((muleteerref1_Seq.f a1).bind fun t108 => (if (Int.tmod (IntKind.u64.wrap ((IntKind.u64.wrap (t107 + 281474976710656)) - t108)) 281474976710656) ≥ 140737488355328 then (some (wrap64 ((wrap64 (Int.tmod (IntKind.u64.wrap ((IntKind.u64.wrap (t107 + 281474976710656)) - t108)) 281474976710656)) - 281474976710656))) else (some (wrap64 (Int.tmod (IntKind.u64.wrap ((IntKind.u64.wrap (t107 + 281474976710656)) - t108)) 281474976710656)))))) = some r := h
  clear h
  replace H := Option.bind_eq_some_iff.mp H
  obtain ⟨t107, A30, H⟩ := H
  replace H : ((muleteerref1_Seq.f a1).bind fun t108 => (if (Int.tmod (IntKind.u64.wrap ((IntKind.u64.wrap (t107 + 281474976710656)) - t108)) 281474976710656) ≥ 140737488355328 then (some (wrap64 ((wrap64 (Int.tmod (IntKind.u64.wrap ((IntKind.u64.wrap (t107 + 281474976710656)) - t108)) 281474976710656)) - 281474976710656))) else (some (wrap64 (Int.tmod (IntKind.u64.wrap ((IntKind.u64.wrap (t107 + 281474976710656)) - t108)) 281474976710656))))) = some r := H
  have A3 := Aside0.mk A30
  clear A30
  replace H := Option.bind_eq_some_iff.mp H
  obtain ⟨t108, A40, H⟩ := H
  replace H : (if (Int.tmod (IntKind.u64.wrap ((IntKind.u64.wrap (t107 + 281474976710656)) - t108)) 281474976710656) ≥ 140737488355328 then (some (wrap64 ((wrap64 (Int.tmod (IntKind.u64.wrap ((IntKind.u64.wrap (t107 + 281474976710656)) - t108)) 281474976710656)) - 281474976710656))) else (some (wrap64 (Int.tmod (IntKind.u64.wrap ((IntKind.u64.wrap (t107 + 281474976710656)) - t108)) 281474976710656)))) = some r := H
  have A4 := Aside0.mk A40
  clear A40
  by_cases c5 : (Int.tmod (IntKind.u64.wrap ((IntKind.u64.wrap (t107 + 281474976710656)) - t108)) 281474976710656) ≥ 140737488355328
  · rw [if_pos c5] at H
    have c5b0 : decide (140737488355328 ≤ (Int.tmod (IntKind.u64.wrap ((IntKind.u64.wrap (t107 + 281474976710656)) - t108)) 281474976710656)) = true := decide_eq_true c5
    clear c5
    obtain rfl := Option.some.inj H
    go_enter Tryz.func35, Tryz.ntmps35
    go_wp2_with (first | ((with_reducible refine gate_callee (f := 31) rfl ?_); refine goesL_ (some 7) rfl rfl Tryz.func31 (by kernel_rfl) rfl #[.int .u64 a0] rfl (by (try simp only [List.map_toArray, List.map_cons, List.map_nil]); first | done | rfl | (simp only [List.length_drop, List.length_take]; rfl)) ?_; (with_reducible refine (muleteerref1_Seq.calls a0 t107 _ A3.out).mono ?_); rintro e w' ⟨rfl, ⟨nd, rfl⟩⟩; refine ⟨_, rfl, ?_⟩) | ((with_reducible refine gate_callee (f := 31) rfl ?_); refine goesL_ (some 10) rfl rfl Tryz.func31 (by kernel_rfl) rfl #[.int .u64 a1] rfl (by (try simp only [List.map_toArray, List.map_cons, List.map_nil]); first | done | rfl | (simp only [List.length_drop, List.length_take]; rfl)) ?_; (with_reducible refine (muleteerref1_Seq.calls a1 t108 _ A4.out).mono ?_); rintro e w' ⟨rfl, ⟨nd, rfl⟩⟩; refine ⟨_, rfl, ?_⟩))
    go_ret
    exact ⟨by first | rfl | (simp; done) | (simp [*]; done), by repeat (first | exact Drawn0.refl _ | apply Drawn0.step)⟩
  · rw [if_neg c5] at H
    have c5b0 : decide (140737488355328 ≤ (Int.tmod (IntKind.u64.wrap ((IntKind.u64.wrap (t107 + 281474976710656)) - t108)) 281474976710656)) = false := decide_eq_false c5
    clear c5
    obtain rfl := Option.some.inj H
    go_enter Tryz.func35, Tryz.ntmps35
    go_wp2_with (first | ((with_reducible refine gate_callee (f := 31) rfl ?_); refine goesL_ (some 7) rfl rfl Tryz.func31 (by kernel_rfl) rfl #[.int .u64 a0] rfl (by (try simp only [List.map_toArray, List.map_cons, List.map_nil]); first | done | rfl | (simp only [List.length_drop, List.length_take]; rfl)) ?_; (with_reducible refine (muleteerref1_Seq.calls a0 t107 _ A3.out).mono ?_); rintro e w' ⟨rfl, ⟨nd, rfl⟩⟩; refine ⟨_, rfl, ?_⟩) | ((with_reducible refine gate_callee (f := 31) rfl ?_); refine goesL_ (some 10) rfl rfl Tryz.func31 (by kernel_rfl) rfl #[.int .u64 a1] rfl (by (try simp only [List.map_toArray, List.map_cons, List.map_nil]); first | done | rfl | (simp only [List.length_drop, List.length_take]; rfl)) ?_; (with_reducible refine (muleteerref1_Seq.calls a1 t108 _ A4.out).mono ?_); rintro e w' ⟨rfl, ⟨nd, rfl⟩⟩; refine ⟨_, rfl, ?_⟩))
    go_ret
    exact ⟨by first | rfl | (simp; done) | (simp [*]; done), by repeat (first | exact Drawn0.refl _ | apply Drawn0.step)⟩

/-! ### seq_Less: function 36 -/
def seq_Less.f (a0 : Int) (a1 : Int) : Option (Bool) := (seq_Diff.f a0 a1).bind fun t109 => (some (decide (t109 < 0)))
set_option maxHeartbeats 8000000 in
set_option maxRecDepth 100000 in
theorem seq_Less.calls (a0 : Int) (a1 : Int) (r : Bool) (w : World) (h : seq_Less.f a0 a1 = some r) :
    Calls Tryz.prog 36 #[.int .u64 a0, .int .u64 a1] w fun e w' => e = .returned (.bool r) ∧ Drawn0 w w' := by
  have H : ((seq_Diff.f a0 a1).bind fun t109 => (some (decide (t109 < 0)))) = some r := h
  clear h
  replace H := Option.bind_eq_some_iff.mp H
  obtain ⟨t109, A30, H⟩ := H
  replace H : (some (decide (t109 < 0))) = some r := H
  have A3 := Aside0.mk A30
  clear A30
  obtain rfl := Option.some.inj H
  go_enter Tryz.func36, Tryz.ntmps36
  go_wp2_with (first | ((with_reducible refine gate_callee (f := 34) rfl ?_); refine goesL_ (some 7) rfl rfl Tryz.func34 (by kernel_rfl) rfl #[.int .u64 a0, .int .u64 a1] rfl (by (try simp only [List.map_toArray, List.map_cons, List.map_nil]); first | done | rfl | (simp only [List.length_drop, List.length_take]; rfl)) ?_; (with_reducible refine (seq_Diff.calls a0 a1 t109 _ A3.out).mono ?_); rintro e w' ⟨rfl, ⟨nd, rfl⟩⟩; refine ⟨_, rfl, ?_⟩))
  go_ret
  exact ⟨by first | rfl | (simp; done) | (simp [*]; done), by repeat (first | exact Drawn0.refl _ | apply Drawn0.step)⟩

/-! ### muleteerref1_Less: function 37 -/
def muleteerref1_Less.f (a0 : Int) (a1 : Int) : Option (Bool) := (muleteerref1_Diff.f a0 a1).bind fun t110 => (some (decide (t110 < 0)))
set_option maxHeartbeats 8000000 in
set_option maxRecDepth 100000 in
theorem muleteerref1_Less.calls (a0 : Int) (a1 : Int) (r : Bool) (w : World) (h : muleteerref1_Less.f a0 a1 = some r) :
    Calls Tryz.prog 37 #[.int .u64 a0, .int .u64 a1] w fun e w' => e = .returned (.bool r) ∧ Drawn0 w w' := by
  have H : ((muleteerref1_Diff.f a0 a1).bind fun t110 => (some (decide (t110 < 0)))) = some r := h
  clear h
  replace H := Option.bind_eq_some_iff.mp H
  obtain ⟨t110, A30, H⟩ := H
  replace H : (some (decide (t110 < 0))) = some r := H
  have A3 := Aside0.mk A30
  clear A30
  obtain rfl := Option.some.inj H
  go_enter Tryz.func37, Tryz.ntmps37
  go_wp2_with (first | ((with_reducible refine gate_callee (f := 35) rfl ?_); refine goesL_ (some 7) rfl rfl Tryz.func35 (by kernel_rfl) rfl #[.int .u64 a0, .int .u64 a1] rfl (by (try simp only [List.map_toArray, List.map_cons, List.map_nil]); first | done | rfl | (simp only [List.length_drop, List.length_take]; rfl)) ?_; (with_reducible refine (muleteerref1_Diff.calls a0 a1 t110 _ A3.out).mono ?_); rintro e w' ⟨rfl, ⟨nd, rfl⟩⟩; refine ⟨_, rfl, ?_⟩))
  go_ret
  exact ⟨by first | rfl | (simp; done) | (simp [*]; done), by repeat (first | exact Drawn0.refl _ | apply Drawn0.step)⟩

/-! ### seq_In: function 38 -/
def seq_In.f (a0 : Int) (a1 : Int) (a2 : Int) : Option (Bool) := (seq_Of.f (IntKind.u64.wrap (a1 - a0))).bind fun t111 => ((seq_Of.f (IntKind.u64.wrap (a2 - a0))).bind fun t112 => (some (decide (t111 ≤ t112))))
set_option maxHeartbeats 8000000 in
set_option maxRecDepth 100000 in
theorem seq_In.calls (a0 : Int) (a1 : Int) (a2 : Int) (r : Bool) (w : World) (h : seq_In.f a0 a1 a2 = some r) :
    Calls Tryz.prog 38 #[.int .u64 a0, .int .u64 a1, .int .u64 a2] w fun e w' => e = .returned (.bool r) ∧ Drawn0 w w' := by
  have H : ((seq_Of.f (IntKind.u64.wrap (a1 - a0))).bind fun t111 => ((seq_Of.f (IntKind.u64.wrap (a2 - a0))).bind fun t112 => (some (decide (t111 ≤ t112))))) = some r := h
  clear h
  replace H := Option.bind_eq_some_iff.mp H
  obtain ⟨t111, A40, H⟩ := H
  replace H : ((seq_Of.f (IntKind.u64.wrap (a2 - a0))).bind fun t112 => (some (decide (t111 ≤ t112)))) = some r := H
  have A4 := Aside0.mk A40
  clear A40
  replace H := Option.bind_eq_some_iff.mp H
  obtain ⟨t112, A50, H⟩ := H
  replace H : (some (decide (t111 ≤ t112))) = some r := H
  have A5 := Aside0.mk A50
  clear A50
  obtain rfl := Option.some.inj H
  go_enter Tryz.func38, Tryz.ntmps38
  go_wp2_with (first | ((with_reducible refine gate_callee (f := 30) rfl ?_); refine goesL_ (some 10) rfl rfl Tryz.func30 (by kernel_rfl) rfl #[.int .u64 (IntKind.u64.wrap (a1 - a0))] rfl (by (try simp only [List.map_toArray, List.map_cons, List.map_nil]); first | done | rfl | (simp only [List.length_drop, List.length_take]; rfl)) ?_; (with_reducible refine (seq_Of.calls (IntKind.u64.wrap (a1 - a0)) t111 _ A4.out).mono ?_); rintro e w' ⟨rfl, ⟨nd, rfl⟩⟩; refine ⟨_, rfl, ?_⟩) | ((with_reducible refine gate_callee (f := 30) rfl ?_); refine goesL_ (some 14) rfl rfl Tryz.func30 (by kernel_rfl) rfl #[.int .u64 (IntKind.u64.wrap (a2 - a0))] rfl (by (try simp only [List.map_toArray, List.map_cons, List.map_nil]); first | done | rfl | (simp only [List.length_drop, List.length_take]; rfl)) ?_; (with_reducible refine (seq_Of.calls (IntKind.u64.wrap (a2 - a0)) t112 _ A5.out).mono ?_); rintro e w' ⟨rfl, ⟨nd, rfl⟩⟩; refine ⟨_, rfl, ?_⟩))
  go_ret
  exact ⟨by first | rfl | (simp; done) | (simp [*]; done), by repeat (first | exact Drawn0.refl _ | apply Drawn0.step)⟩

/-! ### muleteerref1_In: function 39 -/
def muleteerref1_In.f (a0 : Int) (a1 : Int) (a2 : Int) : Option (Bool) := (muleteerref1_Seq.f a0).bind fun t113 => ((muleteerref1_Seq.f (IntKind.u64.wrap ((IntKind.u64.wrap (a1 + 281474976710656)) - t113))).bind fun t114 => ((muleteerref1_Seq.f a0).bind fun t115 => ((muleteerref1_Seq.f (IntKind.u64.wrap ((IntKind.u64.wrap (a2 + 281474976710656)) - t115))).bind fun t116 => (some (decide (t114 ≤ t116))))))
set_option maxHeartbeats 8000000 in
set_option maxRecDepth 100000 in
theorem muleteerref1_In.calls (a0 : Int) (a1 : Int) (a2 : Int) (r : Bool) (w : World) (h : muleteerref1_In.f a0 a1 a2 = some r) :
    Calls Tryz.prog 39 #[.int .u64 a0, .int .u64 a1, .int .u64 a2] w fun e w' => e = .returned (.bool r) ∧ Drawn0 w w' := by
  have H : ((muleteerref1_Seq.f a0).bind fun t113 => ((muleteerref1_Seq.f (IntKind.u64.wrap ((IntKind.u64.wrap (a1 + 281474976710656)) - t113))).bind fun t114 => ((muleteerref1_Seq.f a0).bind fun t115 => ((muleteerref1_Seq.f (IntKind.u64.wrap ((IntKind.u64.wrap (a2 + 281474976710656)) - t115))).bind fun t116 => (some (decide (t114 ≤ t116))))))) = some r := h
  clear h
  replace H := Option.bind_eq_some_iff.mp H
  obtain ⟨t113, A40, H⟩ := H
  replace H : ((muleteerref1_Seq.f (IntKind.u64.wrap ((IntKind.u64.wrap (a1 + 281474976710656)) - t113))).bind fun t114 => ((muleteerref1_Seq.f a0).bind fun t115 => ((muleteerref1_Seq.f (IntKind.u64.wrap ((IntKind.u64.wrap (a2 + 281474976710656)) - t115))).bind fun t116 => (some (decide (t114 ≤ t116)))))) = some r := H
  have A4 := Aside0.mk A40
  clear A40
  replace H := Option.bind_eq_some_iff.mp H
  obtain ⟨t114, A50, H⟩ := H
  replace H : ((muleteerref1_Seq.f a0).bind fun t115 => ((muleteerref1_Seq.f (IntKind.u64.wrap ((IntKind.u64.wrap (a2 + 281474976710656)) - t115))).bind fun t116 => (some (decide (t114 ≤ t116))))) = some r := H
  have A5 := Aside0.mk A50
  clear A50
  replace H := Option.bind_eq_some_iff.mp H
  obtain ⟨t115, A60, H⟩ := H
  have e_ := Option.some.inj (A4.out.symm.trans A60)
  subst e_
  replace H : ((muleteerref1_Seq.f (IntKind.u64.wrap ((IntKind.u64.wrap (a2 + 281474976710656)) - t113))).bind fun t116 => (some (decide (t114 ≤ t116)))) = some r := H
  have A6 := Aside0.mk A60
  clear A60
  replace H := Option.bind_eq_some_iff.mp H
  obtain ⟨t116, A70, H⟩ := H
  replace H : (some (decide (t114 ≤ t116))) = some r := H
  have A7 := Aside0.mk A70
  clear A70
  obtain rfl := Option.some.inj H
  go_enter Tryz.func39, Tryz.ntmps39
  go_wp2_with (first | ((with_reducible refine gate_callee (f := 31) rfl ?_); refine goesL_ (some 10) rfl rfl Tryz.func31 (by kernel_rfl) rfl #[.int .u64 a0] rfl (by (try simp only [List.map_toArray, List.map_cons, List.map_nil]); first | done | rfl | (simp only [List.length_drop, List.length_take]; rfl)) ?_; (with_reducible refine (muleteerref1_Seq.calls a0 t113 _ A4.out).mono ?_); rintro e w' ⟨rfl, ⟨nd, rfl⟩⟩; refine ⟨_, rfl, ?_⟩) | ((with_reducible refine gate_callee (f := 31) rfl ?_); refine goesL_ (some 12) rfl rfl Tryz.func31 (by kernel_rfl) rfl #[.int .u64 (IntKind.u64.wrap ((IntKind.u64.wrap (a1 + 281474976710656)) - t113))] rfl (by (try simp only [List.map_toArray, List.map_cons, List.map_nil]); first | done | rfl | (simp only [List.length_drop, List.length_take]; rfl)) ?_; (with_reducible refine (muleteerref1_Seq.calls (IntKind.u64.wrap ((IntKind.u64.wrap (a1 + 281474976710656)) - t113)) t114 _ A5.out).mono ?_); rintro e w' ⟨rfl, ⟨nd, rfl⟩⟩; refine ⟨_, rfl, ?_⟩) | ((with_reducible refine gate_callee (f := 31) rfl ?_); refine goesL_ (some 16) rfl rfl Tryz.func31 (by kernel_rfl) rfl #[.int .u64 a0] rfl (by (try simp only [List.map_toArray, List.map_cons, List.map_nil]); first | done | rfl | (simp only [List.length_drop, List.length_take]; rfl)) ?_; (with_reducible refine (muleteerref1_Seq.calls a0 t113 _ A6.out).mono ?_); rintro e w' ⟨rfl, ⟨nd, rfl⟩⟩; refine ⟨_, rfl, ?_⟩) | ((with_reducible refine gate_callee (f := 31) rfl ?_); refine goesL_ (some 18) rfl rfl Tryz.func31 (by kernel_rfl) rfl #[.int .u64 (IntKind.u64.wrap ((IntKind.u64.wrap (a2 + 281474976710656)) - t113))] rfl (by (try simp only [List.map_toArray, List.map_cons, List.map_nil]); first | done | rfl | (simp only [List.length_drop, List.length_take]; rfl)) ?_; (with_reducible refine (muleteerref1_Seq.calls (IntKind.u64.wrap ((IntKind.u64.wrap (a2 + 281474976710656)) - t113)) t116 _ A7.out).mono ?_); rintro e w' ⟨rfl, ⟨nd, rfl⟩⟩; refine ⟨_, rfl, ?_⟩))
  go_ret
  exact ⟨by first | rfl | (simp; done) | (simp [*]; done), by repeat (first | exact Drawn0.refl _ | apply Drawn0.step)⟩

/-! ### muleteerlaw1_SeqAll: function 8 -/
def muleteerlaw1_SeqAll.f (a0 : Int) (a1 : Int) (a2 : Int) (a3 : Int) : Option (Bool) := (muleteerlaw1_begun.f).bind fun t117 => (if t117 = true then ((seq_Of.f a0).bind fun t118 => ((muleteerref1_Seq.f a0).bind fun t119 => (if t118 = t119 then ((seq_Add.f a0 a3).bind fun t120 => ((muleteerref1_Step.f a0 a3).bind fun t121 => (if t120 = t121 then ((seq_Diff.f a0 a1).bind fun t122 => ((muleteerref1_Diff.f a0 a1).bind fun t123 => (if t122 = t123 then ((seq_Less.f a0 a1).bind fun t124 => ((muleteerref1_Less.f a0 a1).bind fun t125 => (if (t124 == t125) = true then ((seq_In.f a0 a1 a2).bind fun t126 => ((muleteerref1_In.f a0 a1 a2).bind fun t127 => (if (t126 == t127) = true then ((seq_Diff.f a0 a1).bind fun t128 => ((seq_Add.f a1 t128).bind fun t129 => ((muleteerref1_Seq.f a0).bind fun t130 => (some (t129 == t130))))) else (some false)))) else (some false)))) else (some false)))) else (some false)))) else (some false)))) else (some false))
set_option maxHeartbeats 8000000 in
set_option maxRecDepth 100000 in
theorem muleteerlaw1_SeqAll.calls (a0 : Int) (a1 : Int) (a2 : Int) (a3 : Int) (r : Bool) (w : World) (h : muleteerlaw1_SeqAll.f a0 a1 a2 a3 = some r) :
    Calls Tryz.prog 8 #[.int .u64 a0, .int .u64 a1, .int .u64 a2, .int .i64 a3] w fun e w' => e = .returned (.bool r) ∧ Below w.heap.size w w' := by
  have HB := Aside0.mk (Below.refl w.heap.size w)
  have H : ((muleteerlaw1_begun.f).bind fun t117 => (if t117 = true then ((seq_Of.f a0).bind fun t118 => ((muleteerref1_Seq.f a0).bind fun t119 => (if t118 = t119 then ((seq_Add.f a0 a3).bind fun t120 => ((muleteerref1_Step.f a0 a3).bind fun t121 => (if t120 = t121 then ((seq_Diff.f a0 a1).bind fun t122 => ((muleteerref1_Diff.f a0 a1).bind fun t123 => (if t122 = t123 then ((seq_Less.f a0 a1).bind fun t124 => ((muleteerref1_Less.f a0 a1).bind fun t125 => (if (t124 == t125) = true then ((seq_In.f a0 a1 a2).bind fun t126 => ((muleteerref1_In.f a0 a1 a2).bind fun t127 => (if (t126 == t127) = true then ((seq_Diff.f a0 a1).bind fun t128 => ((seq_Add.f a1 t128).bind fun t129 => ((muleteerref1_Seq.f a0).bind fun t130 => (some (t129 == t130))))) else (some false)))) else (some false)))) else (some false)))) else (some false)))) else (some false)))) else (some false))) = some r := h
  clear h
  replace H := Option.bind_eq_some_iff.mp H
  obtain ⟨t117, A50, H⟩ := H
  replace H : (if t117 = true then ((seq_Of.f a0).bind fun t118 => ((muleteerref1_Seq.f a0).bind fun t119 => (if t118 = t119 then ((seq_Add.f a0 a3).bind fun t120 => ((muleteerref1_Step.f a0 a3).bind fun t121 => (if t120 = t121 then ((seq_Diff.f a0 a1).bind fun t122 => ((muleteerref1_Diff.f a0 a1).bind fun t123 => (if t122 = t123 then ((seq_Less.f a0 a1).bind fun t124 => ((muleteerref1_Less.f a0 a1).bind fun t125 => (if (t124 == t125) = true then ((seq_In.f a0 a1 a2).bind fun t126 => ((muleteerref1_In.f a0 a1 a2).bind fun t127 => (if (t126 == t127) = true then ((seq_Diff.f a0 a1).bind fun t128 => ((seq_Add.f a1 t128).bind fun t129 => ((muleteerref1_Seq.f a0).bind fun t130 => (some (t129 == t130))))) else (some false)))) else (some false)))) else (some false)))) else (some false)))) else (some false)))) else (some false)) = some r := H
  have A5 := Aside0.mk A50
  clear A50
  by_cases c6 : t117 = true
  · subst c6
    have H1 : ((seq_Of.f a0).bind fun t118 => ((muleteerref1_Seq.f a0).bind fun t119 => (if t118 = t119 then ((seq_Add.f a0 a3).bind fun t120 => ((muleteerref1_Step.f a0 a3).bind fun t121 => (if t120 = t121 then ((seq_Diff.f a0 a1).bind fun t122 => ((muleteerref1_Diff.f a0 a1).bind fun t123 => (if t122 = t123 then ((seq_Less.f a0 a1).bind fun t124 => ((muleteerref1_Less.f a0 a1).bind fun t125 => (if (t124 == t125) = true then ((seq_In.f a0 a1 a2).bind fun t126 => ((muleteerref1_In.f a0 a1 a2).bind fun t127 => (if (t126 == t127) = true then ((seq_Diff.f a0 a1).bind fun t128 => ((seq_Add.f a1 t128).bind fun t129 => ((muleteerref1_Seq.f a0).bind fun t130 => (some (t129 == t130))))) else (some false)))) else (some false)))) else (some false)))) else (some false)))) else (some false)))) = some r := by rw [if_pos rfl] at H; exact H
    clear H
    have H := H1
    clear H1
    replace H := Option.bind_eq_some_iff.mp H
    obtain ⟨t118, A70, H⟩ := H
    replace H : ((muleteerref1_Seq.f a0).bind fun t119 => (if t118 = t119 then ((seq_Add.f a0 a3).bind fun t120 => ((muleteerref1_Step.f a0 a3).bind fun t121 => (if t120 = t121 then ((seq_Diff.f a0 a1).bind fun t122 => ((muleteerref1_Diff.f a0 a1).bind fun t123 => (if t122 = t123 then ((seq_Less.f a0 a1).bind fun t124 => ((muleteerref1_Less.f a0 a1).bind fun t125 => (if (t124 == t125) = true then ((seq_In.f a0 a1 a2).bind fun t126 => ((muleteerref1_In.f a0 a1 a2).bind fun t127 => (if (t126 == t127) = true then ((seq_Diff.f a0 a1).bind fun t128 => ((seq_Add.f a1 t128).bind fun t129 => ((muleteerref1_Seq.f a0).bind fun t130 => (some (t129 == t130))))) else (some false)))) else (some false)))) else (some false)))) else (some false)))) else (some false))) = some r := H
    have A7 := Aside0.mk A70
    clear A70
    replace H := Option.bind_eq_some_iff.mp H
    obtain ⟨t119, A80, H⟩ := H
    replace H : (if t118 = t119 then ((seq_Add.f a0 a3).bind fun t120 => ((muleteerref1_Step.f a0 a3).bind fun t121 => (if t120 = t121 then ((seq_Diff.f a0 a1).bind fun t122 => ((muleteerref1_Diff.f a0 a1).bind fun t123 => (if t122 = t123 then ((seq_Less.f a0 a1).bind fun t124 => ((muleteerref1_Less.f a0 a1).bind fun t125 => (if (t124 == t125) = true then ((seq_In.f a0 a1 a2).bind fun t126 => ((muleteerref1_In.f a0 a1 a2).bind fun t127 => (if (t126 == t127) = true then ((seq_Diff.f a0 a1).bind fun t128 => ((seq_Add.f a1 t128).bind fun t129 => ((muleteerref1_Seq.f a0).bind fun t130 => (some (t129 == t130))))) else (some false)))) else (some false)))) else (some false)))) else (some false)))) else (some false)) = some r := H
    have A8 := Aside0.mk A80
    clear A80
    by_cases c9 : t118 = t119
    · rw [if_pos c9] at H
      have c9b0 : (t118 == t119) = true := beq_iff_eq.mpr c9
      have c9b1 : (t118 != t119) = false := bne_eq_false_iff_eq.mpr c9
      clear c9
      replace H := Option.bind_eq_some_iff.mp H
      obtain ⟨t120, A100, H⟩ := H
      replace H : ((muleteerref1_Step.f a0 a3).bind fun t121 => (if t120 = t121 then ((seq_Diff.f a0 a1).bind fun t122 => ((muleteerref1_Diff.f a0 a1).bind fun t123 => (if t122 = t123 then ((seq_Less.f a0 a1).bind fun t124 => ((muleteerref1_Less.f a0 a1).bind fun t125 => (if (t124 == t125) = true then ((seq_In.f a0 a1 a2).bind fun t126 => ((muleteerref1_In.f a0 a1 a2).bind fun t127 => (if (t126 == t127) = true then ((seq_Diff.f a0 a1).bind fun t128 => ((seq_Add.f a1 t128).bind fun t129 => ((muleteerref1_Seq.f a0).bind fun t130 => (some (t129 == t130))))) else (some false)))) else (some false)))) else (some false)))) else (some false))) = some r := H
      have A10 := Aside0.mk A100
      clear A100
      replace H := Option.bind_eq_some_iff.mp H
      obtain ⟨t121, A110, H⟩ := H
      replace H : (if t120 = t121 then ((seq_Diff.f a0 a1).bind fun t122 => ((muleteerref1_Diff.f a0 a1).bind fun t123 => (if t122 = t123 then ((seq_Less.f a0 a1).bind fun t124 => ((muleteerref1_Less.f a0 a1).bind fun t125 => (if (t124 == t125) = true then ((seq_In.f a0 a1 a2).bind fun t126 => ((muleteerref1_In.f a0 a1 a2).bind fun t127 => (if (t126 == t127) = true then ((seq_Diff.f a0 a1).bind fun t128 => ((seq_Add.f a1 t128).bind fun t129 => ((muleteerref1_Seq.f a0).bind fun t130 => (some (t129 == t130))))) else (some false)))) else (some false)))) else (some false)))) else (some false)) = some r := H
      have A11 := Aside0.mk A110
      clear A110
      by_cases c12 : t120 = t121
      · rw [if_pos c12] at H
        have c12b0 : (t120 == t121) = true := beq_iff_eq.mpr c12
        have c12b1 : (t120 != t121) = false := bne_eq_false_iff_eq.mpr c12
        clear c12
        replace H := Option.bind_eq_some_iff.mp H
        obtain ⟨t122, A130, H⟩ := H
        replace H : ((muleteerref1_Diff.f a0 a1).bind fun t123 => (if t122 = t123 then ((seq_Less.f a0 a1).bind fun t124 => ((muleteerref1_Less.f a0 a1).bind fun t125 => (if (t124 == t125) = true then ((seq_In.f a0 a1 a2).bind fun t126 => ((muleteerref1_In.f a0 a1 a2).bind fun t127 => (if (t126 == t127) = true then ((seq_Diff.f a0 a1).bind fun t128 => ((seq_Add.f a1 t128).bind fun t129 => ((muleteerref1_Seq.f a0).bind fun t130 => (some (t129 == t130))))) else (some false)))) else (some false)))) else (some false))) = some r := H
        have A13 := Aside0.mk A130
        clear A130
        replace H := Option.bind_eq_some_iff.mp H
        obtain ⟨t123, A140, H⟩ := H
        replace H : (if t122 = t123 then ((seq_Less.f a0 a1).bind fun t124 => ((muleteerref1_Less.f a0 a1).bind fun t125 => (if (t124 == t125) = true then ((seq_In.f a0 a1 a2).bind fun t126 => ((muleteerref1_In.f a0 a1 a2).bind fun t127 => (if (t126 == t127) = true then ((seq_Diff.f a0 a1).bind fun t128 => ((seq_Add.f a1 t128).bind fun t129 => ((muleteerref1_Seq.f a0).bind fun t130 => (some (t129 == t130))))) else (some false)))) else (some false)))) else (some false)) = some r := H
        have A14 := Aside0.mk A140
        clear A140
        by_cases c15 : t122 = t123
        · rw [if_pos c15] at H
          have c15b0 : (t122 == t123) = true := beq_iff_eq.mpr c15
          have c15b1 : (t122 != t123) = false := bne_eq_false_iff_eq.mpr c15
          clear c15
          replace H := Option.bind_eq_some_iff.mp H
          obtain ⟨t124, A160, H⟩ := H
          replace H : ((muleteerref1_Less.f a0 a1).bind fun t125 => (if (t124 == t125) = true then ((seq_In.f a0 a1 a2).bind fun t126 => ((muleteerref1_In.f a0 a1 a2).bind fun t127 => (if (t126 == t127) = true then ((seq_Diff.f a0 a1).bind fun t128 => ((seq_Add.f a1 t128).bind fun t129 => ((muleteerref1_Seq.f a0).bind fun t130 => (some (t129 == t130))))) else (some false)))) else (some false))) = some r := H
          have A16 := Aside0.mk A160
          clear A160
          replace H := Option.bind_eq_some_iff.mp H
          obtain ⟨t125, A170, H⟩ := H
          replace H : (if (t124 == t125) = true then ((seq_In.f a0 a1 a2).bind fun t126 => ((muleteerref1_In.f a0 a1 a2).bind fun t127 => (if (t126 == t127) = true then ((seq_Diff.f a0 a1).bind fun t128 => ((seq_Add.f a1 t128).bind fun t129 => ((muleteerref1_Seq.f a0).bind fun t130 => (some (t129 == t130))))) else (some false)))) else (some false)) = some r := H
          have A17 := Aside0.mk A170
          clear A170
          by_cases c18 : (t124 == t125) = true
          · rw [if_pos c18] at H
            have c18b0 : (t124 == t125) = true := c18
            (try (have c18b1 : decide (t124 = t125) = true := by simpa using c18))
            (try (have c18b2 : (t124 == t125) = true := by simpa using c18))
            clear c18
            replace H := Option.bind_eq_some_iff.mp H
            obtain ⟨t126, A190, H⟩ := H
            replace H : ((muleteerref1_In.f a0 a1 a2).bind fun t127 => (if (t126 == t127) = true then ((seq_Diff.f a0 a1).bind fun t128 => ((seq_Add.f a1 t128).bind fun t129 => ((muleteerref1_Seq.f a0).bind fun t130 => (some (t129 == t130))))) else (some false))) = some r := H
            have A19 := Aside0.mk A190
            clear A190
            replace H := Option.bind_eq_some_iff.mp H
            obtain ⟨t127, A200, H⟩ := H
            replace H : (if (t126 == t127) = true then ((seq_Diff.f a0 a1).bind fun t128 => ((seq_Add.f a1 t128).bind fun t129 => ((muleteerref1_Seq.f a0).bind fun t130 => (some (t129 == t130))))) else (some false)) = some r := H
            have A20 := Aside0.mk A200
            clear A200
            by_cases c21 : (t126 == t127) = true
            · rw [if_pos c21] at H
              have c21b0 : (t126 == t127) = true := c21
              (try (have c21b1 : decide (t126 = t127) = true := by simpa using c21))
              (try (have c21b2 : (t126 == t127) = true := by simpa using c21))
              clear c21
              replace H := Option.bind_eq_some_iff.mp H
              obtain ⟨t128, A220, H⟩ := H
              have e_ := Option.some.inj (A13.out.symm.trans A220)
              subst e_
              replace H : ((seq_Add.f a1 t122).bind fun t129 => ((muleteerref1_Seq.f a0).bind fun t130 => (some (t129 == t130)))) = some r := H
              have A22 := Aside0.mk A220
              clear A220
              replace H := Option.bind_eq_some_iff.mp H
              obtain ⟨t129, A230, H⟩ := H
              replace H : ((muleteerref1_Seq.f a0).bind fun t130 => (some (t129 == t130))) = some r := H
              have A23 := Aside0.mk A230
              clear A230
              replace H := Option.bind_eq_some_iff.mp H
              obtain ⟨t130, A240, H⟩ := H
              have e_ := Option.some.inj (A8.out.symm.trans A240)
              subst e_
              replace H : (some (t129 == t119)) = some r := H
              have A24 := Aside0.mk A240
              clear A240
              obtain rfl := Option.some.inj H
              go_enter Tryz.func8, Tryz.ntmps8
              go_wp2_with (first | ((with_reducible refine gate_callee (f := 15) rfl ?_); refine goesL_ (some 10) rfl rfl Tryz.func15 (by kernel_rfl) rfl #[] rfl (by (try simp only [List.map_toArray, List.map_cons, List.map_nil]); first | done | rfl | (simp only [List.length_drop, List.length_take]; rfl)) ?_; (with_reducible refine (muleteerlaw1_begun.calls  true _ A5.out).mono ?_); rintro e w25 ⟨rfl, hb⟩; refine ⟨_, rfl, ?_⟩; have n0_ := Aside0.mk (below_step (by repeat (first | (with_reducible first | exact HB.out | apply below_alloc | apply pw_below_drewN | apply below_drew1) | exact HB.out)) hb); clear HB; have HB := n0_; clear n0_; (try clear hb); (try clear hb2); (try clear hk); (try clear hi)) | ((with_reducible refine gate_callee (f := 30) rfl ?_); refine goesL_ (some 14) rfl rfl Tryz.func30 (by kernel_rfl) rfl #[.int .u64 a0] rfl (by (try simp only [List.map_toArray, List.map_cons, List.map_nil]); first | done | rfl | (simp only [List.length_drop, List.length_take]; rfl)) ?_; (with_reducible refine (seq_Of.calls a0 t118 _ A7.out).mono ?_); rintro e w' ⟨rfl, ⟨nd, rfl⟩⟩; refine ⟨_, rfl, ?_⟩) | ((with_reducible refine gate_callee (f := 31) rfl ?_); refine goesL_ (some 16) rfl rfl Tryz.func31 (by kernel_rfl) rfl #[.int .u64 a0] rfl (by (try simp only [List.map_toArray, List.map_cons, List.map_nil]); first | done | rfl | (simp only [List.length_drop, List.length_take]; rfl)) ?_; (with_reducible refine (muleteerref1_Seq.calls a0 t119 _ A8.out).mono ?_); rintro e w' ⟨rfl, ⟨nd, rfl⟩⟩; refine ⟨_, rfl, ?_⟩) | (go_at_call 32; (with_reducible refine (seq_Add.calls a0 a3 t120 _ A10.out).mono ?_); rintro e w' ⟨rfl, ⟨nd, rfl⟩⟩) | (go_at_call 33; (with_reducible refine (muleteerref1_Step.calls a0 a3 t121 _ A11.out).mono ?_); rintro e w' ⟨rfl, ⟨nd, rfl⟩⟩) | (go_at_call 34; (with_reducible refine (seq_Diff.calls a0 a1 t122 _ A13.out).mono ?_); rintro e w' ⟨rfl, ⟨nd, rfl⟩⟩) | (go_at_call 35; (with_reducible refine (muleteerref1_Diff.calls a0 a1 t123 _ A14.out).mono ?_); rintro e w' ⟨rfl, ⟨nd, rfl⟩⟩) | (go_at_call 36; (with_reducible refine (seq_Less.calls a0 a1 t124 _ A16.out).mono ?_); rintro e w' ⟨rfl, ⟨nd, rfl⟩⟩) | (go_at_call 37; (with_reducible refine (muleteerref1_Less.calls a0 a1 t125 _ A17.out).mono ?_); rintro e w' ⟨rfl, ⟨nd, rfl⟩⟩) | (go_at_call 38; (with_reducible refine (seq_In.calls a0 a1 a2 t126 _ A19.out).mono ?_); rintro e w' ⟨rfl, ⟨nd, rfl⟩⟩) | (go_at_call 39; (with_reducible refine (muleteerref1_In.calls a0 a1 a2 t127 _ A20.out).mono ?_); rintro e w' ⟨rfl, ⟨nd, rfl⟩⟩) | (go_at_call 34; (with_reducible refine (seq_Diff.calls a0 a1 t122 _ A22.out).mono ?_); rintro e w' ⟨rfl, ⟨nd, rfl⟩⟩) | (go_at_call 32; (with_reducible refine (seq_Add.calls a1 t122 t129 _ A23.out).mono ?_); rintro e w' ⟨rfl, ⟨nd, rfl⟩⟩) | (go_at_call 31; (with_reducible refine (muleteerref1_Seq.calls a0 t119 _ A24.out).mono ?_); rintro e w' ⟨rfl, ⟨nd, rfl⟩⟩))
              go_ret
              exact ⟨by first | rfl | (simp [errW_none, errW_some] <;> rfl) | (simp [*, errW_none, errW_some] <;> rfl), by repeat (first | (with_reducible first | exact HB.out | apply below_alloc | apply pw_below_drewN | apply below_drew1) | exact HB.out)⟩
            · rw [if_neg c21] at H
              have c21b0 : (t126 == t127) = false := by simpa using c21
              (try (have c21b1 : decide (t126 = t127) = false := by simpa using c21))
              (try (have c21b2 : (t126 == t127) = false := by simpa using c21))
              (try (have c21b3 : ¬ (t126 = t127) := by simpa using c21))
              clear c21
              obtain rfl := Option.some.inj H
              go_enter Tryz.func8, Tryz.ntmps8
              go_wp2_with (first | ((with_reducible refine gate_callee (f := 15) rfl ?_); refine goesL_ (some 10) rfl rfl Tryz.func15 (by kernel_rfl) rfl #[] rfl (by (try simp only [List.map_toArray, List.map_cons, List.map_nil]); first | done | rfl | (simp only [List.length_drop, List.length_take]; rfl)) ?_; (with_reducible refine (muleteerlaw1_begun.calls  true _ A5.out).mono ?_); rintro e w26 ⟨rfl, hb⟩; refine ⟨_, rfl, ?_⟩; have n0_ := Aside0.mk (below_step (by repeat (first | (with_reducible first | exact HB.out | apply below_alloc | apply pw_below_drewN | apply below_drew1) | exact HB.out)) hb); clear HB; have HB := n0_; clear n0_; (try clear hb); (try clear hb2); (try clear hk); (try clear hi)) | ((with_reducible refine gate_callee (f := 30) rfl ?_); refine goesL_ (some 14) rfl rfl Tryz.func30 (by kernel_rfl) rfl #[.int .u64 a0] rfl (by (try simp only [List.map_toArray, List.map_cons, List.map_nil]); first | done | rfl | (simp only [List.length_drop, List.length_take]; rfl)) ?_; (with_reducible refine (seq_Of.calls a0 t118 _ A7.out).mono ?_); rintro e w' ⟨rfl, ⟨nd, rfl⟩⟩; refine ⟨_, rfl, ?_⟩) | ((with_reducible refine gate_callee (f := 31) rfl ?_); refine goesL_ (some 16) rfl rfl Tryz.func31 (by kernel_rfl) rfl #[.int .u64 a0] rfl (by (try simp only [List.map_toArray, List.map_cons, List.map_nil]); first | done | rfl | (simp only [List.length_drop, List.length_take]; rfl)) ?_; (with_reducible refine (muleteerref1_Seq.calls a0 t119 _ A8.out).mono ?_); rintro e w' ⟨rfl, ⟨nd, rfl⟩⟩; refine ⟨_, rfl, ?_⟩) | (go_at_call 32; (with_reducible refine (seq_Add.calls a0 a3 t120 _ A10.out).mono ?_); rintro e w' ⟨rfl, ⟨nd, rfl⟩⟩) | (go_at_call 33; (with_reducible refine (muleteerref1_Step.calls a0 a3 t121 _ A11.out).mono ?_); rintro e w' ⟨rfl, ⟨nd, rfl⟩⟩) | (go_at_call 34; (with_reducible refine (seq_Diff.calls a0 a1 t122 _ A13.out).mono ?_); rintro e w' ⟨rfl, ⟨nd, rfl⟩⟩) | (go_at_call 35; (with_reducible refine (muleteerref1_Diff.calls a0 a1 t123 _ A14.out).mono ?_); rintro e w' ⟨rfl, ⟨nd, rfl⟩⟩) | (go_at_call 36; (with_reducible refine (seq_Less.calls a0 a1 t124 _ A16.out).mono ?_); rintro e w' ⟨rfl, ⟨nd, rfl⟩⟩) | (go_at_call 37; (with_reducible refine (muleteerref1_Less.calls a0 a1 t125 _ A17.out).mono ?_); rintro e w' ⟨rfl, ⟨nd, rfl⟩⟩) | (go_at_call 38; (with_reducible refine (seq_In.calls a0 a1 a2 t126 _ A19.out).mono ?_); rintro e w' ⟨rfl, ⟨nd, rfl⟩⟩) | (go_at_call 39; (with_reducible refine (muleteerref1_In.calls a0 a1 a2 t127 _ A20.out).mono ?_); rintro e w' ⟨rfl, ⟨nd, rfl⟩⟩))
              go_ret
              exact ⟨by first | rfl | (simp [errW_none, errW_some] <;> rfl) | (simp [*, errW_none, errW_some] <;> rfl), by repeat (first | (with_reducible first | exact HB.out | apply below_alloc | apply pw_below_drewN | apply below_drew1) | exact HB.out)⟩
          · rw [if_neg c18] at H
            have c18b0 : (t124 == t125) = false := by simpa using c18
            (try (have c18b1 : decide (t124 = t125) = false := by simpa using c18))
            (try (have c18b2 : (t124 == t125) = false := by simpa using c18))
            (try (have c18b3 : ¬ (t124 = t125) := by simpa using c18))
            clear c18
            obtain rfl := Option.some.inj H
            go_enter Tryz.func8, Tryz.ntmps8
            go_wp2_with (first | ((with_reducible refine gate_callee (f := 15) rfl ?_); refine goesL_ (some 10) rfl rfl Tryz.func15 (by kernel_rfl) rfl #[] rfl (by (try simp only [List.map_toArray, List.map_cons, List.map_nil]); first | done | rfl | (simp only [List.length_drop, List.length_take]; rfl)) ?_; (with_reducible refine (muleteerlaw1_begun.calls  true _ A5.out).mono ?_); rintro e w27 ⟨rfl, hb⟩; refine ⟨_, rfl, ?_⟩; have n0_ := Aside0.mk (below_step (by repeat (first | (with_reducible first | exact HB.out | apply below_alloc | apply pw_below_drewN | apply below_drew1) | exact HB.out)) hb); clear HB; have HB := n0_; clear n0_; (try clear hb); (try clear hb2); (try clear hk); (try clear hi)) | ((with_reducible refine gate_callee (f := 30) rfl ?_); refine goesL_ (some 14) rfl rfl Tryz.func30 (by kernel_rfl) rfl #[.int .u64 a0] rfl (by (try simp only [List.map_toArray, List.map_cons, List.map_nil]); first | done | rfl | (simp only [List.length_drop, List.length_take]; rfl)) ?_; (with_reducible refine (seq_Of.calls a0 t118 _ A7.out).mono ?_); rintro e w' ⟨rfl, ⟨nd, rfl⟩⟩; refine ⟨_, rfl, ?_⟩) | ((with_reducible refine gate_callee (f := 31) rfl ?_); refine goesL_ (some 16) rfl rfl Tryz.func31 (by kernel_rfl) rfl #[.int .u64 a0] rfl (by (try simp only [List.map_toArray, List.map_cons, List.map_nil]); first | done | rfl | (simp only [List.length_drop, List.length_take]; rfl)) ?_; (with_reducible refine (muleteerref1_Seq.calls a0 t119 _ A8.out).mono ?_); rintro e w' ⟨rfl, ⟨nd, rfl⟩⟩; refine ⟨_, rfl, ?_⟩) | (go_at_call 32; (with_reducible refine (seq_Add.calls a0 a3 t120 _ A10.out).mono ?_); rintro e w' ⟨rfl, ⟨nd, rfl⟩⟩) | (go_at_call 33; (with_reducible refine (muleteerref1_Step.calls a0 a3 t121 _ A11.out).mono ?_); rintro e w' ⟨rfl, ⟨nd, rfl⟩⟩) | (go_at_call 34; (with_reducible refine (seq_Diff.calls a0 a1 t122 _ A13.out).mono ?_); rintro e w' ⟨rfl, ⟨nd, rfl⟩⟩) | (go_at_call 35; (with_reducible refine (muleteerref1_Diff.calls a0 a1 t123 _ A14.out).mono ?_); rintro e w' ⟨rfl, ⟨nd, rfl⟩⟩) | (go_at_call 36; (with_reducible refine (seq_Less.calls a0 a1 t124 _ A16.out).mono ?_); rintro e w' ⟨rfl, ⟨nd, rfl⟩⟩) | (go_at_call 37; (with_reducible refine (muleteerref1_Less.calls a0 a1 t125 _ A17.out).mono ?_); rintro e w' ⟨rfl, ⟨nd, rfl⟩⟩))
            go_ret
            exact ⟨by first | rfl | (simp [errW_none, errW_some] <;> rfl) | (simp [*, errW_none, errW_some] <;> rfl), by repeat (first | (with_reducible first | exact HB.out | apply below_alloc | apply pw_below_drewN | apply below_drew1) | exact HB.out)⟩
        · rw [if_neg c15] at H
          have c15b0 : (t122 == t123) = false := beq_eq_false_iff_ne.mpr c15
          have c15b1 : (t122 != t123) = true := bne_iff_ne.mpr c15
          obtain rfl := Option.some.inj H
          go_enter Tryz.func8, Tryz.ntmps8
          go_wp2_with (first | ((with_reducible refine gate_callee (f := 15) rfl ?_); refine goesL_ (some 10) rfl rfl Tryz.func15 (by kernel_rfl) rfl #[] rfl (by (try simp only [List.map_toArray, List.map_cons, List.map_nil]); first | done | rfl | (simp only [List.length_drop, List.length_take]; rfl)) ?_; (with_reducible refine (muleteerlaw1_begun.calls  true _ A5.out).mono ?_); rintro e w28 ⟨rfl, hb⟩; refine ⟨_, rfl, ?_⟩; have n0_ := Aside0.mk (below_step (by repeat (first | (with_reducible first | exact HB.out | apply below_alloc | apply pw_below_drewN | apply below_drew1) | exact HB.out)) hb); clear HB; have HB := n0_; clear n0_; (try clear hb); (try clear hb2); (try clear hk); (try clear hi)) | ((with_reducible refine gate_callee (f := 30) rfl ?_); refine goesL_ (some 14) rfl rfl Tryz.func30 (by kernel_rfl) rfl #[.int .u64 a0] rfl (by (try simp only [List.map_toArray, List.map_cons, List.map_nil]); first | done | rfl | (simp only [List.length_drop, List.length_take]; rfl)) ?_; (with_reducible refine (seq_Of.calls a0 t118 _ A7.out).mono ?_); rintro e w' ⟨rfl, ⟨nd, rfl⟩⟩; refine ⟨_, rfl, ?_⟩) | ((with_reducible refine gate_callee (f := 31) rfl ?_); refine goesL_ (some 16) rfl rfl Tryz.func31 (by kernel_rfl) rfl #[.int .u64 a0] rfl (by (try simp only [List.map_toArray, List.map_cons, List.map_nil]); first | done | rfl | (simp only [List.length_drop, List.length_take]; rfl)) ?_; (with_reducible refine (muleteerref1_Seq.calls a0 t119 _ A8.out).mono ?_); rintro e w' ⟨rfl, ⟨nd, rfl⟩⟩; refine ⟨_, rfl, ?_⟩) | (go_at_call 32; (with_reducible refine (seq_Add.calls a0 a3 t120 _ A10.out).mono ?_); rintro e w' ⟨rfl, ⟨nd, rfl⟩⟩) | (go_at_call 33; (with_reducible refine (muleteerref1_Step.calls a0 a3 t121 _ A11.out).mono ?_); rintro e w' ⟨rfl, ⟨nd, rfl⟩⟩) | (go_at_call 34; (with_reducible refine (seq_Diff.calls a0 a1 t122 _ A13.out).mono ?_); rintro e w' ⟨rfl, ⟨nd, rfl⟩⟩) | (go_at_call 35; (with_reducible refine (muleteerref1_Diff.calls a0 a1 t123 _ A14.out).mono ?_); rintro e w' ⟨rfl, ⟨nd, rfl⟩⟩))
          go_ret
          exact ⟨by first | rfl | (simp [errW_none, errW_some] <;> rfl) | (simp [*, errW_none, errW_some] <;> rfl), by repeat (first | (with_reducible first | exact HB.out | apply below_alloc | apply pw_below_drewN | apply below_drew1) | exact HB.out)⟩
      · rw [if_neg c12] at H
        have c12b0 : (t120 == t121) = false := beq_eq_false_iff_ne.mpr c12
        have c12b1 : (t120 != t121) = true := bne_iff_ne.mpr c12
        obtain rfl := Option.some.inj H
        go_enter Tryz.func8, Tryz.ntmps8
        go_wp2_with (first | ((with_reducible refine gate_callee (f := 15) rfl ?_); refine goesL_ (some 10) rfl rfl Tryz.func15 (by kernel_rfl) rfl #[] rfl (by (try simp only [List.map_toArray, List.map_cons, List.map_nil]); first | done | rfl | (simp only [List.length_drop, List.length_take]; rfl)) ?_; (with_reducible refine (muleteerlaw1_begun.calls  true _ A5.out).mono ?_); rintro e w29 ⟨rfl, hb⟩; refine ⟨_, rfl, ?_⟩; have n0_ := Aside0.mk (below_step (by repeat (first | (with_reducible first | exact HB.out | apply below_alloc | apply pw_below_drewN | apply below_drew1) | exact HB.out)) hb); clear HB; have HB := n0_; clear n0_; (try clear hb); (try clear hb2); (try clear hk); (try clear hi)) | ((with_reducible refine gate_callee (f := 30) rfl ?_); refine goesL_ (some 14) rfl rfl Tryz.func30 (by kernel_rfl) rfl #[.int .u64 a0] rfl (by (try simp only [List.map_toArray, List.map_cons, List.map_nil]); first | done | rfl | (simp only [List.length_drop, List.length_take]; rfl)) ?_; (with_reducible refine (seq_Of.calls a0 t118 _ A7.out).mono ?_); rintro e w' ⟨rfl, ⟨nd, rfl⟩⟩; refine ⟨_, rfl, ?_⟩) | ((with_reducible refine gate_callee (f := 31) rfl ?_); refine goesL_ (some 16) rfl rfl Tryz.func31 (by kernel_rfl) rfl #[.int .u64 a0] rfl (by (try simp only [List.map_toArray, List.map_cons, List.map_nil]); first | done | rfl | (simp only [List.length_drop, List.length_take]; rfl)) ?_; (with_reducible refine (muleteerref1_Seq.calls a0 t119 _ A8.out).mono ?_); rintro e w' ⟨rfl, ⟨nd, rfl⟩⟩; refine ⟨_, rfl, ?_⟩) | (go_at_call 32; (with_reducible refine (seq_Add.calls a0 a3 t120 _ A10.out).mono ?_); rintro e w' ⟨rfl, ⟨nd, rfl⟩⟩) | (go_at_call 33; (with_reducible refine (muleteerref1_Step.calls a0 a3 t121 _ A11.out).mono ?_); rintro e w' ⟨rfl, ⟨nd, rfl⟩⟩))
        go_ret
        exact ⟨by first | rfl | (simp [errW_none, errW_some] <;> rfl) | (simp [*, errW_none, errW_some] <;> rfl), by repeat (first | (with_reducible first | exact HB.out | apply below_alloc | apply pw_below_drewN | apply below_drew1) | exact HB.out)⟩
    · rw [if_neg c9] at H
      have c9b0 : (t118 == t119) = false := beq_eq_false_iff_ne.mpr c9
      have c9b1 : (t118 != t119) = true := bne_iff_ne.mpr c9
      obtain rfl := Option.some.inj H
      go_enter Tryz.func8, Tryz.ntmps8
      go_wp2_with (first | ((with_reducible refine gate_callee (f := 15) rfl ?_); refine goesL_ (some 10) rfl rfl Tryz.func15 (by kernel_rfl) rfl #[] rfl (by (try simp only [List.map_toArray, List.map_cons, List.map_nil]); first | done | rfl | (simp only [List.length_drop, List.length_take]; rfl)) ?_; (with_reducible refine (muleteerlaw1_begun.calls  true _ A5.out).mono ?_); rintro e w30 ⟨rfl, hb⟩; refine ⟨_, rfl, ?_⟩; have n0_ := Aside0.mk (below_step (by repeat (first | (with_reducible first | exact HB.out | apply below_alloc | apply pw_below_drewN | apply below_drew1) | exact HB.out)) hb); clear HB; have HB := n0_; clear n0_; (try clear hb); (try clear hb2); (try clear hk); (try clear hi)) | ((with_reducible refine gate_callee (f := 30) rfl ?_); refine goesL_ (some 14) rfl rfl Tryz.func30 (by kernel_rfl) rfl #[.int .u64 a0] rfl (by (try simp only [List.map_toArray, List.map_cons, List.map_nil]); first | done | rfl | (simp only [List.length_drop, List.length_take]; rfl)) ?_; (with_reducible refine (seq_Of.calls a0 t118 _ A7.out).mono ?_); rintro e w' ⟨rfl, ⟨nd, rfl⟩⟩; refine ⟨_, rfl, ?_⟩) | ((with_reducible refine gate_callee (f := 31) rfl ?_); refine goesL_ (some 16) rfl rfl Tryz.func31 (by kernel_rfl) rfl #[.int .u64 a0] rfl (by (try simp only [List.map_toArray, List.map_cons, List.map_nil]); first | done | rfl | (simp only [List.length_drop, List.length_take]; rfl)) ?_; (with_reducible refine (muleteerref1_Seq.calls a0 t119 _ A8.out).mono ?_); rintro e w' ⟨rfl, ⟨nd, rfl⟩⟩; refine ⟨_, rfl, ?_⟩))
      go_ret
      exact ⟨by first | rfl | (simp [errW_none, errW_some] <;> rfl) | (simp [*, errW_none, errW_some] <;> rfl), by repeat (first | (with_reducible first | exact HB.out | apply below_alloc | apply pw_below_drewN | apply below_drew1) | exact HB.out)⟩
  · replace c6 := Bool.eq_false_iff.mpr c6
    subst c6
    have H1 : (some false) = some r := by rw [if_neg (show ¬ (false = true) by decide)] at H; exact H
    clear H
    have H := H1
    clear H1
    obtain rfl := Option.some.inj H
    go_enter Tryz.func8, Tryz.ntmps8
    go_wp2_with (first | ((with_reducible refine gate_callee (f := 15) rfl ?_); refine goesL_ (some 10) rfl rfl Tryz.func15 (by kernel_rfl) rfl #[] rfl (by (try simp only [List.map_toArray, List.map_cons, List.map_nil]); first | done | rfl | (simp only [List.length_drop, List.length_take]; rfl)) ?_; (with_reducible refine (muleteerlaw1_begun.calls  false _ A5.out).mono ?_); rintro e w31 ⟨rfl, hb⟩; refine ⟨_, rfl, ?_⟩; have n0_ := Aside0.mk (below_step (by repeat (first | (with_reducible first | exact HB.out | apply below_alloc | apply pw_below_drewN | apply below_drew1) | exact HB.out)) hb); clear HB; have HB := n0_; clear n0_; (try clear hb); (try clear hb2); (try clear hk); (try clear hi)))
    go_ret
    exact ⟨by first | rfl | (simp [errW_none, errW_some] <;> rfl) | (simp [*, errW_none, errW_some] <;> rfl), by repeat (first | (with_reducible first | exact HB.out | apply below_alloc | apply pw_below_drewN | apply below_drew1) | exact HB.out)⟩

/-- THE ONE PURE STATEMENT of muleteerlaw1_SeqAll: yours. -/
def muleteerlaw1_SeqAll.Pure : Prop := ∀ (a0 : Int) (a1 : Int) (a2 : Int) (a3 : Int), (Lit.int .u64 a0).wf = true → (Lit.int .u64 a1).wf = true → (Lit.int .u64 a2).wf = true → (Lit.int .i64 a3).wf = true → muleteerlaw1_SeqAll.f a0 a1 a2 a3 = some true
theorem muleteerlaw1_SeqAll.walk (P : muleteerlaw1_SeqAll.Pure) (a0 : Int) (a1 : Int) (a2 : Int) (a3 : Int) (w : World) (w0 : (Lit.int .u64 a0).wf = true) (w1 : (Lit.int .u64 a1).wf = true) (w2 : (Lit.int .u64 a2).wf = true) (w3 : (Lit.int .i64 a3).wf = true) :
    Calls Tryz.prog 8 #[.int .u64 a0, .int .u64 a1, .int .u64 a2, .int .i64 a3] w fun e w' => e = .returned (.bool true) ∧ Below w.heap.size w w' := by
  have h := P a0 a1 a2 a3 w0 w1 w2 w3
  refine (muleteerlaw1_SeqAll.calls a0 a1 a2 a3 true w h).mono ?_
  rintro e w' ⟨rfl, hd⟩
  exact ⟨rfl, hd⟩

end Go.Proofs.YtmdimebifngekaaGreatDoor.PSeqAll
