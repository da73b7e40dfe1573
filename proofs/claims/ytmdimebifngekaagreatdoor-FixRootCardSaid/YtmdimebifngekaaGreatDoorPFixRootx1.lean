/- What this seat's Go functions compute, as Lean functions, and that they do. Written by a program of this session's (wip/pr/pr.py) by means of the kit's printer, with contracts of ours for some functions; conditions: none beyond each theorem's own. -/
import Derived.Test.YtmdimebifngekaaGreatDoorPFixRootx0
namespace Go.Proofs.YtmdimebifngekaaGreatDoor.PFixRoot
open Go.RowKit Go.Proofs.YtmdimebifngekaaGreatDoorW.PrintWords Go.Proofs.YtmdimebifngekaaGreatDoorW.PrintLast Go.Proofs.YtmdimebifngekaaGreatDoorW.PrintMore
attribute [local go_sem] max2_int min2_int max_two min_two max_three min_three max_four min_four   -- for this text's walks alone
set_option linter.unusedVariables false
set_option linter.unusedSimpArgs false

/-! ### muleteerlaw1_begun: function 15: a contract of ours -/
def muleteerlaw1_begun.f  : Option (Bool) := some true
theorem muleteerlaw1_begun.calls  (r : Bool) (w : World)  (h : muleteerlaw1_begun.f  = some r) :
    Calls Tryz.prog 15 #[] w fun e w' => e = .returned (.bool r) ∧ Below w.heap.size w w' := by
  cases h; exact begun_true w

/-! ### fix_SqrtMul: function 16: a contract of ours -/
def fix_SqrtMul.f (a0 : Int) (a1 : Int) : Option (Int) := if u64 a0 ∧ u64 a1 then some ((Fix.root (a0.toNat * a1.toNat) : Nat)) else none
theorem fix_SqrtMul.calls (a0 : Int) (a1 : Int) (r : Int) (w : World)  (h : fix_SqrtMul.f a0 a1 = some r) :
    Calls Tryz.prog 16 #[.int .u64 a0, .int .u64 a1] w fun e w' => e = .returned (.int .u64 r) ∧ Drawn0 w w' := by
  unfold fix_SqrtMul.f at h
  split at h
  · rename_i hc
    obtain ⟨c0, c1⟩ := hc
    obtain ⟨n0, rfl, g0⟩ := u64_nat c0
    obtain ⟨n1, rfl, g1⟩ := u64_nat c1
    simp only [Int.toNat_natCast, Option.some.injEq, Prod.mk.injEq] at h
    obtain rfl := h
    exact (fix_SqrtMul n0 n1 w g0 g1).mono fun e w' hq => ⟨by rw [hq.1], same_drawn hq.2⟩
  · cases h

/-! ### muleteerref1_Wide: function 17 -/
def muleteerref1_Wide.f (a0 : Int) (a1 : Int) : Option (Int × Int) := some (IntKind.u64.wrap ((IntKind.u64.wrap ((IntKind.u64.wrap ((IntKind.u64.wrap (Int.tdiv a0 4294967296)) * (IntKind.u64.wrap (Int.tdiv a1 4294967296)))) + (IntKind.u64.wrap (Int.tdiv (IntKind.u64.wrap ((IntKind.u64.wrap ((IntKind.u64.wrap (Int.tdiv a0 4294967296)) * (Int.tmod a1 4294967296))) + (IntKind.u64.wrap (Int.tdiv (IntKind.u64.wrap ((Int.tmod a0 4294967296) * (Int.tmod a1 4294967296))) 4294967296)))) 4294967296)))) + (IntKind.u64.wrap (Int.tdiv (IntKind.u64.wrap ((IntKind.u64.wrap ((Int.tmod a0 4294967296) * (IntKind.u64.wrap (Int.tdiv a1 4294967296)))) + (Int.tmod (IntKind.u64.wrap ((IntKind.u64.wrap ((IntKind.u64.wrap (Int.tdiv a0 4294967296)) * (Int.tmod a1 4294967296))) + (IntKind.u64.wrap (Int.tdiv (IntKind.u64.wrap ((Int.tmod a0 4294967296) * (Int.tmod a1 4294967296))) 4294967296)))) 4294967296))) 4294967296))), IntKind.u64.wrap ((IntKind.u64.wrap ((Int.tmod (IntKind.u64.wrap ((IntKind.u64.wrap ((Int.tmod a0 4294967296) * (IntKind.u64.wrap (Int.tdiv a1 4294967296)))) + (Int.tmod (IntKind.u64.wrap ((IntKind.u64.wrap ((IntKind.u64.wrap (Int.tdiv a0 4294967296)) * (Int.tmod a1 4294967296))) + (IntKind.u64.wrap (Int.tdiv (IntKind.u64.wrap ((Int.tmod a0 4294967296) * (Int.tmod a1 4294967296))) 4294967296)))) 4294967296))) 4294967296) * 4294967296)) + (Int.tmod (IntKind.u64.wrap ((Int.tmod a0 4294967296) * (Int.tmod a1 4294967296))) 4294967296)))
set_option maxHeartbeats 8000000 in
set_option maxRecDepth 100000 in
theorem muleteerref1_Wide.calls (a0 : Int) (a1 : Int) (r1 : Int) (r2 : Int) (w : World) (h : muleteerref1_Wide.f a0 a1 = some (r1, r2)) :
    Calls Tryz.prog 17 #[.int .u64 a0, .int .u64 a1] w fun e w' => e = .returned (.tuple #[.int .u64 r1, .int .u64 r2]) ∧ Drawn0 w w' := by
  have H : (some (IntKind.u64.wrap ((IntKind.u64.wrap ((IntKind.u64.wrap ((IntKind.u64.wrap (Int.tdiv a0 4294967296)) * (IntKind.u64.wrap (Int.tdiv a1 4294967296)))) + (IntKind.u64.wrap (Int.tdiv (IntKind.u64.wrap ((IntKind.u64.wrap ((IntKind.u64.wrap (Int.tdiv a0 4294967296)) * (Int.tmod a1 4294967296))) + (IntKind.u64.wrap (Int.tdiv (IntKind.u64.wrap ((Int.tmod a0 4294967296) * (Int.tmod a1 4294967296))) 4294967296)))) 4294967296)))) + (IntKind.u64.wrap (Int.tdiv (IntKind.u64.wrap ((IntKind.u64.wrap ((Int.tmod a0 4294967296) * (IntKind.u64.wrap (Int.tdiv a1 4294967296)))) + (Int.tmod (IntKind.u64.wrap ((IntKind.u64.wrap ((IntKind.u64.wrap (Int.tdiv a0 4294967296)) * (Int.tmod a1 4294967296))) + (IntKind.u64.wrap (Int.tdiv (IntKind.u64.wrap ((Int.tmod a0 4294967296) * (Int.tmod a1 4294967296))) 4294967296)))) 4294967296))) 4294967296))), IntKind.u64.wrap ((IntKind.u64.wrap ((Int.tmod (IntKind.u64.wrap ((IntKind.u64.wrap ((Int.tmod a0 4294967296) * (IntKind.u64.wrap (Int.tdiv a1 4294967296)))) + (Int.tmod (IntKind.u64.wrap ((IntKind.u64.wrap ((IntKind.u64.wrap (Int.tdiv a0 4294967296)) * (Int.tmod a1 4294967296))) + (IntKind.u64.wrap (Int.tdiv (IntKind.u64.wrap ((Int.tmod a0 4294967296) * (Int.tmod a1 4294967296))) 4294967296)))) 4294967296))) 4294967296) * 4294967296)) + (Int.tmod (IntKind.u64.wrap ((Int.tmod a0 4294967296) * (Int.tmod a1 4294967296))) 4294967296)))) = some (r1, r2) := h
  clear h
  simp only [Option.some.injEq, Prod.mk.injEq] at H
  obtain ⟨rfl, rfl⟩ := H
  go_enter Tryz.func17, Tryz.ntmps17
  go_wp2
  go_ret2
  exact ⟨by first | rfl | (simp; done) | (simp [*]; done), by repeat (first | exact Drawn0.refl _ | apply Drawn0.step)⟩

/-! ### muleteerref1_Over: function 18 -/
def muleteerref1_Over.f (a0 : Int) (a1 : Int) (a2 : Int) (a3 : Int) : Option (Bool) := if a0 > a2 then (some true) else (if a0 = a2 then (some (decide (a1 > a3))) else (some false))
set_option maxHeartbeats 8000000 in
set_option maxRecDepth 100000 in
theorem muleteerref1_Over.calls (a0 : Int) (a1 : Int) (a2 : Int) (a3 : Int) (r : Bool) (w : World) (h : muleteerref1_Over.f a0 a1 a2 a3 = some r) :
    Calls Tryz.prog 18 #[.int .u64 a0, .int .u64 a1, .int .u64 a2, .int .u64 a3] w fun e w' => e = .returned (.bool r) ∧ Drawn0 w w' := by
  have H : (if a0 > a2 then (some true) else (if a0 = a2 then (some (decide (a1 > a3))) else (some false))) = some r := h
  clear h
  by_cases c5 : a0 > a2
  · rw [if_pos c5] at H
    have c5b0 : decide (a2 < a0) = true := decide_eq_true c5
    clear c5
    obtain rfl := Option.some.inj H
    go_enter Tryz.func18, Tryz.ntmps18
    go_wp2
    go_ret
    exact ⟨by first | rfl | (simp; done) | (simp [*]; done), by repeat (first | exact Drawn0.refl _ | apply Drawn0.step)⟩
  · rw [if_neg c5] at H
    have c5b0 : decide (a2 < a0) = false := decide_eq_false c5
    clear c5
    by_cases c6 : a0 = a2
    · rw [if_pos c6] at H
      have c6b0 : (a0 == a2) = true := beq_iff_eq.mpr c6
      have c6b1 : (a0 != a2) = false := bne_eq_false_iff_eq.mpr c6
      clear c6
      obtain rfl := Option.some.inj H
      go_enter Tryz.func18, Tryz.ntmps18
      go_wp2
      go_ret
      exact ⟨by first | rfl | (simp; done) | (simp [*]; done), by repeat (first | exact Drawn0.refl _ | apply Drawn0.step)⟩
    · rw [if_neg c6] at H
      have c6b0 : (a0 == a2) = false := beq_eq_false_iff_ne.mpr c6
      have c6b1 : (a0 != a2) = true := bne_iff_ne.mpr c6
      obtain rfl := Option.some.inj H
      go_enter Tryz.func18, Tryz.ntmps18
      go_wp2
      go_ret
      exact ⟨by first | rfl | (simp; done) | (simp [*]; done), by repeat (first | exact Drawn0.refl _ | apply Drawn0.step)⟩

/-! ### muleteerlaw1_FixRoot: function 3 -/
def muleteerlaw1_FixRoot.f (a0 : Int) (a1 : Int) : Option (Bool) := (muleteerlaw1_begun.f).bind fun t101 => (if t101 = true then ((fix_SqrtMul.f a0 a1).bind fun t102 => ((muleteerref1_Wide.f a0 a1).bind fun bt103 => ((muleteerref1_Wide.f t102 t102).bind fun bt105 => ((muleteerref1_Over.f bt105.1 bt105.2 bt103.1 bt103.2).bind fun t107 => (if t107 = true then (some false) else (if t102 = 18446744073709551615 then (some true) else ((muleteerref1_Wide.f (IntKind.u64.wrap (t102 + 1)) (IntKind.u64.wrap (t102 + 1))).bind fun bt108 => ((muleteerref1_Over.f bt108.1 bt108.2 bt103.1 bt103.2).bind fun t110 => (if t110 = true then ((fix_SqrtMul.f a0 a1).bind fun t111 => ((fix_SqrtMul.f a1 a0).bind fun t112 => (if t111 = t112 then ((fix_SqrtMul.f a0 a0).bind fun t113 => (some (t113 == a0))) else (some false)))) else (some false)))))))))) else (some false))
set_option maxHeartbeats 8000000 in
set_option maxRecDepth 100000 in
theorem muleteerlaw1_FixRoot.calls (a0 : Int) (a1 : Int) (r : Bool) (w : World) (h : muleteerlaw1_FixRoot.f a0 a1 = some r) :
    Calls Tryz.prog 3 #[.int .u64 a0, .int .u64 a1] w fun e w' => e = .returned (.bool r) ∧ Below w.heap.size w w' := by
  have HB := Aside0.mk (Below.refl w.heap.size w)
  have H : ((muleteerlaw1_begun.f).bind fun t101 => (if t101 = true then ((fix_SqrtMul.f a0 a1).bind fun t102 => ((muleteerref1_Wide.f a0 a1).bind fun bt103 => ((muleteerref1_Wide.f t102 t102).bind fun bt105 => ((muleteerref1_Over.f bt105.1 bt105.2 bt103.1 bt103.2).bind fun t107 => (if t107 = true then (some false) else (if t102 = 18446744073709551615 then (some true) else ((muleteerref1_Wide.f (IntKind.u64.wrap (t102 + 1)) (IntKind.u64.wrap (t102 + 1))).bind fun bt108 => ((muleteerref1_Over.f bt108.1 bt108.2 bt103.1 bt103.2).bind fun t110 => (if t110 = true then ((fix_SqrtMul.f a0 a1).bind fun t111 => ((fix_SqrtMul.f a1 a0).bind fun t112 => (if t111 = t112 then ((fix_SqrtMul.f a0 a0).bind fun t113 => (some (t113 == a0))) else (some false)))) else (some false)))))))))) else (some false))) = some r := h
  clear h
  replace H := Option.bind_eq_some_iff.mp H
  obtain ⟨t101, A30, H⟩ := H
  replace H : (if t101 = true then ((fix_SqrtMul.f a0 a1).bind fun t102 => ((muleteerref1_Wide.f a0 a1).bind fun bt103 => ((muleteerref1_Wide.f t102 t102).bind fun bt105 => ((muleteerref1_Over.f bt105.1 bt105.2 bt103.1 bt103.2).bind fun t107 => (if t107 = true then (some false) else (if t102 = 18446744073709551615 then (some true) else ((muleteerref1_Wide.f (IntKind.u64.wrap (t102 + 1)) (IntKind.u64.wrap (t102 + 1))).bind fun bt108 => ((muleteerref1_Over.f bt108.1 bt108.2 bt103.1 bt103.2).bind fun t110 => (if t110 = true then ((fix_SqrtMul.f a0 a1).bind fun t111 => ((fix_SqrtMul.f a1 a0).bind fun t112 => (if t111 = t112 then ((fix_SqrtMul.f a0 a0).bind fun t113 => (some (t113 == a0))) else (some false)))) else (some false)))))))))) else (some false)) = some r := H
  have A3 := Aside0.mk A30
  clear A30
  by_cases c4 : t101 = true
  · subst c4
    have H1 : ((fix_SqrtMul.f a0 a1).bind fun t102 => ((muleteerref1_Wide.f a0 a1).bind fun bt103 => ((muleteerref1_Wide.f t102 t102).bind fun bt105 => ((muleteerref1_Over.f bt105.1 bt105.2 bt103.1 bt103.2).bind fun t107 => (if t107 = true then (some false) else (if t102 = 18446744073709551615 then (some true) else ((muleteerref1_Wide.f (IntKind.u64.wrap (t102 + 1)) (IntKind.u64.wrap (t102 + 1))).bind fun bt108 => ((muleteerref1_Over.f bt108.1 bt108.2 bt103.1 bt103.2).bind fun t110 => (if t110 = true then ((fix_SqrtMul.f a0 a1).bind fun t111 => ((fix_SqrtMul.f a1 a0).bind fun t112 => (if t111 = t112 then ((fix_SqrtMul.f a0 a0).bind fun t113 => (some (t113 == a0))) else (some false)))) else (some false)))))))))) = some r := by rw [if_pos rfl] at H; exact H
    clear H
    have H := H1
    clear H1
    replace H := Option.bind_eq_some_iff.mp H
    obtain ⟨t102, A50, H⟩ := H
    replace H : ((muleteerref1_Wide.f a0 a1).bind fun bt103 => ((muleteerref1_Wide.f t102 t102).bind fun bt105 => ((muleteerref1_Over.f bt105.1 bt105.2 bt103.1 bt103.2).bind fun t107 => (if t107 = true then (some false) else (if t102 = 18446744073709551615 then (some true) else ((muleteerref1_Wide.f (IntKind.u64.wrap (t102 + 1)) (IntKind.u64.wrap (t102 + 1))).bind fun bt108 => ((muleteerref1_Over.f bt108.1 bt108.2 bt103.1 bt103.2).bind fun t110 => (if t110 = true then ((fix_SqrtMul.f a0 a1).bind fun t111 => ((fix_SqrtMul.f a1 a0).bind fun t112 => (if t111 = t112 then ((fix_SqrtMul.f a0 a0).bind fun t113 => (some (t113 == a0))) else (some false)))) else (some false))))))))) = some r := H
    have A5 := Aside0.mk A50
    clear A50
    replace H := Option.bind_eq_some_iff.mp H
    obtain ⟨⟨t103, t104⟩, A60, H⟩ := H
    replace H : ((muleteerref1_Wide.f t102 t102).bind fun bt105 => ((muleteerref1_Over.f bt105.1 bt105.2 t103 t104).bind fun t107 => (if t107 = true then (some false) else (if t102 = 18446744073709551615 then (some true) else ((muleteerref1_Wide.f (IntKind.u64.wrap (t102 + 1)) (IntKind.u64.wrap (t102 + 1))).bind fun bt108 => ((muleteerref1_Over.f bt108.1 bt108.2 t103 t104).bind fun t110 => (if t110 = true then ((fix_SqrtMul.f a0 a1).bind fun t111 => ((fix_SqrtMul.f a1 a0).bind fun t112 => (if t111 = t112 then ((fix_SqrtMul.f a0 a0).bind fun t113 => (some (t113 == a0))) else (some false)))) else (some false)))))))) = some r := H
    have A6 := Aside0.mk A60
    clear A60
    replace H := Option.bind_eq_some_iff.mp H
    obtain ⟨⟨t105, t106⟩, A70, H⟩ := H
    replace H : ((muleteerref1_Over.f t105 t106 t103 t104).bind fun t107 => (if t107 = true then (some false) else (if t102 = 18446744073709551615 then (some true) else ((muleteerref1_Wide.f (IntKind.u64.wrap (t102 + 1)) (IntKind.u64.wrap (t102 + 1))).bind fun bt108 => ((muleteerref1_Over.f bt108.1 bt108.2 t103 t104).bind fun t110 => (if t110 = true then ((fix_SqrtMul.f a0 a1).bind fun t111 => ((fix_SqrtMul.f a1 a0).bind fun t112 => (if t111 = t112 then ((fix_SqrtMul.f a0 a0).bind fun t113 => (some (t113 == a0))) else (some false)))) else (some false))))))) = some r := H
    have A7 := Aside0.mk A70
    clear A70
    replace H := Option.bind_eq_some_iff.mp H
    obtain ⟨t107, A80, H⟩ := H
    replace H : (if t107 = true then (some false) else (if t102 = 18446744073709551615 then (some true) else ((muleteerref1_Wide.f (IntKind.u64.wrap (t102 + 1)) (IntKind.u64.wrap (t102 + 1))).bind fun bt108 => ((muleteerref1_Over.f bt108.1 bt108.2 t103 t104).bind fun t110 => (if t110 = true then ((fix_SqrtMul.f a0 a1).bind fun t111 => ((fix_SqrtMul.f a1 a0).bind fun t112 => (if t111 = t112 then ((fix_SqrtMul.f a0 a0).bind fun t113 => (some (t113 == a0))) else (some false)))) else (some false)))))) = some r := H
    have A8 := Aside0.mk A80
    clear A80
    by_cases c9 : t107 = true
    · subst c9
      have H1 : (some false) = some r := by rw [if_pos rfl] at H; exact H
      clear H
      have H := H1
      clear H1
      obtain rfl := Option.some.inj H
      go_enter Tryz.func3, Tryz.ntmps3
      go_wp2_with (first | ((with_reducible refine gate_callee (f := 15) rfl ?_); refine goesL_ (some 11) rfl rfl Tryz.func15 (by kernel_rfl) rfl #[] rfl (by (try simp only [List.map_toArray, List.map_cons, List.map_nil]); first | done | rfl | (simp only [List.length_drop, List.length_take]; rfl)) ?_; (with_reducible refine (muleteerlaw1_begun.calls  true _ A3.out).mono ?_); rintro e w10 ⟨rfl, hb⟩; refine ⟨_, rfl, ?_⟩; have n0_ := Aside0.mk (below_step (by repeat (first | (with_reducible first | exact HB.out | apply below_alloc | apply pw_below_drewN | apply below_drew1) | exact HB.out)) hb); clear HB; have HB := n0_; clear n0_; (try clear hb); (try clear hb2); (try clear hk); (try clear hi)) | ((with_reducible refine gate_callee (f := 16) rfl ?_); refine goesL_ (some 16) rfl rfl Tryz.func16 (by kernel_rfl) rfl #[.int .u64 a0, .int .u64 a1] rfl (by (try simp only [List.map_toArray, List.map_cons, List.map_nil]); first | done | rfl | (simp only [List.length_drop, List.length_take]; rfl)) ?_; (with_reducible refine (fix_SqrtMul.calls a0 a1 t102 _ A5.out).mono ?_); rintro e w' ⟨rfl, ⟨nd, rfl⟩⟩; refine ⟨_, rfl, ?_⟩) | ((with_reducible refine gate_callee (f := 17) rfl ?_); refine goesL_ (some 20) rfl rfl Tryz.func17 (by kernel_rfl) rfl #[.int .u64 a0, .int .u64 a1] rfl (by (try simp only [List.map_toArray, List.map_cons, List.map_nil]); first | done | rfl | (simp only [List.length_drop, List.length_take]; rfl)) ?_; (with_reducible refine (muleteerref1_Wide.calls a0 a1 t103 t104 _ A6.out).mono ?_); rintro e w' ⟨rfl, ⟨nd, rfl⟩⟩; refine ⟨_, rfl, ?_⟩) | ((with_reducible refine gate_callee (f := 17) rfl ?_); refine goesL_ (some 26) rfl rfl Tryz.func17 (by kernel_rfl) rfl #[.int .u64 t102, .int .u64 t102] rfl (by (try simp only [List.map_toArray, List.map_cons, List.map_nil]); first | done | rfl | (simp only [List.length_drop, List.length_take]; rfl)) ?_; (with_reducible refine (muleteerref1_Wide.calls t102 t102 t105 t106 _ A7.out).mono ?_); rintro e w' ⟨rfl, ⟨nd, rfl⟩⟩; refine ⟨_, rfl, ?_⟩) | ((with_reducible refine gate_callee (f := 18) rfl ?_); refine goesL_ (some 33) rfl rfl Tryz.func18 (by kernel_rfl) rfl #[.int .u64 t105, .int .u64 t106, .int .u64 t103, .int .u64 t104] rfl (by (try simp only [List.map_toArray, List.map_cons, List.map_nil]); first | done | rfl | (simp only [List.length_drop, List.length_take]; rfl)) ?_; (with_reducible refine (muleteerref1_Over.calls t105 t106 t103 t104 true _ A8.out).mono ?_); rintro e w' ⟨rfl, ⟨nd, rfl⟩⟩; refine ⟨_, rfl, ?_⟩))
      go_ret
      exact ⟨by first | rfl | (simp [errW_none, errW_some] <;> rfl) | (simp [*, errW_none, errW_some] <;> rfl), by repeat (first | (with_reducible first | exact HB.out | apply below_alloc | apply pw_below_drewN | apply below_drew1) | exact HB.out)⟩
    · replace c9 := Bool.eq_false_iff.mpr c9
      subst c9
      have H1 : (if t102 = 18446744073709551615 then (some true) else ((muleteerref1_Wide.f (IntKind.u64.wrap (t102 + 1)) (IntKind.u64.wrap (t102 + 1))).bind fun bt108 => ((muleteerref1_Over.f bt108.1 bt108.2 t103 t104).bind fun t110 => (if t110 = true then ((fix_SqrtMul.f a0 a1).bind fun t111 => ((fix_SqrtMul.f a1 a0).bind fun t112 => (if t111 = t112 then ((fix_SqrtMul.f a0 a0).bind fun t113 => (some (t113 == a0))) else (some false)))) else (some false))))) = some r := by rw [if_neg (show ¬ (false = true) by decide)] at H; exact H
      clear H
      have H := H1
      clear H1
      by_cases c11 : t102 = 18446744073709551615
      · rw [if_pos c11] at H
        have c11b0 : (t102 == 18446744073709551615) = true := beq_iff_eq.mpr c11
        have c11b1 : (t102 != 18446744073709551615) = false := bne_eq_false_iff_eq.mpr c11
        clear c11
        obtain rfl := Option.some.inj H
        go_enter Tryz.func3, Tryz.ntmps3
        go_wp2_with (first | ((with_reducible refine gate_callee (f := 15) rfl ?_); refine goesL_ (some 11) rfl rfl Tryz.func15 (by kernel_rfl) rfl #[] rfl (by (try simp only [List.map_toArray, List.map_cons, List.map_nil]); first | done | rfl | (simp only [List.length_drop, List.length_take]; rfl)) ?_; (with_reducible refine (muleteerlaw1_begun.calls  true _ A3.out).mono ?_); rintro e w12 ⟨rfl, hb⟩; refine ⟨_, rfl, ?_⟩; have n0_ := Aside0.mk (below_step (by repeat (first | (with_reducible first | exact HB.out | apply below_alloc | apply pw_below_drewN | apply below_drew1) | exact HB.out)) hb); clear HB; have HB := n0_; clear n0_; (try clear hb); (try clear hb2); (try clear hk); (try clear hi)) | ((with_reducible refine gate_callee (f := 16) rfl ?_); refine goesL_ (some 16) rfl rfl Tryz.func16 (by kernel_rfl) rfl #[.int .u64 a0, .int .u64 a1] rfl (by (try simp only [List.map_toArray, List.map_cons, List.map_nil]); first | done | rfl | (simp only [List.length_drop, List.length_take]; rfl)) ?_; (with_reducible refine (fix_SqrtMul.calls a0 a1 t102 _ A5.out).mono ?_); rintro e w' ⟨rfl, ⟨nd, rfl⟩⟩; refine ⟨_, rfl, ?_⟩) | ((with_reducible refine gate_callee (f := 17) rfl ?_); refine goesL_ (some 20) rfl rfl Tryz.func17 (by kernel_rfl) rfl #[.int .u64 a0, .int .u64 a1] rfl (by (try simp only [List.map_toArray, List.map_cons, List.map_nil]); first | done | rfl | (simp only [List.length_drop, List.length_take]; rfl)) ?_; (with_reducible refine (muleteerref1_Wide.calls a0 a1 t103 t104 _ A6.out).mono ?_); rintro e w' ⟨rfl, ⟨nd, rfl⟩⟩; refine ⟨_, rfl, ?_⟩) | ((with_reducible refine gate_callee (f := 17) rfl ?_); refine goesL_ (some 26) rfl rfl Tryz.func17 (by kernel_rfl) rfl #[.int .u64 t102, .int .u64 t102] rfl (by (try simp only [List.map_toArray, List.map_cons, List.map_nil]); first | done | rfl | (simp only [List.length_drop, List.length_take]; rfl)) ?_; (with_reducible refine (muleteerref1_Wide.calls t102 t102 t105 t106 _ A7.out).mono ?_); rintro e w' ⟨rfl, ⟨nd, rfl⟩⟩; refine ⟨_, rfl, ?_⟩) | ((with_reducible refine gate_callee (f := 18) rfl ?_); refine goesL_ (some 33) rfl rfl Tryz.func18 (by kernel_rfl) rfl #[.int .u64 t105, .int .u64 t106, .int .u64 t103, .int .u64 t104] rfl (by (try simp only [List.map_toArray, List.map_cons, List.map_nil]); first | done | rfl | (simp only [List.length_drop, List.length_take]; rfl)) ?_; (with_reducible refine (muleteerref1_Over.calls t105 t106 t103 t104 false _ A8.out).mono ?_); rintro e w' ⟨rfl, ⟨nd, rfl⟩⟩; refine ⟨_, rfl, ?_⟩))
        go_ret
        exact ⟨by first | rfl | (simp [errW_none, errW_some] <;> rfl) | (simp [*, errW_none, errW_some] <;> rfl), by repeat (first | (with_reducible first | exact HB.out | apply below_alloc | apply pw_below_drewN | apply below_drew1) | exact HB.out)⟩
      · rw [if_neg c11] at H
        have c11b0 : (t102 == 18446744073709551615) = false := beq_eq_false_iff_ne.mpr c11
        have c11b1 : (t102 != 18446744073709551615) = true := bne_iff_ne.mpr c11
        replace H := Option.bind_eq_some_iff.mp H
        obtain ⟨⟨t108, t109⟩, A130, H⟩ := H
        replace H : ((muleteerref1_Over.f t108 t109 t103 t104).bind fun t110 => (if t110 = true then ((fix_SqrtMul.f a0 a1).bind fun t111 => ((fix_SqrtMul.f a1 a0).bind fun t112 => (if t111 = t112 then ((fix_SqrtMul.f a0 a0).bind fun t113 => (some (t113 == a0))) else (some false)))) else (some false))) = some r := H
        have A13 := Aside0.mk A130
        clear A130
        replace H := Option.bind_eq_some_iff.mp H
        obtain ⟨t110, A140, H⟩ := H
        replace H : (if t110 = true then ((fix_SqrtMul.f a0 a1).bind fun t111 => ((fix_SqrtMul.f a1 a0).bind fun t112 => (if t111 = t112 then ((fix_SqrtMul.f a0 a0).bind fun t113 => (some (t113 == a0))) else (some false)))) else (some false)) = some r := H
        have A14 := Aside0.mk A140
        clear A140
        by_cases c15 : t110 = true
        · subst c15
          have H1 : ((fix_SqrtMul.f a0 a1).bind fun t111 => ((fix_SqrtMul.f a1 a0).bind fun t112 => (if t111 = t112 then ((fix_SqrtMul.f a0 a0).bind fun t113 => (some (t113 == a0))) else (some false)))) = some r := by rw [if_pos rfl] at H; exact H
          clear H
          have H := H1
          clear H1
          replace H := Option.bind_eq_some_iff.mp H
          obtain ⟨t111, A160, H⟩ := H
          have e_ := Option.some.inj (A5.out.symm.trans A160)
          subst e_
          replace H : ((fix_SqrtMul.f a1 a0).bind fun t112 => (if t102 = t112 then ((fix_SqrtMul.f a0 a0).bind fun t113 => (some (t113 == a0))) else (some false))) = some r := H
          have A16 := Aside0.mk A160
          clear A160
          replace H := Option.bind_eq_some_iff.mp H
          obtain ⟨t112, A170, H⟩ := H
          replace H : (if t102 = t112 then ((fix_SqrtMul.f a0 a0).bind fun t113 => (some (t113 == a0))) else (some false)) = some r := H
          have A17 := Aside0.mk A170
          clear A170
          by_cases c18 : t102 = t112
          · rw [if_pos c18] at H
            have c18b0 : (t102 == t112) = true := beq_iff_eq.mpr c18
            have c18b1 : (t102 != t112) = false := bne_eq_false_iff_eq.mpr c18
            clear c18
            replace H := Option.bind_eq_some_iff.mp H
            obtain ⟨t113, A190, H⟩ := H
            replace H : (some (t113 == a0)) = some r := H
            have A19 := Aside0.mk A190
            clear A190
            obtain rfl := Option.some.inj H
            go_enter Tryz.func3, Tryz.ntmps3
            go_wp2_with (first | ((with_reducible refine gate_callee (f := 15) rfl ?_); refine goesL_ (some 11) rfl rfl Tryz.func15 (by kernel_rfl) rfl #[] rfl (by (try simp only [List.map_toArray, List.map_cons, List.map_nil]); first | done | rfl | (simp only [List.length_drop, List.length_take]; rfl)) ?_; (with_reducible refine (muleteerlaw1_begun.calls  true _ A3.out).mono ?_); rintro e w20 ⟨rfl, hb⟩; refine ⟨_, rfl, ?_⟩; have n0_ := Aside0.mk (below_step (by repeat (first | (with_reducible first | exact HB.out | apply below_alloc | apply pw_below_drewN | apply below_drew1) | exact HB.out)) hb); clear HB; have HB := n0_; clear n0_; (try clear hb); (try clear hb2); (try clear hk); (try clear hi)) | ((with_reducible refine gate_callee (f := 16) rfl ?_); refine goesL_ (some 16) rfl rfl Tryz.func16 (by kernel_rfl) rfl #[.int .u64 a0, .int .u64 a1] rfl (by (try simp only [List.map_toArray, List.map_cons, List.map_nil]); first | done | rfl | (simp only [List.length_drop, List.length_take]; rfl)) ?_; (with_reducible refine (fix_SqrtMul.calls a0 a1 t102 _ A5.out).mono ?_); rintro e w' ⟨rfl, ⟨nd, rfl⟩⟩; refine ⟨_, rfl, ?_⟩) | ((with_reducible refine gate_callee (f := 17) rfl ?_); refine goesL_ (some 20) rfl rfl Tryz.func17 (by kernel_rfl) rfl #[.int .u64 a0, .int .u64 a1] rfl (by (try simp only [List.map_toArray, List.map_cons, List.map_nil]); first | done | rfl | (simp only [List.length_drop, List.length_take]; rfl)) ?_; (with_reducible refine (muleteerref1_Wide.calls a0 a1 t103 t104 _ A6.out).mono ?_); rintro e w' ⟨rfl, ⟨nd, rfl⟩⟩; refine ⟨_, rfl, ?_⟩) | ((with_reducible refine gate_callee (f := 17) rfl ?_); refine goesL_ (some 26) rfl rfl Tryz.func17 (by kernel_rfl) rfl #[.int .u64 t102, .int .u64 t102] rfl (by (try simp only [List.map_toArray, List.map_cons, List.map_nil]); first | done | rfl | (simp only [List.length_drop, List.length_take]; rfl)) ?_; (with_reducible refine (muleteerref1_Wide.calls t102 t102 t105 t106 _ A7.out).mono ?_); rintro e w' ⟨rfl, ⟨nd, rfl⟩⟩; refine ⟨_, rfl, ?_⟩) | ((with_reducible refine gate_callee (f := 18) rfl ?_); refine goesL_ (some 33) rfl rfl Tryz.func18 (by kernel_rfl) rfl #[.int .u64 t105, .int .u64 t106, .int .u64 t103, .int .u64 t104] rfl (by (try simp only [List.map_toArray, List.map_cons, List.map_nil]); first | done | rfl | (simp only [List.length_drop, List.length_take]; rfl)) ?_; (with_reducible refine (muleteerref1_Over.calls t105 t106 t103 t104 false _ A8.out).mono ?_); rintro e w' ⟨rfl, ⟨nd, rfl⟩⟩; refine ⟨_, rfl, ?_⟩) | ((with_reducible refine gate_callee (f := 17) rfl ?_); refine goesL_ (some 41) rfl rfl Tryz.func17 (by kernel_rfl) rfl #[.int .u64 (IntKind.u64.wrap (t102 + 1)), .int .u64 (IntKind.u64.wrap (t102 + 1))] rfl (by (try simp only [List.map_toArray, List.map_cons, List.map_nil]); first | done | rfl | (simp only [List.length_drop, List.length_take]; rfl)) ?_; (with_reducible refine (muleteerref1_Wide.calls (IntKind.u64.wrap (t102 + 1)) (IntKind.u64.wrap (t102 + 1)) t108 t109 _ A13.out).mono ?_); rintro e w' ⟨rfl, ⟨nd, rfl⟩⟩; refine ⟨_, rfl, ?_⟩) | ((with_reducible refine gate_callee (f := 18) rfl ?_); refine goesL_ (some 48) rfl rfl Tryz.func18 (by kernel_rfl) rfl #[.int .u64 t108, .int .u64 t109, .int .u64 t103, .int .u64 t104] rfl (by (try simp only [List.map_toArray, List.map_cons, List.map_nil]); first | done | rfl | (simp only [List.length_drop, List.length_take]; rfl)) ?_; (with_reducible refine (muleteerref1_Over.calls t108 t109 t103 t104 true _ A14.out).mono ?_); rintro e w' ⟨rfl, ⟨nd, rfl⟩⟩; refine ⟨_, rfl, ?_⟩) | (go_at_call 16; (with_reducible refine (fix_SqrtMul.calls a0 a1 t102 _ A16.out).mono ?_); rintro e w' ⟨rfl, ⟨nd, rfl⟩⟩) | (go_at_call 16; (with_reducible refine (fix_SqrtMul.calls a1 a0 t112 _ A17.out).mono ?_); rintro e w' ⟨rfl, ⟨nd, rfl⟩⟩) | (go_at_call 16; (with_reducible refine (fix_SqrtMul.calls a0 a0 t113 _ A19.out).mono ?_); rintro e w' ⟨rfl, ⟨nd, rfl⟩⟩))
            go_ret
            exact ⟨by first | rfl | (simp [errW_none, errW_some] <;> rfl) | (simp [*, errW_none, errW_some] <;> rfl), by repeat (first | (with_reducible first | exact HB.out | apply below_alloc | apply pw_below_drewN | apply below_drew1) | exact HB.out)⟩
          · rw [if_neg c18] at H
            have c18b0 : (t102 == t112) = false := beq_eq_false_iff_ne.mpr c18
            have c18b1 : (t102 != t112) = true := bne_iff_ne.mpr c18
            obtain rfl := Option.some.inj H
            go_enter Tryz.func3, Tryz.ntmps3
            go_wp2_with (first | ((with_reducible refine gate_callee (f := 15) rfl ?_); refine goesL_ (some 11) rfl rfl Tryz.func15 (by kernel_rfl) rfl #[] rfl (by (try simp only [List.map_toArray, List.map_cons, List.map_nil]); first | done | rfl | (simp only [List.length_drop, List.length_take]; rfl)) ?_; (with_reducible refine (muleteerlaw1_begun.calls  true _ A3.out).mono ?_); rintro e w21 ⟨rfl, hb⟩; refine ⟨_, rfl, ?_⟩; have n0_ := Aside0.mk (below_step (by repeat (first | (with_reducible first | exact HB.out | apply below_alloc | apply pw_below_drewN | apply below_drew1) | exact HB.out)) hb); clear HB; have HB := n0_; clear n0_; (try clear hb); (try clear hb2); (try clear hk); (try clear hi)) | ((with_reducible refine gate_callee (f := 16) rfl ?_); refine goesL_ (some 16) rfl rfl Tryz.func16 (by kernel_rfl) rfl #[.int .u64 a0, .int .u64 a1] rfl (by (try simp only [List.map_toArray, List.map_cons, List.map_nil]); first | done | rfl | (simp only [List.length_drop, List.length_take]; rfl)) ?_; (with_reducible refine (fix_SqrtMul.calls a0 a1 t102 _ A5.out).mono ?_); rintro e w' ⟨rfl, ⟨nd, rfl⟩⟩; refine ⟨_, rfl, ?_⟩) | ((with_reducible refine gate_callee (f := 17) rfl ?_); refine goesL_ (some 20) rfl rfl Tryz.func17 (by kernel_rfl) rfl #[.int .u64 a0, .int .u64 a1] rfl (by (try simp only [List.map_toArray, List.map_cons, List.map_nil]); first | done | rfl | (simp only [List.length_drop, List.length_take]; rfl)) ?_; (with_reducible refine (muleteerref1_Wide.calls a0 a1 t103 t104 _ A6.out).mono ?_); rintro e w' ⟨rfl, ⟨nd, rfl⟩⟩; refine ⟨_, rfl, ?_⟩) | ((with_reducible refine gate_callee (f := 17) rfl ?_); refine goesL_ (some 26) rfl rfl Tryz.func17 (by kernel_rfl) rfl #[.int .u64 t102, .int .u64 t102] rfl (by (try simp only [List.map_toArray, List.map_cons, List.map_nil]); first | done | rfl | (simp only [List.length_drop, List.length_take]; rfl)) ?_; (with_reducible refine (muleteerref1_Wide.calls t102 t102 t105 t106 _ A7.out).mono ?_); rintro e w' ⟨rfl, ⟨nd, rfl⟩⟩; refine ⟨_, rfl, ?_⟩) | ((with_reducible refine gate_callee (f := 18) rfl ?_); refine goesL_ (some 33) rfl rfl Tryz.func18 (by kernel_rfl) rfl #[.int .u64 t105, .int .u64 t106, .int .u64 t103, .int .u64 t104] rfl (by (try simp only [List.map_toArray, List.map_cons, List.map_nil]); first | done | rfl | (simp only [List.length_drop, List.length_take]; rfl)) ?_; (with_reducible refine (muleteerref1_Over.calls t105 t106 t103 t104 false _ A8.out).mono ?_); rintro e w' ⟨rfl, ⟨nd, rfl⟩⟩; refine ⟨_, rfl, ?_⟩) | ((with_reducible refine gate_callee (f := 17) rfl ?_); refine goesL_ (some 41) rfl rfl Tryz.func17 (by kernel_rfl) rfl #[.int .u64 (IntKind.u64.wrap (t102 + 1)), .int .u64 (IntKind.u64.wrap (t102 + 1))] rfl (by (try simp only [List.map_toArray, List.map_cons, List.map_nil]); first | done | rfl | (simp only [List.length_drop, List.length_take]; rfl)) ?_; (with_reducible refine (muleteerref1_Wide.calls (IntKind.u64.wrap (t102 + 1)) (IntKind.u64.wrap (t102 + 1)) t108 t109 _ A13.out).mono ?_); rintro e w' ⟨rfl, ⟨nd, rfl⟩⟩; refine ⟨_, rfl, ?_⟩) | ((with_reducible refine gate_callee (f := 18) rfl ?_); refine goesL_ (some 48) rfl rfl Tryz.func18 (by kernel_rfl) rfl #[.int .u64 t108, .int .u64 t109, .int .u64 t103, .int .u64 t104] rfl (by (try simp only [List.map_toArray, List.map_cons, List.map_nil]); first | done | rfl | (simp only [List.length_drop, List.length_take]; rfl)) ?_; (with_reducible refine (muleteerref1_Over.calls t108 t109 t103 t104 true _ A14.out).mono ?_); rintro e w' ⟨rfl, ⟨nd, rfl⟩⟩; refine ⟨_, rfl, ?_⟩) | (go_at_call 16; (with_reducible refine (fix_SqrtMul.calls a0 a1 t102 _ A16.out).mono ?_); rintro e w' ⟨rfl, ⟨nd, rfl⟩⟩) | (go_at_call 16; (with_reducible refine (fix_SqrtMul.calls a1 a0 t112 _ A17.out).mono ?_); rintro e w' ⟨rfl, ⟨nd, rfl⟩⟩))
            go_ret
            exact ⟨by first | rfl | (simp [errW_none, errW_some] <;> rfl) | (simp [*, errW_none, errW_some] <;> rfl), by repeat (first | (with_reducible first | exact HB.out | apply below_alloc | apply pw_below_drewN | apply below_drew1) | exact HB.out)⟩
        · replace c15 := Bool.eq_false_iff.mpr c15
          subst c15
          have H1 : (some false) = some r := by rw [if_neg (show ¬ (false = true) by decide)] at H; exact H
          clear H
          have H := H1
          clear H1
          obtain rfl := Option.some.inj H
          go_enter Tryz.func3, Tryz.ntmps3
          go_wp2_with (first | ((with_reducible refine gate_callee (f := 15) rfl ?_); refine goesL_ (some 11) rfl rfl Tryz.func15 (by kernel_rfl) rfl #[] rfl (by (try simp only [List.map_toArray, List.map_cons, List.map_nil]); first | done | rfl | (simp only [List.length_drop, List.length_take]; rfl)) ?_; (with_reducible refine (muleteerlaw1_begun.calls  true _ A3.out).mono ?_); rintro e w22 ⟨rfl, hb⟩; refine ⟨_, rfl, ?_⟩; have n0_ := Aside0.mk (below_step (by repeat (first | (with_reducible first | exact HB.out | apply below_alloc | apply pw_below_drewN | apply below_drew1) | exact HB.out)) hb); clear HB; have HB := n0_; clear n0_; (try clear hb); (try clear hb2); (try clear hk); (try clear hi)) | ((with_reducible refine gate_callee (f := 16) rfl ?_); refine goesL_ (some 16) rfl rfl Tryz.func16 (by kernel_rfl) rfl #[.int .u64 a0, .int .u64 a1] rfl (by (try simp only [List.map_toArray, List.map_cons, List.map_nil]); first | done | rfl | (simp only [List.length_drop, List.length_take]; rfl)) ?_; (with_reducible refine (fix_SqrtMul.calls a0 a1 t102 _ A5.out).mono ?_); rintro e w' ⟨rfl, ⟨nd, rfl⟩⟩; refine ⟨_, rfl, ?_⟩) | ((with_reducible refine gate_callee (f := 17) rfl ?_); refine goesL_ (some 20) rfl rfl Tryz.func17 (by kernel_rfl) rfl #[.int .u64 a0, .int .u64 a1] rfl (by (try simp only [List.map_toArray, List.map_cons, List.map_nil]); first | done | rfl | (simp only [List.length_drop, List.length_take]; rfl)) ?_; (with_reducible refine (muleteerref1_Wide.calls a0 a1 t103 t104 _ A6.out).mono ?_); rintro e w' ⟨rfl, ⟨nd, rfl⟩⟩; refine ⟨_, rfl, ?_⟩) | ((with_reducible refine gate_callee (f := 17) rfl ?_); refine goesL_ (some 26) rfl rfl Tryz.func17 (by kernel_rfl) rfl #[.int .u64 t102, .int .u64 t102] rfl (by (try simp only [List.map_toArray, List.map_cons, List.map_nil]); first | done | rfl | (simp only [List.length_drop, List.length_take]; rfl)) ?_; (with_reducible refine (muleteerref1_Wide.calls t102 t102 t105 t106 _ A7.out).mono ?_); rintro e w' ⟨rfl, ⟨nd, rfl⟩⟩; refine ⟨_, rfl, ?_⟩) | ((with_reducible refine gate_callee (f := 18) rfl ?_); refine goesL_ (some 33) rfl rfl Tryz.func18 (by kernel_rfl) rfl #[.int .u64 t105, .int .u64 t106, .int .u64 t103, .int .u64 t104] rfl (by (try simp only [List.map_toArray, List.map_cons, List.map_nil]); first | done | rfl | (simp only [List.length_drop, List.length_take]; rfl)) ?_; (with_reducible refine (muleteerref1_Over.calls t105 t106 t103 t104 false _ A8.out).mono ?_); rintro e w' ⟨rfl, ⟨nd, rfl⟩⟩; refine ⟨_, rfl, ?_⟩) | ((with_reducible refine gate_callee (f := 17) rfl ?_); refine goesL_ (some 41) rfl rfl Tryz.func17 (by kernel_rfl) rfl #[.int .u64 (IntKind.u64.wrap (t102 + 1)), .int .u64 (IntKind.u64.wrap (t102 + 1))] rfl (by (try simp only [List.map_toArray, List.map_cons, List.map_nil]); first | done | rfl | (simp only [List.length_drop, List.length_take]; rfl)) ?_; (with_reducible refine (muleteerref1_Wide.calls (IntKind.u64.wrap (t102 + 1)) (IntKind.u64.wrap (t102 + 1)) t108 t109 _ A13.out).mono ?_); rintro e w' ⟨rfl, ⟨nd, rfl⟩⟩; refine ⟨_, rfl, ?_⟩) | ((with_reducible refine gate_callee (f := 18) rfl ?_); refine goesL_ (some 48) rfl rfl Tryz.func18 (by kernel_rfl) rfl #[.int .u64 t108, .int .u64 t109, .int .u64 t103, .int .u64 t104] rfl (by (try simp only [List.map_toArray, List.map_cons, List.map_nil]); first | done | rfl | (simp only [List.length_drop, List.length_take]; rfl)) ?_; (with_reducible refine (muleteerref1_Over.calls t108 t109 t103 t104 false _ A14.out).mono ?_); rintro e w' ⟨rfl, ⟨nd, rfl⟩⟩; refine ⟨_, rfl, ?_⟩))
          go_ret
          exact ⟨by first | rfl | (simp [errW_none, errW_some] <;> rfl) | (simp [*, errW_none, errW_some] <;> rfl), by repeat (first | (with_reducible first | exact HB.out | apply below_alloc | apply pw_below_drewN | apply below_drew1) | exact HB.out)⟩
  · replace c4 := Bool.eq_false_iff.mpr c4
    subst c4
    have H1 : (some false) = some r := by rw [if_neg (show ¬ (false = true) by decide)] at H; exact H
    clear H
    have H := H1
    clear H1
    obtain rfl := Option.some.inj H
    go_enter Tryz.func3, Tryz.ntmps3
    go_wp2_with (first | ((with_reducible refine gate_callee (f := 15) rfl ?_); refine goesL_ (some 11) rfl rfl Tryz.func15 (by kernel_rfl) rfl #[] rfl (by (try simp only [List.map_toArray, List.map_cons, List.map_nil]); first | done | rfl | (simp only [List.length_drop, List.length_take]; rfl)) ?_; (with_reducible refine (muleteerlaw1_begun.calls  false _ A3.out).mono ?_); rintro e w23 ⟨rfl, hb⟩; refine ⟨_, rfl, ?_⟩; have n0_ := Aside0.mk (below_step (by repeat (first | (with_reducible first | exact HB.out | apply below_alloc | apply pw_below_drewN | apply below_drew1) | exact HB.out)) hb); clear HB; have HB := n0_; clear n0_; (try clear hb); (try clear hb2); (try clear hk); (try clear hi)))
    go_ret
    exact ⟨by first | rfl | (simp [errW_none, errW_some] <;> rfl) | (simp [*, errW_none, errW_some] <;> rfl), by repeat (first | (with_reducible first | exact HB.out | apply below_alloc | apply pw_below_drewN | apply below_drew1) | exact HB.out)⟩

/-- THE ONE PURE STATEMENT of muleteerlaw1_FixRoot: yours. -/
def muleteerlaw1_FixRoot.Pure : Prop := ∀ (a0 : Int) (a1 : Int), (Lit.int .u64 a0).wf = true → (Lit.int .u64 a1).wf = true → muleteerlaw1_FixRoot.f a0 a1 = some true
theorem muleteerlaw1_FixRoot.walk (P : muleteerlaw1_FixRoot.Pure) (a0 : Int) (a1 : Int) (w : World) (w0 : (Lit.int .u64 a0).wf = true) (w1 : (Lit.int .u64 a1).wf = true) :
    Calls Tryz.prog 3 #[.int .u64 a0, .int .u64 a1] w fun e w' => e = .returned (.bool true) ∧ Below w.heap.size w w' := by
  have h := P a0 a1 w0 w1
  refine (muleteerlaw1_FixRoot.calls a0 a1 true w h).mono ?_
  rintro e w' ⟨rfl, hd⟩
  exact ⟨rfl, hd⟩

end Go.Proofs.YtmdimebifngekaaGreatDoor.PFixRoot
