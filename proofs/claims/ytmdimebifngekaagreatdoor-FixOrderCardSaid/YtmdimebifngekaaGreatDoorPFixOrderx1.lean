/- What this seat's Go functions compute, as Lean functions, and that they do. Written by a program of this session's (wip/pr/pr.py) by means of the kit's printer, with contracts of ours for some functions; conditions: none beyond each theorem's own. -/
import Derived.Test.YtmdimebifngekaaGreatDoorPFixOrderx0
namespace Go.Proofs.YtmdimebifngekaaGreatDoor.PFixOrder
open Go.RowKit Go.Proofs.YtmdimebifngekaaGreatDoorW.PrintWords Go.Proofs.YtmdimebifngekaaGreatDoorW.PrintLast Go.Proofs.YtmdimebifngekaaGreatDoorW.PrintMore
attribute [local go_sem] max2_int min2_int max_two min_two max_three min_three max_four min_four   -- for this text's walks alone
set_option linter.unusedVariables false
set_option linter.unusedSimpArgs false

/-! ### muleteerlaw1_begun: function 15: a contract of ours -/
def muleteerlaw1_begun.f  : Option (Bool) := some true
theorem muleteerlaw1_begun.calls  (r : Bool) (w : World)  (h : muleteerlaw1_begun.f  = some r) :
    Calls Tryz.prog 15 #[] w fun e w' => e = .returned (.bool r) ∧ Below w.heap.size w w' := by
  cases h; exact begun_true w

/-! ### fix_SqrtMul: function 16: a contract of ours -/
def fix_SqrtMul.f (a0 : Int) (a1 : Int) : Option (Int) := if u64 a0 ∧ u64 a1 then some ((Fix.root (a0.toNat * a1.toNat) : Nat)) else none
theorem fix_SqrtMul.calls (a0 : Int) (a1 : Int) (r : Int) (w : World)  (h : fix_SqrtMul.f a0 a1 = some r) :
    Calls Tryz.prog 16 #[.int .u64 a0, .int .u64 a1] w fun e w' => e = .returned (.int .u64 r) ∧ Drawn0 w w' := by
  unfold fix_SqrtMul.f at h
  split at h
  · rename_i hc
    obtain ⟨c0, c1⟩ := hc
    obtain ⟨n0, rfl, g0⟩ := u64_nat c0
    obtain ⟨n1, rfl, g1⟩ := u64_nat c1
    simp only [Int.toNat_natCast, Option.some.injEq, Prod.mk.injEq] at h
    obtain rfl := h
    exact (fix_SqrtMul n0 n1 w g0 g1).mono fun e w' hq => ⟨by rw [hq.1], same_drawn hq.2⟩
  · cases h

/-! ### fix_MulDiv: function 19: a contract of ours -/
def fix_MulDiv.f (a0 : Int) (a1 : Int) (a2 : Int) : Option (Int) := if u64 a0 ∧ u64 a1 ∧ u64 a2 then some ((Fix.quot a0.toNat a1.toNat a2.toNat : Nat)) else none
theorem fix_MulDiv.calls (a0 : Int) (a1 : Int) (a2 : Int) (r : Int) (w : World)  (h : fix_MulDiv.f a0 a1 a2 = some r) :
    Calls Tryz.prog 19 #[.int .u64 a0, .int .u64 a1, .int .u64 a2] w fun e w' => e = .returned (.int .u64 r) ∧ Drawn0 w w' := by
  unfold fix_MulDiv.f at h
  split at h
  · rename_i hc
    obtain ⟨c0, c1, c2⟩ := hc
    obtain ⟨n0, rfl, g0⟩ := u64_nat c0
    obtain ⟨n1, rfl, g1⟩ := u64_nat c1
    obtain ⟨n2, rfl, g2⟩ := u64_nat c2
    simp only [Int.toNat_natCast, Option.some.injEq, Prod.mk.injEq] at h
    obtain rfl := h
    exact (fix_MulDiv n0 n1 n2 w g0 g1 g2).mono fun e w' hq => ⟨by rw [hq.1], drewN_drawn hq.2⟩
  · cases h

/-! ### fix_Add: function 20: a contract of ours -/
def fix_Add.f (a0 : Int) (a1 : Int) : Option (Int) := if u64 a0 ∧ u64 a1 then some (if a0 + a1 < 18446744073709551616 then a0 + a1 else 18446744073709551615) else none
theorem fix_Add.calls (a0 : Int) (a1 : Int) (r : Int) (w : World)  (h : fix_Add.f a0 a1 = some r) :
    Calls Tryz.prog 20 #[.int .u64 a0, .int .u64 a1] w fun e w' => e = .returned (.int .u64 r) ∧ Drawn0 w w' := by
  unfold fix_Add.f at h
  split at h
  · rename_i hc
    obtain rfl := Option.some.inj h
    exact (fix_Add a0 a1 w (of_decide_eq_true hc.1) (of_decide_eq_true hc.2)).mono fun e w' hq => ⟨hq.1, same_drawn hq.2⟩
  · cases h

/-! ### fix_Sub: function 22 -/
def fix_Sub.f (a0 : Int) (a1 : Int) : Option (Int) := some (IntKind.u64.wrap (a0 - (mn a0 a1)))
set_option maxHeartbeats 8000000 in
set_option maxRecDepth 100000 in
theorem fix_Sub.calls (a0 : Int) (a1 : Int) (r : Int) (w : World) (h : fix_Sub.f a0 a1 = some r) :
    Calls Tryz.prog 22 #[.int .u64 a0, .int .u64 a1] w fun e w' => e = .returned (.int .u64 r) ∧ Below w.heap.size w w' := by
  have HB := Aside0.mk (Below.refl w.heap.size w)
  have H : (some (IntKind.u64.wrap (a0 - (mn a0 a1)))) = some r := h
  clear h
  obtain ⟨ji3, hji3⟩ : ∃ j_ : Int, (mn a0 a1) = j_ := ⟨_, rfl⟩
  replace H : (some (IntKind.u64.wrap (a0 - (ji3)))) = some r := by first | (rw [hji3] at H; exact H) | (simp only [hji3] at H ⊢; exact H)
  have hji3_ : (if a1 < a0 then a1 else a0) = ji3 := hji3
  obtain rfl := Option.some.inj H
  go_enter Tryz.func22, Tryz.ntmps22
  go_wp2
  go_ret
  exact ⟨by first | rfl | (simp [errW_none, errW_some] <;> rfl) | (simp only [← hji3]; first | rfl | (simp [errW_none, errW_some] <;> rfl)) | (simp [*, errW_none, errW_some] <;> rfl), by repeat (first | (with_reducible first | exact HB.out | apply below_alloc | apply pw_below_drewN | apply below_drew1) | exact HB.out)⟩

/-! ### bits_Mul64: function 72: a contract of ours -/
def bits_Mul64.f (a0 : Int) (a1 : Int) : Option (Int × Int) := if u64 a0 ∧ u64 a1 then some (((a0.toNat * a1.toNat / 18446744073709551616 : Nat) : Int), ((a0.toNat * a1.toNat % 18446744073709551616 : Nat) : Int)) else none
theorem bits_Mul64.calls (a0 : Int) (a1 : Int) (r1 : Int) (r2 : Int) (w : World)  (h : bits_Mul64.f a0 a1 = some (r1, r2)) :
    Calls Tryz.prog 72 #[.int .u64 a0, .int .u64 a1] w fun e w' => e = .returned (.tuple #[.int .u64 r1, .int .u64 r2]) ∧ Drawn0 w w' := by
  unfold bits_Mul64.f at h
  split at h
  · rename_i hc
    obtain ⟨c0, c1⟩ := hc
    obtain ⟨n0, rfl, g0⟩ := u64_nat c0
    obtain ⟨n1, rfl, g1⟩ := u64_nat c1
    simp only [Int.toNat_natCast, Option.some.injEq, Prod.mk.injEq] at h
    obtain ⟨rfl, rfl⟩ := h
    exact (mul64 n0 n1 _ _ g0 g1 rfl rfl w).mono fun e w' hq => ⟨by rw [hq.1], same_drawn hq.2⟩
  · cases h

/-! ### fix_Mul: function 24 -/
def fix_Mul.f (a0 : Int) (a1 : Int) : Option (Int) := (bits_Mul64.f a0 a1).bind fun bt101 => (if bt101.1 > 0 then (some 18446744073709551615) else (some bt101.2))
set_option maxHeartbeats 8000000 in
set_option maxRecDepth 100000 in
theorem fix_Mul.calls (a0 : Int) (a1 : Int) (r : Int) (w : World) (h : fix_Mul.f a0 a1 = some r) :
    Calls Tryz.prog 24 #[.int .u64 a0, .int .u64 a1] w fun e w' => e = .returned (.int .u64 r) ∧ Drawn0 w w' := by
  have H : ((bits_Mul64.f a0 a1).bind fun bt101 => (if bt101.1 > 0 then (some 18446744073709551615) else (some bt101.2))) = some r := h
  clear h
  replace H := Option.bind_eq_some_iff.mp H
  obtain ⟨⟨t101, t102⟩, A30, H⟩ := H
  replace H : (if t101 > 0 then (some 18446744073709551615) else (some t102)) = some r := H
  have A3 := Aside0.mk A30
  clear A30
  by_cases c4 : t101 > 0
  · rw [if_pos c4] at H
    have c4b0 : decide (0 < t101) = true := decide_eq_true c4
    clear c4
    obtain rfl := Option.some.inj H
    go_enter Tryz.func24, Tryz.ntmps24
    go_wp2_with (first | ((with_reducible refine gate_callee (f := 72) rfl ?_); refine goesL_ (some 10) rfl rfl Tryz.func72 (by kernel_rfl) rfl #[.int .u64 a0, .int .u64 a1] rfl (by (try simp only [List.map_toArray, List.map_cons, List.map_nil]); first | done | rfl | (simp only [List.length_drop, List.length_take]; rfl)) ?_; (with_reducible refine (bits_Mul64.calls a0 a1 t101 t102 _ A3.out).mono ?_); rintro e w' ⟨rfl, ⟨nd, rfl⟩⟩; refine ⟨_, rfl, ?_⟩))
    go_ret
    exact ⟨by first | rfl | (simp; done) | (simp [*]; done), by repeat (first | exact Drawn0.refl _ | apply Drawn0.step)⟩
  · rw [if_neg c4] at H
    have c4b0 : decide (0 < t101) = false := decide_eq_false c4
    clear c4
    obtain rfl := Option.some.inj H
    go_enter Tryz.func24, Tryz.ntmps24
    go_wp2_with (first | ((with_reducible refine gate_callee (f := 72) rfl ?_); refine goesL_ (some 10) rfl rfl Tryz.func72 (by kernel_rfl) rfl #[.int .u64 a0, .int .u64 a1] rfl (by (try simp only [List.map_toArray, List.map_cons, List.map_nil]); first | done | rfl | (simp only [List.length_drop, List.length_take]; rfl)) ?_; (with_reducible refine (bits_Mul64.calls a0 a1 t101 t102 _ A3.out).mono ?_); rintro e w' ⟨rfl, ⟨nd, rfl⟩⟩; refine ⟨_, rfl, ?_⟩))
    go_ret
    exact ⟨by first | rfl | (simp; done) | (simp [*]; done), by repeat (first | exact Drawn0.refl _ | apply Drawn0.step)⟩

/-! ### fix_Sqrt: function 27: a contract of ours -/
def fix_Sqrt.f (a0 : Int) : Option (Int) := if u64 a0 then some ((Fix.root a0.toNat : Nat)) else none
theorem fix_Sqrt.calls (a0 : Int) (r : Int) (w : World)  (h : fix_Sqrt.f a0 = some r) :
    Calls Tryz.prog 27 #[.int .u64 a0] w fun e w' => e = .returned (.int .u64 r) ∧ Drawn0 w w' := by
  unfold fix_Sqrt.f at h
  split at h
  · rename_i hc
    have c0 := hc
    obtain ⟨n0, rfl, g0⟩ := u64_nat c0
    simp only [Int.toNat_natCast, Option.some.injEq, Prod.mk.injEq] at h
    obtain rfl := h
    exact (fix_Sqrt n0 w g0).mono fun e w' hq => ⟨by rw [hq.1], same_drawn hq.2⟩
  · cases h

/-! ### muleteerlaw1_FixOrder: function 7 -/
def muleteerlaw1_FixOrder.f (a0 : Int) (a1 : Int) (a2 : Int) (a3 : Int) : Option (Bool) := (muleteerlaw1_begun.f).bind fun t103 => (if t103 = true then ((fix_Add.f (mx a0 a3) a1).bind fun t104 => ((fix_Add.f a0 a1).bind fun t105 => (if t104 ≥ t105 then ((fix_Mul.f (mx a0 a3) a1).bind fun t106 => ((fix_Mul.f a0 a1).bind fun t107 => (if t106 ≥ t107 then ((fix_Sqrt.f (mx a0 a3)).bind fun t108 => ((fix_Sqrt.f a0).bind fun t109 => (if t108 ≥ t109 then ((fix_SqrtMul.f (mx a0 a3) a1).bind fun t110 => ((fix_SqrtMul.f a0 a1).bind fun t111 => (if t110 ≥ t111 then ((fix_Sub.f (mx a0 a3) a1).bind fun t112 => ((fix_Sub.f a0 a1).bind fun t113 => (if t112 ≥ t113 then ((fix_MulDiv.f (mx a0 a3) a1 a2).bind fun t114 => ((fix_MulDiv.f a0 a1 a2).bind fun t115 => (if t114 ≥ t115 then ((fix_MulDiv.f a0 a1 (mx (mx a2 a3) 1)).bind fun t116 => ((fix_MulDiv.f a0 a1 (mx a2 1)).bind fun t117 => (some (decide (t116 ≤ t117))))) else (some false)))) else (some false)))) else (some false)))) else (some false)))) else (some false)))) else (some false)))) else (some false))
set_option maxHeartbeats 8000000 in
set_option maxRecDepth 100000 in
theorem muleteerlaw1_FixOrder.calls (a0 : Int) (a1 : Int) (a2 : Int) (a3 : Int) (r : Bool) (w : World) (h : muleteerlaw1_FixOrder.f a0 a1 a2 a3 = some r) :
    Calls Tryz.prog 7 #[.int .u64 a0, .int .u64 a1, .int .u64 a2, .int .u64 a3] w fun e w' => e = .returned (.bool r) ∧ Below w.heap.size w w' := by
  have HB := Aside0.mk (Below.refl w.heap.size w)
  have H : ((muleteerlaw1_begun.f).bind fun t103 => (if t103 = true then ((fix_Add.f (mx a0 a3) a1).bind fun t104 => ((fix_Add.f a0 a1).bind fun t105 => (if t104 ≥ t105 then ((fix_Mul.f (mx a0 a3) a1).bind fun t106 => ((fix_Mul.f a0 a1).bind fun t107 => (if t106 ≥ t107 then ((fix_Sqrt.f (mx a0 a3)).bind fun t108 => ((fix_Sqrt.f a0).bind fun t109 => (if t108 ≥ t109 then ((fix_SqrtMul.f (mx a0 a3) a1).bind fun t110 => ((fix_SqrtMul.f a0 a1).bind fun t111 => (if t110 ≥ t111 then ((fix_Sub.f (mx a0 a3) a1).bind fun t112 => ((fix_Sub.f a0 a1).bind fun t113 => (if t112 ≥ t113 then ((fix_MulDiv.f (mx a0 a3) a1 a2).bind fun t114 => ((fix_MulDiv.f a0 a1 a2).bind fun t115 => (if t114 ≥ t115 then ((fix_MulDiv.f a0 a1 (mx (mx a2 a3) 1)).bind fun t116 => ((fix_MulDiv.f a0 a1 (mx a2 1)).bind fun t117 => (some (decide (t116 ≤ t117))))) else (some false)))) else (some false)))) else (some false)))) else (some false)))) else (some false)))) else (some false)))) else (some false))) = some r := h
  clear h
  replace H := Option.bind_eq_some_iff.mp H
  obtain ⟨t103, A50, H⟩ := H
  replace H : (if t103 = true then ((fix_Add.f (mx a0 a3) a1).bind fun t104 => ((fix_Add.f a0 a1).bind fun t105 => (if t104 ≥ t105 then ((fix_Mul.f (mx a0 a3) a1).bind fun t106 => ((fix_Mul.f a0 a1).bind fun t107 => (if t106 ≥ t107 then ((fix_Sqrt.f (mx a0 a3)).bind fun t108 => ((fix_Sqrt.f a0).bind fun t109 => (if t108 ≥ t109 then ((fix_SqrtMul.f (mx a0 a3) a1).bind fun t110 => ((fix_SqrtMul.f a0 a1).bind fun t111 => (if t110 ≥ t111 then ((fix_Sub.f (mx a0 a3) a1).bind fun t112 => ((fix_Sub.f a0 a1).bind fun t113 => (if t112 ≥ t113 then ((fix_MulDiv.f (mx a0 a3) a1 a2).bind fun t114 => ((fix_MulDiv.f a0 a1 a2).bind fun t115 => (if t114 ≥ t115 then ((fix_MulDiv.f a0 a1 (mx (mx a2 a3) 1)).bind fun t116 => ((fix_MulDiv.f a0 a1 (mx a2 1)).bind fun t117 => (some (decide (t116 ≤ t117))))) else (some false)))) else (some false)))) else (some false)))) else (some false)))) else (some false)))) else (some false)))) else (some false)) = some r := H
  have A5 := Aside0.mk A50
  clear A50
  by_cases c6 : t103 = true
  · subst c6
    have H1 : ((fix_Add.f (mx a0 a3) a1).bind fun t104 => ((fix_Add.f a0 a1).bind fun t105 => (if t104 ≥ t105 then ((fix_Mul.f (mx a0 a3) a1).bind fun t106 => ((fix_Mul.f a0 a1).bind fun t107 => (if t106 ≥ t107 then ((fix_Sqrt.f (mx a0 a3)).bind fun t108 => ((fix_Sqrt.f a0).bind fun t109 => (if t108 ≥ t109 then ((fix_SqrtMul.f (mx a0 a3) a1).bind fun t110 => ((fix_SqrtMul.f a0 a1).bind fun t111 => (if t110 ≥ t111 then ((fix_Sub.f (mx a0 a3) a1).bind fun t112 => ((fix_Sub.f a0 a1).bind fun t113 => (if t112 ≥ t113 then ((fix_MulDiv.f (mx a0 a3) a1 a2).bind fun t114 => ((fix_MulDiv.f a0 a1 a2).bind fun t115 => (if t114 ≥ t115 then ((fix_MulDiv.f a0 a1 (mx (mx a2 a3) 1)).bind fun t116 => ((fix_MulDiv.f a0 a1 (mx a2 1)).bind fun t117 => (some (decide (t116 ≤ t117))))) else (some false)))) else (some false)))) else (some false)))) else (some false)))) else (some false)))) else (some false)))) = some r := by rw [if_pos rfl] at H; exact H
    clear H
    have H := H1
    clear H1
    obtain ⟨ji7, hji7⟩ : ∃ j_ : Int, (mx a0 a3) = j_ := ⟨_, rfl⟩
    replace H : ((fix_Add.f (ji7) a1).bind fun t104 => ((fix_Add.f a0 a1).bind fun t105 => (if t104 ≥ t105 then ((fix_Mul.f (ji7) a1).bind fun t106 => ((fix_Mul.f a0 a1).bind fun t107 => (if t106 ≥ t107 then ((fix_Sqrt.f (ji7)).bind fun t108 => ((fix_Sqrt.f a0).bind fun t109 => (if t108 ≥ t109 then ((fix_SqrtMul.f (ji7) a1).bind fun t110 => ((fix_SqrtMul.f a0 a1).bind fun t111 => (if t110 ≥ t111 then ((fix_Sub.f (ji7) a1).bind fun t112 => ((fix_Sub.f a0 a1).bind fun t113 => (if t112 ≥ t113 then ((fix_MulDiv.f (ji7) a1 a2).bind fun t114 => ((fix_MulDiv.f a0 a1 a2).bind fun t115 => (if t114 ≥ t115 then ((fix_MulDiv.f a0 a1 (mx (mx a2 a3) 1)).bind fun t116 => ((fix_MulDiv.f a0 a1 (mx a2 1)).bind fun t117 => (some (decide (t116 ≤ t117))))) else (some false)))) else (some false)))) else (some false)))) else (some false)))) else (some false)))) else (some false)))) = some r := by first | (rw [hji7] at H; exact H) | (simp only [hji7] at H ⊢; exact H)
    (try rw [hji7] at A5)
    have hji7_ : (if a0 < a3 then a3 else a0) = ji7 := hji7
    replace H := Option.bind_eq_some_iff.mp H
    obtain ⟨t104, A80, H⟩ := H
    replace H : ((fix_Add.f a0 a1).bind fun t105 => (if t104 ≥ t105 then ((fix_Mul.f (ji7) a1).bind fun t106 => ((fix_Mul.f a0 a1).bind fun t107 => (if t106 ≥ t107 then ((fix_Sqrt.f (ji7)).bind fun t108 => ((fix_Sqrt.f a0).bind fun t109 => (if t108 ≥ t109 then ((fix_SqrtMul.f (ji7) a1).bind fun t110 => ((fix_SqrtMul.f a0 a1).bind fun t111 => (if t110 ≥ t111 then ((fix_Sub.f (ji7) a1).bind fun t112 => ((fix_Sub.f a0 a1).bind fun t113 => (if t112 ≥ t113 then ((fix_MulDiv.f (ji7) a1 a2).bind fun t114 => ((fix_MulDiv.f a0 a1 a2).bind fun t115 => (if t114 ≥ t115 then ((fix_MulDiv.f a0 a1 (mx (mx a2 a3) 1)).bind fun t116 => ((fix_MulDiv.f a0 a1 (mx a2 1)).bind fun t117 => (some (decide (t116 ≤ t117))))) else (some false)))) else (some false)))) else (some false)))) else (some false)))) else (some false)))) else (some false))) = some r := H
    have A8 := Aside0.mk A80
    clear A80
    replace H := Option.bind_eq_some_iff.mp H
    obtain ⟨t105, A90, H⟩ := H
    replace H : (if t104 ≥ t105 then ((fix_Mul.f (ji7) a1).bind fun t106 => ((fix_Mul.f a0 a1).bind fun t107 => (if t106 ≥ t107 then ((fix_Sqrt.f (ji7)).bind fun t108 => ((fix_Sqrt.f a0).bind fun t109 => (if t108 ≥ t109 then ((fix_SqrtMul.f (ji7) a1).bind fun t110 => ((fix_SqrtMul.f a0 a1).bind fun t111 => (if t110 ≥ t111 then ((fix_Sub.f (ji7) a1).bind fun t112 => ((fix_Sub.f a0 a1).bind fun t113 => (if t112 ≥ t113 then ((fix_MulDiv.f (ji7) a1 a2).bind fun t114 => ((fix_MulDiv.f a0 a1 a2).bind fun t115 => (if t114 ≥ t115 then ((fix_MulDiv.f a0 a1 (mx (mx a2 a3) 1)).bind fun t116 => ((fix_MulDiv.f a0 a1 (mx a2 1)).bind fun t117 => (some (decide (t116 ≤ t117))))) else (some false)))) else (some false)))) else (some false)))) else (some false)))) else (some false)))) else (some false)) = some r := H
    have A9 := Aside0.mk A90
    clear A90
    by_cases c10 : t104 ≥ t105
    · rw [if_pos c10] at H
      have c10b0 : decide (t105 ≤ t104) = true := decide_eq_true c10
      clear c10
      replace H := Option.bind_eq_some_iff.mp H
      obtain ⟨t106, A110, H⟩ := H
      replace H : ((fix_Mul.f a0 a1).bind fun t107 => (if t106 ≥ t107 then ((fix_Sqrt.f (ji7)).bind fun t108 => ((fix_Sqrt.f a0).bind fun t109 => (if t108 ≥ t109 then ((fix_SqrtMul.f (ji7) a1).bind fun t110 => ((fix_SqrtMul.f a0 a1).bind fun t111 => (if t110 ≥ t111 then ((fix_Sub.f (ji7) a1).bind fun t112 => ((fix_Sub.f a0 a1).bind fun t113 => (if t112 ≥ t113 then ((fix_MulDiv.f (ji7) a1 a2).bind fun t114 => ((fix_MulDiv.f a0 a1 a2).bind fun t115 => (if t114 ≥ t115 then ((fix_MulDiv.f a0 a1 (mx (mx a2 a3) 1)).bind fun t116 => ((fix_MulDiv.f a0 a1 (mx a2 1)).bind fun t117 => (some (decide (t116 ≤ t117))))) else (some false)))) else (some false)))) else (some false)))) else (some false)))) else (some false))) = some r := H
      have A11 := Aside0.mk A110
      clear A110
      replace H := Option.bind_eq_some_iff.mp H
      obtain ⟨t107, A120, H⟩ := H
      replace H : (if t106 ≥ t107 then ((fix_Sqrt.f (ji7)).bind fun t108 => ((fix_Sqrt.f a0).bind fun t109 => (if t108 ≥ t109 then ((fix_SqrtMul.f (ji7) a1).bind fun t110 => ((fix_SqrtMul.f a0 a1).bind fun t111 => (if t110 ≥ t111 then ((fix_Sub.f (ji7) a1).bind fun t112 => ((fix_Sub.f a0 a1).bind fun t113 => (if t112 ≥ t113 then ((fix_MulDiv.f (ji7) a1 a2).bind fun t114 => ((fix_MulDiv.f a0 a1 a2).bind fun t115 => (if t114 ≥ t115 then ((fix_MulDiv.f a0 a1 (mx (mx a2 a3) 1)).bind fun t116 => ((fix_MulDiv.f a0 a1 (mx a2 1)).bind fun t117 => (some (decide (t116 ≤ t117))))) else (some false)))) else (some false)))) else (some false)))) else (some false)))) else (some false)) = some r := H
      have A12 := Aside0.mk A120
      clear A120
      by_cases c13 : t106 ≥ t107
      · rw [if_pos c13] at H
        have c13b0 : decide (t107 ≤ t106) = true := decide_eq_true c13
        clear c13
        replace H := Option.bind_eq_some_iff.mp H
        obtain ⟨t108, A140, H⟩ := H
        replace H : ((fix_Sqrt.f a0).bind fun t109 => (if t108 ≥ t109 then ((fix_SqrtMul.f (ji7) a1).bind fun t110 => ((fix_SqrtMul.f a0 a1).bind fun t111 => (if t110 ≥ t111 then ((fix_Sub.f (ji7) a1).bind fun t112 => ((fix_Sub.f a0 a1).bind fun t113 => (if t112 ≥ t113 then ((fix_MulDiv.f (ji7) a1 a2).bind fun t114 => ((fix_MulDiv.f a0 a1 a2).bind fun t115 => (if t114 ≥ t115 then ((fix_MulDiv.f a0 a1 (mx (mx a2 a3) 1)).bind fun t116 => ((fix_MulDiv.f a0 a1 (mx a2 1)).bind fun t117 => (some (decide (t116 ≤ t117))))) else (some false)))) else (some false)))) else (some false)))) else (some false))) = some r := H
        have A14 := Aside0.mk A140
        clear A140
        replace H := Option.bind_eq_some_iff.mp H
        obtain ⟨t109, A150, H⟩ := H
        replace H : (if t108 ≥ t109 then ((fix_SqrtMul.f (ji7) a1).bind fun t110 => ((fix_SqrtMul.f a0 a1).bind fun t111 => (if t110 ≥ t111 then ((fix_Sub.f (ji7) a1).bind fun t112 => ((fix_Sub.f a0 a1).bind fun t113 => (if t112 ≥ t113 then ((fix_MulDiv.f (ji7) a1 a2).bind fun t114 => ((fix_MulDiv.f a0 a1 a2).bind fun t115 => (if t114 ≥ t115 then ((fix_MulDiv.f a0 a1 (mx (mx a2 a3) 1)).bind fun t116 => ((fix_MulDiv.f a0 a1 (mx a2 1)).bind fun t117 => (some (decide (t116 ≤ t117))))) else (some false)))) else (some false)))) else (some false)))) else (some false)) = some r := H
        have A15 := Aside0.mk A150
        clear A150
        by_cases c16 : t108 ≥ t109
        · rw [if_pos c16] at H
          have c16b0 : decide (t109 ≤ t108) = true := decide_eq_true c16
          clear c16
          replace H := Option.bind_eq_some_iff.mp H
          obtain ⟨t110, A170, H⟩ := H
          replace H : ((fix_SqrtMul.f a0 a1).bind fun t111 => (if t110 ≥ t111 then ((fix_Sub.f (ji7) a1).bind fun t112 => ((fix_Sub.f a0 a1).bind fun t113 => (if t112 ≥ t113 then ((fix_MulDiv.f (ji7) a1 a2).bind fun t114 => ((fix_MulDiv.f a0 a1 a2).bind fun t115 => (if t114 ≥ t115 then ((fix_MulDiv.f a0 a1 (mx (mx a2 a3) 1)).bind fun t116 => ((fix_MulDiv.f a0 a1 (mx a2 1)).bind fun t117 => (some (decide (t116 ≤ t117))))) else (some false)))) else (some false)))) else (some false))) = some r := H
          have A17 := Aside0.mk A170
          clear A170
          replace H := Option.bind_eq_some_iff.mp H
          obtain ⟨t111, A180, H⟩ := H
          replace H : (if t110 ≥ t111 then ((fix_Sub.f (ji7) a1).bind fun t112 => ((fix_Sub.f a0 a1).bind fun t113 => (if t112 ≥ t113 then ((fix_MulDiv.f (ji7) a1 a2).bind fun t114 => ((fix_MulDiv.f a0 a1 a2).bind fun t115 => (if t114 ≥ t115 then ((fix_MulDiv.f a0 a1 (mx (mx a2 a3) 1)).bind fun t116 => ((fix_MulDiv.f a0 a1 (mx a2 1)).bind fun t117 => (some (decide (t116 ≤ t117))))) else (some false)))) else (some false)))) else (some false)) = some r := H
          have A18 := Aside0.mk A180
          clear A180
          by_cases c19 : t110 ≥ t111
          · rw [if_pos c19] at H
            have c19b0 : decide (t111 ≤ t110) = true := decide_eq_true c19
            clear c19
            replace H := Option.bind_eq_some_iff.mp H
            obtain ⟨t112, A200, H⟩ := H
            replace H : ((fix_Sub.f a0 a1).bind fun t113 => (if t112 ≥ t113 then ((fix_MulDiv.f (ji7) a1 a2).bind fun t114 => ((fix_MulDiv.f a0 a1 a2).bind fun t115 => (if t114 ≥ t115 then ((fix_MulDiv.f a0 a1 (mx (mx a2 a3) 1)).bind fun t116 => ((fix_MulDiv.f a0 a1 (mx a2 1)).bind fun t117 => (some (decide (t116 ≤ t117))))) else (some false)))) else (some false))) = some r := H
            have A20 := Aside0.mk A200
            clear A200
            replace H := Option.bind_eq_some_iff.mp H
            obtain ⟨t113, A210, H⟩ := H
            replace H : (if t112 ≥ t113 then ((fix_MulDiv.f (ji7) a1 a2).bind fun t114 => ((fix_MulDiv.f a0 a1 a2).bind fun t115 => (if t114 ≥ t115 then ((fix_MulDiv.f a0 a1 (mx (mx a2 a3) 1)).bind fun t116 => ((fix_MulDiv.f a0 a1 (mx a2 1)).bind fun t117 => (some (decide (t116 ≤ t117))))) else (some false)))) else (some false)) = some r := H
            have A21 := Aside0.mk A210
            clear A210
            by_cases c22 : t112 ≥ t113
            · rw [if_pos c22] at H
              have c22b0 : decide (t113 ≤ t112) = true := decide_eq_true c22
              clear c22
              replace H := Option.bind_eq_some_iff.mp H
              obtain ⟨t114, A230, H⟩ := H
              replace H : ((fix_MulDiv.f a0 a1 a2).bind fun t115 => (if t114 ≥ t115 then ((fix_MulDiv.f a0 a1 (mx (mx a2 a3) 1)).bind fun t116 => ((fix_MulDiv.f a0 a1 (mx a2 1)).bind fun t117 => (some (decide (t116 ≤ t117))))) else (some false))) = some r := H
              have A23 := Aside0.mk A230
              clear A230
              replace H := Option.bind_eq_some_iff.mp H
              obtain ⟨t115, A240, H⟩ := H
              replace H : (if t114 ≥ t115 then ((fix_MulDiv.f a0 a1 (mx (mx a2 a3) 1)).bind fun t116 => ((fix_MulDiv.f a0 a1 (mx a2 1)).bind fun t117 => (some (decide (t116 ≤ t117))))) else (some false)) = some r := H
              have A24 := Aside0.mk A240
              clear A240
              by_cases c25 : t114 ≥ t115
              · rw [if_pos c25] at H
                have c25b0 : decide (t115 ≤ t114) = true := decide_eq_true c25
                clear c25
                obtain ⟨ji26, hji26⟩ : ∃ j_ : Int, (mx a2 a3) = j_ := ⟨_, rfl⟩
                replace H : ((fix_MulDiv.f a0 a1 (mx (ji26) 1)).bind fun t116 => ((fix_MulDiv.f a0 a1 (mx a2 1)).bind fun t117 => (some (decide (t116 ≤ t117))))) = some r := by first | (rw [hji26] at H; exact H) | (simp only [hji26] at H ⊢; exact H)
                (try rw [hji26] at A5)
                (try rw [hji26] at A8)
                (try rw [hji26] at A9)
                (try rw [hji26] at A11)
                (try rw [hji26] at A12)
                (try rw [hji26] at A14)
                (try rw [hji26] at A15)
                (try rw [hji26] at A17)
                (try rw [hji26] at A18)
                (try rw [hji26] at A20)
                (try rw [hji26] at A21)
                (try rw [hji26] at A23)
                (try rw [hji26] at A24)
                have hji26_ : (if a2 < a3 then a3 else a2) = ji26 := hji26
                obtain ⟨ji27, hji27⟩ : ∃ j_ : Int, (mx (ji26) 1) = j_ := ⟨_, rfl⟩
                replace H : ((fix_MulDiv.f a0 a1 (ji27)).bind fun t116 => ((fix_MulDiv.f a0 a1 (mx a2 1)).bind fun t117 => (some (decide (t116 ≤ t117))))) = some r := by first | (rw [hji27] at H; exact H) | (simp only [hji27] at H ⊢; exact H)
                (try rw [hji27] at A5)
                (try rw [hji27] at A8)
                (try rw [hji27] at A9)
                (try rw [hji27] at A11)
                (try rw [hji27] at A12)
                (try rw [hji27] at A14)
                (try rw [hji27] at A15)
                (try rw [hji27] at A17)
                (try rw [hji27] at A18)
                (try rw [hji27] at A20)
                (try rw [hji27] at A21)
                (try rw [hji27] at A23)
                (try rw [hji27] at A24)
                have hji27_ : (if (ji26) < 1 then 1 else (ji26)) = ji27 := hji27
                replace H := Option.bind_eq_some_iff.mp H
                obtain ⟨t116, A280, H⟩ := H
                replace H : ((fix_MulDiv.f a0 a1 (mx a2 1)).bind fun t117 => (some (decide (t116 ≤ t117)))) = some r := H
                have A28 := Aside0.mk A280
                clear A280
                obtain ⟨ji29, hji29⟩ : ∃ j_ : Int, (mx a2 1) = j_ := ⟨_, rfl⟩
                replace H : ((fix_MulDiv.f a0 a1 (ji29)).bind fun t117 => (some (decide (t116 ≤ t117)))) = some r := by first | (rw [hji29] at H; exact H) | (simp only [hji29] at H ⊢; exact H)
                (try rw [hji29] at A5)
                (try rw [hji29] at A8)
                (try rw [hji29] at A9)
                (try rw [hji29] at A11)
                (try rw [hji29] at A12)
                (try rw [hji29] at A14)
                (try rw [hji29] at A15)
                (try rw [hji29] at A17)
                (try rw [hji29] at A18)
                (try rw [hji29] at A20)
                (try rw [hji29] at A21)
                (try rw [hji29] at A23)
                (try rw [hji29] at A24)
                (try rw [hji29] at A28)
                (try (have hji29l : 1 ≤ ji29 := by (rw [← hji29]; unfold mx; (repeat' split) <;> omega)))
                (try (have hji29m : 0 ≤ ji29 := by omega))
                have hji29_ : (if a2 < 1 then 1 else a2) = ji29 := hji29
                replace H := Option.bind_eq_some_iff.mp H
                obtain ⟨t117, A300, H⟩ := H
                replace H : (some (decide (t116 ≤ t117))) = some r := H
                have A30 := Aside0.mk A300
                clear A300
                obtain rfl := Option.some.inj H
                go_enter Tryz.func7, Tryz.ntmps7
                go_wp2_with (first | ((with_reducible refine gate_callee (f := 15) rfl ?_); refine goesL_ (some 11) rfl rfl Tryz.func15 (by kernel_rfl) rfl #[] rfl (by (try simp only [List.map_toArray, List.map_cons, List.map_nil]); first | done | rfl | (simp only [List.length_drop, List.length_take]; rfl)) ?_; (with_reducible refine (muleteerlaw1_begun.calls  true _ A5.out).mono ?_); rintro e w31 ⟨rfl, hb⟩; refine ⟨_, rfl, ?_⟩; have n0_ := Aside0.mk (below_step (by repeat (first | (with_reducible first | exact HB.out | apply below_alloc | apply pw_below_drewN | apply below_drew1) | exact HB.out)) hb); clear HB; have HB := n0_; clear n0_; (try clear hb); (try clear hb2); (try clear hk); (try clear hi)) | (go_at_call 20; (with_reducible refine (fix_Add.calls ji7 a1 t104 _ A8.out).mono ?_); rintro e w' ⟨rfl, ⟨nd, rfl⟩⟩) | (go_at_call 20; (with_reducible refine (fix_Add.calls a0 a1 t105 _ A9.out).mono ?_); rintro e w' ⟨rfl, ⟨nd, rfl⟩⟩) | (go_at_call 24; (with_reducible refine (fix_Mul.calls ji7 a1 t106 _ A11.out).mono ?_); rintro e w' ⟨rfl, ⟨nd, rfl⟩⟩) | (go_at_call 24; (with_reducible refine (fix_Mul.calls a0 a1 t107 _ A12.out).mono ?_); rintro e w' ⟨rfl, ⟨nd, rfl⟩⟩) | (go_at_call 27; (with_reducible refine (fix_Sqrt.calls ji7 t108 _ A14.out).mono ?_); rintro e w' ⟨rfl, ⟨nd, rfl⟩⟩) | (go_at_call 27; (with_reducible refine (fix_Sqrt.calls a0 t109 _ A15.out).mono ?_); rintro e w' ⟨rfl, ⟨nd, rfl⟩⟩) | (go_at_call 16; (with_reducible refine (fix_SqrtMul.calls ji7 a1 t110 _ A17.out).mono ?_); rintro e w' ⟨rfl, ⟨nd, rfl⟩⟩) | (go_at_call 16; (with_reducible refine (fix_SqrtMul.calls a0 a1 t111 _ A18.out).mono ?_); rintro e w' ⟨rfl, ⟨nd, rfl⟩⟩) | (go_at_call 22; (with_reducible refine (fix_Sub.calls ji7 a1 t112 _ A20.out).mono ?_); rintro e w32 ⟨rfl, hb⟩; have n0_ := Aside0.mk (below_step (by repeat (first | (with_reducible first | exact HB.out | apply below_alloc | apply pw_below_drewN | apply below_drew1) | exact HB.out)) hb); clear HB; have HB := n0_; clear n0_; (try clear hb); (try clear hb2); (try clear hk); (try clear hi)) | (go_at_call 22; (with_reducible refine (fix_Sub.calls a0 a1 t113 _ A21.out).mono ?_); rintro e w33 ⟨rfl, hb⟩; have n0_ := Aside0.mk (below_step (by repeat (first | (with_reducible first | exact HB.out | apply below_alloc | apply pw_below_drewN | apply below_drew1) | exact HB.out)) hb); clear HB; have HB := n0_; clear n0_; (try clear hb); (try clear hb2); (try clear hk); (try clear hi)) | (go_at_call 19; (with_reducible refine (fix_MulDiv.calls ji7 a1 a2 t114 _ A23.out).mono ?_); rintro e w' ⟨rfl, ⟨nd, rfl⟩⟩) | (go_at_call 19; (with_reducible refine (fix_MulDiv.calls a0 a1 a2 t115 _ A24.out).mono ?_); rintro e w' ⟨rfl, ⟨nd, rfl⟩⟩) | (go_at_call 19; (with_reducible refine (fix_MulDiv.calls a0 a1 ji27 t116 _ A28.out).mono ?_); rintro e w' ⟨rfl, ⟨nd, rfl⟩⟩) | (go_at_call 19; (with_reducible refine (fix_MulDiv.calls a0 a1 ji29 t117 _ A30.out).mono ?_); rintro e w' ⟨rfl, ⟨nd, rfl⟩⟩))
                go_ret
                exact ⟨by first | rfl | (simp [errW_none, errW_some] <;> rfl) | (simp only [← hji7, ← hji26, ← hji27, ← hji29]; first | rfl | (simp [errW_none, errW_some] <;> rfl)) | (simp [*, errW_none, errW_some] <;> rfl), by repeat (first | (with_reducible first | exact HB.out | apply below_alloc | apply pw_below_drewN | apply below_drew1) | exact HB.out)⟩
              · rw [if_neg c25] at H
                have c25b0 : decide (t115 ≤ t114) = false := decide_eq_false c25
                clear c25
                obtain rfl := Option.some.inj H
                go_enter Tryz.func7, Tryz.ntmps7
                go_wp2_with (first | ((with_reducible refine gate_callee (f := 15) rfl ?_); refine goesL_ (some 11) rfl rfl Tryz.func15 (by kernel_rfl) rfl #[] rfl (by (try simp only [List.map_toArray, List.map_cons, List.map_nil]); first | done | rfl | (simp only [List.length_drop, List.length_take]; rfl)) ?_; (with_reducible refine (muleteerlaw1_begun.calls  true _ A5.out).mono ?_); rintro e w34 ⟨rfl, hb⟩; refine ⟨_, rfl, ?_⟩; have n0_ := Aside0.mk (below_step (by repeat (first | (with_reducible first | exact HB.out | apply below_alloc | apply pw_below_drewN | apply below_drew1) | exact HB.out)) hb); clear HB; have HB := n0_; clear n0_; (try clear hb); (try clear hb2); (try clear hk); (try clear hi)) | (go_at_call 20; (with_reducible refine (fix_Add.calls ji7 a1 t104 _ A8.out).mono ?_); rintro e w' ⟨rfl, ⟨nd, rfl⟩⟩) | (go_at_call 20; (with_reducible refine (fix_Add.calls a0 a1 t105 _ A9.out).mono ?_); rintro e w' ⟨rfl, ⟨nd, rfl⟩⟩) | (go_at_call 24; (with_reducible refine (fix_Mul.calls ji7 a1 t106 _ A11.out).mono ?_); rintro e w' ⟨rfl, ⟨nd, rfl⟩⟩) | (go_at_call 24; (with_reducible refine (fix_Mul.calls a0 a1 t107 _ A12.out).mono ?_); rintro e w' ⟨rfl, ⟨nd, rfl⟩⟩) | (go_at_call 27; (with_reducible refine (fix_Sqrt.calls ji7 t108 _ A14.out).mono ?_); rintro e w' ⟨rfl, ⟨nd, rfl⟩⟩) | (go_at_call 27; (with_reducible refine (fix_Sqrt.calls a0 t109 _ A15.out).mono ?_); rintro e w' ⟨rfl, ⟨nd, rfl⟩⟩) | (go_at_call 16; (with_reducible refine (fix_SqrtMul.calls ji7 a1 t110 _ A17.out).mono ?_); rintro e w' ⟨rfl, ⟨nd, rfl⟩⟩) | (go_at_call 16; (with_reducible refine (fix_SqrtMul.calls a0 a1 t111 _ A18.out).mono ?_); rintro e w' ⟨rfl, ⟨nd, rfl⟩⟩) | (go_at_call 22; (with_reducible refine (fix_Sub.calls ji7 a1 t112 _ A20.out).mono ?_); rintro e w35 ⟨rfl, hb⟩; have n0_ := Aside0.mk (below_step (by repeat (first | (with_reducible first | exact HB.out | apply below_alloc | apply pw_below_drewN | apply below_drew1) | exact HB.out)) hb); clear HB; have HB := n0_; clear n0_; (try clear hb); (try clear hb2); (try clear hk); (try clear hi)) | (go_at_call 22; (with_reducible refine (fix_Sub.calls a0 a1 t113 _ A21.out).mono ?_); rintro e w36 ⟨rfl, hb⟩; have n0_ := Aside0.mk (below_step (by repeat (first | (with_reducible first | exact HB.out | apply below_alloc | apply pw_below_drewN | apply below_drew1) | exact HB.out)) hb); clear HB; have HB := n0_; clear n0_; (try clear hb); (try clear hb2); (try clear hk); (try clear hi)) | (go_at_call 19; (with_reducible refine (fix_MulDiv.calls ji7 a1 a2 t114 _ A23.out).mono ?_); rintro e w' ⟨rfl, ⟨nd, rfl⟩⟩) | (go_at_call 19; (with_reducible refine (fix_MulDiv.calls a0 a1 a2 t115 _ A24.out).mono ?_); rintro e w' ⟨rfl, ⟨nd, rfl⟩⟩))
                go_ret
                exact ⟨by first | rfl | (simp [errW_none, errW_some] <;> rfl) | (simp only [← hji7]; first | rfl | (simp [errW_none, errW_some] <;> rfl)) | (simp [*, errW_none, errW_some] <;> rfl), by repeat (first | (with_reducible first | exact HB.out | apply below_alloc | apply pw_below_drewN | apply below_drew1) | exact HB.out)⟩
            · rw [if_neg c22] at H
              have c22b0 : decide (t113 ≤ t112) = false := decide_eq_false c22
              clear c22
              obtain rfl := Option.some.inj H
              go_enter Tryz.func7, Tryz.ntmps7
              go_wp2_with (first | ((with_reducible refine gate_callee (f := 15) rfl ?_); refine goesL_ (some 11) rfl rfl Tryz.func15 (by kernel_rfl) rfl #[] rfl (by (try simp only [List.map_toArray, List.map_cons, List.map_nil]); first | done | rfl | (simp only [List.length_drop, List.length_take]; rfl)) ?_; (with_reducible refine (muleteerlaw1_begun.calls  true _ A5.out).mono ?_); rintro e w37 ⟨rfl, hb⟩; refine ⟨_, rfl, ?_⟩; have n0_ := Aside0.mk (below_step (by repeat (first | (with_reducible first | exact HB.out | apply below_alloc | apply pw_below_drewN | apply below_drew1) | exact HB.out)) hb); clear HB; have HB := n0_; clear n0_; (try clear hb); (try clear hb2); (try clear hk); (try clear hi)) | (go_at_call 20; (with_reducible refine (fix_Add.calls ji7 a1 t104 _ A8.out).mono ?_); rintro e w' ⟨rfl, ⟨nd, rfl⟩⟩) | (go_at_call 20; (with_reducible refine (fix_Add.calls a0 a1 t105 _ A9.out).mono ?_); rintro e w' ⟨rfl, ⟨nd, rfl⟩⟩) | (go_at_call 24; (with_reducible refine (fix_Mul.calls ji7 a1 t106 _ A11.out).mono ?_); rintro e w' ⟨rfl, ⟨nd, rfl⟩⟩) | (go_at_call 24; (with_reducible refine (fix_Mul.calls a0 a1 t107 _ A12.out).mono ?_); rintro e w' ⟨rfl, ⟨nd, rfl⟩⟩) | (go_at_call 27; (with_reducible refine (fix_Sqrt.calls ji7 t108 _ A14.out).mono ?_); rintro e w' ⟨rfl, ⟨nd, rfl⟩⟩) | (go_at_call 27; (with_reducible refine (fix_Sqrt.calls a0 t109 _ A15.out).mono ?_); rintro e w' ⟨rfl, ⟨nd, rfl⟩⟩) | (go_at_call 16; (with_reducible refine (fix_SqrtMul.calls ji7 a1 t110 _ A17.out).mono ?_); rintro e w' ⟨rfl, ⟨nd, rfl⟩⟩) | (go_at_call 16; (with_reducible refine (fix_SqrtMul.calls a0 a1 t111 _ A18.out).mono ?_); rintro e w' ⟨rfl, ⟨nd, rfl⟩⟩) | (go_at_call 22; (with_reducible refine (fix_Sub.calls ji7 a1 t112 _ A20.out).mono ?_); rintro e w38 ⟨rfl, hb⟩; have n0_ := Aside0.mk (below_step (by repeat (first | (with_reducible first | exact HB.out | apply below_alloc | apply pw_below_drewN | apply below_drew1) | exact HB.out)) hb); clear HB; have HB := n0_; clear n0_; (try clear hb); (try clear hb2); (try clear hk); (try clear hi)) | (go_at_call 22; (with_reducible refine (fix_Sub.calls a0 a1 t113 _ A21.out).mono ?_); rintro e w39 ⟨rfl, hb⟩; have n0_ := Aside0.mk (below_step (by repeat (first | (with_reducible first | exact HB.out | apply below_alloc | apply pw_below_drewN | apply below_drew1) | exact HB.out)) hb); clear HB; have HB := n0_; clear n0_; (try clear hb); (try clear hb2); (try clear hk); (try clear hi)))
              go_ret
              exact ⟨by first | rfl | (simp [errW_none, errW_some] <;> rfl) | (simp only [← hji7]; first | rfl | (simp [errW_none, errW_some] <;> rfl)) | (simp [*, errW_none, errW_some] <;> rfl), by repeat (first | (with_reducible first | exact HB.out | apply below_alloc | apply pw_below_drewN | apply below_drew1) | exact HB.out)⟩
          · rw [if_neg c19] at H
            have c19b0 : decide (t111 ≤ t110) = false := decide_eq_false c19
            clear c19
            obtain rfl := Option.some.inj H
            go_enter Tryz.func7, Tryz.ntmps7
            go_wp2_with (first | ((with_reducible refine gate_callee (f := 15) rfl ?_); refine goesL_ (some 11) rfl rfl Tryz.func15 (by kernel_rfl) rfl #[] rfl (by (try simp only [List.map_toArray, List.map_cons, List.map_nil]); first | done | rfl | (simp only [List.length_drop, List.length_take]; rfl)) ?_; (with_reducible refine (muleteerlaw1_begun.calls  true _ A5.out).mono ?_); rintro e w40 ⟨rfl, hb⟩; refine ⟨_, rfl, ?_⟩; have n0_ := Aside0.mk (below_step (by repeat (first | (with_reducible first | exact HB.out | apply below_alloc | apply pw_below_drewN | apply below_drew1) | exact HB.out)) hb); clear HB; have HB := n0_; clear n0_; (try clear hb); (try clear hb2); (try clear hk); (try clear hi)) | (go_at_call 20; (with_reducible refine (fix_Add.calls ji7 a1 t104 _ A8.out).mono ?_); rintro e w' ⟨rfl, ⟨nd, rfl⟩⟩) | (go_at_call 20; (with_reducible refine (fix_Add.calls a0 a1 t105 _ A9.out).mono ?_); rintro e w' ⟨rfl, ⟨nd, rfl⟩⟩) | (go_at_call 24; (with_reducible refine (fix_Mul.calls ji7 a1 t106 _ A11.out).mono ?_); rintro e w' ⟨rfl, ⟨nd, rfl⟩⟩) | (go_at_call 24; (with_reducible refine (fix_Mul.calls a0 a1 t107 _ A12.out).mono ?_); rintro e w' ⟨rfl, ⟨nd, rfl⟩⟩) | (go_at_call 27; (with_reducible refine (fix_Sqrt.calls ji7 t108 _ A14.out).mono ?_); rintro e w' ⟨rfl, ⟨nd, rfl⟩⟩) | (go_at_call 27; (with_reducible refine (fix_Sqrt.calls a0 t109 _ A15.out).mono ?_); rintro e w' ⟨rfl, ⟨nd, rfl⟩⟩) | (go_at_call 16; (with_reducible refine (fix_SqrtMul.calls ji7 a1 t110 _ A17.out).mono ?_); rintro e w' ⟨rfl, ⟨nd, rfl⟩⟩) | (go_at_call 16; (with_reducible refine (fix_SqrtMul.calls a0 a1 t111 _ A18.out).mono ?_); rintro e w' ⟨rfl, ⟨nd, rfl⟩⟩))
            go_ret
            exact ⟨by first | rfl | (simp [errW_none, errW_some] <;> rfl) | (simp only [← hji7]; first | rfl | (simp [errW_none, errW_some] <;> rfl)) | (simp [*, errW_none, errW_some] <;> rfl), by repeat (first | (with_reducible first | exact HB.out | apply below_alloc | apply pw_below_drewN | apply below_drew1) | exact HB.out)⟩
        · rw [if_neg c16] at H
          have c16b0 : decide (t109 ≤ t108) = false := decide_eq_false c16
          clear c16
          obtain rfl := Option.some.inj H
          go_enter Tryz.func7, Tryz.ntmps7
          go_wp2_with (first | ((with_reducible refine gate_callee (f := 15) rfl ?_); refine goesL_ (some 11) rfl rfl Tryz.func15 (by kernel_rfl) rfl #[] rfl (by (try simp only [List.map_toArray, List.map_cons, List.map_nil]); first | done | rfl | (simp only [List.length_drop, List.length_take]; rfl)) ?_; (with_reducible refine (muleteerlaw1_begun.calls  true _ A5.out).mono ?_); rintro e w41 ⟨rfl, hb⟩; refine ⟨_, rfl, ?_⟩; have n0_ := Aside0.mk (below_step (by repeat (first | (with_reducible first | exact HB.out | apply below_alloc | apply pw_below_drewN | apply below_drew1) | exact HB.out)) hb); clear HB; have HB := n0_; clear n0_; (try clear hb); (try clear hb2); (try clear hk); (try clear hi)) | (go_at_call 20; (with_reducible refine (fix_Add.calls ji7 a1 t104 _ A8.out).mono ?_); rintro e w' ⟨rfl, ⟨nd, rfl⟩⟩) | (go_at_call 20; (with_reducible refine (fix_Add.calls a0 a1 t105 _ A9.out).mono ?_); rintro e w' ⟨rfl, ⟨nd, rfl⟩⟩) | (go_at_call 24; (with_reducible refine (fix_Mul.calls ji7 a1 t106 _ A11.out).mono ?_); rintro e w' ⟨rfl, ⟨nd, rfl⟩⟩) | (go_at_call 24; (with_reducible refine (fix_Mul.calls a0 a1 t107 _ A12.out).mono ?_); rintro e w' ⟨rfl, ⟨nd, rfl⟩⟩) | (go_at_call 27; (with_reducible refine (fix_Sqrt.calls ji7 t108 _ A14.out).mono ?_); rintro e w' ⟨rfl, ⟨nd, rfl⟩⟩) | (go_at_call 27; (with_reducible refine (fix_Sqrt.calls a0 t109 _ A15.out).mono ?_); rintro e w' ⟨rfl, ⟨nd, rfl⟩⟩))
          go_ret
          exact ⟨by first | rfl | (simp [errW_none, errW_some] <;> rfl) | (simp only [← hji7]; first | rfl | (simp [errW_none, errW_some] <;> rfl)) | (simp [*, errW_none, errW_some] <;> rfl), by repeat (first | (with_reducible first | exact HB.out | apply below_alloc | apply pw_below_drewN | apply below_drew1) | exact HB.out)⟩
      · rw [if_neg c13] at H
        have c13b0 : decide (t107 ≤ t106) = false := decide_eq_false c13
        clear c13
        obtain rfl := Option.some.inj H
        go_enter Tryz.func7, Tryz.ntmps7
        go_wp2_with (first | ((with_reducible refine gate_callee (f := 15) rfl ?_); refine goesL_ (some 11) rfl rfl Tryz.func15 (by kernel_rfl) rfl #[] rfl (by (try simp only [List.map_toArray, List.map_cons, List.map_nil]); first | done | rfl | (simp only [List.length_drop, List.length_take]; rfl)) ?_; (with_reducible refine (muleteerlaw1_begun.calls  true _ A5.out).mono ?_); rintro e w42 ⟨rfl, hb⟩; refine ⟨_, rfl, ?_⟩; have n0_ := Aside0.mk (below_step (by repeat (first | (with_reducible first | exact HB.out | apply below_alloc | apply pw_below_drewN | apply below_drew1) | exact HB.out)) hb); clear HB; have HB := n0_; clear n0_; (try clear hb); (try clear hb2); (try clear hk); (try clear hi)) | (go_at_call 20; (with_reducible refine (fix_Add.calls ji7 a1 t104 _ A8.out).mono ?_); rintro e w' ⟨rfl, ⟨nd, rfl⟩⟩) | (go_at_call 20; (with_reducible refine (fix_Add.calls a0 a1 t105 _ A9.out).mono ?_); rintro e w' ⟨rfl, ⟨nd, rfl⟩⟩) | (go_at_call 24; (with_reducible refine (fix_Mul.calls ji7 a1 t106 _ A11.out).mono ?_); rintro e w' ⟨rfl, ⟨nd, rfl⟩⟩) | (go_at_call 24; (with_reducible refine (fix_Mul.calls a0 a1 t107 _ A12.out).mono ?_); rintro e w' ⟨rfl, ⟨nd, rfl⟩⟩))
        go_ret
        exact ⟨by first | rfl | (simp [errW_none, errW_some] <;> rfl) | (simp only [← hji7]; first | rfl | (simp [errW_none, errW_some] <;> rfl)) | (simp [*, errW_none, errW_some] <;> rfl), by repeat (first | (with_reducible first | exact HB.out | apply below_alloc | apply pw_below_drewN | apply below_drew1) | exact HB.out)⟩
    · rw [if_neg c10] at H
      have c10b0 : decide (t105 ≤ t104) = false := decide_eq_false c10
      clear c10
      obtain rfl := Option.some.inj H
      go_enter Tryz.func7, Tryz.ntmps7
      go_wp2_with (first | ((with_reducible refine gate_callee (f := 15) rfl ?_); refine goesL_ (some 11) rfl rfl Tryz.func15 (by kernel_rfl) rfl #[] rfl (by (try simp only [List.map_toArray, List.map_cons, List.map_nil]); first | done | rfl | (simp only [List.length_drop, List.length_take]; rfl)) ?_; (with_reducible refine (muleteerlaw1_begun.calls  true _ A5.out).mono ?_); rintro e w43 ⟨rfl, hb⟩; refine ⟨_, rfl, ?_⟩; have n0_ := Aside0.mk (below_step (by repeat (first | (with_reducible first | exact HB.out | apply below_alloc | apply pw_below_drewN | apply below_drew1) | exact HB.out)) hb); clear HB; have HB := n0_; clear n0_; (try clear hb); (try clear hb2); (try clear hk); (try clear hi)) | (go_at_call 20; (with_reducible refine (fix_Add.calls ji7 a1 t104 _ A8.out).mono ?_); rintro e w' ⟨rfl, ⟨nd, rfl⟩⟩) | (go_at_call 20; (with_reducible refine (fix_Add.calls a0 a1 t105 _ A9.out).mono ?_); rintro e w' ⟨rfl, ⟨nd, rfl⟩⟩))
      go_ret
      exact ⟨by first | rfl | (simp [errW_none, errW_some] <;> rfl) | (simp only [← hji7]; first | rfl | (simp [errW_none, errW_some] <;> rfl)) | (simp [*, errW_none, errW_some] <;> rfl), by repeat (first | (with_reducible first | exact HB.out | apply below_alloc | apply pw_below_drewN | apply below_drew1) | exact HB.out)⟩
  · replace c6 := Bool.eq_false_iff.mpr c6
    subst c6
    have H1 : (some false) = some r := by rw [if_neg (show ¬ (false = true) by decide)] at H; exact H
    clear H
    have H := H1
    clear H1
    obtain rfl := Option.some.inj H
    go_enter Tryz.func7, Tryz.ntmps7
    go_wp2_with (first | ((with_reducible refine gate_callee (f := 15) rfl ?_); refine goesL_ (some 11) rfl rfl Tryz.func15 (by kernel_rfl) rfl #[] rfl (by (try simp only [List.map_toArray, List.map_cons, List.map_nil]); first | done | rfl | (simp only [List.length_drop, List.length_take]; rfl)) ?_; (with_reducible refine (muleteerlaw1_begun.calls  false _ A5.out).mono ?_); rintro e w44 ⟨rfl, hb⟩; refine ⟨_, rfl, ?_⟩; have n0_ := Aside0.mk (below_step (by repeat (first | (with_reducible first | exact HB.out | apply below_alloc | apply pw_below_drewN | apply below_drew1) | exact HB.out)) hb); clear HB; have HB := n0_; clear n0_; (try clear hb); (try clear hb2); (try clear hk); (try clear hi)))
    go_ret
    exact ⟨by first | rfl | (simp [errW_none, errW_some] <;> rfl) | (simp [*, errW_none, errW_some] <;> rfl), by repeat (first | (with_reducible first | exact HB.out | apply below_alloc | apply pw_below_drewN | apply below_drew1) | exact HB.out)⟩

/-- THE ONE PURE STATEMENT of muleteerlaw1_FixOrder: yours. -/
def muleteerlaw1_FixOrder.Pure : Prop := ∀ (a0 : Int) (a1 : Int) (a2 : Int) (a3 : Int), (Lit.int .u64 a0).wf = true → (Lit.int .u64 a1).wf = true → (Lit.int .u64 a2).wf = true → (Lit.int .u64 a3).wf = true → muleteerlaw1_FixOrder.f a0 a1 a2 a3 = some true
theorem muleteerlaw1_FixOrder.walk (P : muleteerlaw1_FixOrder.Pure) (a0 : Int) (a1 : Int) (a2 : Int) (a3 : Int) (w : World) (w0 : (Lit.int .u64 a0).wf = true) (w1 : (Lit.int .u64 a1).wf = true) (w2 : (Lit.int .u64 a2).wf = true) (w3 : (Lit.int .u64 a3).wf = true) :
    Calls Tryz.prog 7 #[.int .u64 a0, .int .u64 a1, .int .u64 a2, .int .u64 a3] w fun e w' => e = .returned (.bool true) ∧ Below w.heap.size w w' := by
  have h := P a0 a1 a2 a3 w0 w1 w2 w3
  refine (muleteerlaw1_FixOrder.calls a0 a1 a2 a3 true w h).mono ?_
  rintro e w' ⟨rfl, hd⟩
  exact ⟨rfl, hd⟩

end Go.Proofs.YtmdimebifngekaaGreatDoor.PFixOrder
