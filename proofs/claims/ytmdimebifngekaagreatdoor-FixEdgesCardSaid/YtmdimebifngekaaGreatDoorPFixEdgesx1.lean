/- What this seat's Go functions compute, as Lean functions, and that they do. Written by a program of this session's (wip/pr/pr.py) by means of the kit's printer, with contracts of ours for some functions; conditions: none beyond each theorem's own. -/
import Derived.Test.YtmdimebifngekaaGreatDoorPFixEdgesx0
namespace Go.Proofs.YtmdimebifngekaaGreatDoor.PFixEdges
open Go.RowKit Go.Proofs.YtmdimebifngekaaGreatDoorW.PrintWords Go.Proofs.YtmdimebifngekaaGreatDoorW.PrintLast Go.Proofs.YtmdimebifngekaaGreatDoorW.PrintMore
attribute [local go_sem] max2_int min2_int max_two min_two max_three min_three max_four min_four   -- for this text's walks alone
set_option linter.unusedVariables false
set_option linter.unusedSimpArgs false

/-! ### muleteerlaw1_begun: function 15: a contract of ours -/
def muleteerlaw1_begun.f  : Option (Bool) := some true
theorem muleteerlaw1_begun.calls  (r : Bool) (w : World)  (h : muleteerlaw1_begun.f  = some r) :
    Calls Tryz.prog 15 #[] w fun e w' => e = .returned (.bool r) ∧ Below w.heap.size w w' := by
  cases h; exact begun_true w

/-! ### fix_SqrtMul: function 16: a contract of ours -/
def fix_SqrtMul.f (a0 : Int) (a1 : Int) : Option (Int) := if u64 a0 ∧ u64 a1 then some ((Fix.root (a0.toNat * a1.toNat) : Nat)) else none
theorem fix_SqrtMul.calls (a0 : Int) (a1 : Int) (r : Int) (w : World)  (h : fix_SqrtMul.f a0 a1 = some r) :
    Calls Tryz.prog 16 #[.int .u64 a0, .int .u64 a1] w fun e w' => e = .returned (.int .u64 r) ∧ Drawn0 w w' := by
  unfold fix_SqrtMul.f at h
  split at h
  · rename_i hc
    obtain ⟨c0, c1⟩ := hc
    obtain ⟨n0, rfl, g0⟩ := u64_nat c0
    obtain ⟨n1, rfl, g1⟩ := u64_nat c1
    simp only [Int.toNat_natCast, Option.some.injEq, Prod.mk.injEq] at h
    obtain rfl := h
    exact (fix_SqrtMul n0 n1 w g0 g1).mono fun e w' hq => ⟨by rw [hq.1], same_drawn hq.2⟩
  · cases h

/-! ### fix_MulDiv: function 19: a contract of ours -/
def fix_MulDiv.f (a0 : Int) (a1 : Int) (a2 : Int) : Option (Int) := if u64 a0 ∧ u64 a1 ∧ u64 a2 then some ((Fix.quot a0.toNat a1.toNat a2.toNat : Nat)) else none
theorem fix_MulDiv.calls (a0 : Int) (a1 : Int) (a2 : Int) (r : Int) (w : World)  (h : fix_MulDiv.f a0 a1 a2 = some r) :
    Calls Tryz.prog 19 #[.int .u64 a0, .int .u64 a1, .int .u64 a2] w fun e w' => e = .returned (.int .u64 r) ∧ Drawn0 w w' := by
  unfold fix_MulDiv.f at h
  split at h
  · rename_i hc
    obtain ⟨c0, c1, c2⟩ := hc
    obtain ⟨n0, rfl, g0⟩ := u64_nat c0
    obtain ⟨n1, rfl, g1⟩ := u64_nat c1
    obtain ⟨n2, rfl, g2⟩ := u64_nat c2
    simp only [Int.toNat_natCast, Option.some.injEq, Prod.mk.injEq] at h
    obtain rfl := h
    exact (fix_MulDiv n0 n1 n2 w g0 g1 g2).mono fun e w' hq => ⟨by rw [hq.1], drewN_drawn hq.2⟩
  · cases h

/-! ### fix_Add: function 20: a contract of ours -/
def fix_Add.f (a0 : Int) (a1 : Int) : Option (Int) := if u64 a0 ∧ u64 a1 then some (if a0 + a1 < 18446744073709551616 then a0 + a1 else 18446744073709551615) else none
theorem fix_Add.calls (a0 : Int) (a1 : Int) (r : Int) (w : World)  (h : fix_Add.f a0 a1 = some r) :
    Calls Tryz.prog 20 #[.int .u64 a0, .int .u64 a1] w fun e w' => e = .returned (.int .u64 r) ∧ Drawn0 w w' := by
  unfold fix_Add.f at h
  split at h
  · rename_i hc
    obtain rfl := Option.some.inj h
    exact (fix_Add a0 a1 w (of_decide_eq_true hc.1) (of_decide_eq_true hc.2)).mono fun e w' hq => ⟨hq.1, same_drawn hq.2⟩
  · cases h

/-! ### fix_Sub: function 22 -/
def fix_Sub.f (a0 : Int) (a1 : Int) : Option (Int) := some (IntKind.u64.wrap (a0 - (mn a0 a1)))
set_option maxHeartbeats 8000000 in
set_option maxRecDepth 100000 in
theorem fix_Sub.calls (a0 : Int) (a1 : Int) (r : Int) (w : World) (h : fix_Sub.f a0 a1 = some r) :
    Calls Tryz.prog 22 #[.int .u64 a0, .int .u64 a1] w fun e w' => e = .returned (.int .u64 r) ∧ Below w.heap.size w w' := by
  have HB := Aside0.mk (Below.refl w.heap.size w)
  have H : (some (IntKind.u64.wrap (a0 - (mn a0 a1)))) = some r := h
  clear h
  obtain ⟨ji3, hji3⟩ : ∃ j_ : Int, (mn a0 a1) = j_ := ⟨_, rfl⟩
  replace H : (some (IntKind.u64.wrap (a0 - (ji3)))) = some r := by first | (rw [hji3] at H; exact H) | (simp only [hji3] at H ⊢; exact H)
  have hji3_ : (if a1 < a0 then a1 else a0) = ji3 := hji3
  obtain rfl := Option.some.inj H
  go_enter Tryz.func22, Tryz.ntmps22
  go_wp2
  go_ret
  exact ⟨by first | rfl | (simp [errW_none, errW_some] <;> rfl) | (simp only [← hji3]; first | rfl | (simp [errW_none, errW_some] <;> rfl)) | (simp [*, errW_none, errW_some] <;> rfl), by repeat (first | (with_reducible first | exact HB.out | apply below_alloc | apply pw_below_drewN | apply below_drew1) | exact HB.out)⟩

/-! ### bits_Mul64: function 72: a contract of ours -/
def bits_Mul64.f (a0 : Int) (a1 : Int) : Option (Int × Int) := if u64 a0 ∧ u64 a1 then some (((a0.toNat * a1.toNat / 18446744073709551616 : Nat) : Int), ((a0.toNat * a1.toNat % 18446744073709551616 : Nat) : Int)) else none
theorem bits_Mul64.calls (a0 : Int) (a1 : Int) (r1 : Int) (r2 : Int) (w : World)  (h : bits_Mul64.f a0 a1 = some (r1, r2)) :
    Calls Tryz.prog 72 #[.int .u64 a0, .int .u64 a1] w fun e w' => e = .returned (.tuple #[.int .u64 r1, .int .u64 r2]) ∧ Drawn0 w w' := by
  unfold bits_Mul64.f at h
  split at h
  · rename_i hc
    obtain ⟨c0, c1⟩ := hc
    obtain ⟨n0, rfl, g0⟩ := u64_nat c0
    obtain ⟨n1, rfl, g1⟩ := u64_nat c1
    simp only [Int.toNat_natCast, Option.some.injEq, Prod.mk.injEq] at h
    obtain ⟨rfl, rfl⟩ := h
    exact (mul64 n0 n1 _ _ g0 g1 rfl rfl w).mono fun e w' hq => ⟨by rw [hq.1], same_drawn hq.2⟩
  · cases h

/-! ### fix_Mul: function 24 -/
def fix_Mul.f (a0 : Int) (a1 : Int) : Option (Int) := (bits_Mul64.f a0 a1).bind fun bt101 => (if bt101.1 > 0 then (some 18446744073709551615) else (some bt101.2))
set_option maxHeartbeats 8000000 in
set_option maxRecDepth 100000 in
theorem fix_Mul.calls (a0 : Int) (a1 : Int) (r : Int) (w : World) (h : fix_Mul.f a0 a1 = some r) :
    Calls Tryz.prog 24 #[.int .u64 a0, .int .u64 a1] w fun e w' => e = .returned (.int .u64 r) ∧ Drawn0 w w' := by
  have H : ((bits_Mul64.f a0 a1).bind fun bt101 => (if bt101.1 > 0 then (some 18446744073709551615) else (some bt101.2))) = some r := h
  clear h
  replace H := Option.bind_eq_some_iff.mp H
  obtain ⟨⟨t101, t102⟩, A30, H⟩ := H
  replace H : (if t101 > 0 then (some 18446744073709551615) else (some t102)) = some r := H
  have A3 := Aside0.mk A30
  clear A30
  by_cases c4 : t101 > 0
  · rw [if_pos c4] at H
    have c4b0 : decide (0 < t101) = true := decide_eq_true c4
    clear c4
    obtain rfl := Option.some.inj H
    go_enter Tryz.func24, Tryz.ntmps24
    go_wp2_with (first | ((with_reducible refine gate_callee (f := 72) rfl ?_); refine goesL_ (some 10) rfl rfl Tryz.func72 (by kernel_rfl) rfl #[.int .u64 a0, .int .u64 a1] rfl (by (try simp only [List.map_toArray, List.map_cons, List.map_nil]); first | done | rfl | (simp only [List.length_drop, List.length_take]; rfl)) ?_; (with_reducible refine (bits_Mul64.calls a0 a1 t101 t102 _ A3.out).mono ?_); rintro e w' ⟨rfl, ⟨nd, rfl⟩⟩; refine ⟨_, rfl, ?_⟩))
    go_ret
    exact ⟨by first | rfl | (simp; done) | (simp [*]; done), by repeat (first | exact Drawn0.refl _ | apply Drawn0.step)⟩
  · rw [if_neg c4] at H
    have c4b0 : decide (0 < t101) = false := decide_eq_false c4
    clear c4
    obtain rfl := Option.some.inj H
    go_enter Tryz.func24, Tryz.ntmps24
    go_wp2_with (first | ((with_reducible refine gate_callee (f := 72) rfl ?_); refine goesL_ (some 10) rfl rfl Tryz.func72 (by kernel_rfl) rfl #[.int .u64 a0, .int .u64 a1] rfl (by (try simp only [List.map_toArray, List.map_cons, List.map_nil]); first | done | rfl | (simp only [List.length_drop, List.length_take]; rfl)) ?_; (with_reducible refine (bits_Mul64.calls a0 a1 t101 t102 _ A3.out).mono ?_); rintro e w' ⟨rfl, ⟨nd, rfl⟩⟩; refine ⟨_, rfl, ?_⟩))
    go_ret
    exact ⟨by first | rfl | (simp; done) | (simp [*]; done), by repeat (first | exact Drawn0.refl _ | apply Drawn0.step)⟩

/-! ### muleteerlaw1_FixEdges: function 6 -/
mutual
def muleteerlaw1_FixEdges.j0 : Nat → Int → Int → Int → Int → Option (Bool)
  | 0, _, _, _, _ => none
  | k + 1, x2, x8, x9, x10 => (fix_Mul.f x8 x9).bind fun t104 => (if t104 = x10 then ((fix_Add.f (IntKind.u64.wrap (18446744073709551615 - x2)) x2).bind fun t105 => (if t105 = 18446744073709551615 then ((fix_Sub.f x2 18446744073709551615).bind fun t106 => (if t106 = 0 then (muleteerlaw1_FixEdges.j1 k x2 x8 x9 false) else (muleteerlaw1_FixEdges.j1 k x2 x8 x9 (x2 != 18446744073709551615)))) else (muleteerlaw1_FixEdges.j1 k x2 x8 x9 true))) else (muleteerlaw1_FixEdges.j1 k x2 x8 x9 true))
def muleteerlaw1_FixEdges.j1 : Nat → Int → Int → Int → Bool → Option (Bool)
  | 0, _, _, _, _ => none
  | k + 1, x2, x8, x9, x54 => if x54 = true then (some false) else ((fix_MulDiv.f x8 x9 x9).bind fun t107 => (if t107 = x8 then ((fix_MulDiv.f x8 x2 1).bind fun t108 => ((fix_Mul.f x8 x2).bind fun t109 => (if t108 = t109 then ((fix_SqrtMul.f x8 x8).bind fun t110 => (if t110 = x8 then (if x2 = 0 then (some true) else ((fix_MulDiv.f x2 x2 x2).bind fun t111 => (some (t111 == x2)))) else (some false))) else (some false)))) else (some false)))
end
def muleteerlaw1_FixEdges.f (k : Nat) (a0 : Int) (a1 : Int) (a2 : Int) : Option (Bool) := (muleteerlaw1_begun.f).bind fun t103 => (if t103 = true then (if 0 ≤ (Int.tmod (wrap64 ((Int.tmod a0 64) + 64)) 64) then (if 0 ≤ (Int.tmod (wrap64 ((Int.tmod a1 64) + 64)) 64) then (if (wrap64 ((Int.tmod (wrap64 ((Int.tmod a0 64) + 64)) 64) + (Int.tmod (wrap64 ((Int.tmod a1 64) + 64)) 64))) < 64 then (if 0 ≤ (wrap64 ((Int.tmod (wrap64 ((Int.tmod a0 64) + 64)) 64) + (Int.tmod (wrap64 ((Int.tmod a1 64) + 64)) 64))) then (muleteerlaw1_FixEdges.j0 k a2 (shl .u64 1 (Int.tmod (wrap64 ((Int.tmod a0 64) + 64)) 64)) (shl .u64 1 (Int.tmod (wrap64 ((Int.tmod a1 64) + 64)) 64)) (shl .u64 1 (wrap64 ((Int.tmod (wrap64 ((Int.tmod a0 64) + 64)) 64) + (Int.tmod (wrap64 ((Int.tmod a1 64) + 64)) 64))))) else (none)) else (muleteerlaw1_FixEdges.j0 k a2 (shl .u64 1 (Int.tmod (wrap64 ((Int.tmod a0 64) + 64)) 64)) (shl .u64 1 (Int.tmod (wrap64 ((Int.tmod a1 64) + 64)) 64)) 18446744073709551615)) else (none)) else (none)) else (some false))
theorem muleteerlaw1_FixEdges.mono_l : ∀ k, (∀ y0 y1 y2 y3, LeO (muleteerlaw1_FixEdges.j0 k y0 y1 y2 y3) (muleteerlaw1_FixEdges.j0 (k + 1) y0 y1 y2 y3)) ∧ (∀ y0 y1 y2 y3, LeO (muleteerlaw1_FixEdges.j1 k y0 y1 y2 y3) (muleteerlaw1_FixEdges.j1 (k + 1) y0 y1 y2 y3))
  | 0 => ⟨fun _ _ _ _ r h => by simp [muleteerlaw1_FixEdges.j0] at h, fun _ _ _ _ r h => by simp [muleteerlaw1_FixEdges.j1] at h⟩
  | k + 1 => by
    obtain ⟨ih0, ih1⟩ := muleteerlaw1_FixEdges.mono_l k
    refine ⟨?_, ?_⟩
    · intro y0 y1 y2 y3
      unfold muleteerlaw1_FixEdges.j0
      repeat' first
      | (with_reducible exact ih0 _ _ _ _)
      | (with_reducible exact ih1 _ _ _ _)
      | (with_reducible exact LeO.refl _)
      | (with_reducible exact LeO.none _)
      | (with_reducible refine LeO.ite ?_ ?_)
      | (with_reducible refine LeO.bind ?_ (fun _ => ?_))
      | exact ih0 _ _ _ _
      | exact ih1 _ _ _ _
      | exact LeO.none _
      | refine LeO.ite ?_ ?_
      | refine LeO.bind ?_ (fun _ => ?_)
    · intro y0 y1 y2 y3
      unfold muleteerlaw1_FixEdges.j1
      repeat' first
      | (with_reducible exact ih0 _ _ _ _)
      | (with_reducible exact ih1 _ _ _ _)
      | (with_reducible exact LeO.refl _)
      | (with_reducible exact LeO.none _)
      | (with_reducible refine LeO.ite ?_ ?_)
      | (with_reducible refine LeO.bind ?_ (fun _ => ?_))
      | exact ih0 _ _ _ _
      | exact ih1 _ _ _ _
      | exact LeO.none _
      | refine LeO.ite ?_ ?_
      | refine LeO.bind ?_ (fun _ => ?_)
theorem muleteerlaw1_FixEdges.mono : ∀ a0 a1 a2 k, LeO (muleteerlaw1_FixEdges.f k a0 a1 a2) (muleteerlaw1_FixEdges.f (k + 1) a0 a1 a2) := by
  intro a0 a1 a2 k
  obtain ⟨ih0, ih1⟩ := muleteerlaw1_FixEdges.mono_l k
  unfold muleteerlaw1_FixEdges.f
  repeat' first
      | (with_reducible exact ih0 _ _ _ _)
      | (with_reducible exact ih1 _ _ _ _)
      | (with_reducible exact LeO.refl _)
      | (with_reducible exact LeO.none _)
      | (with_reducible refine LeO.ite ?_ ?_)
      | (with_reducible refine LeO.bind ?_ (fun _ => ?_))
      | exact ih0 _ _ _ _
      | exact ih1 _ _ _ _
      | exact LeO.none _
      | refine LeO.ite ?_ ?_
      | refine LeO.bind ?_ (fun _ => ?_)
set_option maxHeartbeats 8000000 in
set_option maxRecDepth 100000 in
theorem muleteerlaw1_FixEdges.calls (k : Nat) (a0 : Int) (a1 : Int) (a2 : Int) (r : Bool) (w : World) (h : muleteerlaw1_FixEdges.f k a0 a1 a2 = some r) :
    Calls Tryz.prog 6 #[.int .i64 a0, .int .i64 a1, .int .u64 a2] w fun e w' => e = .returned (.bool r) ∧ Below w.heap.size w w' := by
  have HB := Aside0.mk (Below.refl w.heap.size w)
  have H : ((muleteerlaw1_begun.f).bind fun t103 => (if t103 = true then (if 0 ≤ (Int.tmod (wrap64 ((Int.tmod a0 64) + 64)) 64) then (if 0 ≤ (Int.tmod (wrap64 ((Int.tmod a1 64) + 64)) 64) then (if (wrap64 ((Int.tmod (wrap64 ((Int.tmod a0 64) + 64)) 64) + (Int.tmod (wrap64 ((Int.tmod a1 64) + 64)) 64))) < 64 then (if 0 ≤ (wrap64 ((Int.tmod (wrap64 ((Int.tmod a0 64) + 64)) 64) + (Int.tmod (wrap64 ((Int.tmod a1 64) + 64)) 64))) then (muleteerlaw1_FixEdges.j0 k a2 (shl .u64 1 (Int.tmod (wrap64 ((Int.tmod a0 64) + 64)) 64)) (shl .u64 1 (Int.tmod (wrap64 ((Int.tmod a1 64) + 64)) 64)) (shl .u64 1 (wrap64 ((Int.tmod (wrap64 ((Int.tmod a0 64) + 64)) 64) + (Int.tmod (wrap64 ((Int.tmod a1 64) + 64)) 64))))) else (none)) else (muleteerlaw1_FixEdges.j0 k a2 (shl .u64 1 (Int.tmod (wrap64 ((Int.tmod a0 64) + 64)) 64)) (shl .u64 1 (Int.tmod (wrap64 ((Int.tmod a1 64) + 64)) 64)) 18446744073709551615)) else (none)) else (none)) else (some false))) = some r := h
  clear h
  replace H := Option.bind_eq_some_iff.mp H
  obtain ⟨t103, A40, H⟩ := H
  replace H : (if t103 = true then (if 0 ≤ (Int.tmod (wrap64 ((Int.tmod a0 64) + 64)) 64) then (if 0 ≤ (Int.tmod (wrap64 ((Int.tmod a1 64) + 64)) 64) then (if (wrap64 ((Int.tmod (wrap64 ((Int.tmod a0 64) + 64)) 64) + (Int.tmod (wrap64 ((Int.tmod a1 64) + 64)) 64))) < 64 then (if 0 ≤ (wrap64 ((Int.tmod (wrap64 ((Int.tmod a0 64) + 64)) 64) + (Int.tmod (wrap64 ((Int.tmod a1 64) + 64)) 64))) then (muleteerlaw1_FixEdges.j0 k a2 (shl .u64 1 (Int.tmod (wrap64 ((Int.tmod a0 64) + 64)) 64)) (shl .u64 1 (Int.tmod (wrap64 ((Int.tmod a1 64) + 64)) 64)) (shl .u64 1 (wrap64 ((Int.tmod (wrap64 ((Int.tmod a0 64) + 64)) 64) + (Int.tmod (wrap64 ((Int.tmod a1 64) + 64)) 64))))) else (none)) else (muleteerlaw1_FixEdges.j0 k a2 (shl .u64 1 (Int.tmod (wrap64 ((Int.tmod a0 64) + 64)) 64)) (shl .u64 1 (Int.tmod (wrap64 ((Int.tmod a1 64) + 64)) 64)) 18446744073709551615)) else (none)) else (none)) else (some false)) = some r := H
  have A4 := Aside0.mk A40
  clear A40
  by_cases c5 : t103 = true
  · subst c5
    have H1 : (if 0 ≤ (Int.tmod (wrap64 ((Int.tmod a0 64) + 64)) 64) then (if 0 ≤ (Int.tmod (wrap64 ((Int.tmod a1 64) + 64)) 64) then (if (wrap64 ((Int.tmod (wrap64 ((Int.tmod a0 64) + 64)) 64) + (Int.tmod (wrap64 ((Int.tmod a1 64) + 64)) 64))) < 64 then (if 0 ≤ (wrap64 ((Int.tmod (wrap64 ((Int.tmod a0 64) + 64)) 64) + (Int.tmod (wrap64 ((Int.tmod a1 64) + 64)) 64))) then (muleteerlaw1_FixEdges.j0 k a2 (shl .u64 1 (Int.tmod (wrap64 ((Int.tmod a0 64) + 64)) 64)) (shl .u64 1 (Int.tmod (wrap64 ((Int.tmod a1 64) + 64)) 64)) (shl .u64 1 (wrap64 ((Int.tmod (wrap64 ((Int.tmod a0 64) + 64)) 64) + (Int.tmod (wrap64 ((Int.tmod a1 64) + 64)) 64))))) else (none)) else (muleteerlaw1_FixEdges.j0 k a2 (shl .u64 1 (Int.tmod (wrap64 ((Int.tmod a0 64) + 64)) 64)) (shl .u64 1 (Int.tmod (wrap64 ((Int.tmod a1 64) + 64)) 64)) 18446744073709551615)) else (none)) else (none)) = some r := by rw [if_pos rfl] at H; exact H
    clear H
    have H := H1
    clear H1
    obtain ⟨ji6, hji6⟩ : ∃ j_ : Int, (Int.tmod (wrap64 ((Int.tmod a0 64) + 64)) 64) = j_ := ⟨_, rfl⟩
    replace H : (if 0 ≤ (ji6) then (if 0 ≤ (Int.tmod (wrap64 ((Int.tmod a1 64) + 64)) 64) then (if (wrap64 ((ji6) + (Int.tmod (wrap64 ((Int.tmod a1 64) + 64)) 64))) < 64 then (if 0 ≤ (wrap64 ((ji6) + (Int.tmod (wrap64 ((Int.tmod a1 64) + 64)) 64))) then (muleteerlaw1_FixEdges.j0 k a2 (shl .u64 1 (ji6)) (shl .u64 1 (Int.tmod (wrap64 ((Int.tmod a1 64) + 64)) 64)) (shl .u64 1 (wrap64 ((ji6) + (Int.tmod (wrap64 ((Int.tmod a1 64) + 64)) 64))))) else (none)) else (muleteerlaw1_FixEdges.j0 k a2 (shl .u64 1 (ji6)) (shl .u64 1 (Int.tmod (wrap64 ((Int.tmod a1 64) + 64)) 64)) 18446744073709551615)) else (none)) else (none)) = some r := by first | (rw [hji6] at H; exact H) | (simp only [hji6] at H ⊢; exact H)
    (try rw [hji6] at A4)
    by_cases c7 : 0 ≤ (ji6)
    · rw [if_pos c7] at H
      have c7b0 := eq_true c7
      have c7b1 : decide (0 ≤ (ji6)) = true := decide_eq_true c7
      clear c7
      obtain ⟨ji8, hji8⟩ : ∃ j_ : Int, (shl .u64 1 (ji6)) = j_ := ⟨_, rfl⟩
      replace H : (if 0 ≤ (Int.tmod (wrap64 ((Int.tmod a1 64) + 64)) 64) then (if (wrap64 ((ji6) + (Int.tmod (wrap64 ((Int.tmod a1 64) + 64)) 64))) < 64 then (if 0 ≤ (wrap64 ((ji6) + (Int.tmod (wrap64 ((Int.tmod a1 64) + 64)) 64))) then (muleteerlaw1_FixEdges.j0 k a2 ji8 (shl .u64 1 (Int.tmod (wrap64 ((Int.tmod a1 64) + 64)) 64)) (shl .u64 1 (wrap64 ((ji6) + (Int.tmod (wrap64 ((Int.tmod a1 64) + 64)) 64))))) else (none)) else (muleteerlaw1_FixEdges.j0 k a2 ji8 (shl .u64 1 (Int.tmod (wrap64 ((Int.tmod a1 64) + 64)) 64)) 18446744073709551615)) else (none)) = some r := by first | (rw [hji8] at H; exact H) | (simp only [hji8] at H ⊢; exact H)
      (try rw [hji8] at A4)
      have hji8_ : (IntKind.u64.wrap (1 * 2 ^ min (ji6).toNat 64)) = ji8 := hji8
      have hji8z : (ji6) ≤ 64 → (IntKind.u64.wrap (1 * 2 ^ (ji6).toNat)) = ji8 := shl_small hji8
      have hji8u : (IntKind.u64.wrap (2 ^ min (ji6).toNat 64)) = ji8 := by have h_ := hji8_; rw [Int.one_mul] at h_; exact h_
      have hji8v : (ji6) ≤ 64 → (IntKind.u64.wrap (2 ^ (ji6).toNat)) = ji8 := fun hle_ => by have h_ := hji8z hle_; rw [Int.one_mul] at h_; exact h_
      obtain ⟨ji9, hji9⟩ : ∃ j_ : Int, (Int.tmod (wrap64 ((Int.tmod a1 64) + 64)) 64) = j_ := ⟨_, rfl⟩
      replace H : (if 0 ≤ (ji9) then (if (wrap64 ((ji6) + (ji9))) < 64 then (if 0 ≤ (wrap64 ((ji6) + (ji9))) then (muleteerlaw1_FixEdges.j0 k a2 ji8 (shl .u64 1 (ji9)) (shl .u64 1 (wrap64 ((ji6) + (ji9))))) else (none)) else (muleteerlaw1_FixEdges.j0 k a2 ji8 (shl .u64 1 (ji9)) 18446744073709551615)) else (none)) = some r := by first | (rw [hji9] at H; exact H) | (simp only [hji9] at H ⊢; exact H)
      (try rw [hji9] at A4)
      by_cases c10 : 0 ≤ (ji9)
      · rw [if_pos c10] at H
        have c10b0 := eq_true c10
        have c10b1 : decide (0 ≤ (ji9)) = true := decide_eq_true c10
        clear c10
        obtain ⟨ji11, hji11⟩ : ∃ j_ : Int, (shl .u64 1 (ji9)) = j_ := ⟨_, rfl⟩
        replace H : (if (wrap64 ((ji6) + (ji9))) < 64 then (if 0 ≤ (wrap64 ((ji6) + (ji9))) then (muleteerlaw1_FixEdges.j0 k a2 ji8 ji11 (shl .u64 1 (wrap64 ((ji6) + (ji9))))) else (none)) else (muleteerlaw1_FixEdges.j0 k a2 ji8 ji11 18446744073709551615)) = some r := by first | (rw [hji11] at H; exact H) | (simp only [hji11] at H ⊢; exact H)
        (try rw [hji11] at A4)
        have hji11_ : (IntKind.u64.wrap (1 * 2 ^ min (ji9).toNat 64)) = ji11 := hji11
        have hji11z : (ji9) ≤ 64 → (IntKind.u64.wrap (1 * 2 ^ (ji9).toNat)) = ji11 := shl_small hji11
        have hji11u : (IntKind.u64.wrap (2 ^ min (ji9).toNat 64)) = ji11 := by have h_ := hji11_; rw [Int.one_mul] at h_; exact h_
        have hji11v : (ji9) ≤ 64 → (IntKind.u64.wrap (2 ^ (ji9).toNat)) = ji11 := fun hle_ => by have h_ := hji11z hle_; rw [Int.one_mul] at h_; exact h_
        have HC12 := Aside0.mk H
        clear H
        go_enter Tryz.func6, Tryz.ntmps6
        go_upto_if 29 with (first | (go_at_call 15; (with_reducible refine (muleteerlaw1_begun.calls  true _ A4.out).mono ?_); rintro e w13 ⟨rfl, hb⟩; have n0_ := Aside0.mk (below_step (by repeat (first | (with_reducible first | exact HB.out | apply below_alloc | apply pw_below_drewN | apply below_drew1) | exact HB.out)) hb); clear HB; have HB := n0_; clear n0_; (try clear hb); (try clear hb2); (try clear hk); (try clear hi)))
        repeat (go_quiet (first | (go_at_call 15; (with_reducible refine (muleteerlaw1_begun.calls  true _ A4.out).mono ?_); rintro e w13 ⟨rfl, hb⟩; have n0_ := Aside0.mk (below_step (by repeat (first | (with_reducible first | exact HB.out | apply below_alloc | apply pw_below_drewN | apply below_drew1) | exact HB.out)) hb); clear HB; have HB := n0_; clear n0_; (try clear hb); (try clear hb2); (try clear hk); (try clear hi))); go_upto_if 29 with (first | (go_at_call 15; (with_reducible refine (muleteerlaw1_begun.calls  true _ A4.out).mono ?_); rintro e w13 ⟨rfl, hb⟩; have n0_ := Aside0.mk (below_step (by repeat (first | (with_reducible first | exact HB.out | apply below_alloc | apply pw_below_drewN | apply below_drew1) | exact HB.out)) hb); clear HB; have HB := n0_; clear n0_; (try clear hb); (try clear hb2); (try clear hk); (try clear hi))))
        (try simp only [Act.put, List.setIfInBounds_toArray, List.set_cons_zero, List.set_cons_succ])
        go_cut [10] (fun v10 wc => ∃ (kq : Nat) (x10_11 : Int), v10 = .int .u64 x10_11 ∧ Aside0 (muleteerlaw1_FixEdges.j0 kq a2 ji8 ji11 x10_11 = some r) ∧ Aside0 (kq ≤ k) ∧ Aside0 (Below w.heap.size w wc))
        case first =>
          have H := HC12.out
          clear HC12
          by_cases c14 : (wrap64 ((ji6) + (ji9))) < 64
          · rw [if_pos c14] at H
            have c14b0 : decide ((wrap64 ((ji6) + (ji9))) < 64) = true := decide_eq_true c14
            clear c14
            (first | rw [c14b0] | (simp only [i64_w, i32_w]; rw [c14b0]) | skip)
            obtain ⟨ji15, hji15⟩ : ∃ j_ : Int, (wrap64 ((ji6) + (ji9))) = j_ := ⟨_, rfl⟩
            replace H : (if 0 ≤ (ji15) then (muleteerlaw1_FixEdges.j0 k a2 ji8 ji11 (shl .u64 1 (ji15))) else (none)) = some r := by first | (rw [hji15] at H; exact H) | (simp only [hji15] at H ⊢; exact H)
            (try rw [hji15] at c14b0)
            have hji15w : (IntKind.i64.wrap ((ji6) + (ji9))) = ji15 := (i64_w _).trans hji15
            by_cases c16 : 0 ≤ (ji15)
            · rw [if_pos c16] at H
              have c16b0 := eq_true c16
              have c16b1 : decide (0 ≤ (ji15)) = true := decide_eq_true c16
              clear c16
              obtain ⟨ji17, hji17⟩ : ∃ j_ : Int, (shl .u64 1 (ji15)) = j_ := ⟨_, rfl⟩
              replace H : (muleteerlaw1_FixEdges.j0 k a2 ji8 ji11 ji17) = some r := by first | (rw [hji17] at H; exact H) | (simp only [hji17] at H ⊢; exact H)
              have hji17_ : (IntKind.u64.wrap (1 * 2 ^ min (ji15).toNat 64)) = ji17 := hji17
              have hji17z : (ji15) ≤ 64 → (IntKind.u64.wrap (1 * 2 ^ (ji15).toNat)) = ji17 := shl_small hji17
              have hji17u : (IntKind.u64.wrap (2 ^ min (ji15).toNat 64)) = ji17 := by have h_ := hji17_; rw [Int.one_mul] at h_; exact h_
              have hji17v : (ji15) ≤ 64 → (IntKind.u64.wrap (2 ^ (ji15).toNat)) = ji17 := fun hle_ => by have h_ := hji17z hle_; rw [Int.one_mul] at h_; exact h_
              have H' := Aside0.mk H
              clear H
              go_wp2
              repeat (go_quiet (fail); try go_wp2)
              go_meet
              case rel => exact ⟨_, (ji17), (by first | rfl | (simp; done) | (simp only [← hji17] <;> (first | rfl | simp)) | (simp [*]; done)), H', ⟨by first | omega | exact Nat.le_refl _⟩, ⟨by repeat (first | (with_reducible first | exact HB.out | apply below_alloc | apply pw_below_drewN | apply below_drew1) | exact HB.out)⟩⟩
            · rw [if_neg c16] at H
              exact absurd H (by simp)
          · rw [if_neg c14] at H
            have c14b0 : decide ((wrap64 ((ji6) + (ji9))) < 64) = false := decide_eq_false c14
            clear c14
            (first | rw [c14b0] | (simp only [i64_w, i32_w]; rw [c14b0]) | skip)
            have H' := Aside0.mk H
            clear H
            go_wp2
            repeat (go_quiet (fail); try go_wp2)
            go_meet
            case rel => exact ⟨_, (18446744073709551615), (by first | rfl | (simp; done) | (simp [*]; done)), H', ⟨by first | omega | exact Nat.le_refl _⟩, ⟨by repeat (first | (with_reducible first | exact HB.out | apply below_alloc | apply pw_below_drewN | apply below_drew1) | exact HB.out)⟩⟩
        case rest =>
          clear HC12
          try clear c1
          try clear p2
          try clear c5
          try clear c6
          try clear p6
          try clear c7
          try clear c7b0
          try clear c7b1
          try clear c10
          try clear c10b0
          try clear c10b1
          try clear c14
          try clear c14b0
          try clear c16
          try clear c16b0
          try clear c16b1
          obtain ⟨kq, x10_11, rfl, HA, HJ11, HB⟩ := hcut
          cases kq with
          | zero => exact absurd HA.out (by simp [muleteerlaw1_FixEdges.j0])
          | succ kj11 =>
            have H := HA.out
            clear HA
            simp only [muleteerlaw1_FixEdges.j0] at H
            have HC18 := Aside0.mk H
            clear H
            go_upto_region 9 with (fail)
            repeat (go_quiet (fail); go_upto_region 9 with (fail))
            go_cut [54] (fun v54 wc => ∃ (kq : Nat) (x54_17 : Bool), v54 = .bool x54_17 ∧ Aside0 (muleteerlaw1_FixEdges.j1 kq a2 ji8 ji11 x54_17 = some r) ∧ Aside0 (kq ≤ kj11) ∧ Aside0 (Below w.heap.size w wc))
            case first =>
              have H := HC18.out
              clear HC18
              replace H := Option.bind_eq_some_iff.mp H
              obtain ⟨t104, A190, H⟩ := H
              replace H : (if t104 = x10_11 then ((fix_Add.f (IntKind.u64.wrap (18446744073709551615 - a2)) a2).bind fun t105 => (if t105 = 18446744073709551615 then ((fix_Sub.f a2 18446744073709551615).bind fun t106 => (if t106 = 0 then (muleteerlaw1_FixEdges.j1 kj11 a2 ji8 ji11 false) else (muleteerlaw1_FixEdges.j1 kj11 a2 ji8 ji11 (a2 != 18446744073709551615)))) else (muleteerlaw1_FixEdges.j1 kj11 a2 ji8 ji11 true))) else (muleteerlaw1_FixEdges.j1 kj11 a2 ji8 ji11 true)) = some r := H
              have A19 := Aside0.mk A190
              clear A190
              by_cases c20 : t104 = x10_11
              · rw [if_pos c20] at H
                have c20b0 : (t104 == x10_11) = true := beq_iff_eq.mpr c20
                have c20b1 : (t104 != x10_11) = false := bne_eq_false_iff_eq.mpr c20
                clear c20
                (first | rw [c20b0] | (simp only [i64_w, i32_w]; rw [c20b0]) | skip)
                replace H := Option.bind_eq_some_iff.mp H
                obtain ⟨t105, A210, H⟩ := H
                replace H : (if t105 = 18446744073709551615 then ((fix_Sub.f a2 18446744073709551615).bind fun t106 => (if t106 = 0 then (muleteerlaw1_FixEdges.j1 kj11 a2 ji8 ji11 false) else (muleteerlaw1_FixEdges.j1 kj11 a2 ji8 ji11 (a2 != 18446744073709551615)))) else (muleteerlaw1_FixEdges.j1 kj11 a2 ji8 ji11 true)) = some r := H
                have A21 := Aside0.mk A210
                clear A210
                by_cases c22 : t105 = 18446744073709551615
                · rw [if_pos c22] at H
                  have c22b0 : (t105 == 18446744073709551615) = true := beq_iff_eq.mpr c22
                  have c22b1 : (t105 != 18446744073709551615) = false := bne_eq_false_iff_eq.mpr c22
                  clear c22
                  replace H := Option.bind_eq_some_iff.mp H
                  obtain ⟨t106, A230, H⟩ := H
                  replace H : (if t106 = 0 then (muleteerlaw1_FixEdges.j1 kj11 a2 ji8 ji11 false) else (muleteerlaw1_FixEdges.j1 kj11 a2 ji8 ji11 (a2 != 18446744073709551615))) = some r := H
                  have A23 := Aside0.mk A230
                  clear A230
                  by_cases c24 : t106 = 0
                  · rw [if_pos c24] at H
                    have c24b0 : (t106 == 0) = true := beq_iff_eq.mpr c24
                    have c24b1 : (t106 != 0) = false := bne_eq_false_iff_eq.mpr c24
                    clear c24
                    have H' := Aside0.mk H
                    clear H
                    go_wp2_with (first | (go_at_call 24; (with_reducible refine (fix_Mul.calls ji8 ji11 t104 _ A19.out).mono ?_); rintro e w' ⟨rfl, ⟨nd, rfl⟩⟩; (try first | exact ⟨rfl, _, World.drewN_drewN _ _ _⟩ | exact ⟨rfl, _, Eq.trans (World.drewN_drewN _ _ _) (congrArg (World.drewN _) (Nat.add_assoc _ _ _))⟩)) | (go_at_call 20; (with_reducible refine (fix_Add.calls (IntKind.u64.wrap (18446744073709551615 - a2)) a2 t105 _ A21.out).mono ?_); rintro e w' ⟨rfl, ⟨nd, rfl⟩⟩; (try first | exact ⟨rfl, _, World.drewN_drewN _ _ _⟩ | exact ⟨rfl, _, Eq.trans (World.drewN_drewN _ _ _) (congrArg (World.drewN _) (Nat.add_assoc _ _ _))⟩)) | (go_at_call 22; (with_reducible refine (fix_Sub.calls a2 18446744073709551615 t106 _ A23.out).mono ?_); rintro e w25 ⟨rfl, hb⟩; have n0_ := Aside0.mk (below_step (by repeat (first | (with_reducible first | exact HB.out | apply below_alloc | apply pw_below_drewN | apply below_drew1) | exact HB.out)) hb); clear HB; have HB := n0_; clear n0_; (try clear hb); (try clear hb2); (try clear hk); (try clear hi)))
                    repeat (go_quiet (first | (go_at_call 24; (with_reducible refine (fix_Mul.calls ji8 ji11 t104 _ A19.out).mono ?_); rintro e w' ⟨rfl, ⟨nd, rfl⟩⟩; (try first | exact ⟨rfl, _, World.drewN_drewN _ _ _⟩ | exact ⟨rfl, _, Eq.trans (World.drewN_drewN _ _ _) (congrArg (World.drewN _) (Nat.add_assoc _ _ _))⟩)) | (go_at_call 20; (with_reducible refine (fix_Add.calls (IntKind.u64.wrap (18446744073709551615 - a2)) a2 t105 _ A21.out).mono ?_); rintro e w' ⟨rfl, ⟨nd, rfl⟩⟩; (try first | exact ⟨rfl, _, World.drewN_drewN _ _ _⟩ | exact ⟨rfl, _, Eq.trans (World.drewN_drewN _ _ _) (congrArg (World.drewN _) (Nat.add_assoc _ _ _))⟩)) | (go_at_call 22; (with_reducible refine (fix_Sub.calls a2 18446744073709551615 t106 _ A23.out).mono ?_); rintro e w25 ⟨rfl, hb⟩; have n0_ := Aside0.mk (below_step (by repeat (first | (with_reducible first | exact HB.out | apply below_alloc | apply pw_below_drewN | apply below_drew1) | exact HB.out)) hb); clear HB; have HB := n0_; clear n0_; (try clear hb); (try clear hb2); (try clear hk); (try clear hi))); try go_wp2_with (first | (go_at_call 24; (with_reducible refine (fix_Mul.calls ji8 ji11 t104 _ A19.out).mono ?_); rintro e w' ⟨rfl, ⟨nd, rfl⟩⟩; (try first | exact ⟨rfl, _, World.drewN_drewN _ _ _⟩ | exact ⟨rfl, _, Eq.trans (World.drewN_drewN _ _ _) (congrArg (World.drewN _) (Nat.add_assoc _ _ _))⟩)) | (go_at_call 20; (with_reducible refine (fix_Add.calls (IntKind.u64.wrap (18446744073709551615 - a2)) a2 t105 _ A21.out).mono ?_); rintro e w' ⟨rfl, ⟨nd, rfl⟩⟩; (try first | exact ⟨rfl, _, World.drewN_drewN _ _ _⟩ | exact ⟨rfl, _, Eq.trans (World.drewN_drewN _ _ _) (congrArg (World.drewN _) (Nat.add_assoc _ _ _))⟩)) | (go_at_call 22; (with_reducible refine (fix_Sub.calls a2 18446744073709551615 t106 _ A23.out).mono ?_); rintro e w25 ⟨rfl, hb⟩; have n0_ := Aside0.mk (below_step (by repeat (first | (with_reducible first | exact HB.out | apply below_alloc | apply pw_below_drewN | apply below_drew1) | exact HB.out)) hb); clear HB; have HB := n0_; clear n0_; (try clear hb); (try clear hb2); (try clear hk); (try clear hi))))
                    go_meet
                    case rel => exact ⟨_, (false), (by first | rfl | (simp; done) | (simp [*]; done)), H', ⟨by have := HJ11.out; first | omega | exact Nat.le_refl _⟩, ⟨by repeat (first | (with_reducible first | exact HB.out | apply below_alloc | apply pw_below_drewN | apply below_drew1) | exact HB.out)⟩⟩
                  · rw [if_neg c24] at H
                    have c24b0 : (t106 == 0) = false := beq_eq_false_iff_ne.mpr c24
                    have c24b1 : (t106 != 0) = true := bne_iff_ne.mpr c24
                    have H' := Aside0.mk H
                    clear H
                    go_wp2_with (first | (go_at_call 24; (with_reducible refine (fix_Mul.calls ji8 ji11 t104 _ A19.out).mono ?_); rintro e w' ⟨rfl, ⟨nd, rfl⟩⟩; (try first | exact ⟨rfl, _, World.drewN_drewN _ _ _⟩ | exact ⟨rfl, _, Eq.trans (World.drewN_drewN _ _ _) (congrArg (World.drewN _) (Nat.add_assoc _ _ _))⟩)) | (go_at_call 20; (with_reducible refine (fix_Add.calls (IntKind.u64.wrap (18446744073709551615 - a2)) a2 t105 _ A21.out).mono ?_); rintro e w' ⟨rfl, ⟨nd, rfl⟩⟩; (try first | exact ⟨rfl, _, World.drewN_drewN _ _ _⟩ | exact ⟨rfl, _, Eq.trans (World.drewN_drewN _ _ _) (congrArg (World.drewN _) (Nat.add_assoc _ _ _))⟩)) | (go_at_call 22; (with_reducible refine (fix_Sub.calls a2 18446744073709551615 t106 _ A23.out).mono ?_); rintro e w26 ⟨rfl, hb⟩; have n0_ := Aside0.mk (below_step (by repeat (first | (with_reducible first | exact HB.out | apply below_alloc | apply pw_below_drewN | apply below_drew1) | exact HB.out)) hb); clear HB; have HB := n0_; clear n0_; (try clear hb); (try clear hb2); (try clear hk); (try clear hi)))
                    repeat (go_quiet (first | (go_at_call 24; (with_reducible refine (fix_Mul.calls ji8 ji11 t104 _ A19.out).mono ?_); rintro e w' ⟨rfl, ⟨nd, rfl⟩⟩; (try first | exact ⟨rfl, _, World.drewN_drewN _ _ _⟩ | exact ⟨rfl, _, Eq.trans (World.drewN_drewN _ _ _) (congrArg (World.drewN _) (Nat.add_assoc _ _ _))⟩)) | (go_at_call 20; (with_reducible refine (fix_Add.calls (IntKind.u64.wrap (18446744073709551615 - a2)) a2 t105 _ A21.out).mono ?_); rintro e w' ⟨rfl, ⟨nd, rfl⟩⟩; (try first | exact ⟨rfl, _, World.drewN_drewN _ _ _⟩ | exact ⟨rfl, _, Eq.trans (World.drewN_drewN _ _ _) (congrArg (World.drewN _) (Nat.add_assoc _ _ _))⟩)) | (go_at_call 22; (with_reducible refine (fix_Sub.calls a2 18446744073709551615 t106 _ A23.out).mono ?_); rintro e w26 ⟨rfl, hb⟩; have n0_ := Aside0.mk (below_step (by repeat (first | (with_reducible first | exact HB.out | apply below_alloc | apply pw_below_drewN | apply below_drew1) | exact HB.out)) hb); clear HB; have HB := n0_; clear n0_; (try clear hb); (try clear hb2); (try clear hk); (try clear hi))); try go_wp2_with (first | (go_at_call 24; (with_reducible refine (fix_Mul.calls ji8 ji11 t104 _ A19.out).mono ?_); rintro e w' ⟨rfl, ⟨nd, rfl⟩⟩; (try first | exact ⟨rfl, _, World.drewN_drewN _ _ _⟩ | exact ⟨rfl, _, Eq.trans (World.drewN_drewN _ _ _) (congrArg (World.drewN _) (Nat.add_assoc _ _ _))⟩)) | (go_at_call 20; (with_reducible refine (fix_Add.calls (IntKind.u64.wrap (18446744073709551615 - a2)) a2 t105 _ A21.out).mono ?_); rintro e w' ⟨rfl, ⟨nd, rfl⟩⟩; (try first | exact ⟨rfl, _, World.drewN_drewN _ _ _⟩ | exact ⟨rfl, _, Eq.trans (World.drewN_drewN _ _ _) (congrArg (World.drewN _) (Nat.add_assoc _ _ _))⟩)) | (go_at_call 22; (with_reducible refine (fix_Sub.calls a2 18446744073709551615 t106 _ A23.out).mono ?_); rintro e w26 ⟨rfl, hb⟩; have n0_ := Aside0.mk (below_step (by repeat (first | (with_reducible first | exact HB.out | apply below_alloc | apply pw_below_drewN | apply below_drew1) | exact HB.out)) hb); clear HB; have HB := n0_; clear n0_; (try clear hb); (try clear hb2); (try clear hk); (try clear hi))))
                    go_meet
                    case rel => exact ⟨_, ((a2 != 18446744073709551615)), (by first | rfl | (simp; done) | (simp [*]; done)), H', ⟨by have := HJ11.out; first | omega | exact Nat.le_refl _⟩, ⟨by repeat (first | (with_reducible first | exact HB.out | apply below_alloc | apply pw_below_drewN | apply below_drew1) | exact HB.out)⟩⟩
                · rw [if_neg c22] at H
                  have c22b0 : (t105 == 18446744073709551615) = false := beq_eq_false_iff_ne.mpr c22
                  have c22b1 : (t105 != 18446744073709551615) = true := bne_iff_ne.mpr c22
                  have H' := Aside0.mk H
                  clear H
                  go_wp2_with (first | (go_at_call 24; (with_reducible refine (fix_Mul.calls ji8 ji11 t104 _ A19.out).mono ?_); rintro e w' ⟨rfl, ⟨nd, rfl⟩⟩; (try first | exact ⟨rfl, _, World.drewN_drewN _ _ _⟩ | exact ⟨rfl, _, Eq.trans (World.drewN_drewN _ _ _) (congrArg (World.drewN _) (Nat.add_assoc _ _ _))⟩)) | (go_at_call 20; (with_reducible refine (fix_Add.calls (IntKind.u64.wrap (18446744073709551615 - a2)) a2 t105 _ A21.out).mono ?_); rintro e w' ⟨rfl, ⟨nd, rfl⟩⟩; (try first | exact ⟨rfl, _, World.drewN_drewN _ _ _⟩ | exact ⟨rfl, _, Eq.trans (World.drewN_drewN _ _ _) (congrArg (World.drewN _) (Nat.add_assoc _ _ _))⟩)))
                  repeat (go_quiet (first | (go_at_call 24; (with_reducible refine (fix_Mul.calls ji8 ji11 t104 _ A19.out).mono ?_); rintro e w' ⟨rfl, ⟨nd, rfl⟩⟩; (try first | exact ⟨rfl, _, World.drewN_drewN _ _ _⟩ | exact ⟨rfl, _, Eq.trans (World.drewN_drewN _ _ _) (congrArg (World.drewN _) (Nat.add_assoc _ _ _))⟩)) | (go_at_call 20; (with_reducible refine (fix_Add.calls (IntKind.u64.wrap (18446744073709551615 - a2)) a2 t105 _ A21.out).mono ?_); rintro e w' ⟨rfl, ⟨nd, rfl⟩⟩; (try first | exact ⟨rfl, _, World.drewN_drewN _ _ _⟩ | exact ⟨rfl, _, Eq.trans (World.drewN_drewN _ _ _) (congrArg (World.drewN _) (Nat.add_assoc _ _ _))⟩))); try go_wp2_with (first | (go_at_call 24; (with_reducible refine (fix_Mul.calls ji8 ji11 t104 _ A19.out).mono ?_); rintro e w' ⟨rfl, ⟨nd, rfl⟩⟩; (try first | exact ⟨rfl, _, World.drewN_drewN _ _ _⟩ | exact ⟨rfl, _, Eq.trans (World.drewN_drewN _ _ _) (congrArg (World.drewN _) (Nat.add_assoc _ _ _))⟩)) | (go_at_call 20; (with_reducible refine (fix_Add.calls (IntKind.u64.wrap (18446744073709551615 - a2)) a2 t105 _ A21.out).mono ?_); rintro e w' ⟨rfl, ⟨nd, rfl⟩⟩; (try first | exact ⟨rfl, _, World.drewN_drewN _ _ _⟩ | exact ⟨rfl, _, Eq.trans (World.drewN_drewN _ _ _) (congrArg (World.drewN _) (Nat.add_assoc _ _ _))⟩))))
                  go_meet
                  case rel => exact ⟨_, (true), (by first | rfl | (simp; done) | (simp [*]; done)), H', ⟨by have := HJ11.out; first | omega | exact Nat.le_refl _⟩, ⟨by repeat (first | (with_reducible first | exact HB.out | apply below_alloc | apply pw_below_drewN | apply below_drew1) | exact HB.out)⟩⟩
              · rw [if_neg c20] at H
                have c20b0 : (t104 == x10_11) = false := beq_eq_false_iff_ne.mpr c20
                have c20b1 : (t104 != x10_11) = true := bne_iff_ne.mpr c20
                (first | rw [c20b0] | (simp only [i64_w, i32_w]; rw [c20b0]) | skip)
                have H' := Aside0.mk H
                clear H
                go_wp2_with (first | (go_at_call 24; (with_reducible refine (fix_Mul.calls ji8 ji11 t104 _ A19.out).mono ?_); rintro e w' ⟨rfl, ⟨nd, rfl⟩⟩; (try first | exact ⟨rfl, _, World.drewN_drewN _ _ _⟩ | exact ⟨rfl, _, Eq.trans (World.drewN_drewN _ _ _) (congrArg (World.drewN _) (Nat.add_assoc _ _ _))⟩)))
                repeat (go_quiet (first | (go_at_call 24; (with_reducible refine (fix_Mul.calls ji8 ji11 t104 _ A19.out).mono ?_); rintro e w' ⟨rfl, ⟨nd, rfl⟩⟩; (try first | exact ⟨rfl, _, World.drewN_drewN _ _ _⟩ | exact ⟨rfl, _, Eq.trans (World.drewN_drewN _ _ _) (congrArg (World.drewN _) (Nat.add_assoc _ _ _))⟩))); try go_wp2_with (first | (go_at_call 24; (with_reducible refine (fix_Mul.calls ji8 ji11 t104 _ A19.out).mono ?_); rintro e w' ⟨rfl, ⟨nd, rfl⟩⟩; (try first | exact ⟨rfl, _, World.drewN_drewN _ _ _⟩ | exact ⟨rfl, _, Eq.trans (World.drewN_drewN _ _ _) (congrArg (World.drewN _) (Nat.add_assoc _ _ _))⟩))))
                go_meet
                case rel => exact ⟨_, (true), (by first | rfl | (simp; done) | (simp [*]; done)), H', ⟨by have := HJ11.out; first | omega | exact Nat.le_refl _⟩, ⟨by repeat (first | (with_reducible first | exact HB.out | apply below_alloc | apply pw_below_drewN | apply below_drew1) | exact HB.out)⟩⟩
            case rest =>
              clear HC18
              try clear c1
              try clear c2
              try clear p2
              try clear c5
              try clear c6
              try clear p6
              try clear c7
              try clear c7b0
              try clear c7b1
              try clear c10
              try clear c10b0
              try clear c10b1
              try clear c14
              try clear c14b0
              try clear c16
              try clear c16b0
              try clear c16b1
              try clear c20
              try clear c20b0
              try clear c20b1
              try clear c22
              try clear c22b0
              try clear c22b1
              try clear c24
              try clear c24b0
              try clear c24b1
              try clear p2
              try clear p6
              obtain ⟨kq, x54_17, rfl, HA, HJ17, HB⟩ := hcut
              cases kq with
              | zero => exact absurd HA.out (by simp [muleteerlaw1_FixEdges.j1])
              | succ kj17 =>
                have H := HA.out
                clear HA
                simp only [muleteerlaw1_FixEdges.j1] at H
                by_cases c27 : x54_17 = true
                · subst c27
                  have H1 : (some false) = some r := by rw [if_pos rfl] at H; exact H
                  clear H
                  have H := H1
                  clear H1
                  obtain rfl := Option.some.inj H
                  go_wp2
                  repeat (go_quiet (fail); try go_wp2)
                  go_ret
                  exact ⟨by first | rfl | (simp [errW_none, errW_some] <;> rfl) | (simp only [← hji6, ← hji8, ← hji9, ← hji11]; first | rfl | (simp [errW_none, errW_some] <;> rfl)) | (simp [*, errW_none, errW_some] <;> rfl), by repeat (first | (with_reducible first | exact HB.out | apply below_alloc | apply pw_below_drewN | apply below_drew1) | exact HB.out)⟩
                · replace c27 := Bool.eq_false_iff.mpr c27
                  subst c27
                  have H1 : ((fix_MulDiv.f ji8 ji11 ji11).bind fun t107 => (if t107 = ji8 then ((fix_MulDiv.f ji8 a2 1).bind fun t108 => ((fix_Mul.f ji8 a2).bind fun t109 => (if t108 = t109 then ((fix_SqrtMul.f ji8 ji8).bind fun t110 => (if t110 = ji8 then (if a2 = 0 then (some true) else ((fix_MulDiv.f a2 a2 a2).bind fun t111 => (some (t111 == a2)))) else (some false))) else (some false)))) else (some false))) = some r := by rw [if_neg (show ¬ (false = true) by decide)] at H; exact H
                  clear H
                  have H := H1
                  clear H1
                  replace H := Option.bind_eq_some_iff.mp H
                  obtain ⟨t107, A280, H⟩ := H
                  replace H : (if t107 = ji8 then ((fix_MulDiv.f ji8 a2 1).bind fun t108 => ((fix_Mul.f ji8 a2).bind fun t109 => (if t108 = t109 then ((fix_SqrtMul.f ji8 ji8).bind fun t110 => (if t110 = ji8 then (if a2 = 0 then (some true) else ((fix_MulDiv.f a2 a2 a2).bind fun t111 => (some (t111 == a2)))) else (some false))) else (some false)))) else (some false)) = some r := H
                  have A28 := Aside0.mk A280
                  clear A280
                  by_cases c29 : t107 = ji8
                  · rw [if_pos c29] at H
                    have c29b0 : (t107 == ji8) = true := beq_iff_eq.mpr c29
                    have c29b1 : (t107 != ji8) = false := bne_eq_false_iff_eq.mpr c29
                    clear c29
                    replace H := Option.bind_eq_some_iff.mp H
                    obtain ⟨t108, A300, H⟩ := H
                    replace H : ((fix_Mul.f ji8 a2).bind fun t109 => (if t108 = t109 then ((fix_SqrtMul.f ji8 ji8).bind fun t110 => (if t110 = ji8 then (if a2 = 0 then (some true) else ((fix_MulDiv.f a2 a2 a2).bind fun t111 => (some (t111 == a2)))) else (some false))) else (some false))) = some r := H
                    have A30 := Aside0.mk A300
                    clear A300
                    replace H := Option.bind_eq_some_iff.mp H
                    obtain ⟨t109, A310, H⟩ := H
                    replace H : (if t108 = t109 then ((fix_SqrtMul.f ji8 ji8).bind fun t110 => (if t110 = ji8 then (if a2 = 0 then (some true) else ((fix_MulDiv.f a2 a2 a2).bind fun t111 => (some (t111 == a2)))) else (some false))) else (some false)) = some r := H
                    have A31 := Aside0.mk A310
                    clear A310
                    by_cases c32 : t108 = t109
                    · rw [if_pos c32] at H
                      have c32b0 : (t108 == t109) = true := beq_iff_eq.mpr c32
                      have c32b1 : (t108 != t109) = false := bne_eq_false_iff_eq.mpr c32
                      clear c32
                      replace H := Option.bind_eq_some_iff.mp H
                      obtain ⟨t110, A330, H⟩ := H
                      replace H : (if t110 = ji8 then (if a2 = 0 then (some true) else ((fix_MulDiv.f a2 a2 a2).bind fun t111 => (some (t111 == a2)))) else (some false)) = some r := H
                      have A33 := Aside0.mk A330
                      clear A330
                      by_cases c34 : t110 = ji8
                      · rw [if_pos c34] at H
                        have c34b0 : (t110 == ji8) = true := beq_iff_eq.mpr c34
                        have c34b1 : (t110 != ji8) = false := bne_eq_false_iff_eq.mpr c34
                        clear c34
                        by_cases c35 : a2 = 0
                        · rw [if_pos c35] at H
                          have c35b0 : (a2 == 0) = true := beq_iff_eq.mpr c35
                          have c35b1 : (a2 != 0) = false := bne_eq_false_iff_eq.mpr c35
                          clear c35
                          obtain rfl := Option.some.inj H
                          go_wp2_with (first | (go_at_call 19; (with_reducible refine (fix_MulDiv.calls ji8 ji11 ji11 t107 _ A28.out).mono ?_); rintro e w' ⟨rfl, ⟨nd, rfl⟩⟩; (try first | exact ⟨rfl, _, World.drewN_drewN _ _ _⟩ | exact ⟨rfl, _, Eq.trans (World.drewN_drewN _ _ _) (congrArg (World.drewN _) (Nat.add_assoc _ _ _))⟩)) | (go_at_call 19; (with_reducible refine (fix_MulDiv.calls ji8 a2 1 t108 _ A30.out).mono ?_); rintro e w' ⟨rfl, ⟨nd, rfl⟩⟩; (try first | exact ⟨rfl, _, World.drewN_drewN _ _ _⟩ | exact ⟨rfl, _, Eq.trans (World.drewN_drewN _ _ _) (congrArg (World.drewN _) (Nat.add_assoc _ _ _))⟩)) | (go_at_call 24; (with_reducible refine (fix_Mul.calls ji8 a2 t109 _ A31.out).mono ?_); rintro e w' ⟨rfl, ⟨nd, rfl⟩⟩; (try first | exact ⟨rfl, _, World.drewN_drewN _ _ _⟩ | exact ⟨rfl, _, Eq.trans (World.drewN_drewN _ _ _) (congrArg (World.drewN _) (Nat.add_assoc _ _ _))⟩)) | (go_at_call 16; (with_reducible refine (fix_SqrtMul.calls ji8 ji8 t110 _ A33.out).mono ?_); rintro e w' ⟨rfl, ⟨nd, rfl⟩⟩; (try first | exact ⟨rfl, _, World.drewN_drewN _ _ _⟩ | exact ⟨rfl, _, Eq.trans (World.drewN_drewN _ _ _) (congrArg (World.drewN _) (Nat.add_assoc _ _ _))⟩)))
                          repeat (go_quiet (first | (go_at_call 19; (with_reducible refine (fix_MulDiv.calls ji8 ji11 ji11 t107 _ A28.out).mono ?_); rintro e w' ⟨rfl, ⟨nd, rfl⟩⟩; (try first | exact ⟨rfl, _, World.drewN_drewN _ _ _⟩ | exact ⟨rfl, _, Eq.trans (World.drewN_drewN _ _ _) (congrArg (World.drewN _) (Nat.add_assoc _ _ _))⟩)) | (go_at_call 19; (with_reducible refine (fix_MulDiv.calls ji8 a2 1 t108 _ A30.out).mono ?_); rintro e w' ⟨rfl, ⟨nd, rfl⟩⟩; (try first | exact ⟨rfl, _, World.drewN_drewN _ _ _⟩ | exact ⟨rfl, _, Eq.trans (World.drewN_drewN _ _ _) (congrArg (World.drewN _) (Nat.add_assoc _ _ _))⟩)) | (go_at_call 24; (with_reducible refine (fix_Mul.calls ji8 a2 t109 _ A31.out).mono ?_); rintro e w' ⟨rfl, ⟨nd, rfl⟩⟩; (try first | exact ⟨rfl, _, World.drewN_drewN _ _ _⟩ | exact ⟨rfl, _, Eq.trans (World.drewN_drewN _ _ _) (congrArg (World.drewN _) (Nat.add_assoc _ _ _))⟩)) | (go_at_call 16; (with_reducible refine (fix_SqrtMul.calls ji8 ji8 t110 _ A33.out).mono ?_); rintro e w' ⟨rfl, ⟨nd, rfl⟩⟩; (try first | exact ⟨rfl, _, World.drewN_drewN _ _ _⟩ | exact ⟨rfl, _, Eq.trans (World.drewN_drewN _ _ _) (congrArg (World.drewN _) (Nat.add_assoc _ _ _))⟩))); try go_wp2_with (first | (go_at_call 19; (with_reducible refine (fix_MulDiv.calls ji8 ji11 ji11 t107 _ A28.out).mono ?_); rintro e w' ⟨rfl, ⟨nd, rfl⟩⟩; (try first | exact ⟨rfl, _, World.drewN_drewN _ _ _⟩ | exact ⟨rfl, _, Eq.trans (World.drewN_drewN _ _ _) (congrArg (World.drewN _) (Nat.add_assoc _ _ _))⟩)) | (go_at_call 19; (with_reducible refine (fix_MulDiv.calls ji8 a2 1 t108 _ A30.out).mono ?_); rintro e w' ⟨rfl, ⟨nd, rfl⟩⟩; (try first | exact ⟨rfl, _, World.drewN_drewN _ _ _⟩ | exact ⟨rfl, _, Eq.trans (World.drewN_drewN _ _ _) (congrArg (World.drewN _) (Nat.add_assoc _ _ _))⟩)) | (go_at_call 24; (with_reducible refine (fix_Mul.calls ji8 a2 t109 _ A31.out).mono ?_); rintro e w' ⟨rfl, ⟨nd, rfl⟩⟩; (try first | exact ⟨rfl, _, World.drewN_drewN _ _ _⟩ | exact ⟨rfl, _, Eq.trans (World.drewN_drewN _ _ _) (congrArg (World.drewN _) (Nat.add_assoc _ _ _))⟩)) | (go_at_call 16; (with_reducible refine (fix_SqrtMul.calls ji8 ji8 t110 _ A33.out).mono ?_); rintro e w' ⟨rfl, ⟨nd, rfl⟩⟩; (try first | exact ⟨rfl, _, World.drewN_drewN _ _ _⟩ | exact ⟨rfl, _, Eq.trans (World.drewN_drewN _ _ _) (congrArg (World.drewN _) (Nat.add_assoc _ _ _))⟩))))
                          go_ret
                          exact ⟨by first | rfl | (simp [errW_none, errW_some] <;> rfl) | (simp only [← hji6, ← hji8, ← hji9, ← hji11]; first | rfl | (simp [errW_none, errW_some] <;> rfl)) | (simp [*, errW_none, errW_some] <;> rfl), by repeat (first | (with_reducible first | exact HB.out | apply below_alloc | apply pw_below_drewN | apply below_drew1) | exact HB.out)⟩
                        · rw [if_neg c35] at H
                          have c35b0 : (a2 == 0) = false := beq_eq_false_iff_ne.mpr c35
                          have c35b1 : (a2 != 0) = true := bne_iff_ne.mpr c35
                          replace H := Option.bind_eq_some_iff.mp H
                          obtain ⟨t111, A360, H⟩ := H
                          replace H : (some (t111 == a2)) = some r := H
                          have A36 := Aside0.mk A360
                          clear A360
                          obtain rfl := Option.some.inj H
                          go_wp2_with (first | (go_at_call 19; (with_reducible refine (fix_MulDiv.calls ji8 ji11 ji11 t107 _ A28.out).mono ?_); rintro e w' ⟨rfl, ⟨nd, rfl⟩⟩; (try first | exact ⟨rfl, _, World.drewN_drewN _ _ _⟩ | exact ⟨rfl, _, Eq.trans (World.drewN_drewN _ _ _) (congrArg (World.drewN _) (Nat.add_assoc _ _ _))⟩)) | (go_at_call 19; (with_reducible refine (fix_MulDiv.calls ji8 a2 1 t108 _ A30.out).mono ?_); rintro e w' ⟨rfl, ⟨nd, rfl⟩⟩; (try first | exact ⟨rfl, _, World.drewN_drewN _ _ _⟩ | exact ⟨rfl, _, Eq.trans (World.drewN_drewN _ _ _) (congrArg (World.drewN _) (Nat.add_assoc _ _ _))⟩)) | (go_at_call 24; (with_reducible refine (fix_Mul.calls ji8 a2 t109 _ A31.out).mono ?_); rintro e w' ⟨rfl, ⟨nd, rfl⟩⟩; (try first | exact ⟨rfl, _, World.drewN_drewN _ _ _⟩ | exact ⟨rfl, _, Eq.trans (World.drewN_drewN _ _ _) (congrArg (World.drewN _) (Nat.add_assoc _ _ _))⟩)) | (go_at_call 16; (with_reducible refine (fix_SqrtMul.calls ji8 ji8 t110 _ A33.out).mono ?_); rintro e w' ⟨rfl, ⟨nd, rfl⟩⟩; (try first | exact ⟨rfl, _, World.drewN_drewN _ _ _⟩ | exact ⟨rfl, _, Eq.trans (World.drewN_drewN _ _ _) (congrArg (World.drewN _) (Nat.add_assoc _ _ _))⟩)) | (go_at_call 19; (with_reducible refine (fix_MulDiv.calls a2 a2 a2 t111 _ A36.out).mono ?_); rintro e w' ⟨rfl, ⟨nd, rfl⟩⟩; (try first | exact ⟨rfl, _, World.drewN_drewN _ _ _⟩ | exact ⟨rfl, _, Eq.trans (World.drewN_drewN _ _ _) (congrArg (World.drewN _) (Nat.add_assoc _ _ _))⟩)))
                          repeat (go_quiet (first | (go_at_call 19; (with_reducible refine (fix_MulDiv.calls ji8 ji11 ji11 t107 _ A28.out).mono ?_); rintro e w' ⟨rfl, ⟨nd, rfl⟩⟩; (try first | exact ⟨rfl, _, World.drewN_drewN _ _ _⟩ | exact ⟨rfl, _, Eq.trans (World.drewN_drewN _ _ _) (congrArg (World.drewN _) (Nat.add_assoc _ _ _))⟩)) | (go_at_call 19; (with_reducible refine (fix_MulDiv.calls ji8 a2 1 t108 _ A30.out).mono ?_); rintro e w' ⟨rfl, ⟨nd, rfl⟩⟩; (try first | exact ⟨rfl, _, World.drewN_drewN _ _ _⟩ | exact ⟨rfl, _, Eq.trans (World.drewN_drewN _ _ _) (congrArg (World.drewN _) (Nat.add_assoc _ _ _))⟩)) | (go_at_call 24; (with_reducible refine (fix_Mul.calls ji8 a2 t109 _ A31.out).mono ?_); rintro e w' ⟨rfl, ⟨nd, rfl⟩⟩; (try first | exact ⟨rfl, _, World.drewN_drewN _ _ _⟩ | exact ⟨rfl, _, Eq.trans (World.drewN_drewN _ _ _) (congrArg (World.drewN _) (Nat.add_assoc _ _ _))⟩)) | (go_at_call 16; (with_reducible refine (fix_SqrtMul.calls ji8 ji8 t110 _ A33.out).mono ?_); rintro e w' ⟨rfl, ⟨nd, rfl⟩⟩; (try first | exact ⟨rfl, _, World.drewN_drewN _ _ _⟩ | exact ⟨rfl, _, Eq.trans (World.drewN_drewN _ _ _) (congrArg (World.drewN _) (Nat.add_assoc _ _ _))⟩)) | (go_at_call 19; (with_reducible refine (fix_MulDiv.calls a2 a2 a2 t111 _ A36.out).mono ?_); rintro e w' ⟨rfl, ⟨nd, rfl⟩⟩; (try first | exact ⟨rfl, _, World.drewN_drewN _ _ _⟩ | exact ⟨rfl, _, Eq.trans (World.drewN_drewN _ _ _) (congrArg (World.drewN _) (Nat.add_assoc _ _ _))⟩))); try go_wp2_with (first | (go_at_call 19; (with_reducible refine (fix_MulDiv.calls ji8 ji11 ji11 t107 _ A28.out).mono ?_); rintro e w' ⟨rfl, ⟨nd, rfl⟩⟩; (try first | exact ⟨rfl, _, World.drewN_drewN _ _ _⟩ | exact ⟨rfl, _, Eq.trans (World.drewN_drewN _ _ _) (congrArg (World.drewN _) (Nat.add_assoc _ _ _))⟩)) | (go_at_call 19; (with_reducible refine (fix_MulDiv.calls ji8 a2 1 t108 _ A30.out).mono ?_); rintro e w' ⟨rfl, ⟨nd, rfl⟩⟩; (try first | exact ⟨rfl, _, World.drewN_drewN _ _ _⟩ | exact ⟨rfl, _, Eq.trans (World.drewN_drewN _ _ _) (congrArg (World.drewN _) (Nat.add_assoc _ _ _))⟩)) | (go_at_call 24; (with_reducible refine (fix_Mul.calls ji8 a2 t109 _ A31.out).mono ?_); rintro e w' ⟨rfl, ⟨nd, rfl⟩⟩; (try first | exact ⟨rfl, _, World.drewN_drewN _ _ _⟩ | exact ⟨rfl, _, Eq.trans (World.drewN_drewN _ _ _) (congrArg (World.drewN _) (Nat.add_assoc _ _ _))⟩)) | (go_at_call 16; (with_reducible refine (fix_SqrtMul.calls ji8 ji8 t110 _ A33.out).mono ?_); rintro e w' ⟨rfl, ⟨nd, rfl⟩⟩; (try first | exact ⟨rfl, _, World.drewN_drewN _ _ _⟩ | exact ⟨rfl, _, Eq.trans (World.drewN_drewN _ _ _) (congrArg (World.drewN _) (Nat.add_assoc _ _ _))⟩)) | (go_at_call 19; (with_reducible refine (fix_MulDiv.calls a2 a2 a2 t111 _ A36.out).mono ?_); rintro e w' ⟨rfl, ⟨nd, rfl⟩⟩; (try first | exact ⟨rfl, _, World.drewN_drewN _ _ _⟩ | exact ⟨rfl, _, Eq.trans (World.drewN_drewN _ _ _) (congrArg (World.drewN _) (Nat.add_assoc _ _ _))⟩))))
                          go_ret
                          exact ⟨by first | rfl | (simp [errW_none, errW_some] <;> rfl) | (simp only [← hji6, ← hji8, ← hji9, ← hji11]; first | rfl | (simp [errW_none, errW_some] <;> rfl)) | (simp [*, errW_none, errW_some] <;> rfl), by repeat (first | (with_reducible first | exact HB.out | apply below_alloc | apply pw_below_drewN | apply below_drew1) | exact HB.out)⟩
                      · rw [if_neg c34] at H
                        have c34b0 : (t110 == ji8) = false := beq_eq_false_iff_ne.mpr c34
                        have c34b1 : (t110 != ji8) = true := bne_iff_ne.mpr c34
                        obtain rfl := Option.some.inj H
                        go_wp2_with (first | (go_at_call 19; (with_reducible refine (fix_MulDiv.calls ji8 ji11 ji11 t107 _ A28.out).mono ?_); rintro e w' ⟨rfl, ⟨nd, rfl⟩⟩; (try first | exact ⟨rfl, _, World.drewN_drewN _ _ _⟩ | exact ⟨rfl, _, Eq.trans (World.drewN_drewN _ _ _) (congrArg (World.drewN _) (Nat.add_assoc _ _ _))⟩)) | (go_at_call 19; (with_reducible refine (fix_MulDiv.calls ji8 a2 1 t108 _ A30.out).mono ?_); rintro e w' ⟨rfl, ⟨nd, rfl⟩⟩; (try first | exact ⟨rfl, _, World.drewN_drewN _ _ _⟩ | exact ⟨rfl, _, Eq.trans (World.drewN_drewN _ _ _) (congrArg (World.drewN _) (Nat.add_assoc _ _ _))⟩)) | (go_at_call 24; (with_reducible refine (fix_Mul.calls ji8 a2 t109 _ A31.out).mono ?_); rintro e w' ⟨rfl, ⟨nd, rfl⟩⟩; (try first | exact ⟨rfl, _, World.drewN_drewN _ _ _⟩ | exact ⟨rfl, _, Eq.trans (World.drewN_drewN _ _ _) (congrArg (World.drewN _) (Nat.add_assoc _ _ _))⟩)) | (go_at_call 16; (with_reducible refine (fix_SqrtMul.calls ji8 ji8 t110 _ A33.out).mono ?_); rintro e w' ⟨rfl, ⟨nd, rfl⟩⟩; (try first | exact ⟨rfl, _, World.drewN_drewN _ _ _⟩ | exact ⟨rfl, _, Eq.trans (World.drewN_drewN _ _ _) (congrArg (World.drewN _) (Nat.add_assoc _ _ _))⟩)))
                        repeat (go_quiet (first | (go_at_call 19; (with_reducible refine (fix_MulDiv.calls ji8 ji11 ji11 t107 _ A28.out).mono ?_); rintro e w' ⟨rfl, ⟨nd, rfl⟩⟩; (try first | exact ⟨rfl, _, World.drewN_drewN _ _ _⟩ | exact ⟨rfl, _, Eq.trans (World.drewN_drewN _ _ _) (congrArg (World.drewN _) (Nat.add_assoc _ _ _))⟩)) | (go_at_call 19; (with_reducible refine (fix_MulDiv.calls ji8 a2 1 t108 _ A30.out).mono ?_); rintro e w' ⟨rfl, ⟨nd, rfl⟩⟩; (try first | exact ⟨rfl, _, World.drewN_drewN _ _ _⟩ | exact ⟨rfl, _, Eq.trans (World.drewN_drewN _ _ _) (congrArg (World.drewN _) (Nat.add_assoc _ _ _))⟩)) | (go_at_call 24; (with_reducible refine (fix_Mul.calls ji8 a2 t109 _ A31.out).mono ?_); rintro e w' ⟨rfl, ⟨nd, rfl⟩⟩; (try first | exact ⟨rfl, _, World.drewN_drewN _ _ _⟩ | exact ⟨rfl, _, Eq.trans (World.drewN_drewN _ _ _) (congrArg (World.drewN _) (Nat.add_assoc _ _ _))⟩)) | (go_at_call 16; (with_reducible refine (fix_SqrtMul.calls ji8 ji8 t110 _ A33.out).mono ?_); rintro e w' ⟨rfl, ⟨nd, rfl⟩⟩; (try first | exact ⟨rfl, _, World.drewN_drewN _ _ _⟩ | exact ⟨rfl, _, Eq.trans (World.drewN_drewN _ _ _) (congrArg (World.drewN _) (Nat.add_assoc _ _ _))⟩))); try go_wp2_with (first | (go_at_call 19; (with_reducible refine (fix_MulDiv.calls ji8 ji11 ji11 t107 _ A28.out).mono ?_); rintro e w' ⟨rfl, ⟨nd, rfl⟩⟩; (try first | exact ⟨rfl, _, World.drewN_drewN _ _ _⟩ | exact ⟨rfl, _, Eq.trans (World.drewN_drewN _ _ _) (congrArg (World.drewN _) (Nat.add_assoc _ _ _))⟩)) | (go_at_call 19; (with_reducible refine (fix_MulDiv.calls ji8 a2 1 t108 _ A30.out).mono ?_); rintro e w' ⟨rfl, ⟨nd, rfl⟩⟩; (try first | exact ⟨rfl, _, World.drewN_drewN _ _ _⟩ | exact ⟨rfl, _, Eq.trans (World.drewN_drewN _ _ _) (congrArg (World.drewN _) (Nat.add_assoc _ _ _))⟩)) | (go_at_call 24; (with_reducible refine (fix_Mul.calls ji8 a2 t109 _ A31.out).mono ?_); rintro e w' ⟨rfl, ⟨nd, rfl⟩⟩; (try first | exact ⟨rfl, _, World.drewN_drewN _ _ _⟩ | exact ⟨rfl, _, Eq.trans (World.drewN_drewN _ _ _) (congrArg (World.drewN _) (Nat.add_assoc _ _ _))⟩)) | (go_at_call 16; (with_reducible refine (fix_SqrtMul.calls ji8 ji8 t110 _ A33.out).mono ?_); rintro e w' ⟨rfl, ⟨nd, rfl⟩⟩; (try first | exact ⟨rfl, _, World.drewN_drewN _ _ _⟩ | exact ⟨rfl, _, Eq.trans (World.drewN_drewN _ _ _) (congrArg (World.drewN _) (Nat.add_assoc _ _ _))⟩))))
                        go_ret
                        exact ⟨by first | rfl | (simp [errW_none, errW_some] <;> rfl) | (simp only [← hji6, ← hji8, ← hji9, ← hji11]; first | rfl | (simp [errW_none, errW_some] <;> rfl)) | (simp [*, errW_none, errW_some] <;> rfl), by repeat (first | (with_reducible first | exact HB.out | apply below_alloc | apply pw_below_drewN | apply below_drew1) | exact HB.out)⟩
                    · rw [if_neg c32] at H
                      have c32b0 : (t108 == t109) = false := beq_eq_false_iff_ne.mpr c32
                      have c32b1 : (t108 != t109) = true := bne_iff_ne.mpr c32
                      obtain rfl := Option.some.inj H
                      go_wp2_with (first | (go_at_call 19; (with_reducible refine (fix_MulDiv.calls ji8 ji11 ji11 t107 _ A28.out).mono ?_); rintro e w' ⟨rfl, ⟨nd, rfl⟩⟩; (try first | exact ⟨rfl, _, World.drewN_drewN _ _ _⟩ | exact ⟨rfl, _, Eq.trans (World.drewN_drewN _ _ _) (congrArg (World.drewN _) (Nat.add_assoc _ _ _))⟩)) | (go_at_call 19; (with_reducible refine (fix_MulDiv.calls ji8 a2 1 t108 _ A30.out).mono ?_); rintro e w' ⟨rfl, ⟨nd, rfl⟩⟩; (try first | exact ⟨rfl, _, World.drewN_drewN _ _ _⟩ | exact ⟨rfl, _, Eq.trans (World.drewN_drewN _ _ _) (congrArg (World.drewN _) (Nat.add_assoc _ _ _))⟩)) | (go_at_call 24; (with_reducible refine (fix_Mul.calls ji8 a2 t109 _ A31.out).mono ?_); rintro e w' ⟨rfl, ⟨nd, rfl⟩⟩; (try first | exact ⟨rfl, _, World.drewN_drewN _ _ _⟩ | exact ⟨rfl, _, Eq.trans (World.drewN_drewN _ _ _) (congrArg (World.drewN _) (Nat.add_assoc _ _ _))⟩)))
                      repeat (go_quiet (first | (go_at_call 19; (with_reducible refine (fix_MulDiv.calls ji8 ji11 ji11 t107 _ A28.out).mono ?_); rintro e w' ⟨rfl, ⟨nd, rfl⟩⟩; (try first | exact ⟨rfl, _, World.drewN_drewN _ _ _⟩ | exact ⟨rfl, _, Eq.trans (World.drewN_drewN _ _ _) (congrArg (World.drewN _) (Nat.add_assoc _ _ _))⟩)) | (go_at_call 19; (with_reducible refine (fix_MulDiv.calls ji8 a2 1 t108 _ A30.out).mono ?_); rintro e w' ⟨rfl, ⟨nd, rfl⟩⟩; (try first | exact ⟨rfl, _, World.drewN_drewN _ _ _⟩ | exact ⟨rfl, _, Eq.trans (World.drewN_drewN _ _ _) (congrArg (World.drewN _) (Nat.add_assoc _ _ _))⟩)) | (go_at_call 24; (with_reducible refine (fix_Mul.calls ji8 a2 t109 _ A31.out).mono ?_); rintro e w' ⟨rfl, ⟨nd, rfl⟩⟩; (try first | exact ⟨rfl, _, World.drewN_drewN _ _ _⟩ | exact ⟨rfl, _, Eq.trans (World.drewN_drewN _ _ _) (congrArg (World.drewN _) (Nat.add_assoc _ _ _))⟩))); try go_wp2_with (first | (go_at_call 19; (with_reducible refine (fix_MulDiv.calls ji8 ji11 ji11 t107 _ A28.out).mono ?_); rintro e w' ⟨rfl, ⟨nd, rfl⟩⟩; (try first | exact ⟨rfl, _, World.drewN_drewN _ _ _⟩ | exact ⟨rfl, _, Eq.trans (World.drewN_drewN _ _ _) (congrArg (World.drewN _) (Nat.add_assoc _ _ _))⟩)) | (go_at_call 19; (with_reducible refine (fix_MulDiv.calls ji8 a2 1 t108 _ A30.out).mono ?_); rintro e w' ⟨rfl, ⟨nd, rfl⟩⟩; (try first | exact ⟨rfl, _, World.drewN_drewN _ _ _⟩ | exact ⟨rfl, _, Eq.trans (World.drewN_drewN _ _ _) (congrArg (World.drewN _) (Nat.add_assoc _ _ _))⟩)) | (go_at_call 24; (with_reducible refine (fix_Mul.calls ji8 a2 t109 _ A31.out).mono ?_); rintro e w' ⟨rfl, ⟨nd, rfl⟩⟩; (try first | exact ⟨rfl, _, World.drewN_drewN _ _ _⟩ | exact ⟨rfl, _, Eq.trans (World.drewN_drewN _ _ _) (congrArg (World.drewN _) (Nat.add_assoc _ _ _))⟩))))
                      go_ret
                      exact ⟨by first | rfl | (simp [errW_none, errW_some] <;> rfl) | (simp only [← hji6, ← hji8, ← hji9, ← hji11]; first | rfl | (simp [errW_none, errW_some] <;> rfl)) | (simp [*, errW_none, errW_some] <;> rfl), by repeat (first | (with_reducible first | exact HB.out | apply below_alloc | apply pw_below_drewN | apply below_drew1) | exact HB.out)⟩
                  · rw [if_neg c29] at H
                    have c29b0 : (t107 == ji8) = false := beq_eq_false_iff_ne.mpr c29
                    have c29b1 : (t107 != ji8) = true := bne_iff_ne.mpr c29
                    obtain rfl := Option.some.inj H
                    go_wp2_with (first | (go_at_call 19; (with_reducible refine (fix_MulDiv.calls ji8 ji11 ji11 t107 _ A28.out).mono ?_); rintro e w' ⟨rfl, ⟨nd, rfl⟩⟩; (try first | exact ⟨rfl, _, World.drewN_drewN _ _ _⟩ | exact ⟨rfl, _, Eq.trans (World.drewN_drewN _ _ _) (congrArg (World.drewN _) (Nat.add_assoc _ _ _))⟩)))
                    repeat (go_quiet (first | (go_at_call 19; (with_reducible refine (fix_MulDiv.calls ji8 ji11 ji11 t107 _ A28.out).mono ?_); rintro e w' ⟨rfl, ⟨nd, rfl⟩⟩; (try first | exact ⟨rfl, _, World.drewN_drewN _ _ _⟩ | exact ⟨rfl, _, Eq.trans (World.drewN_drewN _ _ _) (congrArg (World.drewN _) (Nat.add_assoc _ _ _))⟩))); try go_wp2_with (first | (go_at_call 19; (with_reducible refine (fix_MulDiv.calls ji8 ji11 ji11 t107 _ A28.out).mono ?_); rintro e w' ⟨rfl, ⟨nd, rfl⟩⟩; (try first | exact ⟨rfl, _, World.drewN_drewN _ _ _⟩ | exact ⟨rfl, _, Eq.trans (World.drewN_drewN _ _ _) (congrArg (World.drewN _) (Nat.add_assoc _ _ _))⟩))))
                    go_ret
                    exact ⟨by first | rfl | (simp [errW_none, errW_some] <;> rfl) | (simp only [← hji6, ← hji8, ← hji9, ← hji11]; first | rfl | (simp [errW_none, errW_some] <;> rfl)) | (simp [*, errW_none, errW_some] <;> rfl), by repeat (first | (with_reducible first | exact HB.out | apply below_alloc | apply pw_below_drewN | apply below_drew1) | exact HB.out)⟩
      · rw [if_neg c10] at H
        exact absurd H (by simp)
    · rw [if_neg c7] at H
      exact absurd H (by simp)
  · replace c5 := Bool.eq_false_iff.mpr c5
    subst c5
    have H1 : (some false) = some r := by rw [if_neg (show ¬ (false = true) by decide)] at H; exact H
    clear H
    have H := H1
    clear H1
    obtain rfl := Option.some.inj H
    go_enter Tryz.func6, Tryz.ntmps6
    go_wp2_with (first | (go_at_call 15; (with_reducible refine (muleteerlaw1_begun.calls  false _ A4.out).mono ?_); rintro e w37 ⟨rfl, hb⟩; have n0_ := Aside0.mk (below_step (by repeat (first | (with_reducible first | exact HB.out | apply below_alloc | apply pw_below_drewN | apply below_drew1) | exact HB.out)) hb); clear HB; have HB := n0_; clear n0_; (try clear hb); (try clear hb2); (try clear hk); (try clear hi)))
    repeat (go_quiet (first | (go_at_call 15; (with_reducible refine (muleteerlaw1_begun.calls  false _ A4.out).mono ?_); rintro e w37 ⟨rfl, hb⟩; have n0_ := Aside0.mk (below_step (by repeat (first | (with_reducible first | exact HB.out | apply below_alloc | apply pw_below_drewN | apply below_drew1) | exact HB.out)) hb); clear HB; have HB := n0_; clear n0_; (try clear hb); (try clear hb2); (try clear hk); (try clear hi))); try go_wp2_with (first | (go_at_call 15; (with_reducible refine (muleteerlaw1_begun.calls  false _ A4.out).mono ?_); rintro e w37 ⟨rfl, hb⟩; have n0_ := Aside0.mk (below_step (by repeat (first | (with_reducible first | exact HB.out | apply below_alloc | apply pw_below_drewN | apply below_drew1) | exact HB.out)) hb); clear HB; have HB := n0_; clear n0_; (try clear hb); (try clear hb2); (try clear hk); (try clear hi))))
    go_ret
    exact ⟨by first | rfl | (simp [errW_none, errW_some] <;> rfl) | (simp [*, errW_none, errW_some] <;> rfl), by repeat (first | (with_reducible first | exact HB.out | apply below_alloc | apply pw_below_drewN | apply below_drew1) | exact HB.out)⟩

/-- THE ONE PURE STATEMENT of muleteerlaw1_FixEdges: yours. -/
def muleteerlaw1_FixEdges.Pure : Prop := ∀ (a0 : Int) (a1 : Int) (a2 : Int), (Lit.int .i64 a0).wf = true → (Lit.int .i64 a1).wf = true → (Lit.int .u64 a2).wf = true → ∃ k, muleteerlaw1_FixEdges.f k a0 a1 a2 = some true
theorem muleteerlaw1_FixEdges.walk (P : muleteerlaw1_FixEdges.Pure) (a0 : Int) (a1 : Int) (a2 : Int) (w : World) (w0 : (Lit.int .i64 a0).wf = true) (w1 : (Lit.int .i64 a1).wf = true) (w2 : (Lit.int .u64 a2).wf = true) :
    Calls Tryz.prog 6 #[.int .i64 a0, .int .i64 a1, .int .u64 a2] w fun e w' => e = .returned (.bool true) ∧ Below w.heap.size w w' := by
  obtain ⟨k, h⟩ := P a0 a1 a2 w0 w1 w2
  refine (muleteerlaw1_FixEdges.calls k a0 a1 a2 true w h).mono ?_
  rintro e w' ⟨rfl, hd⟩
  exact ⟨rfl, hd⟩

end Go.Proofs.YtmdimebifngekaaGreatDoor.PFixEdges
