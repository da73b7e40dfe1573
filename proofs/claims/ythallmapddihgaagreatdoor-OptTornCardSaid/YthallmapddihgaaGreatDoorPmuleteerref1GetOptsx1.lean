/- What this seat's Go functions compute, as Lean functions, and that they do. Written by a program of this session's (wip/pr/pr.py) by means of the kit's printer, with contracts of ours for some functions; conditions: none beyond each theorem's own. -/
import Derived.Test.YthallmapddihgaaGreatDoorPmuleteerref1GetOptsx0
namespace Go.Proofs.YthallmapddihgaaGreatDoor.Pmuleteerref1GetOpts
open Go.RowKit Go.Proofs.YthallmapddihgaaGreatDoorW.PrintWords Go.Proofs.YthallmapddihgaaGreatDoorW.PrintLast Go.Proofs.YthallmapddihgaaGreatDoorW.PrintMore
attribute [local go_sem] max2_int min2_int max_two min_two max_three min_three max_four min_four   -- for this text's walks alone
set_option linter.unusedVariables false
set_option linter.unusedSimpArgs false

/-! ### muleteerref1_GetOpts: function 33 -/
mutual
def muleteerref1_GetOpts.l0 : Nat → ByteArray → List (S45) → Bool → Int → Option ((List (S45)) × Int)
  | 0, _, _, _, _ => none
  | k + 1, x0, x4, x5, x6 => if x6 < (x0.size : Int) then (if 0 ≤ x6 then (if (wrap64 (bt x0 x6)) = 0 then (muleteerref1_GetOpts.l0 k x0 x4 x5 (wrap64 (x6 + 1))) else (if x5 = true then (muleteerref1_GetOpts.j1 k x0 x4 x6 (wrap64 (bt x0 x6)) ((wrap64 (bt x0 x6)) == 1)) else (muleteerref1_GetOpts.j1 k x0 x4 x6 (wrap64 (bt x0 x6)) false))) else (none)) else (if x5 = true then (some (([] : List (S45)), 7)) else (some (x4, 0)))
def muleteerref1_GetOpts.j1 : Nat → ByteArray → List (S45) → Int → Int → Bool → Option ((List (S45)) × Int)
  | 0, _, _, _, _, _ => none
  | k + 1, x0, x4, x6, x7, x24 => if x24 = true then (some (([] : List (S45)), 7)) else (if x7 < 32 then (if x4.length < 5864062014805 then (muleteerref1_GetOpts.l0 k x0 (x4 ++ [(⟨x7, (⟨#[]⟩ : ByteArray)⟩ : S45)]) (x7 == 1) (wrap64 (x6 + 1))) else (none)) else (if (wrap64 (x6 + 1)) ≥ (x0.size : Int) then (some (([] : List (S45)), 7)) else (if 0 ≤ (wrap64 (x6 + 1)) then (if (wrap64 (x6 + 1)) < (x0.size : Int) then (if (bt x0 (wrap64 (x6 + 1))) < 2 then (some (([] : List (S45)), 7)) else (if (wrap64 (x6 + (wrap64 (bt x0 (wrap64 (x6 + 1)))))) > (x0.size : Int) then (some (([] : List (S45)), 7)) else (if 0 ≤ (wrap64 (x6 + 2)) then (if (wrap64 (x6 + 2)) ≤ (wrap64 (x6 + (wrap64 (bt x0 (wrap64 (x6 + 1)))))) then (if (wrap64 (x6 + (wrap64 (bt x0 (wrap64 (x6 + 1)))))) ≤ (x0.size : Int) then (if x4.length < 5864062014805 then (muleteerref1_GetOpts.l0 k x0 (x4 ++ [(⟨x7, x0.extract ((wrap64 (x6 + 2)) : Int).toNat ((wrap64 (x6 + (wrap64 (bt x0 (wrap64 (x6 + 1)))))) : Int).toNat⟩ : S45)]) (x7 == 1) (wrap64 (x6 + (wrap64 (bt x0 (wrap64 (x6 + 1))))))) else (none)) else (none)) else (none)) else (none)))) else (none)) else (none))))
end
def muleteerref1_GetOpts.f (k : Nat) (a0 : ByteArray) : Option ((List (S45)) × Int) := muleteerref1_GetOpts.l0 k a0 ([] : List (S45)) false 0
theorem muleteerref1_GetOpts.mono_l : ∀ k, (∀ y0 y1 y2 y3, LeO (muleteerref1_GetOpts.l0 k y0 y1 y2 y3) (muleteerref1_GetOpts.l0 (k + 1) y0 y1 y2 y3)) ∧ (∀ y0 y1 y2 y3 y4, LeO (muleteerref1_GetOpts.j1 k y0 y1 y2 y3 y4) (muleteerref1_GetOpts.j1 (k + 1) y0 y1 y2 y3 y4))
  | 0 => ⟨fun _ _ _ _ r h => by simp [muleteerref1_GetOpts.l0] at h, fun _ _ _ _ _ r h => by simp [muleteerref1_GetOpts.j1] at h⟩
  | k + 1 => by
    obtain ⟨ih0, ih1⟩ := muleteerref1_GetOpts.mono_l k
    refine ⟨?_, ?_⟩
    · intro y0 y1 y2 y3
      unfold muleteerref1_GetOpts.l0
      repeat' first
      | (with_reducible exact ih0 _ _ _ _)
      | (with_reducible exact ih1 _ _ _ _ _)
      | (with_reducible exact LeO.refl _)
      | (with_reducible exact LeO.none _)
      | (with_reducible refine LeO.ite ?_ ?_)
      | (with_reducible refine LeO.bind ?_ (fun _ => ?_))
      | exact ih0 _ _ _ _
      | exact ih1 _ _ _ _ _
      | exact LeO.none _
      | refine LeO.ite ?_ ?_
      | refine LeO.bind ?_ (fun _ => ?_)
    · intro y0 y1 y2 y3 y4
      unfold muleteerref1_GetOpts.j1
      repeat' first
      | (with_reducible exact ih0 _ _ _ _)
      | (with_reducible exact ih1 _ _ _ _ _)
      | (with_reducible exact LeO.refl _)
      | (with_reducible exact LeO.none _)
      | (with_reducible refine LeO.ite ?_ ?_)
      | (with_reducible refine LeO.bind ?_ (fun _ => ?_))
      | exact ih0 _ _ _ _
      | exact ih1 _ _ _ _ _
      | exact LeO.none _
      | refine LeO.ite ?_ ?_
      | refine LeO.bind ?_ (fun _ => ?_)
theorem muleteerref1_GetOpts.mono : ∀ a0 k, LeO (muleteerref1_GetOpts.f k a0) (muleteerref1_GetOpts.f (k + 1) a0) := by
  intro a0 k
  obtain ⟨ih0, ih1⟩ := muleteerref1_GetOpts.mono_l k
  unfold muleteerref1_GetOpts.f
  repeat' first
      | (with_reducible exact ih0 _ _ _ _)
      | (with_reducible exact ih1 _ _ _ _ _)
      | (with_reducible exact LeO.refl _)
      | (with_reducible exact LeO.none _)
      | (with_reducible refine LeO.ite ?_ ?_)
      | (with_reducible refine LeO.bind ?_ (fun _ => ?_))
      | exact ih0 _ _ _ _
      | exact ih1 _ _ _ _ _
      | exact LeO.none _
      | refine LeO.ite ?_ ?_
      | refine LeO.bind ?_ (fun _ => ?_)
set_option maxHeartbeats 8000000 in
set_option maxRecDepth 100000 in
theorem muleteerref1_GetOpts.calls (k : Nat) (a0 : ByteArray) (r1 : List (S45)) (r2 : Int) (w : World) (h : muleteerref1_GetOpts.f k a0 = some (r1, r2)) :
    Calls Tryz.prog 33 #[.string a0] w fun e w' => ∃ v0_ : Value, e = .returned (.tuple #[v0_, .int .i64 r2]) ∧ Kd.R k45 45 w' w.heap.size (fun _ => True) v0_ r1 ∧ Below w.heap.size w w' := by
  have hu45 := Tryz.underlying45
  have HB := Aside0.mk (Below.refl w.heap.size w)
  have H : (muleteerref1_GetOpts.l0 k a0 ([] : List (S45)) false 0) = some (r1, r2) := h
  clear h
  have H' := Aside0.mk H
  clear H
  go_enter Tryz.func33, Tryz.ntmps33
  go_wp2
  go_loopg [4, 5, 6] k (fun kq v4 v5 v6 w' => ∃ (x4_1 : List (S45)) (x5_1 : Bool) (x6_1 : Int), v5 = .bool x5_1 ∧ v6 = .int .i64 x6_1 ∧ Aside0 (muleteerref1_GetOpts.l0 kq a0 x4_1 x5_1 x6_1 = some (r1, r2)) ∧ Aside0 (kq ≤ k) ∧ Aside0 (Kd.R k45 45 w' w.heap.size (fun _ => True) v4 x4_1) ∧ Aside0 (Below w.heap.size w w'))
  case atStart => exact ⟨(([] : List (S45))), (false), (0), (by first | rfl | (simp; done) | (simp [*]; done)), (by first | rfl | (simp; done) | (simp [*]; done)), H', ⟨Nat.le_refl _⟩, ⟨by first | exact Kd.R_nil _ _ _ _ _ | exact Kd.N_nil _ _ _ _ _ | exact Kd.V_nil _ _ _ _ _ | exact Kd.Q_nil _ _ _ _ _ | exact Kd.S_nil _ _ _ _ _⟩, ⟨by repeat (first | (with_reducible first | exact HB.out | apply below_alloc | apply pw_below_drewN | apply below_drew1) | exact HB.out)⟩⟩
  case round =>
    clear H'
    obtain ⟨x4_1, x5_1, x6_1, rfl, rfl, HA, HK1, HO_4, HB⟩ := hrel
    cases gk with
    | zero => exact absurd HA.out (by simp [muleteerref1_GetOpts.l0])
    | succ k1 =>
      have H := HA.out
      clear HA
      simp only [muleteerref1_GetOpts.l0] at H
      by_cases c2 : x6_1 < (a0.size : Int)
      · rw [if_pos c2] at H
        have c2b0 : decide (x6_1 < (a0.size : Int)) = true := decide_eq_true c2
        clear c2
        by_cases c3 : 0 ≤ x6_1
        · rw [if_pos c3] at H
          have c3b0 : decide (0 ≤ x6_1) = true := decide_eq_true c3
          clear c3
          by_cases c5 : (wrap64 (bt a0 x6_1)) = 0
          · rw [if_pos c5] at H
            have c5b0 : ((wrap64 (bt a0 x6_1)) == 0) = true := beq_iff_eq.mpr c5
            have c5b1 : ((wrap64 (bt a0 x6_1)) != 0) = false := bne_eq_false_iff_eq.mpr c5
            clear c5
            have H' := Aside0.mk H
            clear H
            have p4 : 0 ≤ (x6_1 : Int) := of_decide_eq_true (by first | (with_reducible assumption) | assumption)
            have q4 : x6_1 < (a0.size : Int) := of_decide_eq_true (by first | (with_reducible assumption) | assumption)
            have hx4 := bt_at a0 x6_1
            replace p4 := eq_true p4
            replace q4 := eq_true q4
            go_wp2
            go_roundg k1
            case measure => have := HK1.out; omega
            case rel => exact ⟨(x4_1), (x5_1), (wrap64 (x6_1 + 1)), (by first | rfl | (simp; done) | (simp [*]; done)), (by first | rfl | (simp; done) | (simp [*]; done)), H', ⟨by have := HK1.out; omega⟩, ⟨by (with_reducible repeat (first | apply Kd.R_alloc | apply Kd.R_drewN | apply Kd.R_drew)); exact HO_4.out⟩, ⟨by repeat (first | (with_reducible first | exact HB.out | apply below_alloc | apply pw_below_drewN | apply below_drew1) | exact HB.out)⟩⟩
          · rw [if_neg c5] at H
            have c5b0 : ((wrap64 (bt a0 x6_1)) == 0) = false := beq_eq_false_iff_ne.mpr c5
            have c5b1 : ((wrap64 (bt a0 x6_1)) != 0) = true := bne_iff_ne.mpr c5
            have HC6 := Aside0.mk H
            clear H
            have p4 : 0 ≤ (x6_1 : Int) := of_decide_eq_true (by first | (with_reducible assumption) | assumption)
            have q4 : x6_1 < (a0.size : Int) := of_decide_eq_true (by first | (with_reducible assumption) | assumption)
            have hx4 := bt_at a0 x6_1
            replace p4 := eq_true p4
            replace q4 := eq_true q4
            go_upto_region 8 with (fail)
            go_cut [24] (fun v24 wc => ∃ (kq : Nat) (x24_5 : Bool), v24 = .bool x24_5 ∧ Aside0 (muleteerref1_GetOpts.j1 kq a0 x4_1 x6_1 (wrap64 (bt a0 x6_1)) x24_5 = some (r1, r2)) ∧ Aside0 (kq ≤ k1) ∧ Aside0 (Kd.R k45 45 wc w.heap.size (fun _ => True) u4 x4_1) ∧ Aside0 (Below w.heap.size w wc))
            case first =>
              have H := HC6.out
              clear HC6
              by_cases c7 : x5_1 = true
              · subst c7
                have H1 : (muleteerref1_GetOpts.j1 k1 a0 x4_1 x6_1 (wrap64 (bt a0 x6_1)) ((wrap64 (bt a0 x6_1)) == 1)) = some (r1, r2) := by rw [if_pos rfl] at H; exact H
                clear H
                have H := H1
                clear H1
                have H' := Aside0.mk H
                clear H
                go_wp2
                go_meet
                case rel => exact ⟨_, (((wrap64 (bt a0 x6_1)) == 1)), (by first | rfl | (simp; done) | (simp [*]; done)), H', ⟨by have := HK1.out; first | omega | exact Nat.le_refl _⟩, ⟨by (with_reducible repeat (first | apply Kd.R_alloc | apply Kd.R_drewN | apply Kd.R_drew)); exact HO_4.out⟩, ⟨by repeat (first | (with_reducible first | exact HB.out | apply below_alloc | apply pw_below_drewN | apply below_drew1) | exact HB.out)⟩⟩
              · replace c7 := Bool.eq_false_iff.mpr c7
                subst c7
                have H1 : (muleteerref1_GetOpts.j1 k1 a0 x4_1 x6_1 (wrap64 (bt a0 x6_1)) false) = some (r1, r2) := by rw [if_neg (show ¬ (false = true) by decide)] at H; exact H
                clear H
                have H := H1
                clear H1
                have H' := Aside0.mk H
                clear H
                go_wp2
                go_meet
                case rel => exact ⟨_, (false), (by first | rfl | (simp; done) | (simp [*]; done)), H', ⟨by have := HK1.out; first | omega | exact Nat.le_refl _⟩, ⟨by (with_reducible repeat (first | apply Kd.R_alloc | apply Kd.R_drewN | apply Kd.R_drew)); exact HO_4.out⟩, ⟨by repeat (first | (with_reducible first | exact HB.out | apply below_alloc | apply pw_below_drewN | apply below_drew1) | exact HB.out)⟩⟩
            case rest =>
              clear HC6
              try clear c2
              try clear c2b0
              try clear p2
              try clear c3
              try clear c3b0
              try clear p4
              try clear q4
              try clear hx4
              try clear c5
              try clear c5b0
              try clear c5b1
              try clear p6
              try clear c7
              try clear p4
              try clear q4
              obtain ⟨kq, x24_5, rfl, HA, HJ5, HO_4, HB⟩ := hcut
              cases kq with
              | zero => exact absurd HA.out (by simp [muleteerref1_GetOpts.j1])
              | succ kj5 =>
                have H := HA.out
                clear HA
                simp only [muleteerref1_GetOpts.j1] at H
                by_cases c8 : x24_5 = true
                · subst c8
                  have H1 : (some (([] : List (S45)), 7)) = some (r1, r2) := by rw [if_pos rfl] at H; exact H
                  clear H
                  have H := H1
                  clear H1
                  simp only [Option.some.injEq, Prod.mk.injEq] at H
                  obtain ⟨rfl, rfl⟩ := H
                  go_wp2
                  go_ret2
                  exact ⟨_, by first | rfl | (simp [errW_none, errW_some] <;> rfl) | (simp [*, errW_none, errW_some] <;> rfl), by first | exact Kd.R_nil _ _ _ _ _ | exact Kd.N_nil _ _ _ _ _ | exact Kd.V_nil _ _ _ _ _ | exact Kd.Q_nil _ _ _ _ _ | exact Kd.S_nil _ _ _ _ _, by repeat (first | (with_reducible first | exact HB.out | apply below_alloc | apply pw_below_drewN | apply below_drew1) | exact HB.out)⟩
                · replace c8 := Bool.eq_false_iff.mpr c8
                  subst c8
                  have H1 : (if (wrap64 (bt a0 x6_1)) < 32 then (if x4_1.length < 5864062014805 then (muleteerref1_GetOpts.l0 kj5 a0 (x4_1 ++ [(⟨(wrap64 (bt a0 x6_1)), (⟨#[]⟩ : ByteArray)⟩ : S45)]) ((wrap64 (bt a0 x6_1)) == 1) (wrap64 (x6_1 + 1))) else (none)) else (if (wrap64 (x6_1 + 1)) ≥ (a0.size : Int) then (some (([] : List (S45)), 7)) else (if 0 ≤ (wrap64 (x6_1 + 1)) then (if (wrap64 (x6_1 + 1)) < (a0.size : Int) then (if (bt a0 (wrap64 (x6_1 + 1))) < 2 then (some (([] : List (S45)), 7)) else (if (wrap64 (x6_1 + (wrap64 (bt a0 (wrap64 (x6_1 + 1)))))) > (a0.size : Int) then (some (([] : List (S45)), 7)) else (if 0 ≤ (wrap64 (x6_1 + 2)) then (if (wrap64 (x6_1 + 2)) ≤ (wrap64 (x6_1 + (wrap64 (bt a0 (wrap64 (x6_1 + 1)))))) then (if (wrap64 (x6_1 + (wrap64 (bt a0 (wrap64 (x6_1 + 1)))))) ≤ (a0.size : Int) then (if x4_1.length < 5864062014805 then (muleteerref1_GetOpts.l0 kj5 a0 (x4_1 ++ [(⟨(wrap64 (bt a0 x6_1)), a0.extract ((wrap64 (x6_1 + 2)) : Int).toNat ((wrap64 (x6_1 + (wrap64 (bt a0 (wrap64 (x6_1 + 1)))))) : Int).toNat⟩ : S45)]) ((wrap64 (bt a0 x6_1)) == 1) (wrap64 (x6_1 + (wrap64 (bt a0 (wrap64 (x6_1 + 1))))))) else (none)) else (none)) else (none)) else (none)))) else (none)) else (none)))) = some (r1, r2) := by rw [if_neg (show ¬ (false = true) by decide)] at H; exact H
                  clear H
                  have H := H1
                  clear H1
                  by_cases c9 : (wrap64 (bt a0 x6_1)) < 32
                  · rw [if_pos c9] at H
                    have c9b0 : decide ((wrap64 (bt a0 x6_1)) < 32) = true := decide_eq_true c9
                    clear c9
                    by_cases c10 : x4_1.length < 5864062014805
                    · rw [if_pos c10] at H
                      have LMc10 := Aside0.mk c10
                      clear c10
                      obtain ⟨y101, hy101⟩ : ∃ y_ : List (S45), y_ = (x4_1 ++ [(⟨(wrap64 (bt a0 x6_1)), (⟨#[]⟩ : ByteArray)⟩ : S45)]) := ⟨_, rfl⟩
                      replace H : (muleteerref1_GetOpts.l0 kj5 a0 y101 ((wrap64 (bt a0 x6_1)) == 1) (wrap64 (x6_1 + 1))) = some (r1, r2) := by first | (rw [hy101]; with_reducible exact H) | (have H2_ := (Option.bind_some _ _).symm.trans H; rw [hy101]; with_reducible exact H2_) | (have H2_ := (Option.bind_some _ _).symm.trans H; with_reducible exact H2_) | with_reducible exact H | (rw [hy101]; exact H) | exact H
                      have Ny101 := Aside0.mk hy101
                      clear hy101
                      have H' := Aside0.mk H
                      clear H
                      go_wp2_with (first | ((with_reducible refine gate_builtin (b := .append) (xs := #[.tmp 29, .tmp 32]) rfl ?_); (try (refine gate_guard (by rfl) ?_; dsimp only)); at_builtin; refine Kd.R_append k45 (w0 := w) w.heap.size rfl (.tmp 29) (.tmp 32) 46 45 (.agg #[(.int .i64 0), (.string ⟨#[]⟩)]) 24 rfl Tryz.underlying46 info45 rfl (by decide) (by omega) u4 x4_1 (⟨(wrap64 (bt a0 x6_1)), (⟨#[]⟩ : ByteArray)⟩ : S45) [.int .i64 (wrap64 (bt a0 x6_1)), .string (⟨#[]⟩ : ByteArray)] (fun _ => True) (fun _ => False) rfl rfl ?aP (fun _ hk => hk.elim) ?aF ?aO ?aB ?aS ?aL ?_; (case aP => exact k45_mkM _ _ _ (⟨(wrap64 (bt a0 x6_1)), (⟨#[]⟩ : ByteArray)⟩ : S45)); (case aB => exact (by repeat (first | (with_reducible first | exact HB.out | apply below_alloc | apply pw_below_drewN | apply below_drew1) | exact HB.out))); (case aF => exact (fun _ _ => trivial)); (case aO => exact (by (with_reducible repeat (first | apply Kd.R_alloc | apply Kd.R_drewN | apply Kd.R_drew)); exact HO_4.out)); (case aS => exact (below_size (by repeat (first | (with_reducible first | exact HB.out | apply below_alloc | apply pw_below_drewN | apply below_drew1) | exact HB.out)))); (case aL => have := LMc10.out; omega); intro v102 w11 ho hb hg hat; rw [← Ny101.out] at ho; have n0_ := Aside0.mk (hb); have n1_ := Aside0.mk (ho); clear HB; clear HO_4; have HB := n0_; have HO103 := n1_; clear n0_ n1_; clear ho hb hg hat))
                      go_roundg kj5
                      case measure => have := HK1.out; have := HJ5.out; omega
                      case rel => exact ⟨(y101), (((wrap64 (bt a0 x6_1)) == 1)), (wrap64 (x6_1 + 1)), (by first | rfl | (simp; done) | (simp [*]; done)), (by first | rfl | (simp; done) | (simp [*]; done)), H', ⟨by have := HK1.out; have := HJ5.out; omega⟩, ⟨by (with_reducible repeat (first | apply Kd.R_alloc | apply Kd.R_drewN | apply Kd.R_drew)); exact HO103.out⟩, ⟨by repeat (first | (with_reducible first | exact HB.out | apply below_alloc | apply pw_below_drewN | apply below_drew1) | exact HB.out)⟩⟩
                    · rw [if_neg c10] at H
                      exact absurd H (by simp)
                  · rw [if_neg c9] at H
                    have c9b0 : decide ((wrap64 (bt a0 x6_1)) < 32) = false := decide_eq_false c9
                    clear c9
                    by_cases c12 : (wrap64 (x6_1 + 1)) ≥ (a0.size : Int)
                    · rw [if_pos c12] at H
                      have c12b0 : decide ((a0.size : Int) ≤ (wrap64 (x6_1 + 1))) = true := decide_eq_true c12
                      clear c12
                      simp only [Option.some.injEq, Prod.mk.injEq] at H
                      obtain ⟨rfl, rfl⟩ := H
                      go_wp2
                      go_ret2
                      exact ⟨_, by first | rfl | (simp [errW_none, errW_some] <;> rfl) | (simp [*, errW_none, errW_some] <;> rfl), by first | exact Kd.R_nil _ _ _ _ _ | exact Kd.N_nil _ _ _ _ _ | exact Kd.V_nil _ _ _ _ _ | exact Kd.Q_nil _ _ _ _ _ | exact Kd.S_nil _ _ _ _ _, by repeat (first | (with_reducible first | exact HB.out | apply below_alloc | apply pw_below_drewN | apply below_drew1) | exact HB.out)⟩
                    · rw [if_neg c12] at H
                      have c12b0 : decide ((a0.size : Int) ≤ (wrap64 (x6_1 + 1))) = false := decide_eq_false c12
                      clear c12
                      obtain ⟨ji13, hji13⟩ : ∃ j_ : Int, (wrap64 (x6_1 + 1)) = j_ := ⟨_, rfl⟩
                      replace H : (if 0 ≤ (ji13) then (if (ji13) < (a0.size : Int) then (if (bt a0 (ji13)) < 2 then (some (([] : List (S45)), 7)) else (if (wrap64 (x6_1 + (wrap64 (bt a0 (ji13))))) > (a0.size : Int) then (some (([] : List (S45)), 7)) else (if 0 ≤ (wrap64 (x6_1 + 2)) then (if (wrap64 (x6_1 + 2)) ≤ (wrap64 (x6_1 + (wrap64 (bt a0 (ji13))))) then (if (wrap64 (x6_1 + (wrap64 (bt a0 (ji13))))) ≤ (a0.size : Int) then (if x4_1.length < 5864062014805 then (muleteerref1_GetOpts.l0 kj5 a0 (x4_1 ++ [(⟨(wrap64 (bt a0 x6_1)), a0.extract ((wrap64 (x6_1 + 2)) : Int).toNat ((wrap64 (x6_1 + (wrap64 (bt a0 (ji13))))) : Int).toNat⟩ : S45)]) ((wrap64 (bt a0 x6_1)) == 1) (wrap64 (x6_1 + (wrap64 (bt a0 (ji13)))))) else (none)) else (none)) else (none)) else (none)))) else (none)) else (none)) = some (r1, r2) := by first | (rw [hji13] at H; exact H) | (simp only [hji13] at H ⊢; exact H)
                      (try rw [hji13] at c12b0)
                      have hji13w : (IntKind.i64.wrap (x6_1 + 1)) = ji13 := (i64_w _).trans hji13
                      by_cases c14 : 0 ≤ (ji13)
                      · rw [if_pos c14] at H
                        have c14b0 : decide (0 ≤ (ji13)) = true := decide_eq_true c14
                        clear c14
                        by_cases c15 : (ji13) < (a0.size : Int)
                        · rw [if_pos c15] at H
                          have c15b0 : decide ((ji13) < (a0.size : Int)) = true := decide_eq_true c15
                          clear c15
                          by_cases c17 : (bt a0 (ji13)) < 2
                          · rw [if_pos c17] at H
                            have c17b0 : decide ((bt a0 (ji13)) < 2) = true := decide_eq_true c17
                            clear c17
                            simp only [Option.some.injEq, Prod.mk.injEq] at H
                            obtain ⟨rfl, rfl⟩ := H
                            have p16 : 0 ≤ ((ji13) : Int) := of_decide_eq_true (by first | (with_reducible assumption) | assumption)
                            have q16 : (ji13) < (a0.size : Int) := of_decide_eq_true (by first | (with_reducible assumption) | assumption)
                            have hx16 := bt_at a0 (ji13)
                            replace p16 := eq_true p16
                            replace q16 := eq_true q16
                            go_wp2
                            go_ret2
                            exact ⟨_, by first | rfl | (simp [errW_none, errW_some] <;> rfl) | (simp only [← hji13]; first | rfl | (simp [errW_none, errW_some] <;> rfl)) | (simp [*, errW_none, errW_some] <;> rfl), by first | exact Kd.R_nil _ _ _ _ _ | exact Kd.N_nil _ _ _ _ _ | exact Kd.V_nil _ _ _ _ _ | exact Kd.Q_nil _ _ _ _ _ | exact Kd.S_nil _ _ _ _ _, by repeat (first | (with_reducible first | exact HB.out | apply below_alloc | apply pw_below_drewN | apply below_drew1) | exact HB.out)⟩
                          · rw [if_neg c17] at H
                            have c17b0 : decide ((bt a0 (ji13)) < 2) = false := decide_eq_false c17
                            clear c17
                            by_cases c19 : (wrap64 (x6_1 + (wrap64 (bt a0 (ji13))))) > (a0.size : Int)
                            · rw [if_pos c19] at H
                              have c19b0 : decide ((a0.size : Int) < (wrap64 (x6_1 + (wrap64 (bt a0 (ji13)))))) = true := decide_eq_true c19
                              clear c19
                              simp only [Option.some.injEq, Prod.mk.injEq] at H
                              obtain ⟨rfl, rfl⟩ := H
                              have p16 : 0 ≤ ((ji13) : Int) := of_decide_eq_true (by first | (with_reducible assumption) | assumption)
                              have q16 : (ji13) < (a0.size : Int) := of_decide_eq_true (by first | (with_reducible assumption) | assumption)
                              have hx16 := bt_at a0 (ji13)
                              replace p16 := eq_true p16
                              replace q16 := eq_true q16
                              have p18 : 0 ≤ ((ji13) : Int) := of_decide_eq_true (by first | (with_reducible assumption) | assumption)
                              have q18 : (ji13) < (a0.size : Int) := of_decide_eq_true (by first | (with_reducible assumption) | assumption)
                              have hx18 := bt_at a0 (ji13)
                              replace p18 := eq_true p18
                              replace q18 := eq_true q18
                              go_wp2
                              go_ret2
                              exact ⟨_, by first | rfl | (simp [errW_none, errW_some] <;> rfl) | (simp only [← hji13]; first | rfl | (simp [errW_none, errW_some] <;> rfl)) | (simp [*, errW_none, errW_some] <;> rfl), by first | exact Kd.R_nil _ _ _ _ _ | exact Kd.N_nil _ _ _ _ _ | exact Kd.V_nil _ _ _ _ _ | exact Kd.Q_nil _ _ _ _ _ | exact Kd.S_nil _ _ _ _ _, by repeat (first | (with_reducible first | exact HB.out | apply below_alloc | apply pw_below_drewN | apply below_drew1) | exact HB.out)⟩
                            · rw [if_neg c19] at H
                              have c19b0 : decide ((a0.size : Int) < (wrap64 (x6_1 + (wrap64 (bt a0 (ji13)))))) = false := decide_eq_false c19
                              clear c19
                              obtain ⟨ji21, hji21⟩ : ∃ j_ : Int, (wrap64 (x6_1 + 2)) = j_ := ⟨_, rfl⟩
                              replace H : (if 0 ≤ (ji21) then (if (ji21) ≤ (wrap64 (x6_1 + (wrap64 (bt a0 (ji13))))) then (if (wrap64 (x6_1 + (wrap64 (bt a0 (ji13))))) ≤ (a0.size : Int) then (if x4_1.length < 5864062014805 then (muleteerref1_GetOpts.l0 kj5 a0 (x4_1 ++ [(⟨(wrap64 (bt a0 x6_1)), a0.extract ((ji21) : Int).toNat ((wrap64 (x6_1 + (wrap64 (bt a0 (ji13))))) : Int).toNat⟩ : S45)]) ((wrap64 (bt a0 x6_1)) == 1) (wrap64 (x6_1 + (wrap64 (bt a0 (ji13)))))) else (none)) else (none)) else (none)) else (none)) = some (r1, r2) := by first | (rw [hji21] at H; exact H) | (simp only [hji21] at H ⊢; exact H)
                              have hji21w : (IntKind.i64.wrap (x6_1 + 2)) = ji21 := (i64_w _).trans hji21
                              by_cases c22 : 0 ≤ (ji21)
                              · rw [if_pos c22] at H
                                have c22b0 := eq_true c22
                                have c22b1 : decide (0 ≤ (ji21)) = true := decide_eq_true c22
                                clear c22
                                by_cases c23 : (ji21) ≤ (wrap64 (x6_1 + (wrap64 (bt a0 (ji13)))))
                                · rw [if_pos c23] at H
                                  have c23b0 := eq_true c23
                                  have c23b1 : decide ((ji21) ≤ (wrap64 (x6_1 + (wrap64 (bt a0 (ji13)))))) = true := decide_eq_true c23
                                  by_cases c24 : (wrap64 (x6_1 + (wrap64 (bt a0 (ji13))))) ≤ (a0.size : Int)
                                  · rw [if_pos c24] at H
                                    have c24b0 := eq_true c24
                                    have c24b1 : decide ((wrap64 (x6_1 + (wrap64 (bt a0 (ji13))))) ≤ (a0.size : Int)) = true := decide_eq_true c24
                                    by_cases c25 : x4_1.length < 5864062014805
                                    · rw [if_pos c25] at H
                                      have LMc25 := Aside0.mk c25
                                      clear c25
                                      obtain ⟨y104, hy104⟩ : ∃ y_ : List (S45), y_ = (x4_1 ++ [(⟨(wrap64 (bt a0 x6_1)), a0.extract ((ji21) : Int).toNat ((wrap64 (x6_1 + (wrap64 (bt a0 (ji13))))) : Int).toNat⟩ : S45)]) := ⟨_, rfl⟩
                                      replace H : (muleteerref1_GetOpts.l0 kj5 a0 y104 ((wrap64 (bt a0 x6_1)) == 1) (wrap64 (x6_1 + (wrap64 (bt a0 (ji13)))))) = some (r1, r2) := by first | (rw [hy104]; with_reducible exact H) | (have H2_ := (Option.bind_some _ _).symm.trans H; rw [hy104]; with_reducible exact H2_) | (have H2_ := (Option.bind_some _ _).symm.trans H; with_reducible exact H2_) | with_reducible exact H | (rw [hy104]; exact H) | exact H
                                      have Ny104 := Aside0.mk hy104
                                      clear hy104
                                      have H' := Aside0.mk H
                                      clear H
                                      have p16 : 0 ≤ ((ji13) : Int) := of_decide_eq_true (by first | (with_reducible assumption) | assumption)
                                      have q16 : (ji13) < (a0.size : Int) := of_decide_eq_true (by first | (with_reducible assumption) | assumption)
                                      have hx16 := bt_at a0 (ji13)
                                      replace p16 := eq_true p16
                                      replace q16 := eq_true q16
                                      have p18 : 0 ≤ ((ji13) : Int) := of_decide_eq_true (by first | (with_reducible assumption) | assumption)
                                      have q18 : (ji13) < (a0.size : Int) := of_decide_eq_true (by first | (with_reducible assumption) | assumption)
                                      have hx18 := bt_at a0 (ji13)
                                      replace p18 := eq_true p18
                                      replace q18 := eq_true q18
                                      have p20 : 0 ≤ ((ji13) : Int) := of_decide_eq_true (by first | (with_reducible assumption) | assumption)
                                      have q20 : (ji13) < (a0.size : Int) := of_decide_eq_true (by first | (with_reducible assumption) | assumption)
                                      have hx20 := bt_at a0 (ji13)
                                      replace p20 := eq_true p20
                                      replace q20 := eq_true q20
                                      go_wp2_with (first | ((with_reducible refine gate_builtin (b := .append) (xs := #[.tmp 60, .tmp 74]) rfl ?_); (try (refine gate_guard (by rfl) ?_; dsimp only)); at_builtin; refine Kd.R_append k45 (w0 := w) w.heap.size rfl (.tmp 60) (.tmp 74) 46 45 (.agg #[(.int .i64 0), (.string ⟨#[]⟩)]) 24 rfl Tryz.underlying46 info45 rfl (by decide) (by omega) u4 x4_1 (⟨(wrap64 (bt a0 x6_1)), a0.extract ((ji21) : Int).toNat ((wrap64 (x6_1 + (wrap64 (bt a0 (ji13))))) : Int).toNat⟩ : S45) [.int .i64 (wrap64 (bt a0 x6_1)), .string (a0.extract ((ji21) : Int).toNat ((wrap64 (x6_1 + (wrap64 (bt a0 (ji13))))) : Int).toNat)] (fun _ => True) (fun _ => False) rfl rfl ?aP (fun _ hk => hk.elim) ?aF ?aO ?aB ?aS ?aL ?_; (case aP => exact k45_mkM _ _ _ (⟨(wrap64 (bt a0 x6_1)), a0.extract ((ji21) : Int).toNat ((wrap64 (x6_1 + (wrap64 (bt a0 (ji13))))) : Int).toNat⟩ : S45)); (case aB => exact (by repeat (first | (with_reducible first | exact HB.out | apply below_alloc | apply pw_below_drewN | apply below_drew1) | exact HB.out))); (case aF => exact (fun _ _ => trivial)); (case aO => exact (by (with_reducible repeat (first | apply Kd.R_alloc | apply Kd.R_drewN | apply Kd.R_drew)); exact HO_4.out)); (case aS => exact (below_size (by repeat (first | (with_reducible first | exact HB.out | apply below_alloc | apply pw_below_drewN | apply below_drew1) | exact HB.out)))); (case aL => have := LMc25.out; omega); intro v105 w27 ho hb hg hat; rw [← Ny104.out] at ho; have n0_ := Aside0.mk (hb); have n1_ := Aside0.mk (ho); clear HB; clear HO_4; have HB := n0_; have HO106 := n1_; clear n0_ n1_; clear ho hb hg hat; have p26 : 0 ≤ ((ji13) : Int) := of_decide_eq_true (by first | (with_reducible assumption) | assumption); have q26 : (ji13) < (a0.size : Int) := of_decide_eq_true (by first | (with_reducible assumption) | assumption); have hx26 := bt_at a0 (ji13); replace p26 := eq_true p26; replace q26 := eq_true q26))
                                      go_roundg kj5
                                      case measure => have := HK1.out; have := HJ5.out; omega
                                      case rel => exact ⟨(y104), (((wrap64 (bt a0 x6_1)) == 1)), (wrap64 (x6_1 + (wrap64 (bt a0 (ji13))))), (by first | rfl | (simp; done) | (simp [*]; done)), (by first | rfl | (simp; done) | (simp only [← hji13] <;> (first | rfl | simp)) | (simp [*]; done)), H', ⟨by have := HK1.out; have := HJ5.out; omega⟩, ⟨by (with_reducible repeat (first | apply Kd.R_alloc | apply Kd.R_drewN | apply Kd.R_drew)); exact HO106.out⟩, ⟨by repeat (first | (with_reducible first | exact HB.out | apply below_alloc | apply pw_below_drewN | apply below_drew1) | exact HB.out)⟩⟩
                                    · rw [if_neg c25] at H
                                      exact absurd H (by simp)
                                  · rw [if_neg c24] at H
                                    exact absurd H (by simp)
                                · rw [if_neg c23] at H
                                  exact absurd H (by simp)
                              · rw [if_neg c22] at H
                                exact absurd H (by simp)
                        · rw [if_neg c15] at H
                          exact absurd H (by simp)
                      · rw [if_neg c14] at H
                        exact absurd H (by simp)
        · rw [if_neg c3] at H
          exact absurd H (by simp)
      · rw [if_neg c2] at H
        have c2b0 : decide (x6_1 < (a0.size : Int)) = false := decide_eq_false c2
        clear c2
        by_cases c28 : x5_1 = true
        · subst c28
          have H1 : (some (([] : List (S45)), 7)) = some (r1, r2) := by rw [if_pos rfl] at H; exact H
          clear H
          have H := H1
          clear H1
          simp only [Option.some.injEq, Prod.mk.injEq] at H
          obtain ⟨rfl, rfl⟩ := H
          go_wp2
          go_ret2
          exact ⟨_, by first | rfl | (simp [errW_none, errW_some] <;> rfl) | (simp [*, errW_none, errW_some] <;> rfl), by first | exact Kd.R_nil _ _ _ _ _ | exact Kd.N_nil _ _ _ _ _ | exact Kd.V_nil _ _ _ _ _ | exact Kd.Q_nil _ _ _ _ _ | exact Kd.S_nil _ _ _ _ _, by repeat (first | (with_reducible first | exact HB.out | apply below_alloc | apply pw_below_drewN | apply below_drew1) | exact HB.out)⟩
        · replace c28 := Bool.eq_false_iff.mpr c28
          subst c28
          have H1 : (some (x4_1, 0)) = some (r1, r2) := by rw [if_neg (show ¬ (false = true) by decide)] at H; exact H
          clear H
          have H := H1
          clear H1
          simp only [Option.some.injEq, Prod.mk.injEq] at H
          obtain ⟨rfl, rfl⟩ := H
          go_wp2
          go_ret2
          exact ⟨_, by first | rfl | (simp [errW_none, errW_some] <;> rfl) | (simp [*, errW_none, errW_some] <;> rfl), by (with_reducible repeat (first | apply Kd.R_alloc | apply Kd.R_drewN | apply Kd.R_drew)); exact HO_4.out, by repeat (first | (with_reducible first | exact HB.out | apply below_alloc | apply pw_below_drewN | apply below_drew1) | exact HB.out)⟩

end Go.Proofs.YthallmapddihgaaGreatDoor.Pmuleteerref1GetOpts
