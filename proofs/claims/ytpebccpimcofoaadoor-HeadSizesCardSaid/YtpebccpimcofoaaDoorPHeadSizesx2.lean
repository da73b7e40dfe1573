/- What this seat's Go functions compute, as Lean functions, and that they do. Written by a program of this session's (wip/pr/pr.py) by means of the kit's printer, with contracts of ours for some functions; conditions: none beyond each theorem's own. -/
import Derived.Test.YtpebccpimcofoaaDoorPHeadSizesx0
import Derived.Test.YtpebccpimcofoaaDoorPHeadSizesx1
namespace Go.Proofs.YtpebccpimcofoaaDoor.PHeadSizes
open Go.RowKit Go.Proofs.YtpebccpimcofoaaDoorW.PrintWords Go.Proofs.YtpebccpimcofoaaDoorW.PrintLast Go.Proofs.YtpebccpimcofoaaDoorW.PrintMore
attribute [local go_sem] max2_int min2_int max_two min_two max_three min_three max_four min_four   -- for this text's walks alone
set_option linter.unusedVariables false
set_option linter.unusedSimpArgs false

/-! ### muleteerlaw1_HeadSizes: function 3 -/
mutual
def muleteerlaw1_HeadSizes.j0 : Nat → Int → Bool → Int → Int → Int → Bool → Option (Bool)
  | 0, _, _, _, _, _, _ => none
  | k + 1, x0, x1, x2, x3, x10, x37 => if x37 = true then (some (x10 == 0)) else (if x1 = true then (muleteerlaw1_HeadSizes.j1 k x0 x1 x2 x3 x10 281474976710656) else (muleteerlaw1_HeadSizes.j1 k x0 x1 x2 x3 x10 16777216))
def muleteerlaw1_HeadSizes.j1 : Nat → Int → Bool → Int → Int → Int → Int → Option (Bool)
  | 0, _, _, _, _, _, _ => none
  | k + 1, x0, x1, x2, x3, x10, x11 => if x11 = 0 then (none) else ((head_HasAck.f x0).bind fun t104 => (if t104 = true then (muleteerlaw1_HeadSizes.j2 k x0 x1 x10 258 772 70 0 0 0 x0 x1 (Int.tmod x2 x11) (Int.tmod x3 x11) 0 0 0 0 0) else (muleteerlaw1_HeadSizes.j2 k x0 x1 x10 258 772 70 0 0 0 x0 x1 (Int.tmod x2 x11) 0 0 0 0 0 0)))
def muleteerlaw1_HeadSizes.j2 : Nat → Int → Bool → Int → Int → Int → Int → Int → Int → Int → Int → Bool → Int → Int → Int → Int → Int → Int → Int → Option (Bool)
  | 0, _, _, _, _, _, _, _, _, _, _, _, _, _, _, _, _, _, _ => none
  | k + 1, x0, x1, x10, x104000, x104001, x104002, x104003, x104004, x104005, x104006, x104007, x104008, x104009, x104010, x104011, x104012, x104013, x104014 => (head_Put.f x104000 x104001 x104002 x104003 x104004 x104005 x104006 x104007 x104008 x104009 x104010 x104011 x104012 x104013 x104014).bind fun t105 => (if (t105.size : Int) = x10 then (if 0 < (t105.size : Int) then (if (bt t105 0) = 1 then (if 1 < (t105.size : Int) then (if (bt t105 1) = 2 then (if 2 < (t105.size : Int) then (if (bt t105 2) = 3 then (if 3 < (t105.size : Int) then (if (bt t105 3) = 4 then (if 4 < (t105.size : Int) then (if (bt t105 4) = 70 then (if 8 < (t105.size : Int) then (if ((Int.tdiv (bt t105 8) 2) % 256) = x0 then (muleteerlaw1_HeadSizes.j3 k x1 t105 (((Int.tmod (bt t105 8) 2) == 1) != x1) x104000 x104001 x104002 x104003 x104004 x104005 x104006 x104007 x104008 x104009 x104010 x104011 x104012 x104013 x104014) else (muleteerlaw1_HeadSizes.j3 k x1 t105 true x104000 x104001 x104002 x104003 x104004 x104005 x104006 x104007 x104008 x104009 x104010 x104011 x104012 x104013 x104014)) else (none)) else (muleteerlaw1_HeadSizes.j3 k x1 t105 true x104000 x104001 x104002 x104003 x104004 x104005 x104006 x104007 x104008 x104009 x104010 x104011 x104012 x104013 x104014)) else (none)) else (muleteerlaw1_HeadSizes.j3 k x1 t105 true x104000 x104001 x104002 x104003 x104004 x104005 x104006 x104007 x104008 x104009 x104010 x104011 x104012 x104013 x104014)) else (none)) else (muleteerlaw1_HeadSizes.j3 k x1 t105 true x104000 x104001 x104002 x104003 x104004 x104005 x104006 x104007 x104008 x104009 x104010 x104011 x104012 x104013 x104014)) else (none)) else (muleteerlaw1_HeadSizes.j3 k x1 t105 true x104000 x104001 x104002 x104003 x104004 x104005 x104006 x104007 x104008 x104009 x104010 x104011 x104012 x104013 x104014)) else (none)) else (muleteerlaw1_HeadSizes.j3 k x1 t105 true x104000 x104001 x104002 x104003 x104004 x104005 x104006 x104007 x104008 x104009 x104010 x104011 x104012 x104013 x104014)) else (none)) else (muleteerlaw1_HeadSizes.j3 k x1 t105 true x104000 x104001 x104002 x104003 x104004 x104005 x104006 x104007 x104008 x104009 x104010 x104011 x104012 x104013 x104014))
def muleteerlaw1_HeadSizes.j3 : Nat → Bool → ByteArray → Bool → Int → Int → Int → Int → Int → Int → Int → Bool → Int → Int → Int → Int → Int → Int → Int → Option (Bool)
  | 0, _, _, _, _, _, _, _, _, _, _, _, _, _, _, _, _, _, _ => none
  | k + 1, x1, x13, x100, x104000, x104001, x104002, x104003, x104004, x104005, x104006, x104007, x104008, x104009, x104010, x104011, x104012, x104013, x104014 => if x100 = true then (some false) else (if x1 = true then (if 10 ≤ 16 then (if 16 ≤ (x13.size : Int) then ((muleteerref1_Number.f k (x13.extract 10 16)).bind fun t106 => (if t106 = x104008 then (if 9 < (x13.size : Int) then (some ((bt x13 9) == 0)) else (none)) else (some false))) else (none)) else (none)) else (if 9 ≤ 12 then (if 12 ≤ (x13.size : Int) then ((muleteerref1_Number.f k (x13.extract 9 12)).bind fun t107 => (some (t107 == x104008))) else (none)) else (none)))
end
def muleteerlaw1_HeadSizes.f (k : Nat) (a0 : Int) (a1 : Bool) (a2 : Int) (a3 : Int) : Option (Bool) := (muleteerlaw1_begun.f).bind fun t101 => (if t101 = true then ((head_Size.f (Int.tmod (wrap64 ((Int.tmod a0 10) + 10)) 10) a1).bind fun t102 => (if a1 = true then (muleteerlaw1_HeadSizes.j0 k (Int.tmod (wrap64 ((Int.tmod a0 10) + 10)) 10) a1 a2 a3 t102 false) else (if (Int.tmod (wrap64 ((Int.tmod a0 10) + 10)) 10) = 2 then (muleteerlaw1_HeadSizes.j0 k (Int.tmod (wrap64 ((Int.tmod a0 10) + 10)) 10) a1 a2 a3 t102 false) else (if (Int.tmod (wrap64 ((Int.tmod a0 10) + 10)) 10) = 3 then (muleteerlaw1_HeadSizes.j0 k (Int.tmod (wrap64 ((Int.tmod a0 10) + 10)) 10) a1 a2 a3 t102 false) else (muleteerlaw1_HeadSizes.j0 k (Int.tmod (wrap64 ((Int.tmod a0 10) + 10)) 10) a1 a2 a3 t102 ((Int.tmod (wrap64 ((Int.tmod a0 10) + 10)) 10) != 4)))))) else (some false))
theorem muleteerlaw1_HeadSizes.mono_l : ∀ k, (∀ y0 y1 y2 y3 y4 y5, LeO (muleteerlaw1_HeadSizes.j0 k y0 y1 y2 y3 y4 y5) (muleteerlaw1_HeadSizes.j0 (k + 1) y0 y1 y2 y3 y4 y5)) ∧ (∀ y0 y1 y2 y3 y4 y5, LeO (muleteerlaw1_HeadSizes.j1 k y0 y1 y2 y3 y4 y5) (muleteerlaw1_HeadSizes.j1 (k + 1) y0 y1 y2 y3 y4 y5)) ∧ (∀ y0 y1 y2 y3 y4 y5 y6 y7 y8 y9 y10 y11 y12 y13 y14 y15 y16 y17, LeO (muleteerlaw1_HeadSizes.j2 k y0 y1 y2 y3 y4 y5 y6 y7 y8 y9 y10 y11 y12 y13 y14 y15 y16 y17) (muleteerlaw1_HeadSizes.j2 (k + 1) y0 y1 y2 y3 y4 y5 y6 y7 y8 y9 y10 y11 y12 y13 y14 y15 y16 y17)) ∧ (∀ y0 y1 y2 y3 y4 y5 y6 y7 y8 y9 y10 y11 y12 y13 y14 y15 y16 y17, LeO (muleteerlaw1_HeadSizes.j3 k y0 y1 y2 y3 y4 y5 y6 y7 y8 y9 y10 y11 y12 y13 y14 y15 y16 y17) (muleteerlaw1_HeadSizes.j3 (k + 1) y0 y1 y2 y3 y4 y5 y6 y7 y8 y9 y10 y11 y12 y13 y14 y15 y16 y17))
  | 0 => ⟨fun _ _ _ _ _ _ r h => by simp [muleteerlaw1_HeadSizes.j0] at h, fun _ _ _ _ _ _ r h => by simp [muleteerlaw1_HeadSizes.j1] at h, fun _ _ _ _ _ _ _ _ _ _ _ _ _ _ _ _ _ _ r h => by simp [muleteerlaw1_HeadSizes.j2] at h, fun _ _ _ _ _ _ _ _ _ _ _ _ _ _ _ _ _ _ r h => by simp [muleteerlaw1_HeadSizes.j3] at h⟩
  | k + 1 => by
    obtain ⟨ih0, ih1, ih2, ih3⟩ := muleteerlaw1_HeadSizes.mono_l k
    refine ⟨?_, ?_, ?_, ?_⟩
    · intro y0 y1 y2 y3 y4 y5
      unfold muleteerlaw1_HeadSizes.j0
      repeat' first
      | (with_reducible exact ih0 _ _ _ _ _ _)
      | (with_reducible exact ih1 _ _ _ _ _ _)
      | (with_reducible exact ih2 _ _ _ _ _ _ _ _ _ _ _ _ _ _ _ _ _ _)
      | (with_reducible exact ih3 _ _ _ _ _ _ _ _ _ _ _ _ _ _ _ _ _ _)
      | (with_reducible exact muleteerref1_Number.mono _ _)
      | (with_reducible exact LeO.refl _)
      | (with_reducible exact LeO.none _)
      | (with_reducible refine LeO.ite ?_ ?_)
      | (with_reducible refine LeO.bind ?_ (fun _ => ?_))
      | exact ih0 _ _ _ _ _ _
      | exact ih1 _ _ _ _ _ _
      | exact ih2 _ _ _ _ _ _ _ _ _ _ _ _ _ _ _ _ _ _
      | exact ih3 _ _ _ _ _ _ _ _ _ _ _ _ _ _ _ _ _ _
      | exact muleteerref1_Number.mono _ _
      | exact LeO.none _
      | refine LeO.ite ?_ ?_
      | refine LeO.bind ?_ (fun _ => ?_)
    · intro y0 y1 y2 y3 y4 y5
      unfold muleteerlaw1_HeadSizes.j1
      repeat' first
      | (with_reducible exact ih0 _ _ _ _ _ _)
      | (with_reducible exact ih1 _ _ _ _ _ _)
      | (with_reducible exact ih2 _ _ _ _ _ _ _ _ _ _ _ _ _ _ _ _ _ _)
      | (with_reducible exact ih3 _ _ _ _ _ _ _ _ _ _ _ _ _ _ _ _ _ _)
      | (with_reducible exact muleteerref1_Number.mono _ _)
      | (with_reducible exact LeO.refl _)
      | (with_reducible exact LeO.none _)
      | (with_reducible refine LeO.ite ?_ ?_)
      | (with_reducible refine LeO.bind ?_ (fun _ => ?_))
      | exact ih0 _ _ _ _ _ _
      | exact ih1 _ _ _ _ _ _
      | exact ih2 _ _ _ _ _ _ _ _ _ _ _ _ _ _ _ _ _ _
      | exact ih3 _ _ _ _ _ _ _ _ _ _ _ _ _ _ _ _ _ _
      | exact muleteerref1_Number.mono _ _
      | exact LeO.none _
      | refine LeO.ite ?_ ?_
      | refine LeO.bind ?_ (fun _ => ?_)
    · intro y0 y1 y2 y3 y4 y5 y6 y7 y8 y9 y10 y11 y12 y13 y14 y15 y16 y17
      unfold muleteerlaw1_HeadSizes.j2
      repeat' first
      | (with_reducible exact ih0 _ _ _ _ _ _)
      | (with_reducible exact ih1 _ _ _ _ _ _)
      | (with_reducible exact ih2 _ _ _ _ _ _ _ _ _ _ _ _ _ _ _ _ _ _)
      | (with_reducible exact ih3 _ _ _ _ _ _ _ _ _ _ _ _ _ _ _ _ _ _)
      | (with_reducible exact muleteerref1_Number.mono _ _)
      | (with_reducible exact LeO.refl _)
      | (with_reducible exact LeO.none _)
      | (with_reducible refine LeO.ite ?_ ?_)
      | (with_reducible refine LeO.bind ?_ (fun _ => ?_))
      | exact ih0 _ _ _ _ _ _
      | exact ih1 _ _ _ _ _ _
      | exact ih2 _ _ _ _ _ _ _ _ _ _ _ _ _ _ _ _ _ _
      | exact ih3 _ _ _ _ _ _ _ _ _ _ _ _ _ _ _ _ _ _
      | exact muleteerref1_Number.mono _ _
      | exact LeO.none _
      | refine LeO.ite ?_ ?_
      | refine LeO.bind ?_ (fun _ => ?_)
    · intro y0 y1 y2 y3 y4 y5 y6 y7 y8 y9 y10 y11 y12 y13 y14 y15 y16 y17
      unfold muleteerlaw1_HeadSizes.j3
      repeat' first
      | (with_reducible exact ih0 _ _ _ _ _ _)
      | (with_reducible exact ih1 _ _ _ _ _ _)
      | (with_reducible exact ih2 _ _ _ _ _ _ _ _ _ _ _ _ _ _ _ _ _ _)
      | (with_reducible exact ih3 _ _ _ _ _ _ _ _ _ _ _ _ _ _ _ _ _ _)
      | (with_reducible exact muleteerref1_Number.mono _ _)
      | (with_reducible exact LeO.refl _)
      | (with_reducible exact LeO.none _)
      | (with_reducible refine LeO.ite ?_ ?_)
      | (with_reducible refine LeO.bind ?_ (fun _ => ?_))
      | exact ih0 _ _ _ _ _ _
      | exact ih1 _ _ _ _ _ _
      | exact ih2 _ _ _ _ _ _ _ _ _ _ _ _ _ _ _ _ _ _
      | exact ih3 _ _ _ _ _ _ _ _ _ _ _ _ _ _ _ _ _ _
      | exact muleteerref1_Number.mono _ _
      | exact LeO.none _
      | refine LeO.ite ?_ ?_
      | refine LeO.bind ?_ (fun _ => ?_)
theorem muleteerlaw1_HeadSizes.mono : ∀ a0 a1 a2 a3 k, LeO (muleteerlaw1_HeadSizes.f k a0 a1 a2 a3) (muleteerlaw1_HeadSizes.f (k + 1) a0 a1 a2 a3) := by
  intro a0 a1 a2 a3 k
  obtain ⟨ih0, ih1, ih2, ih3⟩ := muleteerlaw1_HeadSizes.mono_l k
  unfold muleteerlaw1_HeadSizes.f
  repeat' first
      | (with_reducible exact ih0 _ _ _ _ _ _)
      | (with_reducible exact ih1 _ _ _ _ _ _)
      | (with_reducible exact ih2 _ _ _ _ _ _ _ _ _ _ _ _ _ _ _ _ _ _)
      | (with_reducible exact ih3 _ _ _ _ _ _ _ _ _ _ _ _ _ _ _ _ _ _)
      | (with_reducible exact muleteerref1_Number.mono _ _)
      | (with_reducible exact LeO.refl _)
      | (with_reducible exact LeO.none _)
      | (with_reducible refine LeO.ite ?_ ?_)
      | (with_reducible refine LeO.bind ?_ (fun _ => ?_))
      | exact ih0 _ _ _ _ _ _
      | exact ih1 _ _ _ _ _ _
      | exact ih2 _ _ _ _ _ _ _ _ _ _ _ _ _ _ _ _ _ _
      | exact ih3 _ _ _ _ _ _ _ _ _ _ _ _ _ _ _ _ _ _
      | exact muleteerref1_Number.mono _ _
      | exact LeO.none _
      | refine LeO.ite ?_ ?_
      | refine LeO.bind ?_ (fun _ => ?_)
set_option maxHeartbeats 8000000 in
set_option maxRecDepth 100000 in
theorem muleteerlaw1_HeadSizes.calls (k : Nat) (a0 : Int) (a1 : Bool) (a2 : Int) (a3 : Int) (r : Bool) (w : World) (h : muleteerlaw1_HeadSizes.f k a0 a1 a2 a3 = some r) :
    Calls Tryd.prog 3 #[.int .i64 a0, .bool a1, .int .u64 a2, .int .u64 a3] w fun e w' => e = .returned (.bool r) ∧ Below w.heap.size w w' := by
  have hu28 := Tryd.underlying28
  have HB := Aside0.mk (Below.refl w.heap.size w)
  have H : ((muleteerlaw1_begun.f).bind fun t101 => (if t101 = true then ((head_Size.f (Int.tmod (wrap64 ((Int.tmod a0 10) + 10)) 10) a1).bind fun t102 => (if a1 = true then (muleteerlaw1_HeadSizes.j0 k (Int.tmod (wrap64 ((Int.tmod a0 10) + 10)) 10) a1 a2 a3 t102 false) else (if (Int.tmod (wrap64 ((Int.tmod a0 10) + 10)) 10) = 2 then (muleteerlaw1_HeadSizes.j0 k (Int.tmod (wrap64 ((Int.tmod a0 10) + 10)) 10) a1 a2 a3 t102 false) else (if (Int.tmod (wrap64 ((Int.tmod a0 10) + 10)) 10) = 3 then (muleteerlaw1_HeadSizes.j0 k (Int.tmod (wrap64 ((Int.tmod a0 10) + 10)) 10) a1 a2 a3 t102 false) else (muleteerlaw1_HeadSizes.j0 k (Int.tmod (wrap64 ((Int.tmod a0 10) + 10)) 10) a1 a2 a3 t102 ((Int.tmod (wrap64 ((Int.tmod a0 10) + 10)) 10) != 4)))))) else (some false))) = some r := h
  clear h
  replace H := Option.bind_eq_some_iff.mp H
  obtain ⟨t101, A50, H⟩ := H
  replace H : (if t101 = true then ((head_Size.f (Int.tmod (wrap64 ((Int.tmod a0 10) + 10)) 10) a1).bind fun t102 => (if a1 = true then (muleteerlaw1_HeadSizes.j0 k (Int.tmod (wrap64 ((Int.tmod a0 10) + 10)) 10) a1 a2 a3 t102 false) else (if (Int.tmod (wrap64 ((Int.tmod a0 10) + 10)) 10) = 2 then (muleteerlaw1_HeadSizes.j0 k (Int.tmod (wrap64 ((Int.tmod a0 10) + 10)) 10) a1 a2 a3 t102 false) else (if (Int.tmod (wrap64 ((Int.tmod a0 10) + 10)) 10) = 3 then (muleteerlaw1_HeadSizes.j0 k (Int.tmod (wrap64 ((Int.tmod a0 10) + 10)) 10) a1 a2 a3 t102 false) else (muleteerlaw1_HeadSizes.j0 k (Int.tmod (wrap64 ((Int.tmod a0 10) + 10)) 10) a1 a2 a3 t102 ((Int.tmod (wrap64 ((Int.tmod a0 10) + 10)) 10) != 4)))))) else (some false)) = some r := H
  have A5 := Aside0.mk A50
  clear A50
  by_cases c6 : t101 = true
  · subst c6
    have H1 : ((head_Size.f (Int.tmod (wrap64 ((Int.tmod a0 10) + 10)) 10) a1).bind fun t102 => (if a1 = true then (muleteerlaw1_HeadSizes.j0 k (Int.tmod (wrap64 ((Int.tmod a0 10) + 10)) 10) a1 a2 a3 t102 false) else (if (Int.tmod (wrap64 ((Int.tmod a0 10) + 10)) 10) = 2 then (muleteerlaw1_HeadSizes.j0 k (Int.tmod (wrap64 ((Int.tmod a0 10) + 10)) 10) a1 a2 a3 t102 false) else (if (Int.tmod (wrap64 ((Int.tmod a0 10) + 10)) 10) = 3 then (muleteerlaw1_HeadSizes.j0 k (Int.tmod (wrap64 ((Int.tmod a0 10) + 10)) 10) a1 a2 a3 t102 false) else (muleteerlaw1_HeadSizes.j0 k (Int.tmod (wrap64 ((Int.tmod a0 10) + 10)) 10) a1 a2 a3 t102 ((Int.tmod (wrap64 ((Int.tmod a0 10) + 10)) 10) != 4)))))) = some r := by rw [if_pos rfl] at H; exact H
    clear H
    have H := H1
    clear H1
    replace H := Option.bind_eq_some_iff.mp H
    obtain ⟨t102, A70, H⟩ := H
    replace H : (if a1 = true then (muleteerlaw1_HeadSizes.j0 k (Int.tmod (wrap64 ((Int.tmod a0 10) + 10)) 10) a1 a2 a3 t102 false) else (if (Int.tmod (wrap64 ((Int.tmod a0 10) + 10)) 10) = 2 then (muleteerlaw1_HeadSizes.j0 k (Int.tmod (wrap64 ((Int.tmod a0 10) + 10)) 10) a1 a2 a3 t102 false) else (if (Int.tmod (wrap64 ((Int.tmod a0 10) + 10)) 10) = 3 then (muleteerlaw1_HeadSizes.j0 k (Int.tmod (wrap64 ((Int.tmod a0 10) + 10)) 10) a1 a2 a3 t102 false) else (muleteerlaw1_HeadSizes.j0 k (Int.tmod (wrap64 ((Int.tmod a0 10) + 10)) 10) a1 a2 a3 t102 ((Int.tmod (wrap64 ((Int.tmod a0 10) + 10)) 10) != 4))))) = some r := H
    have A7 := Aside0.mk A70
    clear A70
    have HC8 := Aside0.mk H
    clear H
    go_enter Tryd.func3, Tryd.ntmps3
    go_upto_region 6 with (first | (go_at_call 8; (with_reducible refine (muleteerlaw1_begun.calls  true _ A5.out).mono ?_); rintro e w9 ⟨rfl, hb⟩; have n0_ := Aside0.mk (below_step (by repeat (first | (with_reducible first | exact HB.out | apply below_alloc | apply pw_below_drewN | apply below_drew1) | exact HB.out)) hb); clear HB; have HB := n0_; clear n0_; (try clear hb); (try clear hb2); (try clear hk); (try clear hi)) | (go_at_call 9; (with_reducible refine (head_Size.calls (Int.tmod (wrap64 ((Int.tmod a0 10) + 10)) 10) a1 t102 _ A7.out).mono ?_); rintro e w' ⟨rfl, ⟨nd, rfl⟩⟩; (try first | exact ⟨rfl, _, World.drewN_drewN _ _ _⟩ | exact ⟨rfl, _, Eq.trans (World.drewN_drewN _ _ _) (congrArg (World.drewN _) (Nat.add_assoc _ _ _))⟩)))
    repeat (go_quiet (first | (go_at_call 8; (with_reducible refine (muleteerlaw1_begun.calls  true _ A5.out).mono ?_); rintro e w9 ⟨rfl, hb⟩; have n0_ := Aside0.mk (below_step (by repeat (first | (with_reducible first | exact HB.out | apply below_alloc | apply pw_below_drewN | apply below_drew1) | exact HB.out)) hb); clear HB; have HB := n0_; clear n0_; (try clear hb); (try clear hb2); (try clear hk); (try clear hi)) | (go_at_call 9; (with_reducible refine (head_Size.calls (Int.tmod (wrap64 ((Int.tmod a0 10) + 10)) 10) a1 t102 _ A7.out).mono ?_); rintro e w' ⟨rfl, ⟨nd, rfl⟩⟩; (try first | exact ⟨rfl, _, World.drewN_drewN _ _ _⟩ | exact ⟨rfl, _, Eq.trans (World.drewN_drewN _ _ _) (congrArg (World.drewN _) (Nat.add_assoc _ _ _))⟩))); go_upto_region 6 with (first | (go_at_call 8; (with_reducible refine (muleteerlaw1_begun.calls  true _ A5.out).mono ?_); rintro e w9 ⟨rfl, hb⟩; have n0_ := Aside0.mk (below_step (by repeat (first | (with_reducible first | exact HB.out | apply below_alloc | apply pw_below_drewN | apply below_drew1) | exact HB.out)) hb); clear HB; have HB := n0_; clear n0_; (try clear hb); (try clear hb2); (try clear hk); (try clear hi)) | (go_at_call 9; (with_reducible refine (head_Size.calls (Int.tmod (wrap64 ((Int.tmod a0 10) + 10)) 10) a1 t102 _ A7.out).mono ?_); rintro e w' ⟨rfl, ⟨nd, rfl⟩⟩; (try first | exact ⟨rfl, _, World.drewN_drewN _ _ _⟩ | exact ⟨rfl, _, Eq.trans (World.drewN_drewN _ _ _) (congrArg (World.drewN _) (Nat.add_assoc _ _ _))⟩))))
    (try simp only [Act.put, List.setIfInBounds_toArray, List.set_cons_zero, List.set_cons_succ])
    go_cut [37] (fun v37 wc => ∃ (kq : Nat) (x37_7 : Bool), v37 = .bool x37_7 ∧ Aside0 (muleteerlaw1_HeadSizes.j0 kq (Int.tmod (wrap64 ((Int.tmod a0 10) + 10)) 10) a1 a2 a3 t102 x37_7 = some r) ∧ Aside0 (kq ≤ k) ∧ Aside0 (Below w.heap.size w wc))
    case first =>
      have H := HC8.out
      clear HC8
      by_cases c10 : a1 = true
      · subst c10
        have H1 : (muleteerlaw1_HeadSizes.j0 k (Int.tmod (wrap64 ((Int.tmod a0 10) + 10)) 10) true a2 a3 t102 false) = some r := by rw [if_pos rfl] at H; exact H
        clear H
        have H := H1
        clear H1
        have H' := Aside0.mk H
        clear H
        go_wp2
        repeat (go_quiet (fail); try go_wp2)
        go_meet
        case rel => exact ⟨_, (false), (by first | rfl | (simp; done) | (simp [*]; done)), H', ⟨by first | omega | exact Nat.le_refl _⟩, ⟨by repeat (first | (with_reducible first | exact HB.out | apply below_alloc | apply pw_below_drewN | apply below_drew1) | exact HB.out)⟩⟩
      · replace c10 := Bool.eq_false_iff.mpr c10
        subst c10
        have H1 : (if (Int.tmod (wrap64 ((Int.tmod a0 10) + 10)) 10) = 2 then (muleteerlaw1_HeadSizes.j0 k (Int.tmod (wrap64 ((Int.tmod a0 10) + 10)) 10) false a2 a3 t102 false) else (if (Int.tmod (wrap64 ((Int.tmod a0 10) + 10)) 10) = 3 then (muleteerlaw1_HeadSizes.j0 k (Int.tmod (wrap64 ((Int.tmod a0 10) + 10)) 10) false a2 a3 t102 false) else (muleteerlaw1_HeadSizes.j0 k (Int.tmod (wrap64 ((Int.tmod a0 10) + 10)) 10) false a2 a3 t102 ((Int.tmod (wrap64 ((Int.tmod a0 10) + 10)) 10) != 4)))) = some r := by rw [if_neg (show ¬ (false = true) by decide)] at H; exact H
        clear H
        have H := H1
        clear H1
        by_cases c11 : (Int.tmod (wrap64 ((Int.tmod a0 10) + 10)) 10) = 2
        · rw [if_pos c11] at H
          have c11b0 : ((Int.tmod (wrap64 ((Int.tmod a0 10) + 10)) 10) == 2) = true := beq_iff_eq.mpr c11
          have c11b1 : ((Int.tmod (wrap64 ((Int.tmod a0 10) + 10)) 10) != 2) = false := bne_eq_false_iff_eq.mpr c11
          clear c11
          (first | rw [c11b0] | (simp only [i64_w, i32_w]; rw [c11b0]) | skip)
          have H' := Aside0.mk H
          clear H
          go_wp2
          repeat (go_quiet (fail); try go_wp2)
          go_meet
          case rel => exact ⟨_, (false), (by first | rfl | (simp; done) | (simp [*]; done)), H', ⟨by first | omega | exact Nat.le_refl _⟩, ⟨by repeat (first | (with_reducible first | exact HB.out | apply below_alloc | apply pw_below_drewN | apply below_drew1) | exact HB.out)⟩⟩
        · rw [if_neg c11] at H
          have c11b0 : ((Int.tmod (wrap64 ((Int.tmod a0 10) + 10)) 10) == 2) = false := beq_eq_false_iff_ne.mpr c11
          have c11b1 : ((Int.tmod (wrap64 ((Int.tmod a0 10) + 10)) 10) != 2) = true := bne_iff_ne.mpr c11
          (first | rw [c11b0] | (simp only [i64_w, i32_w]; rw [c11b0]) | skip)
          by_cases c12 : (Int.tmod (wrap64 ((Int.tmod a0 10) + 10)) 10) = 3
          · rw [if_pos c12] at H
            have c12b0 : ((Int.tmod (wrap64 ((Int.tmod a0 10) + 10)) 10) == 3) = true := beq_iff_eq.mpr c12
            have c12b1 : ((Int.tmod (wrap64 ((Int.tmod a0 10) + 10)) 10) != 3) = false := bne_eq_false_iff_eq.mpr c12
            clear c12
            have H' := Aside0.mk H
            clear H
            go_wp2
            repeat (go_quiet (fail); try go_wp2)
            go_meet
            case rel => exact ⟨_, (false), (by first | rfl | (simp; done) | (simp [*]; done)), H', ⟨by first | omega | exact Nat.le_refl _⟩, ⟨by repeat (first | (with_reducible first | exact HB.out | apply below_alloc | apply pw_below_drewN | apply below_drew1) | exact HB.out)⟩⟩
          · rw [if_neg c12] at H
            have c12b0 : ((Int.tmod (wrap64 ((Int.tmod a0 10) + 10)) 10) == 3) = false := beq_eq_false_iff_ne.mpr c12
            have c12b1 : ((Int.tmod (wrap64 ((Int.tmod a0 10) + 10)) 10) != 3) = true := bne_iff_ne.mpr c12
            have H' := Aside0.mk H
            clear H
            go_wp2
            repeat (go_quiet (fail); try go_wp2)
            go_meet
            case rel => exact ⟨_, (((Int.tmod (wrap64 ((Int.tmod a0 10) + 10)) 10) != 4)), (by first | rfl | (simp; done) | (simp [*]; done)), H', ⟨by first | omega | exact Nat.le_refl _⟩, ⟨by repeat (first | (with_reducible first | exact HB.out | apply below_alloc | apply pw_below_drewN | apply below_drew1) | exact HB.out)⟩⟩
    case rest =>
      clear HC8
      try clear c1
      try clear p2
      try clear c3
      try clear c6
      try clear p6
      try clear c10
      try clear c11
      try clear c11b0
      try clear c11b1
      try clear c12
      try clear c12b0
      try clear c12b1
      obtain ⟨kq, x37_7, rfl, HA, HJ7, HB⟩ := hcut
      cases kq with
      | zero => exact absurd HA.out (by simp [muleteerlaw1_HeadSizes.j0])
      | succ kj7 =>
        have H := HA.out
        clear HA
        simp only [muleteerlaw1_HeadSizes.j0] at H
        by_cases c13 : x37_7 = true
        · subst c13
          have H1 : (some (t102 == 0)) = some r := by rw [if_pos rfl] at H; exact H
          clear H
          have H := H1
          clear H1
          obtain rfl := Option.some.inj H
          go_wp2
          repeat (go_quiet (fail); try go_wp2)
          go_ret
          exact ⟨by first | rfl | (simp [errW_none, errW_some] <;> rfl) | (simp [*, errW_none, errW_some] <;> rfl), by repeat (first | (with_reducible first | exact HB.out | apply below_alloc | apply pw_below_drewN | apply below_drew1) | exact HB.out)⟩
        · replace c13 := Bool.eq_false_iff.mpr c13
          subst c13
          have H1 : (if a1 = true then (muleteerlaw1_HeadSizes.j1 kj7 (Int.tmod (wrap64 ((Int.tmod a0 10) + 10)) 10) a1 a2 a3 t102 281474976710656) else (muleteerlaw1_HeadSizes.j1 kj7 (Int.tmod (wrap64 ((Int.tmod a0 10) + 10)) 10) a1 a2 a3 t102 16777216)) = some r := by rw [if_neg (show ¬ (false = true) by decide)] at H; exact H
          clear H
          have H := H1
          clear H1
          have HC14 := Aside0.mk H
          clear H
          go_upto_if 41 with (fail)
          repeat (go_quiet (fail); go_upto_if 41 with (fail))
          go_cut [11] (fun v11 wc => ∃ (kq : Nat) (x11_13 : Int), v11 = .int .u64 x11_13 ∧ Aside0 (muleteerlaw1_HeadSizes.j1 kq (Int.tmod (wrap64 ((Int.tmod a0 10) + 10)) 10) a1 a2 a3 t102 x11_13 = some r) ∧ Aside0 (kq ≤ kj7) ∧ Aside0 (Below w.heap.size w wc))
          case first =>
            have H := HC14.out
            clear HC14
            by_cases c15 : a1 = true
            · subst c15
              have H1 : (muleteerlaw1_HeadSizes.j1 kj7 (Int.tmod (wrap64 ((Int.tmod a0 10) + 10)) 10) true a2 a3 t102 281474976710656) = some r := by rw [if_pos rfl] at H; exact H
              clear H
              have H := H1
              clear H1
              have H' := Aside0.mk H
              clear H
              go_wp2
              repeat (go_quiet (fail); try go_wp2)
              go_meet
              case rel => exact ⟨_, (281474976710656), (by first | rfl | (simp; done) | (simp [*]; done)), H', ⟨by have := HJ7.out; first | omega | exact Nat.le_refl _⟩, ⟨by repeat (first | (with_reducible first | exact HB.out | apply below_alloc | apply pw_below_drewN | apply below_drew1) | exact HB.out)⟩⟩
            · replace c15 := Bool.eq_false_iff.mpr c15
              subst c15
              have H1 : (muleteerlaw1_HeadSizes.j1 kj7 (Int.tmod (wrap64 ((Int.tmod a0 10) + 10)) 10) false a2 a3 t102 16777216) = some r := by rw [if_neg (show ¬ (false = true) by decide)] at H; exact H
              clear H
              have H := H1
              clear H1
              have H' := Aside0.mk H
              clear H
              go_wp2
              repeat (go_quiet (fail); try go_wp2)
              go_meet
              case rel => exact ⟨_, (16777216), (by first | rfl | (simp; done) | (simp [*]; done)), H', ⟨by have := HJ7.out; first | omega | exact Nat.le_refl _⟩, ⟨by repeat (first | (with_reducible first | exact HB.out | apply below_alloc | apply pw_below_drewN | apply below_drew1) | exact HB.out)⟩⟩
          case rest =>
            clear HC14
            try clear c1
            try clear p2
            try clear c3
            try clear c6
            try clear p6
            try clear c10
            try clear c11
            try clear c11b0
            try clear c11b1
            try clear c12
            try clear c12b0
            try clear c12b1
            try clear c13
            try clear c15
            try clear p2
            try clear p6
            obtain ⟨kq, x11_13, rfl, HA, HJ13, HB⟩ := hcut
            cases kq with
            | zero => exact absurd HA.out (by simp [muleteerlaw1_HeadSizes.j1])
            | succ kj13 =>
              have H := HA.out
              clear HA
              simp only [muleteerlaw1_HeadSizes.j1] at H
              by_cases c16 : x11_13 = 0
              · rw [if_pos c16] at H
                exact absurd H (by simp)
              · rw [if_neg c16] at H
                have c16b0 : (x11_13 == 0) = false := beq_eq_false_iff_ne.mpr c16
                have c16b1 : (x11_13 != 0) = true := bne_iff_ne.mpr c16
                replace H := Option.bind_eq_some_iff.mp H
                obtain ⟨t104, A170, H⟩ := H
                replace H : (if t104 = true then (muleteerlaw1_HeadSizes.j2 kj13 (Int.tmod (wrap64 ((Int.tmod a0 10) + 10)) 10) a1 t102 258 772 70 0 0 0 (Int.tmod (wrap64 ((Int.tmod a0 10) + 10)) 10) a1 (Int.tmod a2 x11_13) (Int.tmod a3 x11_13) 0 0 0 0 0) else (muleteerlaw1_HeadSizes.j2 kj13 (Int.tmod (wrap64 ((Int.tmod a0 10) + 10)) 10) a1 t102 258 772 70 0 0 0 (Int.tmod (wrap64 ((Int.tmod a0 10) + 10)) 10) a1 (Int.tmod a2 x11_13) 0 0 0 0 0 0)) = some r := H
                have A17 := Aside0.mk A170
                clear A170
                have HC18 := Aside0.mk H
                clear H
                go_upto_if 49 with (first | ((with_reducible refine gate_dst (N := 12) rfl ?_); refine box_event ?hg (N := 12) ?hd (cs := #[.int .i64 0, .int .i64 0, .int .i64 0, .int .i64 0, .int .i64 0, .int .i64 0, .int .i64 0, .bool false, .int .u64 0, .int .u64 0, .int .u32 0, .int .i64 0, .int .u8 0, .int .u8 0, .int .u8 0]) (t := 28) ?hr ?_; (case hd => rfl); (case hg => rfl); (case hr => first | (go_simp; done) | (go_simp; rfl)); intro gb103 hg w19 hbox hb; have n0_ := Aside0.mk (below_step (by repeat (first | (with_reducible first | exact HB.out | apply below_alloc | apply pw_below_drewN | apply below_drew1) | exact HB.out)) hb); have n1_ := Aside0.mk (hbox); have n2_ := Aside0.mk ((by rw [hg]; exact (below_size (by repeat (first | (with_reducible first | exact HB.out | apply below_alloc | apply pw_below_drewN | apply below_drew1) | exact HB.out))) : w.heap.size ≤ gb103)); have n3_ := Aside0.mk ((by rw [hg]; exact (below_size (by repeat (first | (with_reducible first | exact HB.out | apply below_alloc | apply pw_below_drewN | apply below_drew1) | exact HB.out))) : w.heap.size ≤ gb103)); clear HB; have HB := n0_; have BK103 := n1_; have GW103 := n2_; have GE103 := n3_; clear n0_ n1_ n2_ n3_; clear hb hbox hg; have hcz20_0 : w19.cell? ⟨gb103, 0, none⟩ = some (.int .i64 0) := (blk_cell BK103.out 0).trans rfl; have hcz20_1 : w19.cell? ⟨gb103, 1, none⟩ = some (.int .i64 0) := (blk_cell BK103.out 1).trans rfl; have hcz20_2 : w19.cell? ⟨gb103, 2, none⟩ = some (.int .i64 0) := (blk_cell BK103.out 2).trans rfl; have hcz20_3 : w19.cell? ⟨gb103, 3, none⟩ = some (.int .i64 0) := (blk_cell BK103.out 3).trans rfl; have hcz20_4 : w19.cell? ⟨gb103, 4, none⟩ = some (.int .i64 0) := (blk_cell BK103.out 4).trans rfl; have hcz20_5 : w19.cell? ⟨gb103, 5, none⟩ = some (.int .i64 0) := (blk_cell BK103.out 5).trans rfl; have hcz20_6 : w19.cell? ⟨gb103, 6, none⟩ = some (.int .i64 0) := (blk_cell BK103.out 6).trans rfl; have hcz20_7 : w19.cell? ⟨gb103, 7, none⟩ = some (.bool false) := (blk_cell BK103.out 7).trans rfl; have hcz20_8 : w19.cell? ⟨gb103, 8, none⟩ = some (.int .u64 0) := (blk_cell BK103.out 8).trans rfl; have hcz20_9 : w19.cell? ⟨gb103, 9, none⟩ = some (.int .u64 0) := (blk_cell BK103.out 9).trans rfl; have hcz20_10 : w19.cell? ⟨gb103, 10, none⟩ = some (.int .u32 0) := (blk_cell BK103.out 10).trans rfl; have hcz20_11 : w19.cell? ⟨gb103, 11, none⟩ = some (.int .i64 0) := (blk_cell BK103.out 11).trans rfl; have hcz20_12 : w19.cell? ⟨gb103, 12, none⟩ = some (.int .u8 0) := (blk_cell BK103.out 12).trans rfl; have hcz20_13 : w19.cell? ⟨gb103, 13, none⟩ = some (.int .u8 0) := (blk_cell BK103.out 13).trans rfl; have hcz20_14 : w19.cell? ⟨gb103, 14, none⟩ = some (.int .u8 0) := (blk_cell BK103.out 14).trans rfl; have hfz20_0 := blk_frozen BK103.out 0; have hfz20_1 := blk_frozen BK103.out 1; have hfz20_2 := blk_frozen BK103.out 2; have hfz20_3 := blk_frozen BK103.out 3; have hfz20_4 := blk_frozen BK103.out 4; have hfz20_5 := blk_frozen BK103.out 5; have hfz20_6 := blk_frozen BK103.out 6; have hfz20_7 := blk_frozen BK103.out 7; have hfz20_8 := blk_frozen BK103.out 8; have hfz20_9 := blk_frozen BK103.out 9; have hfz20_10 := blk_frozen BK103.out 10; have hfz20_11 := blk_frozen BK103.out 11; have hfz20_12 := blk_frozen BK103.out 12; have hfz20_13 := blk_frozen BK103.out 13; have hfz20_14 := blk_frozen BK103.out 14) | (go_at_call 10; (with_reducible refine (head_HasAck.calls (Int.tmod (wrap64 ((Int.tmod a0 10) + 10)) 10) t104 _ A17.out).mono ?_); rintro e w' ⟨rfl, ⟨nd, rfl⟩⟩; (try first | exact ⟨rfl, _, World.drewN_drewN _ _ _⟩ | exact ⟨rfl, _, Eq.trans (World.drewN_drewN _ _ _) (congrArg (World.drewN _) (Nat.add_assoc _ _ _))⟩)))
                repeat (go_quiet (first | ((with_reducible refine gate_dst (N := 12) rfl ?_); refine box_event ?hg (N := 12) ?hd (cs := #[.int .i64 0, .int .i64 0, .int .i64 0, .int .i64 0, .int .i64 0, .int .i64 0, .int .i64 0, .bool false, .int .u64 0, .int .u64 0, .int .u32 0, .int .i64 0, .int .u8 0, .int .u8 0, .int .u8 0]) (t := 28) ?hr ?_; (case hd => rfl); (case hg => rfl); (case hr => first | (go_simp; done) | (go_simp; rfl)); intro gb103 hg w19 hbox hb; have n0_ := Aside0.mk (below_step (by repeat (first | (with_reducible first | exact HB.out | apply below_alloc | apply pw_below_drewN | apply below_drew1) | exact HB.out)) hb); have n1_ := Aside0.mk (hbox); have n2_ := Aside0.mk ((by rw [hg]; exact (below_size (by repeat (first | (with_reducible first | exact HB.out | apply below_alloc | apply pw_below_drewN | apply below_drew1) | exact HB.out))) : w.heap.size ≤ gb103)); have n3_ := Aside0.mk ((by rw [hg]; exact (below_size (by repeat (first | (with_reducible first | exact HB.out | apply below_alloc | apply pw_below_drewN | apply below_drew1) | exact HB.out))) : w.heap.size ≤ gb103)); clear HB; have HB := n0_; have BK103 := n1_; have GW103 := n2_; have GE103 := n3_; clear n0_ n1_ n2_ n3_; clear hb hbox hg; have hcz20_0 : w19.cell? ⟨gb103, 0, none⟩ = some (.int .i64 0) := (blk_cell BK103.out 0).trans rfl; have hcz20_1 : w19.cell? ⟨gb103, 1, none⟩ = some (.int .i64 0) := (blk_cell BK103.out 1).trans rfl; have hcz20_2 : w19.cell? ⟨gb103, 2, none⟩ = some (.int .i64 0) := (blk_cell BK103.out 2).trans rfl; have hcz20_3 : w19.cell? ⟨gb103, 3, none⟩ = some (.int .i64 0) := (blk_cell BK103.out 3).trans rfl; have hcz20_4 : w19.cell? ⟨gb103, 4, none⟩ = some (.int .i64 0) := (blk_cell BK103.out 4).trans rfl; have hcz20_5 : w19.cell? ⟨gb103, 5, none⟩ = some (.int .i64 0) := (blk_cell BK103.out 5).trans rfl; have hcz20_6 : w19.cell? ⟨gb103, 6, none⟩ = some (.int .i64 0) := (blk_cell BK103.out 6).trans rfl; have hcz20_7 : w19.cell? ⟨gb103, 7, none⟩ = some (.bool false) := (blk_cell BK103.out 7).trans rfl; have hcz20_8 : w19.cell? ⟨gb103, 8, none⟩ = some (.int .u64 0) := (blk_cell BK103.out 8).trans rfl; have hcz20_9 : w19.cell? ⟨gb103, 9, none⟩ = some (.int .u64 0) := (blk_cell BK103.out 9).trans rfl; have hcz20_10 : w19.cell? ⟨gb103, 10, none⟩ = some (.int .u32 0) := (blk_cell BK103.out 10).trans rfl; have hcz20_11 : w19.cell? ⟨gb103, 11, none⟩ = some (.int .i64 0) := (blk_cell BK103.out 11).trans rfl; have hcz20_12 : w19.cell? ⟨gb103, 12, none⟩ = some (.int .u8 0) := (blk_cell BK103.out 12).trans rfl; have hcz20_13 : w19.cell? ⟨gb103, 13, none⟩ = some (.int .u8 0) := (blk_cell BK103.out 13).trans rfl; have hcz20_14 : w19.cell? ⟨gb103, 14, none⟩ = some (.int .u8 0) := (blk_cell BK103.out 14).trans rfl; have hfz20_0 := blk_frozen BK103.out 0; have hfz20_1 := blk_frozen BK103.out 1; have hfz20_2 := blk_frozen BK103.out 2; have hfz20_3 := blk_frozen BK103.out 3; have hfz20_4 := blk_frozen BK103.out 4; have hfz20_5 := blk_frozen BK103.out 5; have hfz20_6 := blk_frozen BK103.out 6; have hfz20_7 := blk_frozen BK103.out 7; have hfz20_8 := blk_frozen BK103.out 8; have hfz20_9 := blk_frozen BK103.out 9; have hfz20_10 := blk_frozen BK103.out 10; have hfz20_11 := blk_frozen BK103.out 11; have hfz20_12 := blk_frozen BK103.out 12; have hfz20_13 := blk_frozen BK103.out 13; have hfz20_14 := blk_frozen BK103.out 14) | (go_at_call 10; (with_reducible refine (head_HasAck.calls (Int.tmod (wrap64 ((Int.tmod a0 10) + 10)) 10) t104 _ A17.out).mono ?_); rintro e w' ⟨rfl, ⟨nd, rfl⟩⟩; (try first | exact ⟨rfl, _, World.drewN_drewN _ _ _⟩ | exact ⟨rfl, _, Eq.trans (World.drewN_drewN _ _ _) (congrArg (World.drewN _) (Nat.add_assoc _ _ _))⟩))); go_upto_if 49 with (first | ((with_reducible refine gate_dst (N := 12) rfl ?_); refine box_event ?hg (N := 12) ?hd (cs := #[.int .i64 0, .int .i64 0, .int .i64 0, .int .i64 0, .int .i64 0, .int .i64 0, .int .i64 0, .bool false, .int .u64 0, .int .u64 0, .int .u32 0, .int .i64 0, .int .u8 0, .int .u8 0, .int .u8 0]) (t := 28) ?hr ?_; (case hd => rfl); (case hg => rfl); (case hr => first | (go_simp; done) | (go_simp; rfl)); intro gb103 hg w19 hbox hb; have n0_ := Aside0.mk (below_step (by repeat (first | (with_reducible first | exact HB.out | apply below_alloc | apply pw_below_drewN | apply below_drew1) | exact HB.out)) hb); have n1_ := Aside0.mk (hbox); have n2_ := Aside0.mk ((by rw [hg]; exact (below_size (by repeat (first | (with_reducible first | exact HB.out | apply below_alloc | apply pw_below_drewN | apply below_drew1) | exact HB.out))) : w.heap.size ≤ gb103)); have n3_ := Aside0.mk ((by rw [hg]; exact (below_size (by repeat (first | (with_reducible first | exact HB.out | apply below_alloc | apply pw_below_drewN | apply below_drew1) | exact HB.out))) : w.heap.size ≤ gb103)); clear HB; have HB := n0_; have BK103 := n1_; have GW103 := n2_; have GE103 := n3_; clear n0_ n1_ n2_ n3_; clear hb hbox hg; have hcz20_0 : w19.cell? ⟨gb103, 0, none⟩ = some (.int .i64 0) := (blk_cell BK103.out 0).trans rfl; have hcz20_1 : w19.cell? ⟨gb103, 1, none⟩ = some (.int .i64 0) := (blk_cell BK103.out 1).trans rfl; have hcz20_2 : w19.cell? ⟨gb103, 2, none⟩ = some (.int .i64 0) := (blk_cell BK103.out 2).trans rfl; have hcz20_3 : w19.cell? ⟨gb103, 3, none⟩ = some (.int .i64 0) := (blk_cell BK103.out 3).trans rfl; have hcz20_4 : w19.cell? ⟨gb103, 4, none⟩ = some (.int .i64 0) := (blk_cell BK103.out 4).trans rfl; have hcz20_5 : w19.cell? ⟨gb103, 5, none⟩ = some (.int .i64 0) := (blk_cell BK103.out 5).trans rfl; have hcz20_6 : w19.cell? ⟨gb103, 6, none⟩ = some (.int .i64 0) := (blk_cell BK103.out 6).trans rfl; have hcz20_7 : w19.cell? ⟨gb103, 7, none⟩ = some (.bool false) := (blk_cell BK103.out 7).trans rfl; have hcz20_8 : w19.cell? ⟨gb103, 8, none⟩ = some (.int .u64 0) := (blk_cell BK103.out 8).trans rfl; have hcz20_9 : w19.cell? ⟨gb103, 9, none⟩ = some (.int .u64 0) := (blk_cell BK103.out 9).trans rfl; have hcz20_10 : w19.cell? ⟨gb103, 10, none⟩ = some (.int .u32 0) := (blk_cell BK103.out 10).trans rfl; have hcz20_11 : w19.cell? ⟨gb103, 11, none⟩ = some (.int .i64 0) := (blk_cell BK103.out 11).trans rfl; have hcz20_12 : w19.cell? ⟨gb103, 12, none⟩ = some (.int .u8 0) := (blk_cell BK103.out 12).trans rfl; have hcz20_13 : w19.cell? ⟨gb103, 13, none⟩ = some (.int .u8 0) := (blk_cell BK103.out 13).trans rfl; have hcz20_14 : w19.cell? ⟨gb103, 14, none⟩ = some (.int .u8 0) := (blk_cell BK103.out 14).trans rfl; have hfz20_0 := blk_frozen BK103.out 0; have hfz20_1 := blk_frozen BK103.out 1; have hfz20_2 := blk_frozen BK103.out 2; have hfz20_3 := blk_frozen BK103.out 3; have hfz20_4 := blk_frozen BK103.out 4; have hfz20_5 := blk_frozen BK103.out 5; have hfz20_6 := blk_frozen BK103.out 6; have hfz20_7 := blk_frozen BK103.out 7; have hfz20_8 := blk_frozen BK103.out 8; have hfz20_9 := blk_frozen BK103.out 9; have hfz20_10 := blk_frozen BK103.out 10; have hfz20_11 := blk_frozen BK103.out 11; have hfz20_12 := blk_frozen BK103.out 12; have hfz20_13 := blk_frozen BK103.out 13; have hfz20_14 := blk_frozen BK103.out 14) | (go_at_call 10; (with_reducible refine (head_HasAck.calls (Int.tmod (wrap64 ((Int.tmod a0 10) + 10)) 10) t104 _ A17.out).mono ?_); rintro e w' ⟨rfl, ⟨nd, rfl⟩⟩; (try first | exact ⟨rfl, _, World.drewN_drewN _ _ _⟩ | exact ⟨rfl, _, Eq.trans (World.drewN_drewN _ _ _) (congrArg (World.drewN _) (Nat.add_assoc _ _ _))⟩))))
                (try simp only [Act.put, List.setIfInBounds_toArray, List.set_cons_zero, List.set_cons_succ])
                go_cut [] (fun wc => ∃ (kq : Nat) (x104009_17 : Int), Aside0 (muleteerlaw1_HeadSizes.j2 kq (Int.tmod (wrap64 ((Int.tmod a0 10) + 10)) 10) a1 t102 258 772 70 0 0 0 (Int.tmod (wrap64 ((Int.tmod a0 10) + 10)) 10) a1 (Int.tmod a2 x11_13) x104009_17 0 0 0 0 0 = some r) ∧ Aside0 (kq ≤ kj13) ∧ Aside0 (wc.heap[gb103]? = some (.cells #[.int .i64 258, .int .i64 772, .int .i64 70, .int .i64 0, .int .i64 0, .int .i64 0, .int .i64 (Int.tmod (wrap64 ((Int.tmod a0 10) + 10)) 10), .bool a1, .int .u64 (Int.tmod a2 x11_13), .int .u64 x104009_17, .int .u32 0, .int .i64 0, .int .u8 0, .int .u8 0, .int .u8 0] 28 (0, 0))) ∧ Aside0 (Below w.heap.size w wc))
                case first =>
                  have H := HC18.out
                  clear HC18
                  by_cases c21 : t104 = true
                  · subst c21
                    have H1 : (muleteerlaw1_HeadSizes.j2 kj13 (Int.tmod (wrap64 ((Int.tmod a0 10) + 10)) 10) a1 t102 258 772 70 0 0 0 (Int.tmod (wrap64 ((Int.tmod a0 10) + 10)) 10) a1 (Int.tmod a2 x11_13) (Int.tmod a3 x11_13) 0 0 0 0 0) = some r := by rw [if_pos rfl] at H; exact H
                    clear H
                    have H := H1
                    clear H1
                    have H' := Aside0.mk H
                    clear H
                    have hcz22_0 : w19.cell? ⟨gb103, 0, none⟩ = some (.int .i64 0) := (blk_cell BK103.out 0).trans rfl
                    have hcz22_1 : w19.cell? ⟨gb103, 1, none⟩ = some (.int .i64 0) := (blk_cell BK103.out 1).trans rfl
                    have hcz22_2 : w19.cell? ⟨gb103, 2, none⟩ = some (.int .i64 0) := (blk_cell BK103.out 2).trans rfl
                    have hcz22_3 : w19.cell? ⟨gb103, 3, none⟩ = some (.int .i64 0) := (blk_cell BK103.out 3).trans rfl
                    have hcz22_4 : w19.cell? ⟨gb103, 4, none⟩ = some (.int .i64 0) := (blk_cell BK103.out 4).trans rfl
                    have hcz22_5 : w19.cell? ⟨gb103, 5, none⟩ = some (.int .i64 0) := (blk_cell BK103.out 5).trans rfl
                    have hcz22_6 : w19.cell? ⟨gb103, 6, none⟩ = some (.int .i64 0) := (blk_cell BK103.out 6).trans rfl
                    have hcz22_7 : w19.cell? ⟨gb103, 7, none⟩ = some (.bool false) := (blk_cell BK103.out 7).trans rfl
                    have hcz22_8 : w19.cell? ⟨gb103, 8, none⟩ = some (.int .u64 0) := (blk_cell BK103.out 8).trans rfl
                    have hcz22_9 : w19.cell? ⟨gb103, 9, none⟩ = some (.int .u64 0) := (blk_cell BK103.out 9).trans rfl
                    have hcz22_10 : w19.cell? ⟨gb103, 10, none⟩ = some (.int .u32 0) := (blk_cell BK103.out 10).trans rfl
                    have hcz22_11 : w19.cell? ⟨gb103, 11, none⟩ = some (.int .i64 0) := (blk_cell BK103.out 11).trans rfl
                    have hcz22_12 : w19.cell? ⟨gb103, 12, none⟩ = some (.int .u8 0) := (blk_cell BK103.out 12).trans rfl
                    have hcz22_13 : w19.cell? ⟨gb103, 13, none⟩ = some (.int .u8 0) := (blk_cell BK103.out 13).trans rfl
                    have hcz22_14 : w19.cell? ⟨gb103, 14, none⟩ = some (.int .u8 0) := (blk_cell BK103.out 14).trans rfl
                    have hfz22_0 := blk_frozen BK103.out 0
                    have hfz22_1 := blk_frozen BK103.out 1
                    have hfz22_2 := blk_frozen BK103.out 2
                    have hfz22_3 := blk_frozen BK103.out 3
                    have hfz22_4 := blk_frozen BK103.out 4
                    have hfz22_5 := blk_frozen BK103.out 5
                    have hfz22_6 := blk_frozen BK103.out 6
                    have hfz22_7 := blk_frozen BK103.out 7
                    have hfz22_8 := blk_frozen BK103.out 8
                    have hfz22_9 := blk_frozen BK103.out 9
                    have hfz22_10 := blk_frozen BK103.out 10
                    have hfz22_11 := blk_frozen BK103.out 11
                    have hfz22_12 := blk_frozen BK103.out 12
                    have hfz22_13 := blk_frozen BK103.out 13
                    have hfz22_14 := blk_frozen BK103.out 14
                    go_wp2
                    repeat (go_quiet (fail); try go_wp2)
                    go_meet
                    case rel => exact ⟨_, (Int.tmod a3 x11_13), H', ⟨by have := HJ7.out; have := HJ13.out; first | omega | exact Nat.le_refl _⟩, ⟨by (with_reducible repeat (first | refine blk_drewN ?_ _ | refine blk_drew ?_ | refine blk_alloc ?_ _)); refine blk_put (cs := #[.int .i64 258, .int .i64 772, .int .i64 70, .int .i64 0, .int .i64 0, .int .i64 0, .int .i64 (Int.tmod (wrap64 ((Int.tmod a0 10) + 10)) 10), .bool a1, .int .u64 (Int.tmod a2 x11_13), .int .u64 0, .int .u32 0, .int .i64 0, .int .u8 0, .int .u8 0, .int .u8 0]) ?_ 9 _ rfl; (with_reducible repeat (first | refine blk_drewN ?_ _ | refine blk_drew ?_ | refine blk_alloc ?_ _)); refine blk_put (cs := #[.int .i64 258, .int .i64 772, .int .i64 70, .int .i64 0, .int .i64 0, .int .i64 0, .int .i64 (Int.tmod (wrap64 ((Int.tmod a0 10) + 10)) 10), .bool a1, .int .u64 (Int.tmod a2 x11_13), .int .u64 0, .int .u32 0, .int .i64 0, .int .u8 0, .int .u8 0, .int .u8 0]) ?_ 14 _ rfl; (with_reducible repeat (first | refine blk_drewN ?_ _ | refine blk_drew ?_ | refine blk_alloc ?_ _)); refine blk_put (cs := #[.int .i64 258, .int .i64 772, .int .i64 70, .int .i64 0, .int .i64 0, .int .i64 0, .int .i64 (Int.tmod (wrap64 ((Int.tmod a0 10) + 10)) 10), .bool a1, .int .u64 (Int.tmod a2 x11_13), .int .u64 0, .int .u32 0, .int .i64 0, .int .u8 0, .int .u8 0, .int .u8 0]) ?_ 13 _ rfl; (with_reducible repeat (first | refine blk_drewN ?_ _ | refine blk_drew ?_ | refine blk_alloc ?_ _)); refine blk_put (cs := #[.int .i64 258, .int .i64 772, .int .i64 70, .int .i64 0, .int .i64 0, .int .i64 0, .int .i64 (Int.tmod (wrap64 ((Int.tmod a0 10) + 10)) 10), .bool a1, .int .u64 (Int.tmod a2 x11_13), .int .u64 0, .int .u32 0, .int .i64 0, .int .u8 0, .int .u8 0, .int .u8 0]) ?_ 12 _ rfl; (with_reducible repeat (first | refine blk_drewN ?_ _ | refine blk_drew ?_ | refine blk_alloc ?_ _)); refine blk_put (cs := #[.int .i64 258, .int .i64 772, .int .i64 70, .int .i64 0, .int .i64 0, .int .i64 0, .int .i64 (Int.tmod (wrap64 ((Int.tmod a0 10) + 10)) 10), .bool a1, .int .u64 (Int.tmod a2 x11_13), .int .u64 0, .int .u32 0, .int .i64 0, .int .u8 0, .int .u8 0, .int .u8 0]) ?_ 11 _ rfl; (with_reducible repeat (first | refine blk_drewN ?_ _ | refine blk_drew ?_ | refine blk_alloc ?_ _)); refine blk_put (cs := #[.int .i64 258, .int .i64 772, .int .i64 70, .int .i64 0, .int .i64 0, .int .i64 0, .int .i64 (Int.tmod (wrap64 ((Int.tmod a0 10) + 10)) 10), .bool a1, .int .u64 (Int.tmod a2 x11_13), .int .u64 0, .int .u32 0, .int .i64 0, .int .u8 0, .int .u8 0, .int .u8 0]) ?_ 10 _ rfl; (with_reducible repeat (first | refine blk_drewN ?_ _ | refine blk_drew ?_ | refine blk_alloc ?_ _)); refine blk_put (cs := #[.int .i64 258, .int .i64 772, .int .i64 70, .int .i64 0, .int .i64 0, .int .i64 0, .int .i64 (Int.tmod (wrap64 ((Int.tmod a0 10) + 10)) 10), .bool a1, .int .u64 (Int.tmod a2 x11_13), .int .u64 0, .int .u32 0, .int .i64 0, .int .u8 0, .int .u8 0, .int .u8 0]) ?_ 9 _ rfl; (with_reducible repeat (first | refine blk_drewN ?_ _ | refine blk_drew ?_ | refine blk_alloc ?_ _)); refine blk_put (cs := #[.int .i64 258, .int .i64 772, .int .i64 70, .int .i64 0, .int .i64 0, .int .i64 0, .int .i64 (Int.tmod (wrap64 ((Int.tmod a0 10) + 10)) 10), .bool a1, .int .u64 0, .int .u64 0, .int .u32 0, .int .i64 0, .int .u8 0, .int .u8 0, .int .u8 0]) ?_ 8 _ rfl; (with_reducible repeat (first | refine blk_drewN ?_ _ | refine blk_drew ?_ | refine blk_alloc ?_ _)); refine blk_put (cs := #[.int .i64 258, .int .i64 772, .int .i64 70, .int .i64 0, .int .i64 0, .int .i64 0, .int .i64 (Int.tmod (wrap64 ((Int.tmod a0 10) + 10)) 10), .bool false, .int .u64 0, .int .u64 0, .int .u32 0, .int .i64 0, .int .u8 0, .int .u8 0, .int .u8 0]) ?_ 7 _ rfl; (with_reducible repeat (first | refine blk_drewN ?_ _ | refine blk_drew ?_ | refine blk_alloc ?_ _)); refine blk_put (cs := #[.int .i64 258, .int .i64 772, .int .i64 70, .int .i64 0, .int .i64 0, .int .i64 0, .int .i64 0, .bool false, .int .u64 0, .int .u64 0, .int .u32 0, .int .i64 0, .int .u8 0, .int .u8 0, .int .u8 0]) ?_ 6 _ rfl; (with_reducible repeat (first | refine blk_drewN ?_ _ | refine blk_drew ?_ | refine blk_alloc ?_ _)); refine blk_put (cs := #[.int .i64 258, .int .i64 772, .int .i64 70, .int .i64 0, .int .i64 0, .int .i64 0, .int .i64 0, .bool false, .int .u64 0, .int .u64 0, .int .u32 0, .int .i64 0, .int .u8 0, .int .u8 0, .int .u8 0]) ?_ 5 _ rfl; (with_reducible repeat (first | refine blk_drewN ?_ _ | refine blk_drew ?_ | refine blk_alloc ?_ _)); refine blk_put (cs := #[.int .i64 258, .int .i64 772, .int .i64 70, .int .i64 0, .int .i64 0, .int .i64 0, .int .i64 0, .bool false, .int .u64 0, .int .u64 0, .int .u32 0, .int .i64 0, .int .u8 0, .int .u8 0, .int .u8 0]) ?_ 4 _ rfl; (with_reducible repeat (first | refine blk_drewN ?_ _ | refine blk_drew ?_ | refine blk_alloc ?_ _)); refine blk_put (cs := #[.int .i64 258, .int .i64 772, .int .i64 70, .int .i64 0, .int .i64 0, .int .i64 0, .int .i64 0, .bool false, .int .u64 0, .int .u64 0, .int .u32 0, .int .i64 0, .int .u8 0, .int .u8 0, .int .u8 0]) ?_ 3 _ rfl; (with_reducible repeat (first | refine blk_drewN ?_ _ | refine blk_drew ?_ | refine blk_alloc ?_ _)); refine blk_put (cs := #[.int .i64 258, .int .i64 772, .int .i64 0, .int .i64 0, .int .i64 0, .int .i64 0, .int .i64 0, .bool false, .int .u64 0, .int .u64 0, .int .u32 0, .int .i64 0, .int .u8 0, .int .u8 0, .int .u8 0]) ?_ 2 _ rfl; (with_reducible repeat (first | refine blk_drewN ?_ _ | refine blk_drew ?_ | refine blk_alloc ?_ _)); refine blk_put (cs := #[.int .i64 258, .int .i64 0, .int .i64 0, .int .i64 0, .int .i64 0, .int .i64 0, .int .i64 0, .bool false, .int .u64 0, .int .u64 0, .int .u32 0, .int .i64 0, .int .u8 0, .int .u8 0, .int .u8 0]) ?_ 1 _ rfl; (with_reducible repeat (first | refine blk_drewN ?_ _ | refine blk_drew ?_ | refine blk_alloc ?_ _)); refine blk_put (cs := #[.int .i64 0, .int .i64 0, .int .i64 0, .int .i64 0, .int .i64 0, .int .i64 0, .int .i64 0, .bool false, .int .u64 0, .int .u64 0, .int .u32 0, .int .i64 0, .int .u8 0, .int .u8 0, .int .u8 0]) ?_ 0 _ rfl; (with_reducible repeat (first | refine blk_drewN ?_ _ | refine blk_drew ?_ | refine blk_alloc ?_ _)); exact BK103.out⟩, ⟨by repeat (first | (with_reducible first | exact HB.out | apply below_alloc | apply pw_below_drewN | apply below_drew1 | refine below_set ?_ GE103.out) | exact HB.out)⟩⟩
                  · replace c21 := Bool.eq_false_iff.mpr c21
                    subst c21
                    have H1 : (muleteerlaw1_HeadSizes.j2 kj13 (Int.tmod (wrap64 ((Int.tmod a0 10) + 10)) 10) a1 t102 258 772 70 0 0 0 (Int.tmod (wrap64 ((Int.tmod a0 10) + 10)) 10) a1 (Int.tmod a2 x11_13) 0 0 0 0 0 0) = some r := by rw [if_neg (show ¬ (false = true) by decide)] at H; exact H
                    clear H
                    have H := H1
                    clear H1
                    have H' := Aside0.mk H
                    clear H
                    go_wp2
                    repeat (go_quiet (fail); try go_wp2)
                    go_meet
                    case rel => exact ⟨_, (0), H', ⟨by have := HJ7.out; have := HJ13.out; first | omega | exact Nat.le_refl _⟩, ⟨by (with_reducible repeat (first | refine blk_drewN ?_ _ | refine blk_drew ?_ | refine blk_alloc ?_ _)); refine blk_put (cs := #[.int .i64 258, .int .i64 772, .int .i64 70, .int .i64 0, .int .i64 0, .int .i64 0, .int .i64 (Int.tmod (wrap64 ((Int.tmod a0 10) + 10)) 10), .bool a1, .int .u64 (Int.tmod a2 x11_13), .int .u64 0, .int .u32 0, .int .i64 0, .int .u8 0, .int .u8 0, .int .u8 0]) ?_ 14 _ rfl; (with_reducible repeat (first | refine blk_drewN ?_ _ | refine blk_drew ?_ | refine blk_alloc ?_ _)); refine blk_put (cs := #[.int .i64 258, .int .i64 772, .int .i64 70, .int .i64 0, .int .i64 0, .int .i64 0, .int .i64 (Int.tmod (wrap64 ((Int.tmod a0 10) + 10)) 10), .bool a1, .int .u64 (Int.tmod a2 x11_13), .int .u64 0, .int .u32 0, .int .i64 0, .int .u8 0, .int .u8 0, .int .u8 0]) ?_ 13 _ rfl; (with_reducible repeat (first | refine blk_drewN ?_ _ | refine blk_drew ?_ | refine blk_alloc ?_ _)); refine blk_put (cs := #[.int .i64 258, .int .i64 772, .int .i64 70, .int .i64 0, .int .i64 0, .int .i64 0, .int .i64 (Int.tmod (wrap64 ((Int.tmod a0 10) + 10)) 10), .bool a1, .int .u64 (Int.tmod a2 x11_13), .int .u64 0, .int .u32 0, .int .i64 0, .int .u8 0, .int .u8 0, .int .u8 0]) ?_ 12 _ rfl; (with_reducible repeat (first | refine blk_drewN ?_ _ | refine blk_drew ?_ | refine blk_alloc ?_ _)); refine blk_put (cs := #[.int .i64 258, .int .i64 772, .int .i64 70, .int .i64 0, .int .i64 0, .int .i64 0, .int .i64 (Int.tmod (wrap64 ((Int.tmod a0 10) + 10)) 10), .bool a1, .int .u64 (Int.tmod a2 x11_13), .int .u64 0, .int .u32 0, .int .i64 0, .int .u8 0, .int .u8 0, .int .u8 0]) ?_ 11 _ rfl; (with_reducible repeat (first | refine blk_drewN ?_ _ | refine blk_drew ?_ | refine blk_alloc ?_ _)); refine blk_put (cs := #[.int .i64 258, .int .i64 772, .int .i64 70, .int .i64 0, .int .i64 0, .int .i64 0, .int .i64 (Int.tmod (wrap64 ((Int.tmod a0 10) + 10)) 10), .bool a1, .int .u64 (Int.tmod a2 x11_13), .int .u64 0, .int .u32 0, .int .i64 0, .int .u8 0, .int .u8 0, .int .u8 0]) ?_ 10 _ rfl; (with_reducible repeat (first | refine blk_drewN ?_ _ | refine blk_drew ?_ | refine blk_alloc ?_ _)); refine blk_put (cs := #[.int .i64 258, .int .i64 772, .int .i64 70, .int .i64 0, .int .i64 0, .int .i64 0, .int .i64 (Int.tmod (wrap64 ((Int.tmod a0 10) + 10)) 10), .bool a1, .int .u64 (Int.tmod a2 x11_13), .int .u64 0, .int .u32 0, .int .i64 0, .int .u8 0, .int .u8 0, .int .u8 0]) ?_ 9 _ rfl; (with_reducible repeat (first | refine blk_drewN ?_ _ | refine blk_drew ?_ | refine blk_alloc ?_ _)); refine blk_put (cs := #[.int .i64 258, .int .i64 772, .int .i64 70, .int .i64 0, .int .i64 0, .int .i64 0, .int .i64 (Int.tmod (wrap64 ((Int.tmod a0 10) + 10)) 10), .bool a1, .int .u64 0, .int .u64 0, .int .u32 0, .int .i64 0, .int .u8 0, .int .u8 0, .int .u8 0]) ?_ 8 _ rfl; (with_reducible repeat (first | refine blk_drewN ?_ _ | refine blk_drew ?_ | refine blk_alloc ?_ _)); refine blk_put (cs := #[.int .i64 258, .int .i64 772, .int .i64 70, .int .i64 0, .int .i64 0, .int .i64 0, .int .i64 (Int.tmod (wrap64 ((Int.tmod a0 10) + 10)) 10), .bool false, .int .u64 0, .int .u64 0, .int .u32 0, .int .i64 0, .int .u8 0, .int .u8 0, .int .u8 0]) ?_ 7 _ rfl; (with_reducible repeat (first | refine blk_drewN ?_ _ | refine blk_drew ?_ | refine blk_alloc ?_ _)); refine blk_put (cs := #[.int .i64 258, .int .i64 772, .int .i64 70, .int .i64 0, .int .i64 0, .int .i64 0, .int .i64 0, .bool false, .int .u64 0, .int .u64 0, .int .u32 0, .int .i64 0, .int .u8 0, .int .u8 0, .int .u8 0]) ?_ 6 _ rfl; (with_reducible repeat (first | refine blk_drewN ?_ _ | refine blk_drew ?_ | refine blk_alloc ?_ _)); refine blk_put (cs := #[.int .i64 258, .int .i64 772, .int .i64 70, .int .i64 0, .int .i64 0, .int .i64 0, .int .i64 0, .bool false, .int .u64 0, .int .u64 0, .int .u32 0, .int .i64 0, .int .u8 0, .int .u8 0, .int .u8 0]) ?_ 5 _ rfl; (with_reducible repeat (first | refine blk_drewN ?_ _ | refine blk_drew ?_ | refine blk_alloc ?_ _)); refine blk_put (cs := #[.int .i64 258, .int .i64 772, .int .i64 70, .int .i64 0, .int .i64 0, .int .i64 0, .int .i64 0, .bool false, .int .u64 0, .int .u64 0, .int .u32 0, .int .i64 0, .int .u8 0, .int .u8 0, .int .u8 0]) ?_ 4 _ rfl; (with_reducible repeat (first | refine blk_drewN ?_ _ | refine blk_drew ?_ | refine blk_alloc ?_ _)); refine blk_put (cs := #[.int .i64 258, .int .i64 772, .int .i64 70, .int .i64 0, .int .i64 0, .int .i64 0, .int .i64 0, .bool false, .int .u64 0, .int .u64 0, .int .u32 0, .int .i64 0, .int .u8 0, .int .u8 0, .int .u8 0]) ?_ 3 _ rfl; (with_reducible repeat (first | refine blk_drewN ?_ _ | refine blk_drew ?_ | refine blk_alloc ?_ _)); refine blk_put (cs := #[.int .i64 258, .int .i64 772, .int .i64 0, .int .i64 0, .int .i64 0, .int .i64 0, .int .i64 0, .bool false, .int .u64 0, .int .u64 0, .int .u32 0, .int .i64 0, .int .u8 0, .int .u8 0, .int .u8 0]) ?_ 2 _ rfl; (with_reducible repeat (first | refine blk_drewN ?_ _ | refine blk_drew ?_ | refine blk_alloc ?_ _)); refine blk_put (cs := #[.int .i64 258, .int .i64 0, .int .i64 0, .int .i64 0, .int .i64 0, .int .i64 0, .int .i64 0, .bool false, .int .u64 0, .int .u64 0, .int .u32 0, .int .i64 0, .int .u8 0, .int .u8 0, .int .u8 0]) ?_ 1 _ rfl; (with_reducible repeat (first | refine blk_drewN ?_ _ | refine blk_drew ?_ | refine blk_alloc ?_ _)); refine blk_put (cs := #[.int .i64 0, .int .i64 0, .int .i64 0, .int .i64 0, .int .i64 0, .int .i64 0, .int .i64 0, .bool false, .int .u64 0, .int .u64 0, .int .u32 0, .int .i64 0, .int .u8 0, .int .u8 0, .int .u8 0]) ?_ 0 _ rfl; (with_reducible repeat (first | refine blk_drewN ?_ _ | refine blk_drew ?_ | refine blk_alloc ?_ _)); exact BK103.out⟩, ⟨by repeat (first | (with_reducible first | exact HB.out | apply below_alloc | apply pw_below_drewN | apply below_drew1 | refine below_set ?_ GE103.out) | exact HB.out)⟩⟩
                case rest =>
                  clear HC18
                  try clear c1
                  try clear c2
                  try clear p2
                  try clear c3
                  try clear c6
                  try clear p6
                  try clear c10
                  try clear c11
                  try clear c11b0
                  try clear c11b1
                  try clear c12
                  try clear c12b0
                  try clear c12b1
                  try clear c13
                  try clear c15
                  try clear c16
                  try clear c16b0
                  try clear c16b1
                  try clear c21
                  try clear hcz20_0
                  try clear hcz20_1
                  try clear hcz20_10
                  try clear hcz20_11
                  try clear hcz20_12
                  try clear hcz20_13
                  try clear hcz20_14
                  try clear hcz20_2
                  try clear hcz20_3
                  try clear hcz20_4
                  try clear hcz20_5
                  try clear hcz20_6
                  try clear hcz20_7
                  try clear hcz20_8
                  try clear hcz20_9
                  try clear hcz22_0
                  try clear hcz22_1
                  try clear hcz22_10
                  try clear hcz22_11
                  try clear hcz22_12
                  try clear hcz22_13
                  try clear hcz22_14
                  try clear hcz22_2
                  try clear hcz22_3
                  try clear hcz22_4
                  try clear hcz22_5
                  try clear hcz22_6
                  try clear hcz22_7
                  try clear hcz22_8
                  try clear hcz22_9
                  try clear hfz20_0
                  try clear hfz20_1
                  try clear hfz20_10
                  try clear hfz20_11
                  try clear hfz20_12
                  try clear hfz20_13
                  try clear hfz20_14
                  try clear hfz20_2
                  try clear hfz20_3
                  try clear hfz20_4
                  try clear hfz20_5
                  try clear hfz20_6
                  try clear hfz20_7
                  try clear hfz20_8
                  try clear hfz20_9
                  try clear hfz22_0
                  try clear hfz22_1
                  try clear hfz22_10
                  try clear hfz22_11
                  try clear hfz22_12
                  try clear hfz22_13
                  try clear hfz22_14
                  try clear hfz22_2
                  try clear hfz22_3
                  try clear hfz22_4
                  try clear hfz22_5
                  try clear hfz22_6
                  try clear hfz22_7
                  try clear hfz22_8
                  try clear hfz22_9
                  try clear p2
                  try clear p6
                  obtain ⟨kq, x104009_17, HA, HJ17, BK103, HB⟩ := hcut
                  cases kq with
                  | zero => exact absurd HA.out (by simp [muleteerlaw1_HeadSizes.j2])
                  | succ kj17 =>
                    have H := HA.out
                    clear HA
                    simp only [muleteerlaw1_HeadSizes.j2] at H
                    replace H := Option.bind_eq_some_iff.mp H
                    obtain ⟨t105, A230, H⟩ := H
                    replace H : (if (t105.size : Int) = t102 then (if 0 < (t105.size : Int) then (if (bt t105 0) = 1 then (if 1 < (t105.size : Int) then (if (bt t105 1) = 2 then (if 2 < (t105.size : Int) then (if (bt t105 2) = 3 then (if 3 < (t105.size : Int) then (if (bt t105 3) = 4 then (if 4 < (t105.size : Int) then (if (bt t105 4) = 70 then (if 8 < (t105.size : Int) then (if ((Int.tdiv (bt t105 8) 2) % 256) = (Int.tmod (wrap64 ((Int.tmod a0 10) + 10)) 10) then (muleteerlaw1_HeadSizes.j3 kj17 a1 t105 (((Int.tmod (bt t105 8) 2) == 1) != a1) 258 772 70 0 0 0 (Int.tmod (wrap64 ((Int.tmod a0 10) + 10)) 10) a1 (Int.tmod a2 x11_13) x104009_17 0 0 0 0 0) else (muleteerlaw1_HeadSizes.j3 kj17 a1 t105 true 258 772 70 0 0 0 (Int.tmod (wrap64 ((Int.tmod a0 10) + 10)) 10) a1 (Int.tmod a2 x11_13) x104009_17 0 0 0 0 0)) else (none)) else (muleteerlaw1_HeadSizes.j3 kj17 a1 t105 true 258 772 70 0 0 0 (Int.tmod (wrap64 ((Int.tmod a0 10) + 10)) 10) a1 (Int.tmod a2 x11_13) x104009_17 0 0 0 0 0)) else (none)) else (muleteerlaw1_HeadSizes.j3 kj17 a1 t105 true 258 772 70 0 0 0 (Int.tmod (wrap64 ((Int.tmod a0 10) + 10)) 10) a1 (Int.tmod a2 x11_13) x104009_17 0 0 0 0 0)) else (none)) else (muleteerlaw1_HeadSizes.j3 kj17 a1 t105 true 258 772 70 0 0 0 (Int.tmod (wrap64 ((Int.tmod a0 10) + 10)) 10) a1 (Int.tmod a2 x11_13) x104009_17 0 0 0 0 0)) else (none)) else (muleteerlaw1_HeadSizes.j3 kj17 a1 t105 true 258 772 70 0 0 0 (Int.tmod (wrap64 ((Int.tmod a0 10) + 10)) 10) a1 (Int.tmod a2 x11_13) x104009_17 0 0 0 0 0)) else (none)) else (muleteerlaw1_HeadSizes.j3 kj17 a1 t105 true 258 772 70 0 0 0 (Int.tmod (wrap64 ((Int.tmod a0 10) + 10)) 10) a1 (Int.tmod a2 x11_13) x104009_17 0 0 0 0 0)) else (none)) else (muleteerlaw1_HeadSizes.j3 kj17 a1 t105 true 258 772 70 0 0 0 (Int.tmod (wrap64 ((Int.tmod a0 10) + 10)) 10) a1 (Int.tmod a2 x11_13) x104009_17 0 0 0 0 0)) = some r := H
                    have A23 := Aside0.mk A230
                    clear A230
                    have HC24 := Aside0.mk H
                    clear H
                    have hcz25_0 : wc.cell? ⟨gb103, 0, none⟩ = some (.int .i64 258) := (blk_cell BK103.out 0).trans rfl
                    have hcz25_1 : wc.cell? ⟨gb103, 1, none⟩ = some (.int .i64 772) := (blk_cell BK103.out 1).trans rfl
                    have hcz25_2 : wc.cell? ⟨gb103, 2, none⟩ = some (.int .i64 70) := (blk_cell BK103.out 2).trans rfl
                    have hcz25_3 : wc.cell? ⟨gb103, 3, none⟩ = some (.int .i64 0) := (blk_cell BK103.out 3).trans rfl
                    have hcz25_4 : wc.cell? ⟨gb103, 4, none⟩ = some (.int .i64 0) := (blk_cell BK103.out 4).trans rfl
                    have hcz25_5 : wc.cell? ⟨gb103, 5, none⟩ = some (.int .i64 0) := (blk_cell BK103.out 5).trans rfl
                    have hcz25_6 : wc.cell? ⟨gb103, 6, none⟩ = some (.int .i64 (Int.tmod (wrap64 ((Int.tmod a0 10) + 10)) 10)) := (blk_cell BK103.out 6).trans rfl
                    have hcz25_7 : wc.cell? ⟨gb103, 7, none⟩ = some (.bool a1) := (blk_cell BK103.out 7).trans rfl
                    have hcz25_8 : wc.cell? ⟨gb103, 8, none⟩ = some (.int .u64 (Int.tmod a2 x11_13)) := (blk_cell BK103.out 8).trans rfl
                    have hcz25_9 : wc.cell? ⟨gb103, 9, none⟩ = some (.int .u64 x104009_17) := (blk_cell BK103.out 9).trans rfl
                    have hcz25_10 : wc.cell? ⟨gb103, 10, none⟩ = some (.int .u32 0) := (blk_cell BK103.out 10).trans rfl
                    have hcz25_11 : wc.cell? ⟨gb103, 11, none⟩ = some (.int .i64 0) := (blk_cell BK103.out 11).trans rfl
                    have hcz25_12 : wc.cell? ⟨gb103, 12, none⟩ = some (.int .u8 0) := (blk_cell BK103.out 12).trans rfl
                    have hcz25_13 : wc.cell? ⟨gb103, 13, none⟩ = some (.int .u8 0) := (blk_cell BK103.out 13).trans rfl
                    have hcz25_14 : wc.cell? ⟨gb103, 14, none⟩ = some (.int .u8 0) := (blk_cell BK103.out 14).trans rfl
                    have hfz25_0 := blk_frozen BK103.out 0
                    have hfz25_1 := blk_frozen BK103.out 1
                    have hfz25_2 := blk_frozen BK103.out 2
                    have hfz25_3 := blk_frozen BK103.out 3
                    have hfz25_4 := blk_frozen BK103.out 4
                    have hfz25_5 := blk_frozen BK103.out 5
                    have hfz25_6 := blk_frozen BK103.out 6
                    have hfz25_7 := blk_frozen BK103.out 7
                    have hfz25_8 := blk_frozen BK103.out 8
                    have hfz25_9 := blk_frozen BK103.out 9
                    have hfz25_10 := blk_frozen BK103.out 10
                    have hfz25_11 := blk_frozen BK103.out 11
                    have hfz25_12 := blk_frozen BK103.out 12
                    have hfz25_13 := blk_frozen BK103.out 13
                    have hfz25_14 := blk_frozen BK103.out 14
                    go_upto_region 15 with (first | (go_at_call 11; (with_reducible refine (head_Put.calls 258 772 70 0 0 0 (Int.tmod (wrap64 ((Int.tmod a0 10) + 10)) 10) a1 (Int.tmod a2 x11_13) x104009_17 0 0 0 0 0 t105 _ A23.out).mono ?_); rintro e w26 ⟨rfl, hb⟩; have n0_ := Aside0.mk (blk_below (g := gb103) (o := .cells #[.int .i64 258, .int .i64 772, .int .i64 70, .int .i64 0, .int .i64 0, .int .i64 0, .int .i64 (Int.tmod (wrap64 ((Int.tmod a0 10) + 10)) 10), .bool a1, .int .u64 (Int.tmod a2 x11_13), .int .u64 x104009_17, .int .u32 0, .int .i64 0, .int .u8 0, .int .u8 0, .int .u8 0] 28 (0, 0)) (by (with_reducible repeat (first | refine blk_drewN ?_ _ | refine blk_drew ?_ | refine blk_alloc ?_ _)); exact BK103.out) hb); have n1_ := Aside0.mk (below_step (by repeat (first | (with_reducible first | exact HB.out | apply below_alloc | apply pw_below_drewN | apply below_drew1 | refine below_set ?_ GE103.out) | exact HB.out)) hb); clear BK103; clear HB; have BK103 := n0_; have HB := n1_; clear n0_ n1_; (try clear hb); (try clear hb2); (try clear hk); (try clear hi)))
                    repeat (go_quiet (first | (go_at_call 11; (with_reducible refine (head_Put.calls 258 772 70 0 0 0 (Int.tmod (wrap64 ((Int.tmod a0 10) + 10)) 10) a1 (Int.tmod a2 x11_13) x104009_17 0 0 0 0 0 t105 _ A23.out).mono ?_); rintro e w26 ⟨rfl, hb⟩; have n0_ := Aside0.mk (blk_below (g := gb103) (o := .cells #[.int .i64 258, .int .i64 772, .int .i64 70, .int .i64 0, .int .i64 0, .int .i64 0, .int .i64 (Int.tmod (wrap64 ((Int.tmod a0 10) + 10)) 10), .bool a1, .int .u64 (Int.tmod a2 x11_13), .int .u64 x104009_17, .int .u32 0, .int .i64 0, .int .u8 0, .int .u8 0, .int .u8 0] 28 (0, 0)) (by (with_reducible repeat (first | refine blk_drewN ?_ _ | refine blk_drew ?_ | refine blk_alloc ?_ _)); exact BK103.out) hb); have n1_ := Aside0.mk (below_step (by repeat (first | (with_reducible first | exact HB.out | apply below_alloc | apply pw_below_drewN | apply below_drew1 | refine below_set ?_ GE103.out) | exact HB.out)) hb); clear BK103; clear HB; have BK103 := n0_; have HB := n1_; clear n0_ n1_; (try clear hb); (try clear hb2); (try clear hk); (try clear hi))); go_upto_region 15 with (first | (go_at_call 11; (with_reducible refine (head_Put.calls 258 772 70 0 0 0 (Int.tmod (wrap64 ((Int.tmod a0 10) + 10)) 10) a1 (Int.tmod a2 x11_13) x104009_17 0 0 0 0 0 t105 _ A23.out).mono ?_); rintro e w26 ⟨rfl, hb⟩; have n0_ := Aside0.mk (blk_below (g := gb103) (o := .cells #[.int .i64 258, .int .i64 772, .int .i64 70, .int .i64 0, .int .i64 0, .int .i64 0, .int .i64 (Int.tmod (wrap64 ((Int.tmod a0 10) + 10)) 10), .bool a1, .int .u64 (Int.tmod a2 x11_13), .int .u64 x104009_17, .int .u32 0, .int .i64 0, .int .u8 0, .int .u8 0, .int .u8 0] 28 (0, 0)) (by (with_reducible repeat (first | refine blk_drewN ?_ _ | refine blk_drew ?_ | refine blk_alloc ?_ _)); exact BK103.out) hb); have n1_ := Aside0.mk (below_step (by repeat (first | (with_reducible first | exact HB.out | apply below_alloc | apply pw_below_drewN | apply below_drew1 | refine below_set ?_ GE103.out) | exact HB.out)) hb); clear BK103; clear HB; have BK103 := n0_; have HB := n1_; clear n0_ n1_; (try clear hb); (try clear hb2); (try clear hk); (try clear hi))))
                    (try simp only [Act.put, List.setIfInBounds_toArray, List.set_cons_zero, List.set_cons_succ])
                    go_cut [100] (fun v100 wc => ∃ (kq : Nat) (x100_23 : Bool), v100 = .bool x100_23 ∧ Aside0 (muleteerlaw1_HeadSizes.j3 kq a1 t105 x100_23 258 772 70 0 0 0 (Int.tmod (wrap64 ((Int.tmod a0 10) + 10)) 10) a1 (Int.tmod a2 x11_13) x104009_17 0 0 0 0 0 = some r) ∧ Aside0 (kq ≤ kj17) ∧ Aside0 (wc.heap[gb103]? = some (.cells #[.int .i64 258, .int .i64 772, .int .i64 70, .int .i64 0, .int .i64 0, .int .i64 0, .int .i64 (Int.tmod (wrap64 ((Int.tmod a0 10) + 10)) 10), .bool a1, .int .u64 (Int.tmod a2 x11_13), .int .u64 x104009_17, .int .u32 0, .int .i64 0, .int .u8 0, .int .u8 0, .int .u8 0] 28 (0, 0))) ∧ Aside0 (Below w.heap.size w wc))
                    case first =>
                      have H := HC24.out
                      clear HC24
                      by_cases c27 : (t105.size : Int) = t102
                      · rw [if_pos c27] at H
                        have c27b0 : ((t105.size : Int) == t102) = true := beq_iff_eq.mpr c27
                        have c27b1 : ((t105.size : Int) != t102) = false := bne_eq_false_iff_eq.mpr c27
                        clear c27
                        (first | rw [c27b0] | (simp only [i64_w, i32_w]; rw [c27b0]) | skip)
                        by_cases c28 : 0 < (t105.size : Int)
                        · rw [if_pos c28] at H
                          have c28b0 : decide (0 < (t105.size : Int)) = true := decide_eq_true c28
                          have c28b1 : decide (0 < t105.size) = true := decide_eq_true (by omega)
                          clear c28
                          by_cases c30 : (bt t105 0) = 1
                          · rw [if_pos c30] at H
                            have c30b0 : ((bt t105 0) == 1) = true := beq_iff_eq.mpr c30
                            have c30b1 : ((bt t105 0) != 1) = false := bne_eq_false_iff_eq.mpr c30
                            clear c30
                            by_cases c31 : 1 < (t105.size : Int)
                            · rw [if_pos c31] at H
                              have c31b0 : decide (1 < (t105.size : Int)) = true := decide_eq_true c31
                              have c31b1 : decide (1 < t105.size) = true := decide_eq_true (by omega)
                              clear c31
                              by_cases c33 : (bt t105 1) = 2
                              · rw [if_pos c33] at H
                                have c33b0 : ((bt t105 1) == 2) = true := beq_iff_eq.mpr c33
                                have c33b1 : ((bt t105 1) != 2) = false := bne_eq_false_iff_eq.mpr c33
                                clear c33
                                by_cases c34 : 2 < (t105.size : Int)
                                · rw [if_pos c34] at H
                                  have c34b0 : decide (2 < (t105.size : Int)) = true := decide_eq_true c34
                                  have c34b1 : decide (2 < t105.size) = true := decide_eq_true (by omega)
                                  clear c34
                                  by_cases c36 : (bt t105 2) = 3
                                  · rw [if_pos c36] at H
                                    have c36b0 : ((bt t105 2) == 3) = true := beq_iff_eq.mpr c36
                                    have c36b1 : ((bt t105 2) != 3) = false := bne_eq_false_iff_eq.mpr c36
                                    clear c36
                                    by_cases c37 : 3 < (t105.size : Int)
                                    · rw [if_pos c37] at H
                                      have c37b0 : decide (3 < (t105.size : Int)) = true := decide_eq_true c37
                                      have c37b1 : decide (3 < t105.size) = true := decide_eq_true (by omega)
                                      clear c37
                                      by_cases c39 : (bt t105 3) = 4
                                      · rw [if_pos c39] at H
                                        have c39b0 : ((bt t105 3) == 4) = true := beq_iff_eq.mpr c39
                                        have c39b1 : ((bt t105 3) != 4) = false := bne_eq_false_iff_eq.mpr c39
                                        clear c39
                                        by_cases c40 : 4 < (t105.size : Int)
                                        · rw [if_pos c40] at H
                                          have c40b0 : decide (4 < (t105.size : Int)) = true := decide_eq_true c40
                                          have c40b1 : decide (4 < t105.size) = true := decide_eq_true (by omega)
                                          clear c40
                                          by_cases c42 : (bt t105 4) = 70
                                          · rw [if_pos c42] at H
                                            have c42b0 : ((bt t105 4) == 70) = true := beq_iff_eq.mpr c42
                                            have c42b1 : ((bt t105 4) != 70) = false := bne_eq_false_iff_eq.mpr c42
                                            clear c42
                                            by_cases c43 : 8 < (t105.size : Int)
                                            · rw [if_pos c43] at H
                                              have c43b0 : decide (8 < (t105.size : Int)) = true := decide_eq_true c43
                                              have c43b1 : decide (8 < t105.size) = true := decide_eq_true (by omega)
                                              clear c43
                                              by_cases c45 : ((Int.tdiv (bt t105 8) 2) % 256) = (Int.tmod (wrap64 ((Int.tmod a0 10) + 10)) 10)
                                              · rw [if_pos c45] at H
                                                have c45b0 : (((Int.tdiv (bt t105 8) 2) % 256) == (Int.tmod (wrap64 ((Int.tmod a0 10) + 10)) 10)) = true := beq_iff_eq.mpr c45
                                                have c45b1 : (((Int.tdiv (bt t105 8) 2) % 256) != (Int.tmod (wrap64 ((Int.tmod a0 10) + 10)) 10)) = false := bne_eq_false_iff_eq.mpr c45
                                                clear c45
                                                have H' := Aside0.mk H
                                                clear H
                                                have p29 : 0 ≤ (0 : Int) := (by omega)
                                                have q29 : 0 < t105.size := (by have : (0 : Int) < (t105.size : Int) := of_decide_eq_true (by first | (with_reducible assumption) | assumption); omega)
                                                have hx29 : ∀ h : 0 < t105.size, ((t105[0]'h).toNat : Int) = bt t105 0 := bt_at t105 0
                                                clear p29
                                                have qi29 : (0 < (t105.size : Int)) = True := eq_true (of_decide_eq_true (by first | (with_reducible assumption) | assumption))
                                                replace q29 := eq_true q29
                                                have p32 : 0 ≤ (1 : Int) := (by omega)
                                                have q32 : 1 < t105.size := (by have : (1 : Int) < (t105.size : Int) := of_decide_eq_true (by first | (with_reducible assumption) | assumption); omega)
                                                have hx32 : ∀ h : 1 < t105.size, ((t105[1]'h).toNat : Int) = bt t105 1 := bt_at t105 1
                                                clear p32
                                                have qi32 : (1 < (t105.size : Int)) = True := eq_true (of_decide_eq_true (by first | (with_reducible assumption) | assumption))
                                                replace q32 := eq_true q32
                                                have p35 : 0 ≤ (2 : Int) := (by omega)
                                                have q35 : 2 < t105.size := (by have : (2 : Int) < (t105.size : Int) := of_decide_eq_true (by first | (with_reducible assumption) | assumption); omega)
                                                have hx35 : ∀ h : 2 < t105.size, ((t105[2]'h).toNat : Int) = bt t105 2 := bt_at t105 2
                                                clear p35
                                                have qi35 : (2 < (t105.size : Int)) = True := eq_true (of_decide_eq_true (by first | (with_reducible assumption) | assumption))
                                                replace q35 := eq_true q35
                                                have p38 : 0 ≤ (3 : Int) := (by omega)
                                                have q38 : 3 < t105.size := (by have : (3 : Int) < (t105.size : Int) := of_decide_eq_true (by first | (with_reducible assumption) | assumption); omega)
                                                have hx38 : ∀ h : 3 < t105.size, ((t105[3]'h).toNat : Int) = bt t105 3 := bt_at t105 3
                                                clear p38
                                                have qi38 : (3 < (t105.size : Int)) = True := eq_true (of_decide_eq_true (by first | (with_reducible assumption) | assumption))
                                                replace q38 := eq_true q38
                                                have p41 : 0 ≤ (4 : Int) := (by omega)
                                                have q41 : 4 < t105.size := (by have : (4 : Int) < (t105.size : Int) := of_decide_eq_true (by first | (with_reducible assumption) | assumption); omega)
                                                have hx41 : ∀ h : 4 < t105.size, ((t105[4]'h).toNat : Int) = bt t105 4 := bt_at t105 4
                                                clear p41
                                                have qi41 : (4 < (t105.size : Int)) = True := eq_true (of_decide_eq_true (by first | (with_reducible assumption) | assumption))
                                                replace q41 := eq_true q41
                                                have p44 : 0 ≤ (8 : Int) := (by omega)
                                                have q44 : 8 < t105.size := (by have : (8 : Int) < (t105.size : Int) := of_decide_eq_true (by first | (with_reducible assumption) | assumption); omega)
                                                have hx44 : ∀ h : 8 < t105.size, ((t105[8]'h).toNat : Int) = bt t105 8 := bt_at t105 8
                                                clear p44
                                                have qi44 : (8 < (t105.size : Int)) = True := eq_true (of_decide_eq_true (by first | (with_reducible assumption) | assumption))
                                                replace q44 := eq_true q44
                                                have p46 : 0 ≤ (8 : Int) := (by omega)
                                                have q46 : 8 < t105.size := (by have : (8 : Int) < (t105.size : Int) := of_decide_eq_true (by first | (with_reducible assumption) | assumption); omega)
                                                have hx46 : ∀ h : 8 < t105.size, ((t105[8]'h).toNat : Int) = bt t105 8 := bt_at t105 8
                                                clear p46
                                                have qi46 : (8 < (t105.size : Int)) = True := eq_true (of_decide_eq_true (by first | (with_reducible assumption) | assumption))
                                                replace q46 := eq_true q46
                                                go_wp2
                                                repeat (go_quiet (fail); try go_wp2)
                                                go_meet
                                                case rel => exact ⟨_, ((((Int.tmod (bt t105 8) 2) == 1) != a1)), (by first | rfl | (simp; done) | (simp [*]; done)), H', ⟨by have := HJ7.out; have := HJ13.out; have := HJ17.out; first | omega | exact Nat.le_refl _⟩, ⟨by (with_reducible repeat (first | refine blk_drewN ?_ _ | refine blk_drew ?_ | refine blk_alloc ?_ _)); exact BK103.out⟩, ⟨by repeat (first | (with_reducible first | exact HB.out | apply below_alloc | apply pw_below_drewN | apply below_drew1 | refine below_set ?_ GE103.out) | exact HB.out)⟩⟩
                                              · rw [if_neg c45] at H
                                                have c45b0 : (((Int.tdiv (bt t105 8) 2) % 256) == (Int.tmod (wrap64 ((Int.tmod a0 10) + 10)) 10)) = false := beq_eq_false_iff_ne.mpr c45
                                                have c45b1 : (((Int.tdiv (bt t105 8) 2) % 256) != (Int.tmod (wrap64 ((Int.tmod a0 10) + 10)) 10)) = true := bne_iff_ne.mpr c45
                                                have H' := Aside0.mk H
                                                clear H
                                                have p29 : 0 ≤ (0 : Int) := (by omega)
                                                have q29 : 0 < t105.size := (by have : (0 : Int) < (t105.size : Int) := of_decide_eq_true (by first | (with_reducible assumption) | assumption); omega)
                                                have hx29 : ∀ h : 0 < t105.size, ((t105[0]'h).toNat : Int) = bt t105 0 := bt_at t105 0
                                                clear p29
                                                have qi29 : (0 < (t105.size : Int)) = True := eq_true (of_decide_eq_true (by first | (with_reducible assumption) | assumption))
                                                replace q29 := eq_true q29
                                                have p32 : 0 ≤ (1 : Int) := (by omega)
                                                have q32 : 1 < t105.size := (by have : (1 : Int) < (t105.size : Int) := of_decide_eq_true (by first | (with_reducible assumption) | assumption); omega)
                                                have hx32 : ∀ h : 1 < t105.size, ((t105[1]'h).toNat : Int) = bt t105 1 := bt_at t105 1
                                                clear p32
                                                have qi32 : (1 < (t105.size : Int)) = True := eq_true (of_decide_eq_true (by first | (with_reducible assumption) | assumption))
                                                replace q32 := eq_true q32
                                                have p35 : 0 ≤ (2 : Int) := (by omega)
                                                have q35 : 2 < t105.size := (by have : (2 : Int) < (t105.size : Int) := of_decide_eq_true (by first | (with_reducible assumption) | assumption); omega)
                                                have hx35 : ∀ h : 2 < t105.size, ((t105[2]'h).toNat : Int) = bt t105 2 := bt_at t105 2
                                                clear p35
                                                have qi35 : (2 < (t105.size : Int)) = True := eq_true (of_decide_eq_true (by first | (with_reducible assumption) | assumption))
                                                replace q35 := eq_true q35
                                                have p38 : 0 ≤ (3 : Int) := (by omega)
                                                have q38 : 3 < t105.size := (by have : (3 : Int) < (t105.size : Int) := of_decide_eq_true (by first | (with_reducible assumption) | assumption); omega)
                                                have hx38 : ∀ h : 3 < t105.size, ((t105[3]'h).toNat : Int) = bt t105 3 := bt_at t105 3
                                                clear p38
                                                have qi38 : (3 < (t105.size : Int)) = True := eq_true (of_decide_eq_true (by first | (with_reducible assumption) | assumption))
                                                replace q38 := eq_true q38
                                                have p41 : 0 ≤ (4 : Int) := (by omega)
                                                have q41 : 4 < t105.size := (by have : (4 : Int) < (t105.size : Int) := of_decide_eq_true (by first | (with_reducible assumption) | assumption); omega)
                                                have hx41 : ∀ h : 4 < t105.size, ((t105[4]'h).toNat : Int) = bt t105 4 := bt_at t105 4
                                                clear p41
                                                have qi41 : (4 < (t105.size : Int)) = True := eq_true (of_decide_eq_true (by first | (with_reducible assumption) | assumption))
                                                replace q41 := eq_true q41
                                                have p44 : 0 ≤ (8 : Int) := (by omega)
                                                have q44 : 8 < t105.size := (by have : (8 : Int) < (t105.size : Int) := of_decide_eq_true (by first | (with_reducible assumption) | assumption); omega)
                                                have hx44 : ∀ h : 8 < t105.size, ((t105[8]'h).toNat : Int) = bt t105 8 := bt_at t105 8
                                                clear p44
                                                have qi44 : (8 < (t105.size : Int)) = True := eq_true (of_decide_eq_true (by first | (with_reducible assumption) | assumption))
                                                replace q44 := eq_true q44
                                                go_wp2
                                                repeat (go_quiet (fail); try go_wp2)
                                                go_meet
                                                case rel => exact ⟨_, (true), (by first | rfl | (simp; done) | (simp [*]; done)), H', ⟨by have := HJ7.out; have := HJ13.out; have := HJ17.out; first | omega | exact Nat.le_refl _⟩, ⟨by (with_reducible repeat (first | refine blk_drewN ?_ _ | refine blk_drew ?_ | refine blk_alloc ?_ _)); exact BK103.out⟩, ⟨by repeat (first | (with_reducible first | exact HB.out | apply below_alloc | apply pw_below_drewN | apply below_drew1 | refine below_set ?_ GE103.out) | exact HB.out)⟩⟩
                                            · rw [if_neg c43] at H
                                              exact absurd H (by simp)
                                          · rw [if_neg c42] at H
                                            have c42b0 : ((bt t105 4) == 70) = false := beq_eq_false_iff_ne.mpr c42
                                            have c42b1 : ((bt t105 4) != 70) = true := bne_iff_ne.mpr c42
                                            have H' := Aside0.mk H
                                            clear H
                                            have p29 : 0 ≤ (0 : Int) := (by omega)
                                            have q29 : 0 < t105.size := (by have : (0 : Int) < (t105.size : Int) := of_decide_eq_true (by first | (with_reducible assumption) | assumption); omega)
                                            have hx29 : ∀ h : 0 < t105.size, ((t105[0]'h).toNat : Int) = bt t105 0 := bt_at t105 0
                                            clear p29
                                            have qi29 : (0 < (t105.size : Int)) = True := eq_true (of_decide_eq_true (by first | (with_reducible assumption) | assumption))
                                            replace q29 := eq_true q29
                                            have p32 : 0 ≤ (1 : Int) := (by omega)
                                            have q32 : 1 < t105.size := (by have : (1 : Int) < (t105.size : Int) := of_decide_eq_true (by first | (with_reducible assumption) | assumption); omega)
                                            have hx32 : ∀ h : 1 < t105.size, ((t105[1]'h).toNat : Int) = bt t105 1 := bt_at t105 1
                                            clear p32
                                            have qi32 : (1 < (t105.size : Int)) = True := eq_true (of_decide_eq_true (by first | (with_reducible assumption) | assumption))
                                            replace q32 := eq_true q32
                                            have p35 : 0 ≤ (2 : Int) := (by omega)
                                            have q35 : 2 < t105.size := (by have : (2 : Int) < (t105.size : Int) := of_decide_eq_true (by first | (with_reducible assumption) | assumption); omega)
                                            have hx35 : ∀ h : 2 < t105.size, ((t105[2]'h).toNat : Int) = bt t105 2 := bt_at t105 2
                                            clear p35
                                            have qi35 : (2 < (t105.size : Int)) = True := eq_true (of_decide_eq_true (by first | (with_reducible assumption) | assumption))
                                            replace q35 := eq_true q35
                                            have p38 : 0 ≤ (3 : Int) := (by omega)
                                            have q38 : 3 < t105.size := (by have : (3 : Int) < (t105.size : Int) := of_decide_eq_true (by first | (with_reducible assumption) | assumption); omega)
                                            have hx38 : ∀ h : 3 < t105.size, ((t105[3]'h).toNat : Int) = bt t105 3 := bt_at t105 3
                                            clear p38
                                            have qi38 : (3 < (t105.size : Int)) = True := eq_true (of_decide_eq_true (by first | (with_reducible assumption) | assumption))
                                            replace q38 := eq_true q38
                                            have p41 : 0 ≤ (4 : Int) := (by omega)
                                            have q41 : 4 < t105.size := (by have : (4 : Int) < (t105.size : Int) := of_decide_eq_true (by first | (with_reducible assumption) | assumption); omega)
                                            have hx41 : ∀ h : 4 < t105.size, ((t105[4]'h).toNat : Int) = bt t105 4 := bt_at t105 4
                                            clear p41
                                            have qi41 : (4 < (t105.size : Int)) = True := eq_true (of_decide_eq_true (by first | (with_reducible assumption) | assumption))
                                            replace q41 := eq_true q41
                                            go_wp2
                                            repeat (go_quiet (fail); try go_wp2)
                                            go_meet
                                            case rel => exact ⟨_, (true), (by first | rfl | (simp; done) | (simp [*]; done)), H', ⟨by have := HJ7.out; have := HJ13.out; have := HJ17.out; first | omega | exact Nat.le_refl _⟩, ⟨by (with_reducible repeat (first | refine blk_drewN ?_ _ | refine blk_drew ?_ | refine blk_alloc ?_ _)); exact BK103.out⟩, ⟨by repeat (first | (with_reducible first | exact HB.out | apply below_alloc | apply pw_below_drewN | apply below_drew1 | refine below_set ?_ GE103.out) | exact HB.out)⟩⟩
                                        · rw [if_neg c40] at H
                                          exact absurd H (by simp)
                                      · rw [if_neg c39] at H
                                        have c39b0 : ((bt t105 3) == 4) = false := beq_eq_false_iff_ne.mpr c39
                                        have c39b1 : ((bt t105 3) != 4) = true := bne_iff_ne.mpr c39
                                        have H' := Aside0.mk H
                                        clear H
                                        have p29 : 0 ≤ (0 : Int) := (by omega)
                                        have q29 : 0 < t105.size := (by have : (0 : Int) < (t105.size : Int) := of_decide_eq_true (by first | (with_reducible assumption) | assumption); omega)
                                        have hx29 : ∀ h : 0 < t105.size, ((t105[0]'h).toNat : Int) = bt t105 0 := bt_at t105 0
                                        clear p29
                                        have qi29 : (0 < (t105.size : Int)) = True := eq_true (of_decide_eq_true (by first | (with_reducible assumption) | assumption))
                                        replace q29 := eq_true q29
                                        have p32 : 0 ≤ (1 : Int) := (by omega)
                                        have q32 : 1 < t105.size := (by have : (1 : Int) < (t105.size : Int) := of_decide_eq_true (by first | (with_reducible assumption) | assumption); omega)
                                        have hx32 : ∀ h : 1 < t105.size, ((t105[1]'h).toNat : Int) = bt t105 1 := bt_at t105 1
                                        clear p32
                                        have qi32 : (1 < (t105.size : Int)) = True := eq_true (of_decide_eq_true (by first | (with_reducible assumption) | assumption))
                                        replace q32 := eq_true q32
                                        have p35 : 0 ≤ (2 : Int) := (by omega)
                                        have q35 : 2 < t105.size := (by have : (2 : Int) < (t105.size : Int) := of_decide_eq_true (by first | (with_reducible assumption) | assumption); omega)
                                        have hx35 : ∀ h : 2 < t105.size, ((t105[2]'h).toNat : Int) = bt t105 2 := bt_at t105 2
                                        clear p35
                                        have qi35 : (2 < (t105.size : Int)) = True := eq_true (of_decide_eq_true (by first | (with_reducible assumption) | assumption))
                                        replace q35 := eq_true q35
                                        have p38 : 0 ≤ (3 : Int) := (by omega)
                                        have q38 : 3 < t105.size := (by have : (3 : Int) < (t105.size : Int) := of_decide_eq_true (by first | (with_reducible assumption) | assumption); omega)
                                        have hx38 : ∀ h : 3 < t105.size, ((t105[3]'h).toNat : Int) = bt t105 3 := bt_at t105 3
                                        clear p38
                                        have qi38 : (3 < (t105.size : Int)) = True := eq_true (of_decide_eq_true (by first | (with_reducible assumption) | assumption))
                                        replace q38 := eq_true q38
                                        go_wp2
                                        repeat (go_quiet (fail); try go_wp2)
                                        go_meet
                                        case rel => exact ⟨_, (true), (by first | rfl | (simp; done) | (simp [*]; done)), H', ⟨by have := HJ7.out; have := HJ13.out; have := HJ17.out; first | omega | exact Nat.le_refl _⟩, ⟨by (with_reducible repeat (first | refine blk_drewN ?_ _ | refine blk_drew ?_ | refine blk_alloc ?_ _)); exact BK103.out⟩, ⟨by repeat (first | (with_reducible first | exact HB.out | apply below_alloc | apply pw_below_drewN | apply below_drew1 | refine below_set ?_ GE103.out) | exact HB.out)⟩⟩
                                    · rw [if_neg c37] at H
                                      exact absurd H (by simp)
                                  · rw [if_neg c36] at H
                                    have c36b0 : ((bt t105 2) == 3) = false := beq_eq_false_iff_ne.mpr c36
                                    have c36b1 : ((bt t105 2) != 3) = true := bne_iff_ne.mpr c36
                                    have H' := Aside0.mk H
                                    clear H
                                    have p29 : 0 ≤ (0 : Int) := (by omega)
                                    have q29 : 0 < t105.size := (by have : (0 : Int) < (t105.size : Int) := of_decide_eq_true (by first | (with_reducible assumption) | assumption); omega)
                                    have hx29 : ∀ h : 0 < t105.size, ((t105[0]'h).toNat : Int) = bt t105 0 := bt_at t105 0
                                    clear p29
                                    have qi29 : (0 < (t105.size : Int)) = True := eq_true (of_decide_eq_true (by first | (with_reducible assumption) | assumption))
                                    replace q29 := eq_true q29
                                    have p32 : 0 ≤ (1 : Int) := (by omega)
                                    have q32 : 1 < t105.size := (by have : (1 : Int) < (t105.size : Int) := of_decide_eq_true (by first | (with_reducible assumption) | assumption); omega)
                                    have hx32 : ∀ h : 1 < t105.size, ((t105[1]'h).toNat : Int) = bt t105 1 := bt_at t105 1
                                    clear p32
                                    have qi32 : (1 < (t105.size : Int)) = True := eq_true (of_decide_eq_true (by first | (with_reducible assumption) | assumption))
                                    replace q32 := eq_true q32
                                    have p35 : 0 ≤ (2 : Int) := (by omega)
                                    have q35 : 2 < t105.size := (by have : (2 : Int) < (t105.size : Int) := of_decide_eq_true (by first | (with_reducible assumption) | assumption); omega)
                                    have hx35 : ∀ h : 2 < t105.size, ((t105[2]'h).toNat : Int) = bt t105 2 := bt_at t105 2
                                    clear p35
                                    have qi35 : (2 < (t105.size : Int)) = True := eq_true (of_decide_eq_true (by first | (with_reducible assumption) | assumption))
                                    replace q35 := eq_true q35
                                    go_wp2
                                    repeat (go_quiet (fail); try go_wp2)
                                    go_meet
                                    case rel => exact ⟨_, (true), (by first | rfl | (simp; done) | (simp [*]; done)), H', ⟨by have := HJ7.out; have := HJ13.out; have := HJ17.out; first | omega | exact Nat.le_refl _⟩, ⟨by (with_reducible repeat (first | refine blk_drewN ?_ _ | refine blk_drew ?_ | refine blk_alloc ?_ _)); exact BK103.out⟩, ⟨by repeat (first | (with_reducible first | exact HB.out | apply below_alloc | apply pw_below_drewN | apply below_drew1 | refine below_set ?_ GE103.out) | exact HB.out)⟩⟩
                                · rw [if_neg c34] at H
                                  exact absurd H (by simp)
                              · rw [if_neg c33] at H
                                have c33b0 : ((bt t105 1) == 2) = false := beq_eq_false_iff_ne.mpr c33
                                have c33b1 : ((bt t105 1) != 2) = true := bne_iff_ne.mpr c33
                                have H' := Aside0.mk H
                                clear H
                                have p29 : 0 ≤ (0 : Int) := (by omega)
                                have q29 : 0 < t105.size := (by have : (0 : Int) < (t105.size : Int) := of_decide_eq_true (by first | (with_reducible assumption) | assumption); omega)
                                have hx29 : ∀ h : 0 < t105.size, ((t105[0]'h).toNat : Int) = bt t105 0 := bt_at t105 0
                                clear p29
                                have qi29 : (0 < (t105.size : Int)) = True := eq_true (of_decide_eq_true (by first | (with_reducible assumption) | assumption))
                                replace q29 := eq_true q29
                                have p32 : 0 ≤ (1 : Int) := (by omega)
                                have q32 : 1 < t105.size := (by have : (1 : Int) < (t105.size : Int) := of_decide_eq_true (by first | (with_reducible assumption) | assumption); omega)
                                have hx32 : ∀ h : 1 < t105.size, ((t105[1]'h).toNat : Int) = bt t105 1 := bt_at t105 1
                                clear p32
                                have qi32 : (1 < (t105.size : Int)) = True := eq_true (of_decide_eq_true (by first | (with_reducible assumption) | assumption))
                                replace q32 := eq_true q32
                                go_wp2
                                repeat (go_quiet (fail); try go_wp2)
                                go_meet
                                case rel => exact ⟨_, (true), (by first | rfl | (simp; done) | (simp [*]; done)), H', ⟨by have := HJ7.out; have := HJ13.out; have := HJ17.out; first | omega | exact Nat.le_refl _⟩, ⟨by (with_reducible repeat (first | refine blk_drewN ?_ _ | refine blk_drew ?_ | refine blk_alloc ?_ _)); exact BK103.out⟩, ⟨by repeat (first | (with_reducible first | exact HB.out | apply below_alloc | apply pw_below_drewN | apply below_drew1 | refine below_set ?_ GE103.out) | exact HB.out)⟩⟩
                            · rw [if_neg c31] at H
                              exact absurd H (by simp)
                          · rw [if_neg c30] at H
                            have c30b0 : ((bt t105 0) == 1) = false := beq_eq_false_iff_ne.mpr c30
                            have c30b1 : ((bt t105 0) != 1) = true := bne_iff_ne.mpr c30
                            have H' := Aside0.mk H
                            clear H
                            have p29 : 0 ≤ (0 : Int) := (by omega)
                            have q29 : 0 < t105.size := (by have : (0 : Int) < (t105.size : Int) := of_decide_eq_true (by first | (with_reducible assumption) | assumption); omega)
                            have hx29 : ∀ h : 0 < t105.size, ((t105[0]'h).toNat : Int) = bt t105 0 := bt_at t105 0
                            clear p29
                            have qi29 : (0 < (t105.size : Int)) = True := eq_true (of_decide_eq_true (by first | (with_reducible assumption) | assumption))
                            replace q29 := eq_true q29
                            go_wp2
                            repeat (go_quiet (fail); try go_wp2)
                            go_meet
                            case rel => exact ⟨_, (true), (by first | rfl | (simp; done) | (simp [*]; done)), H', ⟨by have := HJ7.out; have := HJ13.out; have := HJ17.out; first | omega | exact Nat.le_refl _⟩, ⟨by (with_reducible repeat (first | refine blk_drewN ?_ _ | refine blk_drew ?_ | refine blk_alloc ?_ _)); exact BK103.out⟩, ⟨by repeat (first | (with_reducible first | exact HB.out | apply below_alloc | apply pw_below_drewN | apply below_drew1 | refine below_set ?_ GE103.out) | exact HB.out)⟩⟩
                        · rw [if_neg c28] at H
                          exact absurd H (by simp)
                      · rw [if_neg c27] at H
                        have c27b0 : ((t105.size : Int) == t102) = false := beq_eq_false_iff_ne.mpr c27
                        have c27b1 : ((t105.size : Int) != t102) = true := bne_iff_ne.mpr c27
                        (first | rw [c27b0] | (simp only [i64_w, i32_w]; rw [c27b0]) | skip)
                        have H' := Aside0.mk H
                        clear H
                        go_wp2
                        repeat (go_quiet (fail); try go_wp2)
                        go_meet
                        case rel => exact ⟨_, (true), (by first | rfl | (simp; done) | (simp [*]; done)), H', ⟨by have := HJ7.out; have := HJ13.out; have := HJ17.out; first | omega | exact Nat.le_refl _⟩, ⟨by (with_reducible repeat (first | refine blk_drewN ?_ _ | refine blk_drew ?_ | refine blk_alloc ?_ _)); exact BK103.out⟩, ⟨by repeat (first | (with_reducible first | exact HB.out | apply below_alloc | apply pw_below_drewN | apply below_drew1 | refine below_set ?_ GE103.out) | exact HB.out)⟩⟩
                    case rest =>
                      clear HC24
                      try clear c1
                      try clear c2
                      try clear p2
                      try clear q2
                      try clear hx2
                      try clear qi2
                      try clear c3
                      try clear p3
                      try clear q3
                      try clear hx3
                      try clear qi3
                      try clear c4
                      try clear p4
                      try clear q4
                      try clear hx4
                      try clear qi4
                      try clear c6
                      try clear p6
                      try clear c10
                      try clear c11
                      try clear c11b0
                      try clear c11b1
                      try clear c12
                      try clear c12b0
                      try clear c12b1
                      try clear c13
                      try clear c15
                      try clear c16
                      try clear c16b0
                      try clear c16b1
                      try clear c21
                      try clear c27
                      try clear c27b0
                      try clear c27b1
                      try clear c28
                      try clear c28b0
                      try clear c28b1
                      try clear p29
                      try clear q29
                      try clear hx29
                      try clear qi29
                      try clear c30
                      try clear c30b0
                      try clear c30b1
                      try clear c31
                      try clear c31b0
                      try clear c31b1
                      try clear p32
                      try clear q32
                      try clear hx32
                      try clear qi32
                      try clear c33
                      try clear c33b0
                      try clear c33b1
                      try clear c34
                      try clear c34b0
                      try clear c34b1
                      try clear p35
                      try clear q35
                      try clear hx35
                      try clear qi35
                      try clear c36
                      try clear c36b0
                      try clear c36b1
                      try clear c37
                      try clear c37b0
                      try clear c37b1
                      try clear p38
                      try clear q38
                      try clear hx38
                      try clear qi38
                      try clear c39
                      try clear c39b0
                      try clear c39b1
                      try clear c40
                      try clear c40b0
                      try clear c40b1
                      try clear p41
                      try clear q41
                      try clear hx41
                      try clear qi41
                      try clear c42
                      try clear c42b0
                      try clear c42b1
                      try clear c43
                      try clear c43b0
                      try clear c43b1
                      try clear p44
                      try clear q44
                      try clear hx44
                      try clear qi44
                      try clear c45
                      try clear c45b0
                      try clear c45b1
                      try clear p46
                      try clear q46
                      try clear hx46
                      try clear qi46
                      try clear hcz20_0
                      try clear hcz20_1
                      try clear hcz20_10
                      try clear hcz20_11
                      try clear hcz20_12
                      try clear hcz20_13
                      try clear hcz20_14
                      try clear hcz20_2
                      try clear hcz20_3
                      try clear hcz20_4
                      try clear hcz20_5
                      try clear hcz20_6
                      try clear hcz20_7
                      try clear hcz20_8
                      try clear hcz20_9
                      try clear hcz22_0
                      try clear hcz22_1
                      try clear hcz22_10
                      try clear hcz22_11
                      try clear hcz22_12
                      try clear hcz22_13
                      try clear hcz22_14
                      try clear hcz22_2
                      try clear hcz22_3
                      try clear hcz22_4
                      try clear hcz22_5
                      try clear hcz22_6
                      try clear hcz22_7
                      try clear hcz22_8
                      try clear hcz22_9
                      try clear hcz25_0
                      try clear hcz25_1
                      try clear hcz25_10
                      try clear hcz25_11
                      try clear hcz25_12
                      try clear hcz25_13
                      try clear hcz25_14
                      try clear hcz25_2
                      try clear hcz25_3
                      try clear hcz25_4
                      try clear hcz25_5
                      try clear hcz25_6
                      try clear hcz25_7
                      try clear hcz25_8
                      try clear hcz25_9
                      try clear hfz20_0
                      try clear hfz20_1
                      try clear hfz20_10
                      try clear hfz20_11
                      try clear hfz20_12
                      try clear hfz20_13
                      try clear hfz20_14
                      try clear hfz20_2
                      try clear hfz20_3
                      try clear hfz20_4
                      try clear hfz20_5
                      try clear hfz20_6
                      try clear hfz20_7
                      try clear hfz20_8
                      try clear hfz20_9
                      try clear hfz22_0
                      try clear hfz22_1
                      try clear hfz22_10
                      try clear hfz22_11
                      try clear hfz22_12
                      try clear hfz22_13
                      try clear hfz22_14
                      try clear hfz22_2
                      try clear hfz22_3
                      try clear hfz22_4
                      try clear hfz22_5
                      try clear hfz22_6
                      try clear hfz22_7
                      try clear hfz22_8
                      try clear hfz22_9
                      try clear hfz25_0
                      try clear hfz25_1
                      try clear hfz25_10
                      try clear hfz25_11
                      try clear hfz25_12
                      try clear hfz25_13
                      try clear hfz25_14
                      try clear hfz25_2
                      try clear hfz25_3
                      try clear hfz25_4
                      try clear hfz25_5
                      try clear hfz25_6
                      try clear hfz25_7
                      try clear hfz25_8
                      try clear hfz25_9
                      try clear p2
                      try clear p29
                      try clear p32
                      try clear p35
                      try clear p38
                      try clear p41
                      try clear p44
                      try clear p46
                      try clear p6
                      try clear q29
                      try clear q32
                      try clear q35
                      try clear q38
                      try clear q41
                      try clear q44
                      try clear q46
                      obtain ⟨kq, x100_23, rfl, HA, HJ23, BK103, HB⟩ := hcut
                      cases kq with
                      | zero => exact absurd HA.out (by simp [muleteerlaw1_HeadSizes.j3])
                      | succ kj23 =>
                        have H := HA.out
                        clear HA
                        simp only [muleteerlaw1_HeadSizes.j3] at H
                        by_cases c47 : x100_23 = true
                        · subst c47
                          have H1 : (some false) = some r := by rw [if_pos rfl] at H; exact H
                          clear H
                          have H := H1
                          clear H1
                          obtain rfl := Option.some.inj H
                          go_wp2
                          repeat (go_quiet (fail); try go_wp2)
                          go_ret
                          exact ⟨by first | rfl | (simp [errW_none, errW_some] <;> rfl) | (simp [*, errW_none, errW_some] <;> rfl), by repeat (first | (with_reducible first | exact HB.out | apply below_alloc | apply pw_below_drewN | apply below_drew1 | refine below_set ?_ GE103.out) | exact HB.out)⟩
                        · replace c47 := Bool.eq_false_iff.mpr c47
                          subst c47
                          have H1 : (if a1 = true then (if 10 ≤ 16 then (if 16 ≤ (t105.size : Int) then ((muleteerref1_Number.f kj23 (t105.extract 10 16)).bind fun t106 => (if t106 = (Int.tmod a2 x11_13) then (if 9 < (t105.size : Int) then (some ((bt t105 9) == 0)) else (none)) else (some false))) else (none)) else (none)) else (if 9 ≤ 12 then (if 12 ≤ (t105.size : Int) then ((muleteerref1_Number.f kj23 (t105.extract 9 12)).bind fun t107 => (some (t107 == (Int.tmod a2 x11_13)))) else (none)) else (none))) = some r := by rw [if_neg (show ¬ (false = true) by decide)] at H; exact H
                          clear H
                          have H := H1
                          clear H1
                          by_cases c48 : a1 = true
                          · subst c48
                            have H1 : (if 10 ≤ 16 then (if 16 ≤ (t105.size : Int) then ((muleteerref1_Number.f kj23 (t105.extract 10 16)).bind fun t106 => (if t106 = (Int.tmod a2 x11_13) then (if 9 < (t105.size : Int) then (some ((bt t105 9) == 0)) else (none)) else (some false))) else (none)) else (none)) = some r := by rw [if_pos rfl] at H; exact H
                            clear H
                            have H := H1
                            clear H1
                            by_cases c49 : 10 ≤ 16
                            · rw [if_pos c49] at H
                              have c49b0 := eq_true c49
                              have c49b1 : decide (10 ≤ 16) = true := decide_eq_true c49
                              clear c49
                              by_cases c50 : 16 ≤ (t105.size : Int)
                              · rw [if_pos c50] at H
                                have c50b0 := eq_true c50
                                have c50b1 : decide (16 ≤ (t105.size : Int)) = true := decide_eq_true c50
                                clear c50
                                replace H := Option.bind_eq_some_iff.mp H
                                obtain ⟨t106, A510, H⟩ := H
                                replace H : (if t106 = (Int.tmod a2 x11_13) then (if 9 < (t105.size : Int) then (some ((bt t105 9) == 0)) else (none)) else (some false)) = some r := H
                                have A51 := Aside0.mk A510
                                clear A510
                                by_cases c52 : t106 = (Int.tmod a2 x11_13)
                                · rw [if_pos c52] at H
                                  have c52b0 : (t106 == (Int.tmod a2 x11_13)) = true := beq_iff_eq.mpr c52
                                  have c52b1 : (t106 != (Int.tmod a2 x11_13)) = false := bne_eq_false_iff_eq.mpr c52
                                  clear c52
                                  by_cases c53 : 9 < (t105.size : Int)
                                  · rw [if_pos c53] at H
                                    have c53b0 : decide (9 < (t105.size : Int)) = true := decide_eq_true c53
                                    have c53b1 : decide (9 < t105.size) = true := decide_eq_true (by omega)
                                    clear c53
                                    obtain rfl := Option.some.inj H
                                    go_wp2_with (first | (go_at_call 12; (with_reducible refine (muleteerref1_Number.calls kj23 (t105.extract 10 16) t106 _ A51.out).mono ?_); rintro e w' ⟨rfl, ⟨nd, rfl⟩⟩; (try first | exact ⟨rfl, _, World.drewN_drewN _ _ _⟩ | exact ⟨rfl, _, Eq.trans (World.drewN_drewN _ _ _) (congrArg (World.drewN _) (Nat.add_assoc _ _ _))⟩); have hcz55_0 : wc.cell? ⟨gb103, 0, none⟩ = some (.int .i64 258) := (blk_cell BK103.out 0).trans rfl; have hcz55_1 : wc.cell? ⟨gb103, 1, none⟩ = some (.int .i64 772) := (blk_cell BK103.out 1).trans rfl; have hcz55_2 : wc.cell? ⟨gb103, 2, none⟩ = some (.int .i64 70) := (blk_cell BK103.out 2).trans rfl; have hcz55_3 : wc.cell? ⟨gb103, 3, none⟩ = some (.int .i64 0) := (blk_cell BK103.out 3).trans rfl; have hcz55_4 : wc.cell? ⟨gb103, 4, none⟩ = some (.int .i64 0) := (blk_cell BK103.out 4).trans rfl; have hcz55_5 : wc.cell? ⟨gb103, 5, none⟩ = some (.int .i64 0) := (blk_cell BK103.out 5).trans rfl; have hcz55_6 : wc.cell? ⟨gb103, 6, none⟩ = some (.int .i64 (Int.tmod (wrap64 ((Int.tmod a0 10) + 10)) 10)) := (blk_cell BK103.out 6).trans rfl; have hcz55_7 : wc.cell? ⟨gb103, 7, none⟩ = some (.bool true) := (blk_cell BK103.out 7).trans rfl; have hcz55_8 : wc.cell? ⟨gb103, 8, none⟩ = some (.int .u64 (Int.tmod a2 x11_13)) := (blk_cell BK103.out 8).trans rfl; have hcz55_9 : wc.cell? ⟨gb103, 9, none⟩ = some (.int .u64 x104009_17) := (blk_cell BK103.out 9).trans rfl; have hcz55_10 : wc.cell? ⟨gb103, 10, none⟩ = some (.int .u32 0) := (blk_cell BK103.out 10).trans rfl; have hcz55_11 : wc.cell? ⟨gb103, 11, none⟩ = some (.int .i64 0) := (blk_cell BK103.out 11).trans rfl; have hcz55_12 : wc.cell? ⟨gb103, 12, none⟩ = some (.int .u8 0) := (blk_cell BK103.out 12).trans rfl; have hcz55_13 : wc.cell? ⟨gb103, 13, none⟩ = some (.int .u8 0) := (blk_cell BK103.out 13).trans rfl; have hcz55_14 : wc.cell? ⟨gb103, 14, none⟩ = some (.int .u8 0) := (blk_cell BK103.out 14).trans rfl; have hfz55_0 := blk_frozen BK103.out 0; have hfz55_1 := blk_frozen BK103.out 1; have hfz55_2 := blk_frozen BK103.out 2; have hfz55_3 := blk_frozen BK103.out 3; have hfz55_4 := blk_frozen BK103.out 4; have hfz55_5 := blk_frozen BK103.out 5; have hfz55_6 := blk_frozen BK103.out 6; have hfz55_7 := blk_frozen BK103.out 7; have hfz55_8 := blk_frozen BK103.out 8; have hfz55_9 := blk_frozen BK103.out 9; have hfz55_10 := blk_frozen BK103.out 10; have hfz55_11 := blk_frozen BK103.out 11; have hfz55_12 := blk_frozen BK103.out 12; have hfz55_13 := blk_frozen BK103.out 13; have hfz55_14 := blk_frozen BK103.out 14; have p54 : 0 ≤ (9 : Int) := (by omega); have q54 : 9 < t105.size := (by have : (9 : Int) < (t105.size : Int) := of_decide_eq_true (by first | (with_reducible assumption) | assumption); omega); have hx54 : ∀ h : 9 < t105.size, ((t105[9]'h).toNat : Int) = bt t105 9 := bt_at t105 9; clear p54; have qi54 : (9 < (t105.size : Int)) = True := eq_true (of_decide_eq_true (by first | (with_reducible assumption) | assumption)); replace q54 := eq_true q54))
                                    repeat (go_quiet (first | (go_at_call 12; (with_reducible refine (muleteerref1_Number.calls kj23 (t105.extract 10 16) t106 _ A51.out).mono ?_); rintro e w' ⟨rfl, ⟨nd, rfl⟩⟩; (try first | exact ⟨rfl, _, World.drewN_drewN _ _ _⟩ | exact ⟨rfl, _, Eq.trans (World.drewN_drewN _ _ _) (congrArg (World.drewN _) (Nat.add_assoc _ _ _))⟩); have hcz55_0 : wc.cell? ⟨gb103, 0, none⟩ = some (.int .i64 258) := (blk_cell BK103.out 0).trans rfl; have hcz55_1 : wc.cell? ⟨gb103, 1, none⟩ = some (.int .i64 772) := (blk_cell BK103.out 1).trans rfl; have hcz55_2 : wc.cell? ⟨gb103, 2, none⟩ = some (.int .i64 70) := (blk_cell BK103.out 2).trans rfl; have hcz55_3 : wc.cell? ⟨gb103, 3, none⟩ = some (.int .i64 0) := (blk_cell BK103.out 3).trans rfl; have hcz55_4 : wc.cell? ⟨gb103, 4, none⟩ = some (.int .i64 0) := (blk_cell BK103.out 4).trans rfl; have hcz55_5 : wc.cell? ⟨gb103, 5, none⟩ = some (.int .i64 0) := (blk_cell BK103.out 5).trans rfl; have hcz55_6 : wc.cell? ⟨gb103, 6, none⟩ = some (.int .i64 (Int.tmod (wrap64 ((Int.tmod a0 10) + 10)) 10)) := (blk_cell BK103.out 6).trans rfl; have hcz55_7 : wc.cell? ⟨gb103, 7, none⟩ = some (.bool true) := (blk_cell BK103.out 7).trans rfl; have hcz55_8 : wc.cell? ⟨gb103, 8, none⟩ = some (.int .u64 (Int.tmod a2 x11_13)) := (blk_cell BK103.out 8).trans rfl; have hcz55_9 : wc.cell? ⟨gb103, 9, none⟩ = some (.int .u64 x104009_17) := (blk_cell BK103.out 9).trans rfl; have hcz55_10 : wc.cell? ⟨gb103, 10, none⟩ = some (.int .u32 0) := (blk_cell BK103.out 10).trans rfl; have hcz55_11 : wc.cell? ⟨gb103, 11, none⟩ = some (.int .i64 0) := (blk_cell BK103.out 11).trans rfl; have hcz55_12 : wc.cell? ⟨gb103, 12, none⟩ = some (.int .u8 0) := (blk_cell BK103.out 12).trans rfl; have hcz55_13 : wc.cell? ⟨gb103, 13, none⟩ = some (.int .u8 0) := (blk_cell BK103.out 13).trans rfl; have hcz55_14 : wc.cell? ⟨gb103, 14, none⟩ = some (.int .u8 0) := (blk_cell BK103.out 14).trans rfl; have hfz55_0 := blk_frozen BK103.out 0; have hfz55_1 := blk_frozen BK103.out 1; have hfz55_2 := blk_frozen BK103.out 2; have hfz55_3 := blk_frozen BK103.out 3; have hfz55_4 := blk_frozen BK103.out 4; have hfz55_5 := blk_frozen BK103.out 5; have hfz55_6 := blk_frozen BK103.out 6; have hfz55_7 := blk_frozen BK103.out 7; have hfz55_8 := blk_frozen BK103.out 8; have hfz55_9 := blk_frozen BK103.out 9; have hfz55_10 := blk_frozen BK103.out 10; have hfz55_11 := blk_frozen BK103.out 11; have hfz55_12 := blk_frozen BK103.out 12; have hfz55_13 := blk_frozen BK103.out 13; have hfz55_14 := blk_frozen BK103.out 14; have p54 : 0 ≤ (9 : Int) := (by omega); have q54 : 9 < t105.size := (by have : (9 : Int) < (t105.size : Int) := of_decide_eq_true (by first | (with_reducible assumption) | assumption); omega); have hx54 : ∀ h : 9 < t105.size, ((t105[9]'h).toNat : Int) = bt t105 9 := bt_at t105 9; clear p54; have qi54 : (9 < (t105.size : Int)) = True := eq_true (of_decide_eq_true (by first | (with_reducible assumption) | assumption)); replace q54 := eq_true q54)); try go_wp2_with (first | (go_at_call 12; (with_reducible refine (muleteerref1_Number.calls kj23 (t105.extract 10 16) t106 _ A51.out).mono ?_); rintro e w' ⟨rfl, ⟨nd, rfl⟩⟩; (try first | exact ⟨rfl, _, World.drewN_drewN _ _ _⟩ | exact ⟨rfl, _, Eq.trans (World.drewN_drewN _ _ _) (congrArg (World.drewN _) (Nat.add_assoc _ _ _))⟩); have hcz55_0 : wc.cell? ⟨gb103, 0, none⟩ = some (.int .i64 258) := (blk_cell BK103.out 0).trans rfl; have hcz55_1 : wc.cell? ⟨gb103, 1, none⟩ = some (.int .i64 772) := (blk_cell BK103.out 1).trans rfl; have hcz55_2 : wc.cell? ⟨gb103, 2, none⟩ = some (.int .i64 70) := (blk_cell BK103.out 2).trans rfl; have hcz55_3 : wc.cell? ⟨gb103, 3, none⟩ = some (.int .i64 0) := (blk_cell BK103.out 3).trans rfl; have hcz55_4 : wc.cell? ⟨gb103, 4, none⟩ = some (.int .i64 0) := (blk_cell BK103.out 4).trans rfl; have hcz55_5 : wc.cell? ⟨gb103, 5, none⟩ = some (.int .i64 0) := (blk_cell BK103.out 5).trans rfl; have hcz55_6 : wc.cell? ⟨gb103, 6, none⟩ = some (.int .i64 (Int.tmod (wrap64 ((Int.tmod a0 10) + 10)) 10)) := (blk_cell BK103.out 6).trans rfl; have hcz55_7 : wc.cell? ⟨gb103, 7, none⟩ = some (.bool true) := (blk_cell BK103.out 7).trans rfl; have hcz55_8 : wc.cell? ⟨gb103, 8, none⟩ = some (.int .u64 (Int.tmod a2 x11_13)) := (blk_cell BK103.out 8).trans rfl; have hcz55_9 : wc.cell? ⟨gb103, 9, none⟩ = some (.int .u64 x104009_17) := (blk_cell BK103.out 9).trans rfl; have hcz55_10 : wc.cell? ⟨gb103, 10, none⟩ = some (.int .u32 0) := (blk_cell BK103.out 10).trans rfl; have hcz55_11 : wc.cell? ⟨gb103, 11, none⟩ = some (.int .i64 0) := (blk_cell BK103.out 11).trans rfl; have hcz55_12 : wc.cell? ⟨gb103, 12, none⟩ = some (.int .u8 0) := (blk_cell BK103.out 12).trans rfl; have hcz55_13 : wc.cell? ⟨gb103, 13, none⟩ = some (.int .u8 0) := (blk_cell BK103.out 13).trans rfl; have hcz55_14 : wc.cell? ⟨gb103, 14, none⟩ = some (.int .u8 0) := (blk_cell BK103.out 14).trans rfl; have hfz55_0 := blk_frozen BK103.out 0; have hfz55_1 := blk_frozen BK103.out 1; have hfz55_2 := blk_frozen BK103.out 2; have hfz55_3 := blk_frozen BK103.out 3; have hfz55_4 := blk_frozen BK103.out 4; have hfz55_5 := blk_frozen BK103.out 5; have hfz55_6 := blk_frozen BK103.out 6; have hfz55_7 := blk_frozen BK103.out 7; have hfz55_8 := blk_frozen BK103.out 8; have hfz55_9 := blk_frozen BK103.out 9; have hfz55_10 := blk_frozen BK103.out 10; have hfz55_11 := blk_frozen BK103.out 11; have hfz55_12 := blk_frozen BK103.out 12; have hfz55_13 := blk_frozen BK103.out 13; have hfz55_14 := blk_frozen BK103.out 14; have p54 : 0 ≤ (9 : Int) := (by omega); have q54 : 9 < t105.size := (by have : (9 : Int) < (t105.size : Int) := of_decide_eq_true (by first | (with_reducible assumption) | assumption); omega); have hx54 : ∀ h : 9 < t105.size, ((t105[9]'h).toNat : Int) = bt t105 9 := bt_at t105 9; clear p54; have qi54 : (9 < (t105.size : Int)) = True := eq_true (of_decide_eq_true (by first | (with_reducible assumption) | assumption)); replace q54 := eq_true q54)))
                                    go_ret
                                    exact ⟨by first | rfl | (simp [errW_none, errW_some] <;> rfl) | (simp [*, errW_none, errW_some] <;> rfl), by repeat (first | (with_reducible first | exact HB.out | apply below_alloc | apply pw_below_drewN | apply below_drew1 | refine below_set ?_ GE103.out) | exact HB.out)⟩
                                  · rw [if_neg c53] at H
                                    exact absurd H (by simp)
                                · rw [if_neg c52] at H
                                  have c52b0 : (t106 == (Int.tmod a2 x11_13)) = false := beq_eq_false_iff_ne.mpr c52
                                  have c52b1 : (t106 != (Int.tmod a2 x11_13)) = true := bne_iff_ne.mpr c52
                                  obtain rfl := Option.some.inj H
                                  go_wp2_with (first | (go_at_call 12; (with_reducible refine (muleteerref1_Number.calls kj23 (t105.extract 10 16) t106 _ A51.out).mono ?_); rintro e w' ⟨rfl, ⟨nd, rfl⟩⟩; (try first | exact ⟨rfl, _, World.drewN_drewN _ _ _⟩ | exact ⟨rfl, _, Eq.trans (World.drewN_drewN _ _ _) (congrArg (World.drewN _) (Nat.add_assoc _ _ _))⟩); have hcz56_0 : wc.cell? ⟨gb103, 0, none⟩ = some (.int .i64 258) := (blk_cell BK103.out 0).trans rfl; have hcz56_1 : wc.cell? ⟨gb103, 1, none⟩ = some (.int .i64 772) := (blk_cell BK103.out 1).trans rfl; have hcz56_2 : wc.cell? ⟨gb103, 2, none⟩ = some (.int .i64 70) := (blk_cell BK103.out 2).trans rfl; have hcz56_3 : wc.cell? ⟨gb103, 3, none⟩ = some (.int .i64 0) := (blk_cell BK103.out 3).trans rfl; have hcz56_4 : wc.cell? ⟨gb103, 4, none⟩ = some (.int .i64 0) := (blk_cell BK103.out 4).trans rfl; have hcz56_5 : wc.cell? ⟨gb103, 5, none⟩ = some (.int .i64 0) := (blk_cell BK103.out 5).trans rfl; have hcz56_6 : wc.cell? ⟨gb103, 6, none⟩ = some (.int .i64 (Int.tmod (wrap64 ((Int.tmod a0 10) + 10)) 10)) := (blk_cell BK103.out 6).trans rfl; have hcz56_7 : wc.cell? ⟨gb103, 7, none⟩ = some (.bool true) := (blk_cell BK103.out 7).trans rfl; have hcz56_8 : wc.cell? ⟨gb103, 8, none⟩ = some (.int .u64 (Int.tmod a2 x11_13)) := (blk_cell BK103.out 8).trans rfl; have hcz56_9 : wc.cell? ⟨gb103, 9, none⟩ = some (.int .u64 x104009_17) := (blk_cell BK103.out 9).trans rfl; have hcz56_10 : wc.cell? ⟨gb103, 10, none⟩ = some (.int .u32 0) := (blk_cell BK103.out 10).trans rfl; have hcz56_11 : wc.cell? ⟨gb103, 11, none⟩ = some (.int .i64 0) := (blk_cell BK103.out 11).trans rfl; have hcz56_12 : wc.cell? ⟨gb103, 12, none⟩ = some (.int .u8 0) := (blk_cell BK103.out 12).trans rfl; have hcz56_13 : wc.cell? ⟨gb103, 13, none⟩ = some (.int .u8 0) := (blk_cell BK103.out 13).trans rfl; have hcz56_14 : wc.cell? ⟨gb103, 14, none⟩ = some (.int .u8 0) := (blk_cell BK103.out 14).trans rfl; have hfz56_0 := blk_frozen BK103.out 0; have hfz56_1 := blk_frozen BK103.out 1; have hfz56_2 := blk_frozen BK103.out 2; have hfz56_3 := blk_frozen BK103.out 3; have hfz56_4 := blk_frozen BK103.out 4; have hfz56_5 := blk_frozen BK103.out 5; have hfz56_6 := blk_frozen BK103.out 6; have hfz56_7 := blk_frozen BK103.out 7; have hfz56_8 := blk_frozen BK103.out 8; have hfz56_9 := blk_frozen BK103.out 9; have hfz56_10 := blk_frozen BK103.out 10; have hfz56_11 := blk_frozen BK103.out 11; have hfz56_12 := blk_frozen BK103.out 12; have hfz56_13 := blk_frozen BK103.out 13; have hfz56_14 := blk_frozen BK103.out 14))
                                  repeat (go_quiet (first | (go_at_call 12; (with_reducible refine (muleteerref1_Number.calls kj23 (t105.extract 10 16) t106 _ A51.out).mono ?_); rintro e w' ⟨rfl, ⟨nd, rfl⟩⟩; (try first | exact ⟨rfl, _, World.drewN_drewN _ _ _⟩ | exact ⟨rfl, _, Eq.trans (World.drewN_drewN _ _ _) (congrArg (World.drewN _) (Nat.add_assoc _ _ _))⟩); have hcz56_0 : wc.cell? ⟨gb103, 0, none⟩ = some (.int .i64 258) := (blk_cell BK103.out 0).trans rfl; have hcz56_1 : wc.cell? ⟨gb103, 1, none⟩ = some (.int .i64 772) := (blk_cell BK103.out 1).trans rfl; have hcz56_2 : wc.cell? ⟨gb103, 2, none⟩ = some (.int .i64 70) := (blk_cell BK103.out 2).trans rfl; have hcz56_3 : wc.cell? ⟨gb103, 3, none⟩ = some (.int .i64 0) := (blk_cell BK103.out 3).trans rfl; have hcz56_4 : wc.cell? ⟨gb103, 4, none⟩ = some (.int .i64 0) := (blk_cell BK103.out 4).trans rfl; have hcz56_5 : wc.cell? ⟨gb103, 5, none⟩ = some (.int .i64 0) := (blk_cell BK103.out 5).trans rfl; have hcz56_6 : wc.cell? ⟨gb103, 6, none⟩ = some (.int .i64 (Int.tmod (wrap64 ((Int.tmod a0 10) + 10)) 10)) := (blk_cell BK103.out 6).trans rfl; have hcz56_7 : wc.cell? ⟨gb103, 7, none⟩ = some (.bool true) := (blk_cell BK103.out 7).trans rfl; have hcz56_8 : wc.cell? ⟨gb103, 8, none⟩ = some (.int .u64 (Int.tmod a2 x11_13)) := (blk_cell BK103.out 8).trans rfl; have hcz56_9 : wc.cell? ⟨gb103, 9, none⟩ = some (.int .u64 x104009_17) := (blk_cell BK103.out 9).trans rfl; have hcz56_10 : wc.cell? ⟨gb103, 10, none⟩ = some (.int .u32 0) := (blk_cell BK103.out 10).trans rfl; have hcz56_11 : wc.cell? ⟨gb103, 11, none⟩ = some (.int .i64 0) := (blk_cell BK103.out 11).trans rfl; have hcz56_12 : wc.cell? ⟨gb103, 12, none⟩ = some (.int .u8 0) := (blk_cell BK103.out 12).trans rfl; have hcz56_13 : wc.cell? ⟨gb103, 13, none⟩ = some (.int .u8 0) := (blk_cell BK103.out 13).trans rfl; have hcz56_14 : wc.cell? ⟨gb103, 14, none⟩ = some (.int .u8 0) := (blk_cell BK103.out 14).trans rfl; have hfz56_0 := blk_frozen BK103.out 0; have hfz56_1 := blk_frozen BK103.out 1; have hfz56_2 := blk_frozen BK103.out 2; have hfz56_3 := blk_frozen BK103.out 3; have hfz56_4 := blk_frozen BK103.out 4; have hfz56_5 := blk_frozen BK103.out 5; have hfz56_6 := blk_frozen BK103.out 6; have hfz56_7 := blk_frozen BK103.out 7; have hfz56_8 := blk_frozen BK103.out 8; have hfz56_9 := blk_frozen BK103.out 9; have hfz56_10 := blk_frozen BK103.out 10; have hfz56_11 := blk_frozen BK103.out 11; have hfz56_12 := blk_frozen BK103.out 12; have hfz56_13 := blk_frozen BK103.out 13; have hfz56_14 := blk_frozen BK103.out 14)); try go_wp2_with (first | (go_at_call 12; (with_reducible refine (muleteerref1_Number.calls kj23 (t105.extract 10 16) t106 _ A51.out).mono ?_); rintro e w' ⟨rfl, ⟨nd, rfl⟩⟩; (try first | exact ⟨rfl, _, World.drewN_drewN _ _ _⟩ | exact ⟨rfl, _, Eq.trans (World.drewN_drewN _ _ _) (congrArg (World.drewN _) (Nat.add_assoc _ _ _))⟩); have hcz56_0 : wc.cell? ⟨gb103, 0, none⟩ = some (.int .i64 258) := (blk_cell BK103.out 0).trans rfl; have hcz56_1 : wc.cell? ⟨gb103, 1, none⟩ = some (.int .i64 772) := (blk_cell BK103.out 1).trans rfl; have hcz56_2 : wc.cell? ⟨gb103, 2, none⟩ = some (.int .i64 70) := (blk_cell BK103.out 2).trans rfl; have hcz56_3 : wc.cell? ⟨gb103, 3, none⟩ = some (.int .i64 0) := (blk_cell BK103.out 3).trans rfl; have hcz56_4 : wc.cell? ⟨gb103, 4, none⟩ = some (.int .i64 0) := (blk_cell BK103.out 4).trans rfl; have hcz56_5 : wc.cell? ⟨gb103, 5, none⟩ = some (.int .i64 0) := (blk_cell BK103.out 5).trans rfl; have hcz56_6 : wc.cell? ⟨gb103, 6, none⟩ = some (.int .i64 (Int.tmod (wrap64 ((Int.tmod a0 10) + 10)) 10)) := (blk_cell BK103.out 6).trans rfl; have hcz56_7 : wc.cell? ⟨gb103, 7, none⟩ = some (.bool true) := (blk_cell BK103.out 7).trans rfl; have hcz56_8 : wc.cell? ⟨gb103, 8, none⟩ = some (.int .u64 (Int.tmod a2 x11_13)) := (blk_cell BK103.out 8).trans rfl; have hcz56_9 : wc.cell? ⟨gb103, 9, none⟩ = some (.int .u64 x104009_17) := (blk_cell BK103.out 9).trans rfl; have hcz56_10 : wc.cell? ⟨gb103, 10, none⟩ = some (.int .u32 0) := (blk_cell BK103.out 10).trans rfl; have hcz56_11 : wc.cell? ⟨gb103, 11, none⟩ = some (.int .i64 0) := (blk_cell BK103.out 11).trans rfl; have hcz56_12 : wc.cell? ⟨gb103, 12, none⟩ = some (.int .u8 0) := (blk_cell BK103.out 12).trans rfl; have hcz56_13 : wc.cell? ⟨gb103, 13, none⟩ = some (.int .u8 0) := (blk_cell BK103.out 13).trans rfl; have hcz56_14 : wc.cell? ⟨gb103, 14, none⟩ = some (.int .u8 0) := (blk_cell BK103.out 14).trans rfl; have hfz56_0 := blk_frozen BK103.out 0; have hfz56_1 := blk_frozen BK103.out 1; have hfz56_2 := blk_frozen BK103.out 2; have hfz56_3 := blk_frozen BK103.out 3; have hfz56_4 := blk_frozen BK103.out 4; have hfz56_5 := blk_frozen BK103.out 5; have hfz56_6 := blk_frozen BK103.out 6; have hfz56_7 := blk_frozen BK103.out 7; have hfz56_8 := blk_frozen BK103.out 8; have hfz56_9 := blk_frozen BK103.out 9; have hfz56_10 := blk_frozen BK103.out 10; have hfz56_11 := blk_frozen BK103.out 11; have hfz56_12 := blk_frozen BK103.out 12; have hfz56_13 := blk_frozen BK103.out 13; have hfz56_14 := blk_frozen BK103.out 14)))
                                  go_ret
                                  exact ⟨by first | rfl | (simp [errW_none, errW_some] <;> rfl) | (simp [*, errW_none, errW_some] <;> rfl), by repeat (first | (with_reducible first | exact HB.out | apply below_alloc | apply pw_below_drewN | apply below_drew1 | refine below_set ?_ GE103.out) | exact HB.out)⟩
                              · rw [if_neg c50] at H
                                exact absurd H (by simp)
                            · rw [if_neg c49] at H
                              exact absurd H (by simp)
                          · replace c48 := Bool.eq_false_iff.mpr c48
                            subst c48
                            have H1 : (if 9 ≤ 12 then (if 12 ≤ (t105.size : Int) then ((muleteerref1_Number.f kj23 (t105.extract 9 12)).bind fun t107 => (some (t107 == (Int.tmod a2 x11_13)))) else (none)) else (none)) = some r := by rw [if_neg (show ¬ (false = true) by decide)] at H; exact H
                            clear H
                            have H := H1
                            clear H1
                            by_cases c57 : 9 ≤ 12
                            · rw [if_pos c57] at H
                              have c57b0 := eq_true c57
                              have c57b1 : decide (9 ≤ 12) = true := decide_eq_true c57
                              clear c57
                              by_cases c58 : 12 ≤ (t105.size : Int)
                              · rw [if_pos c58] at H
                                have c58b0 := eq_true c58
                                have c58b1 : decide (12 ≤ (t105.size : Int)) = true := decide_eq_true c58
                                clear c58
                                replace H := Option.bind_eq_some_iff.mp H
                                obtain ⟨t107, A590, H⟩ := H
                                replace H : (some (t107 == (Int.tmod a2 x11_13))) = some r := H
                                have A59 := Aside0.mk A590
                                clear A590
                                obtain rfl := Option.some.inj H
                                go_wp2_with (first | (go_at_call 12; (with_reducible refine (muleteerref1_Number.calls kj23 (t105.extract 9 12) t107 _ A59.out).mono ?_); rintro e w' ⟨rfl, ⟨nd, rfl⟩⟩; (try first | exact ⟨rfl, _, World.drewN_drewN _ _ _⟩ | exact ⟨rfl, _, Eq.trans (World.drewN_drewN _ _ _) (congrArg (World.drewN _) (Nat.add_assoc _ _ _))⟩); have hcz60_0 : wc.cell? ⟨gb103, 0, none⟩ = some (.int .i64 258) := (blk_cell BK103.out 0).trans rfl; have hcz60_1 : wc.cell? ⟨gb103, 1, none⟩ = some (.int .i64 772) := (blk_cell BK103.out 1).trans rfl; have hcz60_2 : wc.cell? ⟨gb103, 2, none⟩ = some (.int .i64 70) := (blk_cell BK103.out 2).trans rfl; have hcz60_3 : wc.cell? ⟨gb103, 3, none⟩ = some (.int .i64 0) := (blk_cell BK103.out 3).trans rfl; have hcz60_4 : wc.cell? ⟨gb103, 4, none⟩ = some (.int .i64 0) := (blk_cell BK103.out 4).trans rfl; have hcz60_5 : wc.cell? ⟨gb103, 5, none⟩ = some (.int .i64 0) := (blk_cell BK103.out 5).trans rfl; have hcz60_6 : wc.cell? ⟨gb103, 6, none⟩ = some (.int .i64 (Int.tmod (wrap64 ((Int.tmod a0 10) + 10)) 10)) := (blk_cell BK103.out 6).trans rfl; have hcz60_7 : wc.cell? ⟨gb103, 7, none⟩ = some (.bool false) := (blk_cell BK103.out 7).trans rfl; have hcz60_8 : wc.cell? ⟨gb103, 8, none⟩ = some (.int .u64 (Int.tmod a2 x11_13)) := (blk_cell BK103.out 8).trans rfl; have hcz60_9 : wc.cell? ⟨gb103, 9, none⟩ = some (.int .u64 x104009_17) := (blk_cell BK103.out 9).trans rfl; have hcz60_10 : wc.cell? ⟨gb103, 10, none⟩ = some (.int .u32 0) := (blk_cell BK103.out 10).trans rfl; have hcz60_11 : wc.cell? ⟨gb103, 11, none⟩ = some (.int .i64 0) := (blk_cell BK103.out 11).trans rfl; have hcz60_12 : wc.cell? ⟨gb103, 12, none⟩ = some (.int .u8 0) := (blk_cell BK103.out 12).trans rfl; have hcz60_13 : wc.cell? ⟨gb103, 13, none⟩ = some (.int .u8 0) := (blk_cell BK103.out 13).trans rfl; have hcz60_14 : wc.cell? ⟨gb103, 14, none⟩ = some (.int .u8 0) := (blk_cell BK103.out 14).trans rfl; have hfz60_0 := blk_frozen BK103.out 0; have hfz60_1 := blk_frozen BK103.out 1; have hfz60_2 := blk_frozen BK103.out 2; have hfz60_3 := blk_frozen BK103.out 3; have hfz60_4 := blk_frozen BK103.out 4; have hfz60_5 := blk_frozen BK103.out 5; have hfz60_6 := blk_frozen BK103.out 6; have hfz60_7 := blk_frozen BK103.out 7; have hfz60_8 := blk_frozen BK103.out 8; have hfz60_9 := blk_frozen BK103.out 9; have hfz60_10 := blk_frozen BK103.out 10; have hfz60_11 := blk_frozen BK103.out 11; have hfz60_12 := blk_frozen BK103.out 12; have hfz60_13 := blk_frozen BK103.out 13; have hfz60_14 := blk_frozen BK103.out 14))
                                repeat (go_quiet (first | (go_at_call 12; (with_reducible refine (muleteerref1_Number.calls kj23 (t105.extract 9 12) t107 _ A59.out).mono ?_); rintro e w' ⟨rfl, ⟨nd, rfl⟩⟩; (try first | exact ⟨rfl, _, World.drewN_drewN _ _ _⟩ | exact ⟨rfl, _, Eq.trans (World.drewN_drewN _ _ _) (congrArg (World.drewN _) (Nat.add_assoc _ _ _))⟩); have hcz60_0 : wc.cell? ⟨gb103, 0, none⟩ = some (.int .i64 258) := (blk_cell BK103.out 0).trans rfl; have hcz60_1 : wc.cell? ⟨gb103, 1, none⟩ = some (.int .i64 772) := (blk_cell BK103.out 1).trans rfl; have hcz60_2 : wc.cell? ⟨gb103, 2, none⟩ = some (.int .i64 70) := (blk_cell BK103.out 2).trans rfl; have hcz60_3 : wc.cell? ⟨gb103, 3, none⟩ = some (.int .i64 0) := (blk_cell BK103.out 3).trans rfl; have hcz60_4 : wc.cell? ⟨gb103, 4, none⟩ = some (.int .i64 0) := (blk_cell BK103.out 4).trans rfl; have hcz60_5 : wc.cell? ⟨gb103, 5, none⟩ = some (.int .i64 0) := (blk_cell BK103.out 5).trans rfl; have hcz60_6 : wc.cell? ⟨gb103, 6, none⟩ = some (.int .i64 (Int.tmod (wrap64 ((Int.tmod a0 10) + 10)) 10)) := (blk_cell BK103.out 6).trans rfl; have hcz60_7 : wc.cell? ⟨gb103, 7, none⟩ = some (.bool false) := (blk_cell BK103.out 7).trans rfl; have hcz60_8 : wc.cell? ⟨gb103, 8, none⟩ = some (.int .u64 (Int.tmod a2 x11_13)) := (blk_cell BK103.out 8).trans rfl; have hcz60_9 : wc.cell? ⟨gb103, 9, none⟩ = some (.int .u64 x104009_17) := (blk_cell BK103.out 9).trans rfl; have hcz60_10 : wc.cell? ⟨gb103, 10, none⟩ = some (.int .u32 0) := (blk_cell BK103.out 10).trans rfl; have hcz60_11 : wc.cell? ⟨gb103, 11, none⟩ = some (.int .i64 0) := (blk_cell BK103.out 11).trans rfl; have hcz60_12 : wc.cell? ⟨gb103, 12, none⟩ = some (.int .u8 0) := (blk_cell BK103.out 12).trans rfl; have hcz60_13 : wc.cell? ⟨gb103, 13, none⟩ = some (.int .u8 0) := (blk_cell BK103.out 13).trans rfl; have hcz60_14 : wc.cell? ⟨gb103, 14, none⟩ = some (.int .u8 0) := (blk_cell BK103.out 14).trans rfl; have hfz60_0 := blk_frozen BK103.out 0; have hfz60_1 := blk_frozen BK103.out 1; have hfz60_2 := blk_frozen BK103.out 2; have hfz60_3 := blk_frozen BK103.out 3; have hfz60_4 := blk_frozen BK103.out 4; have hfz60_5 := blk_frozen BK103.out 5; have hfz60_6 := blk_frozen BK103.out 6; have hfz60_7 := blk_frozen BK103.out 7; have hfz60_8 := blk_frozen BK103.out 8; have hfz60_9 := blk_frozen BK103.out 9; have hfz60_10 := blk_frozen BK103.out 10; have hfz60_11 := blk_frozen BK103.out 11; have hfz60_12 := blk_frozen BK103.out 12; have hfz60_13 := blk_frozen BK103.out 13; have hfz60_14 := blk_frozen BK103.out 14)); try go_wp2_with (first | (go_at_call 12; (with_reducible refine (muleteerref1_Number.calls kj23 (t105.extract 9 12) t107 _ A59.out).mono ?_); rintro e w' ⟨rfl, ⟨nd, rfl⟩⟩; (try first | exact ⟨rfl, _, World.drewN_drewN _ _ _⟩ | exact ⟨rfl, _, Eq.trans (World.drewN_drewN _ _ _) (congrArg (World.drewN _) (Nat.add_assoc _ _ _))⟩); have hcz60_0 : wc.cell? ⟨gb103, 0, none⟩ = some (.int .i64 258) := (blk_cell BK103.out 0).trans rfl; have hcz60_1 : wc.cell? ⟨gb103, 1, none⟩ = some (.int .i64 772) := (blk_cell BK103.out 1).trans rfl; have hcz60_2 : wc.cell? ⟨gb103, 2, none⟩ = some (.int .i64 70) := (blk_cell BK103.out 2).trans rfl; have hcz60_3 : wc.cell? ⟨gb103, 3, none⟩ = some (.int .i64 0) := (blk_cell BK103.out 3).trans rfl; have hcz60_4 : wc.cell? ⟨gb103, 4, none⟩ = some (.int .i64 0) := (blk_cell BK103.out 4).trans rfl; have hcz60_5 : wc.cell? ⟨gb103, 5, none⟩ = some (.int .i64 0) := (blk_cell BK103.out 5).trans rfl; have hcz60_6 : wc.cell? ⟨gb103, 6, none⟩ = some (.int .i64 (Int.tmod (wrap64 ((Int.tmod a0 10) + 10)) 10)) := (blk_cell BK103.out 6).trans rfl; have hcz60_7 : wc.cell? ⟨gb103, 7, none⟩ = some (.bool false) := (blk_cell BK103.out 7).trans rfl; have hcz60_8 : wc.cell? ⟨gb103, 8, none⟩ = some (.int .u64 (Int.tmod a2 x11_13)) := (blk_cell BK103.out 8).trans rfl; have hcz60_9 : wc.cell? ⟨gb103, 9, none⟩ = some (.int .u64 x104009_17) := (blk_cell BK103.out 9).trans rfl; have hcz60_10 : wc.cell? ⟨gb103, 10, none⟩ = some (.int .u32 0) := (blk_cell BK103.out 10).trans rfl; have hcz60_11 : wc.cell? ⟨gb103, 11, none⟩ = some (.int .i64 0) := (blk_cell BK103.out 11).trans rfl; have hcz60_12 : wc.cell? ⟨gb103, 12, none⟩ = some (.int .u8 0) := (blk_cell BK103.out 12).trans rfl; have hcz60_13 : wc.cell? ⟨gb103, 13, none⟩ = some (.int .u8 0) := (blk_cell BK103.out 13).trans rfl; have hcz60_14 : wc.cell? ⟨gb103, 14, none⟩ = some (.int .u8 0) := (blk_cell BK103.out 14).trans rfl; have hfz60_0 := blk_frozen BK103.out 0; have hfz60_1 := blk_frozen BK103.out 1; have hfz60_2 := blk_frozen BK103.out 2; have hfz60_3 := blk_frozen BK103.out 3; have hfz60_4 := blk_frozen BK103.out 4; have hfz60_5 := blk_frozen BK103.out 5; have hfz60_6 := blk_frozen BK103.out 6; have hfz60_7 := blk_frozen BK103.out 7; have hfz60_8 := blk_frozen BK103.out 8; have hfz60_9 := blk_frozen BK103.out 9; have hfz60_10 := blk_frozen BK103.out 10; have hfz60_11 := blk_frozen BK103.out 11; have hfz60_12 := blk_frozen BK103.out 12; have hfz60_13 := blk_frozen BK103.out 13; have hfz60_14 := blk_frozen BK103.out 14)))
                                go_ret
                                exact ⟨by first | rfl | (simp [errW_none, errW_some] <;> rfl) | (simp [*, errW_none, errW_some] <;> rfl), by repeat (first | (with_reducible first | exact HB.out | apply below_alloc | apply pw_below_drewN | apply below_drew1 | refine below_set ?_ GE103.out) | exact HB.out)⟩
                              · rw [if_neg c58] at H
                                exact absurd H (by simp)
                            · rw [if_neg c57] at H
                              exact absurd H (by simp)
  · replace c6 := Bool.eq_false_iff.mpr c6
    subst c6
    have H1 : (some false) = some r := by rw [if_neg (show ¬ (false = true) by decide)] at H; exact H
    clear H
    have H := H1
    clear H1
    obtain rfl := Option.some.inj H
    go_enter Tryd.func3, Tryd.ntmps3
    go_wp2_with (first | (go_at_call 8; (with_reducible refine (muleteerlaw1_begun.calls  false _ A5.out).mono ?_); rintro e w61 ⟨rfl, hb⟩; have n0_ := Aside0.mk (below_step (by repeat (first | (with_reducible first | exact HB.out | apply below_alloc | apply pw_below_drewN | apply below_drew1) | exact HB.out)) hb); clear HB; have HB := n0_; clear n0_; (try clear hb); (try clear hb2); (try clear hk); (try clear hi)))
    repeat (go_quiet (first | (go_at_call 8; (with_reducible refine (muleteerlaw1_begun.calls  false _ A5.out).mono ?_); rintro e w61 ⟨rfl, hb⟩; have n0_ := Aside0.mk (below_step (by repeat (first | (with_reducible first | exact HB.out | apply below_alloc | apply pw_below_drewN | apply below_drew1) | exact HB.out)) hb); clear HB; have HB := n0_; clear n0_; (try clear hb); (try clear hb2); (try clear hk); (try clear hi))); try go_wp2_with (first | (go_at_call 8; (with_reducible refine (muleteerlaw1_begun.calls  false _ A5.out).mono ?_); rintro e w61 ⟨rfl, hb⟩; have n0_ := Aside0.mk (below_step (by repeat (first | (with_reducible first | exact HB.out | apply below_alloc | apply pw_below_drewN | apply below_drew1) | exact HB.out)) hb); clear HB; have HB := n0_; clear n0_; (try clear hb); (try clear hb2); (try clear hk); (try clear hi))))
    go_ret
    exact ⟨by first | rfl | (simp [errW_none, errW_some] <;> rfl) | (simp [*, errW_none, errW_some] <;> rfl), by repeat (first | (with_reducible first | exact HB.out | apply below_alloc | apply pw_below_drewN | apply below_drew1) | exact HB.out)⟩

/-- THE ONE PURE STATEMENT of muleteerlaw1_HeadSizes: yours. -/
def muleteerlaw1_HeadSizes.Pure : Prop := ∀ (a0 : Int) (a1 : Bool) (a2 : Int) (a3 : Int), (Lit.int .i64 a0).wf = true → (Lit.int .u64 a2).wf = true → (Lit.int .u64 a3).wf = true → ∃ k, muleteerlaw1_HeadSizes.f k a0 a1 a2 a3 = some true
theorem muleteerlaw1_HeadSizes.walk (P : muleteerlaw1_HeadSizes.Pure) (a0 : Int) (a1 : Bool) (a2 : Int) (a3 : Int) (w : World) (w0 : (Lit.int .i64 a0).wf = true) (w2 : (Lit.int .u64 a2).wf = true) (w3 : (Lit.int .u64 a3).wf = true) :
    Calls Tryd.prog 3 #[.int .i64 a0, .bool a1, .int .u64 a2, .int .u64 a3] w fun e w' => e = .returned (.bool true) ∧ Below w.heap.size w w' := by
  obtain ⟨k, h⟩ := P a0 a1 a2 a3 w0 w2 w3
  refine (muleteerlaw1_HeadSizes.calls k a0 a1 a2 a3 true w h).mono ?_
  rintro e w' ⟨rfl, hd⟩
  exact ⟨rfl, hd⟩

end Go.Proofs.YtpebccpimcofoaaDoor.PHeadSizes
