/- begun, the trial at the begin of every statement of layer 1, is true. Conditions: each theorem's own. -/
import Derived.Test.YtmdimebifngekaaGreatDoorProg
import Derived.Below
import Derived.Deep.Draws
import Derived.Deep.AppendLies
import Derived.Maps.AppendAt
import Derived.OwnWalk
import Derived.Laws.BytesArg
import Derived.Laws.MakeOwn
import Derived.Laws.OwnMore
import Derived.Deep.OwnRows
import Derived.Tactics
import Derived.Lib.ConvBytes
import Derived.Laws.Slices
import Derived.WalkKit
import Derived.KernelRfl
import Derived.RowKit3
import Derived.Deep.LoopGhost
import Derived.Deep.QuietTactic
import Derived.BigQuiet
import Derived.WideLaws
import Derived.Deep.DeepCutAuto
import Derived.Deep.CutBlock
import Derived.Deep.RegionHeld3
import Derived.Laws.Rows
import Derived.Lib.AppendStr
import Derived.ArgAppend
import Derived.Laws.IdiomCopy
import Derived.OrdersHeld
import Derived.Laws.BitsLemmas
import Derived.RowKit
import Derived.Test.YtmdimebifngekaaGreatDoorBaseC
import Derived.Test.YtmdimebifngekaaGreatDoorWWords
import Derived.Test.YtmdimebifngekaaGreatDoorWLast
import Derived.Test.YtmdimebifngekaaGreatDoorWTab
import Derived.Test.YtmdimebifngekaaGreatDoorWFour
import Derived.Test.YtmdimebifngekaaGreatDoorWQPut
import Derived.Test.YtmdimebifngekaaGreatDoorWApart
import Derived.Test.YtmdimebifngekaaGreatDoorWArr
import Derived.Test.YtmdimebifngekaaGreatDoorWZeros
import Derived.Test.YtmdimebifngekaaGreatDoorWFoot
import Derived.Test.YtmdimebifngekaaGreatDoorWKept
import Derived.Test.YtmdimebifngekaaGreatDoorWShare
import Derived.Test.YtmdimebifngekaaGreatDoorWN
import Derived.Test.YtmdimebifngekaaGreatDoorWFootNe
import Derived.Test.YtmdimebifngekaaGreatDoorWAt
import Derived.Test.YtmdimebifngekaaGreatDoorWEqStruct
import Derived.Test.YtmdimebifngekaaGreatDoorWRepsOne
import Derived.Test.YtmdimebifngekaaGreatDoorWInv
import Derived.Test.YtmdimebifngekaaGreatDoorWInvWords
import Derived.Test.YtmdimebifngekaaGreatDoorWGuard
import Derived.Test.YtmdimebifngekaaGreatDoorWNEv
import Derived.Test.YtmdimebifngekaaGreatDoorWMore
import Derived.Test.YtmdimebifngekaaGreatDoorPOptAllx2
import Derived.Test.YtmdimebifngekaaGreatDoorBaseB

/- What this seat's Go functions compute, as Lean functions, and that they do. Written by a program of this session's (wip/pr/pr.py) by means of the kit's printer, with contracts of ours for some functions; conditions: none beyond each theorem's own. -/
namespace Go.Proofs.YtmdimebifngekaaGreatDoor.PoptBytes
open Go.RowKit Go.Proofs.YtmdimebifngekaaGreatDoorW.PrintWords Go.Proofs.YtmdimebifngekaaGreatDoorW.PrintLast Go.Proofs.YtmdimebifngekaaGreatDoorW.PrintMore
attribute [local go_sem] max2_int min2_int max_two min_two max_three min_three max_four min_four   -- for this text's walks alone
set_option linter.unusedVariables false
set_option linter.unusedSimpArgs false



def errW : Option Int → Value
 | none => .nilIface
 | some c => .iface 0 (.int .i64 c)
theorem errW_none : errW none = .nilIface := rfl
theorem errW_some (c : Int) : errW (some c) = .iface 0 (.int .i64 c) := rfl

theorem info5 : (Tryz.prog.info? 5).map (fun i => (i.zero, i.size, i.bytes)) = some (some (.int .u8 0), 1, 1) := by kernel_rfl
-- the values' own types

end Go.Proofs.YtmdimebifngekaaGreatDoor.PoptBytes

/- What this seat's Go functions compute, as Lean functions, and that they do. Written by a program of this session's (wip/pr/pr.py) by means of the kit's printer, with contracts of ours for some functions; conditions: none beyond each theorem's own. -/
namespace Go.Proofs.YtmdimebifngekaaGreatDoor.PoptBytes
open Go.RowKit Go.Proofs.YtmdimebifngekaaGreatDoorW.PrintWords Go.Proofs.YtmdimebifngekaaGreatDoorW.PrintLast Go.Proofs.YtmdimebifngekaaGreatDoorW.PrintMore
attribute [local go_sem] max2_int min2_int max_two min_two max_three min_three max_four min_four   -- for this text's walks alone
set_option linter.unusedVariables false
set_option linter.unusedSimpArgs false

/-! ### opt_Bytes: function 55 -/
mutual
def opt_Bytes.j0 : Nat → Int → Int → Bool → Option (ByteArray)
 | 0, _, _, _ => none
 | k + 1, x0, x1, x12 => if x12 = true then (some (⟨#[]⟩ : ByteArray)) else (opt_Bytes.l0 k x0 ([] : List Int) (wrap64 (x1 - 1)))
def opt_Bytes.l0 : Nat → Int → List Int → Int → Option (ByteArray)
 | 0, _, _, _ => none
 | k + 1, x0, x5, x6 => if x6 ≥ 0 then (if 0 ≤ (wrap64 (8 * x6)) then (if x5.length < 140737488355328 then (opt_Bytes.l0 k x0 (x5 ++ [(shr .u64 x0 (wrap64 (8 * x6))) % 256]) (wrap64 (x6 - 1))) else (none)) else (none)) else (some (strOfNums x5))
end
def opt_Bytes.f (k : Nat) (a0 : Int) (a1 : Int) : Option (ByteArray) := if a1 < 1 then (opt_Bytes.j0 k a0 a1 true) else (opt_Bytes.j0 k a0 a1 (decide (a1 > 8)))
theorem opt_Bytes.mono_l : ∀ k, (∀ y0 y1 y2, LeO (opt_Bytes.j0 k y0 y1 y2) (opt_Bytes.j0 (k + 1) y0 y1 y2)) ∧ (∀ y0 y1 y2, LeO (opt_Bytes.l0 k y0 y1 y2) (opt_Bytes.l0 (k + 1) y0 y1 y2))
 | 0 => ⟨fun _ _ _ r h => by simp [opt_Bytes.j0] at h, fun _ _ _ r h => by simp [opt_Bytes.l0] at h⟩
 | k + 1 => by
  obtain ⟨ih0, ih1⟩ := opt_Bytes.mono_l k
  refine ⟨?_, ?_⟩
  ·intro y0 y1 y2
   unfold opt_Bytes.j0
   repeat' first
   | (with_reducible exact ih0 _ _ _)
   | (with_reducible exact ih1 _ _ _)
   | (with_reducible exact LeO.refl _)
   | (with_reducible exact LeO.none _)
   | (with_reducible refine LeO.ite ?_ ?_)
   | (with_reducible refine LeO.bind ?_ (fun _ => ?_))
   | exact ih0 _ _ _
   | exact ih1 _ _ _
   | exact LeO.none _
   | refine LeO.ite ?_ ?_
   | refine LeO.bind ?_ (fun _ => ?_)
  ·intro y0 y1 y2
   unfold opt_Bytes.l0
   repeat' first
   | (with_reducible exact ih0 _ _ _)
   | (with_reducible exact ih1 _ _ _)
   | (with_reducible exact LeO.refl _)
   | (with_reducible exact LeO.none _)
   | (with_reducible refine LeO.ite ?_ ?_)
   | (with_reducible refine LeO.bind ?_ (fun _ => ?_))
   | exact ih0 _ _ _
   | exact ih1 _ _ _
   | exact LeO.none _
   | refine LeO.ite ?_ ?_
   | refine LeO.bind ?_ (fun _ => ?_)
theorem opt_Bytes.mono : ∀ a0 a1 k, LeO (opt_Bytes.f k a0 a1) (opt_Bytes.f (k + 1) a0 a1) := by
 intro a0 a1 k
 obtain ⟨ih0, ih1⟩ := opt_Bytes.mono_l k
 unfold opt_Bytes.f
 repeat' first
   | (with_reducible exact ih0 _ _ _)
   | (with_reducible exact ih1 _ _ _)
   | (with_reducible exact LeO.refl _)
   | (with_reducible exact LeO.none _)
   | (with_reducible refine LeO.ite ?_ ?_)
   | (with_reducible refine LeO.bind ?_ (fun _ => ?_))
   | exact ih0 _ _ _
   | exact ih1 _ _ _
   | exact LeO.none _
   | refine LeO.ite ?_ ?_
   | refine LeO.bind ?_ (fun _ => ?_)
set_option maxHeartbeats 8000000 in
set_option maxRecDepth 100000 in
theorem opt_Bytes.calls (k : Nat) (a0 : Int) (a1 : Int) (r : ByteArray) (w : World) (h : opt_Bytes.f k a0 a1 = some r) :
  Calls Tryz.prog 55 #[.int .u64 a0, .int .i64 a1] w fun e w' => e = .returned (.string r) ∧ Below w.heap.size w w' := by
 have HB := Aside0.mk (Below.refl w.heap.size w)
 have H : (if a1 < 1 then (opt_Bytes.j0 k a0 a1 true) else (opt_Bytes.j0 k a0 a1 (decide (a1 > 8)))) = some r := h
 clear h
 have HC3 := Aside0.mk H
 clear H
 go_enter Tryz.func55, Tryz.ntmps55
 go_upto_region 1 with (fail)
 go_cut [12] (fun v12 wc => ∃ (kq : Nat) (x12_2 : Bool), v12 = .bool x12_2 ∧ Aside0 (opt_Bytes.j0 kq a0 a1 x12_2 = some r) ∧ Aside0 (kq ≤ k) ∧ Aside0 (Below w.heap.size w wc))
 case first =>
  have H := HC3.out
  clear HC3
  by_cases c4 : a1 < 1
  ·rw [if_pos c4] at H
   have c4b0 : decide (a1 < 1) = true := decide_eq_true c4
   clear c4
   (first | rw [c4b0] | (simp only [i64_w, i32_w]; rw [c4b0]) | skip)
   have H' := Aside0.mk H
   clear H
   go_wp2
   go_meet
   case rel => exact ⟨_, (true), (by first | rfl | (simp; done) | (simp [*]; done)), H', ⟨by first | omega | exact Nat.le_refl _⟩, ⟨by repeat (first | (with_reducible first | exact HB.out | apply below_alloc | apply pw_below_drewN | apply below_drew1) | exact HB.out)⟩⟩
  ·rw [if_neg c4] at H
   have c4b0 : decide (a1 < 1) = false := decide_eq_false c4
   clear c4
   (first | rw [c4b0] | (simp only [i64_w, i32_w]; rw [c4b0]) | skip)
   have H' := Aside0.mk H
   clear H
   go_wp2
   go_meet
   case rel => exact ⟨_, (decide (a1 > 8)), (by first | rfl | (simp; done) | (simp [*]; done)), H', ⟨by first | omega | exact Nat.le_refl _⟩, ⟨by repeat (first | (with_reducible first | exact HB.out | apply below_alloc | apply pw_below_drewN | apply below_drew1) | exact HB.out)⟩⟩
 case rest =>
  clear HC3
  try clear p2
  try clear c4
  try clear c4b0
  obtain ⟨kq, x12_2, rfl, HA, HJ2, HB⟩ := hcut
  cases kq with
  | zero => exact absurd HA.out (by simp [opt_Bytes.j0])
  | succ kj2 =>
   have H := HA.out
   clear HA
   simp only [opt_Bytes.j0] at H
   by_cases c5 : x12_2 = true
   ·subst c5
    have H1 : (some (⟨#[]⟩ : ByteArray)) = some r := by rw [if_pos rfl] at H; exact H
    clear H
    have H := H1
    clear H1
    obtain rfl := Option.some.inj H
    go_wp2
    go_ret
    exact ⟨by first | rfl | (simp [errW_none, errW_some] <;> rfl) | (simp [*, errW_none, errW_some] <;> rfl), by repeat (first | (with_reducible first | exact HB.out | apply below_alloc | apply pw_below_drewN | apply below_drew1) | exact HB.out)⟩
   ·replace c5 := Bool.eq_false_iff.mpr c5
    subst c5
    have H1 : (opt_Bytes.l0 kj2 a0 ([] : List Int) (wrap64 (a1 - 1))) = some r := by rw [if_neg (show ¬ (false = true) by decide)] at H; exact H
    clear H
    have H := H1
    clear H1
    have H' := Aside0.mk H
    clear H
    go_wp2
    go_loopg [5, 6] kj2 (fun kq v5 v6 w' => ∃ (x5_2 : List Int) (x6_2 : Int), v6 = .int .i64 x6_2 ∧ Aside0 (opt_Bytes.l0 kq a0 x5_2 x6_2 = some r) ∧ Aside0 (kq ≤ kj2) ∧ Aside0 (Kd.R (Kd.int .u8) 5 w' w.heap.size (fun _ => True) v5 x5_2) ∧ Aside0 (Below w.heap.size w w'))
    case atStart => exact ⟨(([] : List Int)), (wrap64 (a1 - 1)), (by first | rfl | (simp; done) | (simp [*]; done)), H', ⟨Nat.le_refl _⟩, ⟨by first | exact Kd.R_nil _ _ _ _ _ | exact Kd.N_nil _ _ _ _ _ | exact Kd.V_nil _ _ _ _ _ | exact Kd.Q_nil _ _ _ _ _ | exact Kd.S_nil _ _ _ _ _⟩, ⟨by repeat (first | (with_reducible first | exact HB.out | apply below_alloc | apply pw_below_drewN | apply below_drew1) | exact HB.out)⟩⟩
    case round =>
     clear H'
     try clear p2
     try clear c4
     try clear c4b0
     try clear c5
     try clear p2
     obtain ⟨x5_2, x6_2, rfl, HA, HK2, HO_5, HB⟩ := hrel
     cases gk with
     | zero => exact absurd HA.out (by simp [opt_Bytes.l0])
     | succ k2 =>
      have H := HA.out
      clear HA
      simp only [opt_Bytes.l0] at H
      by_cases c6 : x6_2 ≥ 0
      ·rw [if_pos c6] at H
       have c6b0 : decide (0 ≤ x6_2) = true := decide_eq_true c6
       clear c6
       obtain ⟨ji7, hji7⟩ : ∃ j_ : Int, (wrap64 (8 * x6_2)) = j_ := ⟨_, rfl⟩
       replace H : (if 0 ≤ (ji7) then (if x5_2.length < 140737488355328 then (opt_Bytes.l0 k2 a0 (x5_2 ++ [(shr .u64 a0 (ji7)) % 256]) (wrap64 (x6_2 - 1))) else (none)) else (none)) = some r := by first | (rw [hji7] at H; exact H) | (simp only [hji7] at H ⊢; exact H)
       have hji7w : (IntKind.i64.wrap (8 * x6_2)) = ji7 := (i64_w _).trans hji7
       by_cases c8 : 0 ≤ (ji7)
       ·rw [if_pos c8] at H
        have c8b0 := eq_true c8
        have c8b1 : decide (0 ≤ (ji7)) = true := decide_eq_true c8
        clear c8
        obtain ⟨ji9, hji9⟩ : ∃ j_ : Int, (shr .u64 a0 (ji7)) = j_ := ⟨_, rfl⟩
        replace H : (if x5_2.length < 140737488355328 then (opt_Bytes.l0 k2 a0 (x5_2 ++ [(ji9) % 256]) (wrap64 (x6_2 - 1))) else (none)) = some r := by first | (rw [hji9] at H; exact H) | (simp only [hji9] at H ⊢; exact H)
        have hji9_ : (a0 / 2 ^ min (ji7).toNat 64) = ji9 := hji9
        have hji9z : (ji7) ≤ 64 → (a0 / 2 ^ (ji7).toNat) = ji9 := shr_small hji9
        by_cases c10 : x5_2.length < 140737488355328
        ·rw [if_pos c10] at H
         have LMc10 := Aside0.mk c10
         clear c10
         obtain ⟨y101, hy101⟩ : ∃ y_ : List Int, y_ = (x5_2 ++ [(ji9) % 256]) := ⟨_, rfl⟩
         replace H : (opt_Bytes.l0 k2 a0 y101 (wrap64 (x6_2 - 1))) = some r := by first | (rw [hy101]; with_reducible exact H) | (have H2_ := (Option.bind_some _ _).symm.trans H; rw [hy101]; with_reducible exact H2_) | (have H2_ := (Option.bind_some _ _).symm.trans H; with_reducible exact H2_) | with_reducible exact H | (rw [hy101]; exact H) | exact H
         have Ny101 := Aside0.mk hy101
         clear hy101
         have H' := Aside0.mk H
         clear H
         go_wp2_with (first | ((with_reducible refine gate_builtin (b := .append) (xs := #[.tmp 19, .tmp 25]) rfl ?_); at_builtin; refine Kd.R_append (Kd.int .u8) (w0 := w) w.heap.size rfl (.tmp 19) (.tmp 25) 70 5 (.int .u8 0) 1 rfl Tryz.underlying70 info5 rfl (by decide) (by omega) u5 x5_2 ((ji9) % 256) [.int .u8 ((ji9) % 256)] (fun _ => True) (fun _ => False) rfl rfl ?aP (fun _ hk => hk.elim) ?aF ?aO ?aB ?aS ?aL ?_; (case aP => exact rfl); (case aB => exact (by repeat (first | (with_reducible first | exact HB.out | apply below_alloc | apply pw_below_drewN | apply below_drew1) | exact HB.out))); (case aF => exact (fun _ _ => trivial)); (case aO => exact (by (with_reducible repeat (first | apply Kd.R_alloc | apply Kd.R_drewN | apply Kd.R_drew)); exact HO_5.out)); (case aS => exact (below_size (by repeat (first | (with_reducible first | exact HB.out | apply below_alloc | apply pw_below_drewN | apply below_drew1) | exact HB.out)))); (case aL => have := LMc10.out; omega); intro v102 w11 ho hb hg hat; rw [← Ny101.out] at ho; have n0_ := Aside0.mk (hb); have n1_ := Aside0.mk (ho); clear HB; clear HO_5; have HB := n0_; have HO103 := n1_; clear n0_ n1_; clear ho hb hg hat))
         go_roundg k2
         case measure => have := HJ2.out; have := HK2.out; omega
         case rel => exact ⟨(y101), (wrap64 (x6_2 - 1)), (by first | rfl | (simp; done) | (simp [*]; done)), H', ⟨by have := HJ2.out; have := HK2.out; omega⟩, ⟨by (with_reducible repeat (first | apply Kd.R_alloc | apply Kd.R_drewN | apply Kd.R_drew)); exact HO103.out⟩, ⟨by repeat (first | (with_reducible first | exact HB.out | apply below_alloc | apply pw_below_drewN | apply below_drew1) | exact HB.out)⟩⟩
        ·rw [if_neg c10] at H
         exact absurd H (by simp)
       ·rw [if_neg c8] at H
        exact absurd H (by simp)
      ·rw [if_neg c6] at H
       have c6b0 : decide (0 ≤ x6_2) = false := decide_eq_false c6
       clear c6
       obtain rfl := Option.some.inj H
       have hcv12 := own_string (P := Tryz.prog) Tryz.underlying70 Tryz.underlying5 Tryz.underlying9 (Kd.own_of_R HO_5.out)
       go_wp2
       go_ret
       exact ⟨by first | rfl | (simp [errW_none, errW_some] <;> rfl) | (simp [*, errW_none, errW_some] <;> rfl), by repeat (first | (with_reducible first | exact HB.out | apply below_alloc | apply pw_below_drewN | apply below_drew1) | exact HB.out)⟩

end Go.Proofs.YtmdimebifngekaaGreatDoor.PoptBytes

/- pkt.Get at the one packet that begun writes: what it answers. -/
namespace Go.Proofs.YtmdimebifngekaaGreatDoor
open Go.RowKit Go.Proofs.YtmdimebifngekaaGreatDoorW.PrintWords
set_option linter.unusedVariables false
set_option linter.unusedSimpArgs false

def lit : ByteArray := ⟨#[0, 1, 0, 2, 8, 0, 43, 56, 9, 0, 0, 0, 0, 0, 0, 77, 0, 0, 0, 0, 0, 0, 0, 5, 2, 40, 4, 120, 121, 0, 0, 0, 104, 101, 108, 108, 111]⟩
def litH : Hd := ⟨1, 2, 8, 0, 0, 11064, 4, true, 77, 5, 0, 0, 0, 0, 0⟩
theorem lit_size : lit.size = 37 := rfl
theorem lit_get : getH lit = (litH, 0) := by decide +kernel
theorem lit_sum : Sum.sum (joined [lit.extract 0 37]) = 0 := by decide +kernel
theorem lit_opts : POptAll.opt_Get.f 12 (lit.extract 24 32) = some ([⟨2, ⟨#[]⟩⟩, ⟨40, ⟨#[120, 121]⟩⟩], 0) := by kernel_rfl
theorem lit_data : lit.extract 32 37 = ⟨#[104, 101, 108, 108, 111]⟩ := by kernel_rfl

abbrev Z39 : Array Value := #[.int .i64 0, .int .i64 0, .int .i64 0, .int .i64 0, .int .i64 0, .int .i64 0, .int .i64 0, .bool false, .int .u64 0, .int .u64 0, .int .u32 0, .int .i64 0, .int .u8 0, .int .u8 0, .int .u8 0, .slice none 0 0, .string ⟨#[]⟩]
theorem pk_one (A : Option Addr) (c : Nat) (d : ByteArray) : (#[.int .i64 1, .int .i64 2, .int .i64 8, .int .i64 0, .int .i64 0, .int .i64 11064, .int .i64 4, .bool true, .int .u64 77, .int .u64 5, .int .u32 0, .int .i64 0, .int .u8 0, .int .u8 0, .int .u8 0, .slice A 2 c, .string d] : Array Value).all (·.oneCell') = true := by kernel_rfl
set_option maxHeartbeats 1600000 in
set_option maxRecDepth 100000 in
theorem pkt_Get_lit (w : World) : Calls Tryz.prog 68 #[.string lit] w fun e w' => ∃ (v : Value) (A : Option Addr) (c : Nat), v = .slice A 2 c ∧ e = .returned (.tuple #[.agg #[.int .i64 1, .int .i64 2, .int .i64 8, .int .i64 0, .int .i64 0, .int .i64 11064, .int .i64 4, .bool true, .int .u64 77, .int .u64 5, .int .u32 0, .int .i64 0, .int .u8 0, .int .u8 0, .int .u8 0, v, .string ⟨#[104, 101, 108, 108, 111]⟩], .int .i64 0]) ∧ Below w.heap.size w w' := by
 have LS := hide lit_sum
 have HD := hide lit_data
 have HS := lit_size
 have G0 := fun W => head_Get lit (by rw [lit_size]; omega) W
 simp only [lit_get] at G0
 unfold litH at G0
 simp only [Hd.val_mk] at G0
 have G := hide G0
 clear G0
 have C0 := fun W => sum_Covered 37 32 0 W (by omega)
 rw [show covB 37 32 0 = true from by decide, show covN 37 32 0 = 37 from by decide] at C0
 have HO := lit_opts
 have C := hide C0
 clear C0
 generalize hb : lit = b at *
 have hs1 : b.size = 37 := HS
 have SO := hide (fun W : World => sum_Of (some ⟨W.heap.size, 0, none⟩) 1 (W.heap.size + 1) [b.extract 0 37] (W.alloc (.cells #[.string (b.extract 0 37)] 9)) (cells_new W [.string (b.extract 0 37)] 9) (by simp [joined, size_bytes, ByteArray.size_extract]; omega) (by simp))
 have S := hide (fun W => head_Size 4 true W)
 have OG := hide (fun W => POptAll.opt_Get.calls 12 (b.extract 24 32) _ _ W HO)
 go_enter Tryz.func68, Tryz.ntmps68
 go_wp2_with fail
 refine (G.out _).mono ?_
 rintro e w2 ⟨rfl, hb2⟩
 have b0 := (Blk.new w Z39 74).below hb2 (by simp)
 have hw2 : Below w.heap.size w w2 := ((Below.refl _ _).alloc (Nat.le_refl _) _).trans (hb2.mono (by simp))
 have hz2 : w.heap.size + 1 ≤ w2.heap.size := by have := hb2.size; simpa using this
 have B0 := hide b0
 clear b0 hb2
 go_wp2_with (first | (go_at_call 85; refine (C.out _).mono ?_; rintro e w' ⟨rfl, rfl⟩))
 have so := SO.out (w2.alloc (.cells #[.int .i64 1, .int .i64 2, .int .i64 8, .int .i64 0, .int .i64 0, .int .i64 11064, .int .i64 4, .bool true, .int .u64 77, .int .u64 5, .int .u32 0, .int .i64 0, .int .u8 0, .int .u8 0, .int .u8 0] 63))
 rw [World.size_alloc, LS.out] at so
 refine so.mono ?_
 rintro e w3 ⟨rfl, rfl⟩
 have b0 := (B0.out.alloc (.cells #[.int .i64 1, .int .i64 2, .int .i64 8, .int .i64 0, .int .i64 0, .int .i64 11064, .int .i64 4, .bool true, .int .u64 77, .int .u64 5, .int .u32 0, .int .i64 0, .int .u8 0, .int .u8 0, .int .u8 0] 63)).alloc (.cells #[.string (b.extract 0 37)] 9)
 have b4 := (Blk.new w2 #[.int .i64 1, .int .i64 2, .int .i64 8, .int .i64 0, .int .i64 0, .int .i64 11064, .int .i64 4, .bool true, .int .u64 77, .int .u64 5, .int .u32 0, .int .i64 0, .int .u8 0, .int .u8 0, .int .u8 0] 63).alloc (.cells #[.string (b.extract 0 37)] 9)
 have hw3 : Below w.heap.size w ((w2.alloc (.cells #[.int .i64 1, .int .i64 2, .int .i64 8, .int .i64 0, .int .i64 0, .int .i64 11064, .int .i64 4, .bool true, .int .u64 77, .int .u64 5, .int .u32 0, .int .i64 0, .int .u8 0, .int .u8 0, .int .u8 0] 63)).alloc (.cells #[.string (b.extract 0 37)] 9)) := (hw2.alloc (by omega) _).alloc (by simp; omega) _
 have hz3 : w2.heap.size + 2 = ((w2.alloc (.cells #[.int .i64 1, .int .i64 2, .int .i64 8, .int .i64 0, .int .i64 0, .int .i64 11064, .int .i64 4, .bool true, .int .u64 77, .int .u64 5, .int .u32 0, .int .i64 0, .int .u8 0, .int .u8 0, .int .u8 0] 63)).alloc (.cells #[.string (b.extract 0 37)] 9)).heap.size := by simp
 generalize (w2.alloc (.cells #[.int .i64 1, .int .i64 2, .int .i64 8, .int .i64 0, .int .i64 0, .int .i64 11064, .int .i64 4, .bool true, .int .u64 77, .int .u64 5, .int .u32 0, .int .i64 0, .int .u8 0, .int .u8 0, .int .u8 0] 63)).alloc (.cells #[.string (b.extract 0 37)] 9) = w3 at b0 b4 hw3 hz3 ⊢
 have B0 := hide b0
 have B4 := hide b4
 have Hz3 := hide hz3
 have g6 : w3.cell? ⟨w2.heap.size, 6, none⟩ = some (.int .i64 4) := b4.cell rfl
 have g7 : w3.cell? ⟨w2.heap.size, 7, none⟩ = some (.bool true) := b4.cell rfl
 clear b0 b4 so hz3
 go_wp2_with (first | (go_at_call 61; refine (S.out _).mono ?_; rintro e w' ⟨rfl, rfl⟩))
 refine (OG.out _).mono ?_
 rintro e w4 ⟨v0, rfl, hR, hb4⟩
 obtain ⟨A, c, rfl⟩ := Kd.R_slice hR
 have hlen : ([⟨2, ⟨#[]⟩⟩, ⟨40, ⟨#[120, 121]⟩⟩] : List (POptAll.S50)).length = 2 := rfl
 rw [hlen]
 have b0 := B0.out.below hb4 (by have := Hz3.out; omega)
 have b4 := B4.out.below hb4 (by have := Hz3.out; omega)
 replace hw3 := hw3.trans (hb4.mono hw3.size)
 have B0 := hide b0
 have B4 := hide b4
 clear b0 b4 hR hb4 g6 g7 hlen
 have k0 : w4.cell? ⟨w2.heap.size, 0, none⟩ = some (.int .i64 1) := B4.out.cell rfl
 have k1 : w4.cell? ⟨w2.heap.size, 1, none⟩ = some (.int .i64 2) := B4.out.cell rfl
 have k2 : w4.cell? ⟨w2.heap.size, 2, none⟩ = some (.int .i64 8) := B4.out.cell rfl
 have k3 : w4.cell? ⟨w2.heap.size, 3, none⟩ = some (.int .i64 0) := B4.out.cell rfl
 have k4 : w4.cell? ⟨w2.heap.size, 4, none⟩ = some (.int .i64 0) := B4.out.cell rfl
 have k5 : w4.cell? ⟨w2.heap.size, 5, none⟩ = some (.int .i64 11064) := B4.out.cell rfl
 have k6 : w4.cell? ⟨w2.heap.size, 6, none⟩ = some (.int .i64 4) := B4.out.cell rfl
 have k7 : w4.cell? ⟨w2.heap.size, 7, none⟩ = some (.bool true) := B4.out.cell rfl
 have k8 : w4.cell? ⟨w2.heap.size, 8, none⟩ = some (.int .u64 77) := B4.out.cell rfl
 have k9 : w4.cell? ⟨w2.heap.size, 9, none⟩ = some (.int .u64 5) := B4.out.cell rfl
 have k10 : w4.cell? ⟨w2.heap.size, 10, none⟩ = some (.int .u32 0) := B4.out.cell rfl
 have k11 : w4.cell? ⟨w2.heap.size, 11, none⟩ = some (.int .i64 0) := B4.out.cell rfl
 have k12 : w4.cell? ⟨w2.heap.size, 12, none⟩ = some (.int .u8 0) := B4.out.cell rfl
 have k13 : w4.cell? ⟨w2.heap.size, 13, none⟩ = some (.int .u8 0) := B4.out.cell rfl
 have k14 : w4.cell? ⟨w2.heap.size, 14, none⟩ = some (.int .u8 0) := B4.out.cell rfl
 have hu := Tryz.underlying63
 go_wp2_with fail
 go_still_tail 6, (by kernel_rfl)
 change wpList _ _ _ _ _ w4.drew
 have hone := hide (pk_one A c (b.extract 32 37))
 go_wp2_with (refine wpList_store_row rfl 74 _ _ rfl w.heap.size _ rfl rfl 74 Z39 B0.out.drew (by kernel_rfl) rfl hone.out ?_)
 refine bodyPost_ret (results_ct rfl _ _ w.heap.size 74 #[.int .i64 1, .int .i64 2, .int .i64 8, .int .i64 0, .int .i64 0, .int .i64 11064, .int .i64 4, .bool true, .int .u64 77, .int .u64 5, .int .u32 0, .int .i64 0, .int .u8 0, .int .u8 0, .int .u8 0, .slice A 2 c, .string (b.extract 32 37)] (0, 0) _ rfl (B0.out.drew.row) Tryz.underlying74 rfl (by kernel_rfl)) rfl ?_
 refine ⟨.slice A 2 c, A, c, rfl, ?_, below_row hw3.drew (Nat.le_refl _) _⟩
 rw [HD.out]; rfl
end Go.Proofs.YtmdimebifngekaaGreatDoor

/- What begun calls, at what it hands them. -/
namespace Go.Proofs.YtmdimebifngekaaGreatDoor
open Go.RowKit Go.Proofs.YtmdimebifngekaaGreatDoorW.PrintWords
set_option linter.unusedVariables false
set_option linter.unusedSimpArgs false

def os2 : List Op := [⟨2, ⟨#[]⟩⟩, ⟨40, ⟨#[120, 121]⟩⟩]
theorem lit_put : strOfNums (hb1 1 2 8 0 0 11064 ++ hb2 4 true 77 ++ hb3 4 true 5 ++ hb4 4 0 0 0 0 0) ++ strOfNums (putO os2) ++ ⟨#[104, 101, 108, 108, 111]⟩ = lit := by kernel_rfl
theorem lit_S : 11064 = Sum.sum (joined [(strOfNums (hb1 1 2 8 0 0 0 ++ hb2 4 true 77 ++ hb3 4 true 5 ++ hb4 4 0 0 0 0 0) ++ strOfNums (putO os2) ++ ⟨#[104, 101, 108, 108, 111]⟩).extract 0 37]) := by decide +kernel
theorem may_77 (o s : Nat) (h1 : 6 ≤ o) (h2 : o ≤ 255) (h3 : s ≤ 65535) : mayB ⟨(1 : Nat), (2 : Nat), (o : Nat), (0 : Nat), (0 : Nat), (s : Nat), (4 : Nat), true, (77 : Nat), (5 : Nat), (0 : Nat), (0 : Nat), (0 : Nat), (0 : Nat), (0 : Nat)⟩ = true := by
 have hz : sizeB ((4 : Nat) : Int) true = 24 := by decide
 have hn : numbersB ⟨(1 : Nat), (2 : Nat), (o : Nat), (0 : Nat), (0 : Nat), (s : Nat), (4 : Nat), true, (77 : Nat), (5 : Nat), (0 : Nat), (0 : Nat), (0 : Nat), (0 : Nat), (0 : Nat)⟩ = true := by
  unfold numbersB; exact decide_eq_true ⟨show ((77 : Nat) : Int) < mostB true from by decide, show ((5 : Nat) : Int) < mostB true from by decide, .inr (show ackB ((4 : Nat) : Int) = true from by decide)⟩
 have hi : infoB ⟨(1 : Nat), (2 : Nat), (o : Nat), (0 : Nat), (0 : Nat), (s : Nat), (4 : Nat), true, (77 : Nat), (5 : Nat), (0 : Nat), (0 : Nat), (0 : Nat), (0 : Nat), (0 : Nat)⟩ = true := rfl
 unfold mayB
 dsimp only
 rw [hz, hn, hi]
 have a1 : decide ((24 : Int) / 4 ≤ (o : Int)) = true := decide_eq_true (by omega)
 have a2 : decide ((o : Int) ≤ 255) = true := decide_eq_true (by omega)
 have a3 : inB (s : Int) 65535 = true := by unfold inB; exact decide_eq_true ⟨by omega, by omega⟩
 rw [a1, a2, a3]
 decide
theorem put_lit (A : Option Addr) (cap B : Nat) (off : Nat) (w : World) (hA : CellsAt w B A (ocells os2)) (hB : B ≤ w.heap.size) :
  Calls Tryz.prog 67 #[.agg #[.int .i64 1, .int .i64 2, .int .i64 0, .int .i64 0, .int .i64 0, .int .i64 0, .int .i64 4, .bool true, .int .u64 77, .int .u64 5, .int .u32 0, .int .i64 0, .int .u8 0, .int .u8 0, .int .u8 0, .slice A 2 cap, .string ⟨#[104, 101, 108, 108, 111]⟩]] w fun e w' => e = .returned (.tuple #[.string lit, .int .i64 0]) ∧ Below w.heap.size w w' := by
 have h := pkt_Put 1 2 0 0 0 0 4 true 77 5 0 0 0 0 0 6 8 37 11064 A cap B os2 ⟨#[104, 101, 108, 108, 111]⟩ w hA hB (by decide) (by decide) (by decide) (by decide) may_77 (by decide) (by decide) (by decide) (by decide) (by decide) (by decide) (by decide) lit_S (by decide) (by decide) (by decide) (by decide) (by decide) (by decide) (by decide) (by decide) (by decide) (by decide) (by decide) (by decide)
 rw [lit_put] at h
 exact h
theorem diff_lit (w : World) : Calls Tryz.prog 34 #[.int .u64 1, .int .u64 281474976710655] w fun e w' => e = .returned (.int .i64 2) ∧ w = w' := by
 have O := fun W => seq_Of 18446462598732840962 (by decide) (by decide) W
 have O := hide O
 go_enter Tryz.func34, Tryz.ntmps34
 go_wp2_with (first | (go_at_call 30; refine (O.out _).mono ?_; rintro e w' ⟨rfl, rfl⟩))
 go_ret
 exact ⟨rfl, rfl⟩
theorem add_lit (w : World) : Calls Tryz.prog 32 #[.int .u64 0, .int .i64 (-1)] w fun e w' => e = .returned (.int .u64 281474976710655) ∧ w = w' := by
 have O := fun W => seq_Of 18446744073709551615 (by decide) (by decide) W
 have O := hide O
 go_enter Tryz.func32, Tryz.ntmps32
 go_wp2_with (first | (go_at_call 30; refine (O.out _).mono ?_; rintro e w' ⟨rfl, rfl⟩))
 go_ret
 exact ⟨rfl, rfl⟩
theorem bytes_lit (w : World) : Calls Tryz.prog 55 #[.int .u64 258, .int .i64 2] w fun e w' => e = .returned (.string ⟨#[1, 2]⟩) ∧ Below w.heap.size w w' :=
 PoptBytes.opt_Bytes.calls 5 258 2 ⟨#[1, 2]⟩ w (by kernel_rfl)
theorem service_lit (w : World) : Calls Tryz.prog 69 #[.string ⟨#[83, 67, 58, 97, 98]⟩] w fun e w' => e = .returned (.tuple #[.int .u32 1633820704, .bool true]) ∧ w = w' := by
 have h := code_Service_signs ⟨#[83, 67, 58, 97, 98]⟩ w (by decide)
 rw [show codeOf (Lib.trimPrefix (⟨#[83, 67, 58, 97, 98]⟩ : ByteArray).data.toList [83, 67, 58]) = 1633820704 from by decide +kernel, show bySignsB (Lib.trimPrefix (⟨#[83, 67, 58, 97, 98]⟩ : ByteArray).data.toList [83, 67, 58]) = true from by decide +kernel] at h
 exact h
theorem text_lit (w : World) : Calls Tryz.prog 71 #[.int .u32 1633820704] w fun e w' => e = .returned (.string ⟨#[83, 67, 58, 97, 98]⟩) ∧ Below w.heap.size w w' := by
 have h := code_Text_signs 1633820704 w (by decide) (by decide +kernel) (by decide +kernel)
 rw [show (⟨#[83, 67, 58]⟩ ++ ⟨(textOf 1633820704).toArray⟩ : ByteArray) = ⟨#[83, 67, 58, 97, 98]⟩ from by decide +kernel] at h
 exact h
theorem muldiv_lit (w : World) : Calls Tryz.prog 19 #[.int .u64 9223372036854775808, .int .u64 4, .int .u64 8] w fun e w' => e = .returned (.int .u64 4611686018427387904) ∧ ∃ n, w' = w.drewN n := by
 have h := fix_MulDiv 9223372036854775808 4 8 w (by decide) (by decide) (by decide)
 rw [show Fix.quot 9223372036854775808 4 8 = 4611686018427387904 from by decide +kernel] at h
 exact h
theorem sqrt_lit (w : World) : Calls Tryz.prog 27 #[.int .u64 99] w fun e w' => e = .returned (.int .u64 9) ∧ w = w' := by
 have h := fix_Sqrt 99 w (by decide)
 rw [show Fix.root 99 = 9 from by decide +kernel] at h
 exact h
theorem sum_lit (W : World) : Calls Tryz.prog 70 #[.slice (some ⟨W.heap.size, 0, none⟩) 1 1] (W.alloc (.cells #[.string ⟨#[1, 2]⟩] 9)) fun e w' => e = .returned (.int .i64 65277) ∧ W.alloc (.cells #[.string ⟨#[1, 2]⟩] 9) = w' := by
 have h := sum_Of (some ⟨W.heap.size, 0, none⟩) 1 (W.heap.size + 1) [⟨#[1, 2]⟩] (W.alloc (.cells #[.string ⟨#[1, 2]⟩] 9)) (cells_new W [.string ⟨#[1, 2]⟩] 9) (by decide) (by decide)
 rw [show Sum.sum (joined [⟨#[1, 2]⟩]) = 65277 from by decide +kernel] at h
 exact h
theorem sum_lit' (W : World) (n : Nat) (hn : W.heap.size = n) : Calls Tryz.prog 70 #[.slice (some ⟨n, 0, none⟩) 1 1] (W.alloc (.cells #[.string ⟨#[1, 2]⟩] 9)) fun e w' => e = .returned (.int .i64 65277) ∧ W.alloc (.cells #[.string ⟨#[1, 2]⟩] 9) = w' := by
 subst hn; exact sum_lit W
theorem put_begun (w : World) : Calls Tryz.prog 67 #[.agg #[.int .i64 1, .int .i64 2, .int .i64 0, .int .i64 0, .int .i64 0, .int .i64 0, .int .i64 4, .bool true, .int .u64 77, .int .u64 5, .int .u32 0, .int .i64 0, .int .u8 0, .int .u8 0, .int .u8 0, .slice (some ⟨w.heap.size + 1, 0, none⟩) 2 2, .string ⟨#[104, 101, 108, 108, 111]⟩]] (((w.alloc (.cells #[.int .i64 1, .int .i64 2, .int .i64 0, .int .i64 0, .int .i64 0, .int .i64 0, .int .i64 4, .bool true, .int .u64 77, .int .u64 5, .int .u32 0, .int .i64 0, .int .u8 0, .int .u8 0, .int .u8 0] 63)).alloc (.cells #[.int .i64 2, .string ⟨#[]⟩, .int .i64 40, .string ⟨#[120, 121]⟩] 50)).alloc (.cells #[.int .i64 1, .int .i64 2, .int .i64 0, .int .i64 0, .int .i64 0, .int .i64 0, .int .i64 4, .bool true, .int .u64 77, .int .u64 5, .int .u32 0, .int .i64 0, .int .u8 0, .int .u8 0, .int .u8 0, .slice (some ⟨w.heap.size + 1, 0, none⟩) 2 2, .string ⟨#[104, 101, 108, 108, 111]⟩] 74)) fun e w' => e = .returned (.tuple #[.string lit, .int .i64 0]) ∧ Below w.heap.size w w' ∧ w.heap.size ≤ w'.heap.size := by
 have h1 := cells_new (w.alloc (.cells #[.int .i64 1, .int .i64 2, .int .i64 0, .int .i64 0, .int .i64 0, .int .i64 0, .int .i64 4, .bool true, .int .u64 77, .int .u64 5, .int .u32 0, .int .i64 0, .int .u8 0, .int .u8 0, .int .u8 0] 63)) [.int .i64 2, .string ⟨#[]⟩, .int .i64 40, .string ⟨#[120, 121]⟩] 50
 rw [World.size_alloc] at h1
 have h2 := h1.alloc (by simp) (.cells #[.int .i64 1, .int .i64 2, .int .i64 0, .int .i64 0, .int .i64 0, .int .i64 0, .int .i64 4, .bool true, .int .u64 77, .int .u64 5, .int .u32 0, .int .i64 0, .int .u8 0, .int .u8 0, .int .u8 0, .slice (some ⟨w.heap.size + 1, 0, none⟩) 2 2, .string ⟨#[104, 101, 108, 108, 111]⟩] 74)
 have hB : Below w.heap.size w (((w.alloc (.cells #[.int .i64 1, .int .i64 2, .int .i64 0, .int .i64 0, .int .i64 0, .int .i64 0, .int .i64 4, .bool true, .int .u64 77, .int .u64 5, .int .u32 0, .int .i64 0, .int .u8 0, .int .u8 0, .int .u8 0] 63)).alloc (.cells #[.int .i64 2, .string ⟨#[]⟩, .int .i64 40, .string ⟨#[120, 121]⟩] 50)).alloc (.cells #[.int .i64 1, .int .i64 2, .int .i64 0, .int .i64 0, .int .i64 0, .int .i64 0, .int .i64 4, .bool true, .int .u64 77, .int .u64 5, .int .u32 0, .int .i64 0, .int .u8 0, .int .u8 0, .int .u8 0, .slice (some ⟨w.heap.size + 1, 0, none⟩) 2 2, .string ⟨#[104, 101, 108, 108, 111]⟩] 74)) := (((Below.refl _ _).alloc (Nat.le_refl _) _).alloc (by simp) _).alloc (by simp; omega) _
 refine (put_lit (some ⟨w.heap.size + 1, 0, none⟩) 2 (w.heap.size + 1 + 1) 0 _ h2 (by simp)).mono ?_
 rintro e w' ⟨rfl, hb⟩
 have hz := hB.trans (hb.mono hB.size)
 exact ⟨rfl, hz, hz.size⟩
end Go.Proofs.YtmdimebifngekaaGreatDoor

/- begun: the program's small trial at the begin of every statement of this layer: it is true. -/
namespace Go.Proofs.YtmdimebifngekaaGreatDoor
open Go.RowKit Go.Proofs.YtmdimebifngekaaGreatDoorW.PrintWords
set_option linter.unusedVariables false
set_option linter.unusedSimpArgs false

theorem get_lit' (b : ByteArray) (h : lit = b) : ∀ W, Calls Tryz.prog 68 #[.string b] W fun e w' => ∃ (v : Value) (A : Option Addr) (c : Nat), v = .slice A 2 c ∧ e = .returned (.tuple #[.agg #[.int .i64 1, .int .i64 2, .int .i64 8, .int .i64 0, .int .i64 0, .int .i64 11064, .int .i64 4, .bool true, .int .u64 77, .int .u64 5, .int .u32 0, .int .i64 0, .int .u8 0, .int .u8 0, .int .u8 0, v, .string ⟨#[104, 101, 108, 108, 111]⟩], .int .i64 0]) ∧ Below W.heap.size W w' := h ▸ pkt_Get_lit
set_option maxHeartbeats 3200000 in
set_option maxRecDepth 100000 in
theorem begun_true (w : World) : Calls Tryz.prog 15 #[] w fun e w' => e = .returned (.bool true) ∧ Below w.heap.size w w' := by
 obtain ⟨b, HLIT⟩ : ∃ b, Hid (lit = b) := ⟨_, hide rfl⟩
 have hl0 : b.size = 37 := HLIT.out ▸ lit_size
 have HL := hide hl0
 clear hl0
 go_enter Tryz.func15, Tryz.ntmps15
 go_upto_region 3 with fail
 go_cut [3, 4] (fun v3 v4 wx => v3 = .string b ∧ v4 = .int .i64 0 ∧ Below w.heap.size w wx)
 case first => as_aux_lemma =>
  have PB := hide (put_begun w)
  rw [HLIT.out] at PB
  go_wp2_with fail
  refine (PB.out).mono ?_
  rintro e w2 ⟨rfl, hb2, hz2⟩
  go_wp2_with fail
  go_meet
  exact ⟨rfl, rfl, hb2⟩
 case rest =>
  obtain ⟨rfl, rfl, hb⟩ := hcut
  have hz := hb.size
  have HB := hide hb
  clear hb
  go_upto_region 4 with fail
  go_cut [5, 6] (fun v5 v6 wx => ∃ (g : Nat) (A : Option Addr) (c : Nat), v5 = .pointer (some ⟨g, 0, none⟩) ∧ v6 = .int .i64 0 ∧ Blk wx g #[.int .i64 1, .int .i64 2, .int .i64 8, .int .i64 0, .int .i64 0, .int .i64 11064, .int .i64 4, .bool true, .int .u64 77, .int .u64 5, .int .u32 0, .int .i64 0, .int .u8 0, .int .u8 0, .int .u8 0, .slice A 2 c, .string ⟨#[104, 101, 108, 108, 111]⟩] 74 ∧ Below w.heap.size w wx)
  case first => as_aux_lemma =>
   have PG := hide (get_lit' b HLIT.out)
   go_wp2_with fail
   refine (PG.out _).mono ?_
   rintro e w3 ⟨v, A, c, rfl, rfl, hb3⟩
   have hb4 := HB.out.trans (hb3.mono hz)
   have H4 := hide hb4
   have hz4 := hb4.size
   clear hb3 hb4
   go_wp2_with fail
   go_meet
   exact ⟨_, A, c, rfl, rfl, Blk.new _ _ _, H4.out.alloc hz4 _⟩
  case rest =>
   obtain ⟨g, A, c, rfl, rfl, bq, hb⟩ := hcut
   have hz := hb.size
   have HB := hide hb
   have BQ := hide bq
   clear hb bq
   have SV := hide service_lit
   go_upto_region 6 with (go_at_call 69; (with_reducible refine (SV.out _).mono ?_); rintro e w' ⟨rfl, rfl⟩)
   go_cut [0] (fun v0 wx => v0 = .bool true ∧ Below w.heap.size w wx)
   case first => as_aux_lemma =>
    have hl := HL.out
    have MD := hide muldiv_lit
    have SQ := hide sqrt_lit
    have DF := hide diff_lit
    have AD := hide add_lit
    have SU := hide sum_lit'
    have SZ := hide (fun W => head_Size 4 true W)
    have TX := hide text_lit
    have BY := hide bytes_lit
    go_wp2_with (first
     | (go_at_call 19; (with_reducible refine (MD.out _).mono ?_); rintro e w' ⟨rfl, ⟨nd, rfl⟩⟩)
     | (go_at_call 27; (with_reducible refine (SQ.out _).mono ?_); rintro e w' ⟨rfl, rfl⟩)
     | (go_at_call 34; (with_reducible refine (DF.out _).mono ?_); rintro e w' ⟨rfl, rfl⟩)
     | (go_at_call 32; (with_reducible refine (AD.out _).mono ?_); rintro e w' ⟨rfl, rfl⟩))
    refine (SU.out _ _ (by simp)).mono ?_
    rintro e w5 ⟨rfl, rfl⟩
    have bq := (BQ.out.drewN nd).alloc (.cells #[.string ⟨#[1, 2]⟩] 9)
    have hb5 : Below w.heap.size w ((wc.drewN nd).alloc (.cells #[.string ⟨#[1, 2]⟩] 9)) := Below.alloc (w := wc.drewN nd) (HB.out.trans ⟨rfl, rfl, rfl, Nat.le_refl _, fun _ _ => rfl⟩) hz _
    generalize (wc.drewN nd).alloc (.cells #[.string ⟨#[1, 2]⟩] 9) = w5 at bq hb5 ⊢
    have hz5 := hb5.size
    have H5 := hide hb5
    clear hb5
    have q2 : w5.cell? ⟨g, 2, none⟩ = some (.int .i64 8) := bq.cell rfl
    have q15 : w5.cell? ⟨g, 15, none⟩ = some (.slice A 2 c) := bq.cell rfl
    have q16 : w5.cell? ⟨g, 16, none⟩ = some (.string ⟨#[104, 101, 108, 108, 111]⟩) := bq.cell rfl
    clear bq
    go_wp2_with (go_at_call 61; (with_reducible refine (SZ.out _).mono ?_); rintro e w' ⟨rfl, rfl⟩)
    refine (TX.out _).mono ?_
    rintro e w6 ⟨rfl, hb6⟩
    go_wp2_with fail
    refine (BY.out _).mono ?_
    rintro e w7 ⟨rfl, hb7⟩
    go_wp2_with fail
    go_meet
    exact ⟨rfl, (H5.out.trans (hb6.mono hz5)).trans (hb7.mono (Nat.le_trans hz5 hb6.size))⟩
   case rest =>
    obtain ⟨rfl, hb⟩ := hcut
    go_wp2_with fail
    go_ret
    exact ⟨rfl, hb⟩
end Go.Proofs.YtmdimebifngekaaGreatDoor
