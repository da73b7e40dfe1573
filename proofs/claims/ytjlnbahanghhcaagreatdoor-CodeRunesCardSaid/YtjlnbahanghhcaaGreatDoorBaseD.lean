/- begun, the trial at the begin of every statement of layer 1, is true. Conditions: each theorem's own. -/
import Derived.Test.YtjlnbahanghhcaaGreatDoorProg
import Derived.Below
import Derived.Deep.Draws
import Derived.Deep.AppendLies
import Derived.Maps.AppendAt
import Derived.OwnWalk
import Derived.Laws.BytesArg
import Derived.Laws.MakeOwn
import Derived.Laws.OwnMore
import Derived.Deep.OwnRows
import Derived.Tactics
import Derived.Lib.ConvBytes
import Derived.Laws.Slices
import Derived.WalkKit
import Derived.KernelRfl
import Derived.RowKit3
import Derived.Deep.LoopGhost
import Derived.Deep.QuietTactic
import Derived.BigQuiet
import Derived.WideLaws
import Derived.Deep.DeepCutAuto
import Derived.Deep.CutBlock
import Derived.Deep.RegionHeld3
import Derived.Laws.Rows
import Derived.Lib.AppendStr
import Derived.ArgAppend
import Derived.Laws.IdiomCopy
import Derived.OrdersHeld
import Derived.Laws.BitsLemmas
import Derived.RowKit
import Derived.Test.YtjlnbahanghhcaaGreatDoorBaseC
import Derived.Test.YtjlnbahanghhcaaGreatDoorWWords
import Derived.Test.YtjlnbahanghhcaaGreatDoorWLast
import Derived.Test.YtjlnbahanghhcaaGreatDoorWTab
import Derived.Test.YtjlnbahanghhcaaGreatDoorWFour
import Derived.Test.YtjlnbahanghhcaaGreatDoorWQPut
import Derived.Test.YtjlnbahanghhcaaGreatDoorWApart
import Derived.Test.YtjlnbahanghhcaaGreatDoorWArr
import Derived.Test.YtjlnbahanghhcaaGreatDoorWZeros
import Derived.Test.YtjlnbahanghhcaaGreatDoorWFoot
import Derived.Test.YtjlnbahanghhcaaGreatDoorWKept
import Derived.Test.YtjlnbahanghhcaaGreatDoorWShare
import Derived.Test.YtjlnbahanghhcaaGreatDoorWN
import Derived.Test.YtjlnbahanghhcaaGreatDoorWFootNe
import Derived.Test.YtjlnbahanghhcaaGreatDoorWAt
import Derived.Test.YtjlnbahanghhcaaGreatDoorWEqStruct
import Derived.Test.YtjlnbahanghhcaaGreatDoorWRepsOne
import Derived.Test.YtjlnbahanghhcaaGreatDoorWInv
import Derived.Test.YtjlnbahanghhcaaGreatDoorWInvWords
import Derived.Test.YtjlnbahanghhcaaGreatDoorWGuard
import Derived.Test.YtjlnbahanghhcaaGreatDoorWNEv
import Derived.Test.YtjlnbahanghhcaaGreatDoorWMore
import Derived.Test.YtjlnbahanghhcaaGreatDoorBaseA
import Derived.Test.YtjlnbahanghhcaaGreatDoorBaseB

/- What this seat's Go functions compute, as Lean functions, and that they do. Written by a program of this session's (wip/pr/pr.py) by means of the kit's printer, with contracts of ours for some functions; conditions: none beyond each theorem's own. -/
namespace Go.Proofs.YtjlnbahanghhcaaGreatDoor.PoptGet
open Go.RowKit Go.Proofs.YtjlnbahanghhcaaGreatDoorW.PrintWords Go.Proofs.YtjlnbahanghhcaaGreatDoorW.PrintLast Go.Proofs.YtjlnbahanghhcaaGreatDoorW.PrintMore
attribute [local go_sem] max2_int min2_int max_two min_two max_three min_three max_four min_four   -- for this text's walks alone
set_option linter.unusedVariables false
set_option linter.unusedSimpArgs false



def errW : Option Int → Value
  | none => .nilIface
  | some c => .iface 0 (.int .i64 c)
theorem errW_none : errW none = .nilIface := rfl
theorem errW_some (c : Int) : errW (some c) = .iface 0 (.int .i64 c) := rfl

theorem info50 : (Tryz.prog.info? 50).map (fun i => (i.zero, i.size, i.bytes)) = some (some (.agg #[(.int .i64 0), (.string ⟨#[]⟩)]), 2, 24) := by kernel_rfl
-- the values' own types
/-! #### struct type 50 -/
structure S50 where
  f0 : Int
  f1 : ByteArray
def z50 : S50 := ⟨(0 : Int), (⟨#[]⟩ : ByteArray)⟩
def k50 : Kd S50 := Kd.iso (Kd.pair (Kd.int .i64) Kd.string) (fun x : S50 => (x.f0, x.f1))
theorem k50_open {w : World} {x : S50} {cs : List Value} (h : k50.K w x cs) : cs = [.int .i64 x.f0, .string x.f1] := by
  obtain ⟨_, _, rfl, rfl, rfl⟩ := h
  exact rfl
theorem k50_openM {w : World} {base : Nat} {ok : Nat → Prop} {x : S50} {cs : List Value} (h : k50.M w base ok x cs) : cs = [.int .i64 x.f0, .string x.f1] := by
  obtain ⟨_, _, rfl, rfl, rfl⟩ := h
  exact rfl
theorem k50_mk (w : World) (x : S50)  : k50.K w x [.int .i64 x.f0, .string x.f1] := ⟨[.int .i64 x.f0], [.string x.f1], rfl, rfl, rfl⟩
theorem k50_mkM (w : World) (base : Nat) (ok : Nat → Prop) (x : S50)  : k50.M w base ok x [.int .i64 x.f0, .string x.f1] := ⟨[.int .i64 x.f0], [.string x.f1], rfl, rfl, rfl⟩
def rd_T50 (xs : List S50) (i : Int) : S50 := xs.getD i.toNat z50
theorem at_T50 {w : World} {A : Option Addr} {n : Nat} {xs : List S50} (h : Kd.C k50 w A n xs) (i : Int) (h0 : 0 ≤ i) (h1 : i < n) : ∃ ad , A = some ad ∧ w.cell? (ad.add (i.toNat * 2)) = some (.int .i64 (rd_T50 xs i).f0) ∧ w.cell? ⟨(ad.add (i.toNat * 2)).block, (ad.add (i.toNat * 2)).off + 1, none⟩ = some (.string (rd_T50 xs i).f1) := by
  obtain ⟨ad, c, e, _, hK, hc0⟩ := Kd.C_get h z50 i h0 h1
  have hc : ∀ j u, c[j]? = some u → w.cell? (ad.add (i.toNat * 2 + j)) = some u := hc0
  obtain rfl := k50_open hK
  exact ⟨ad, e, hc 0 _ rfl, by rw [← add_field _ _ 1 (by omega)]; exact hc 1 _ rfl⟩

end Go.Proofs.YtjlnbahanghhcaaGreatDoor.PoptGet

/- What this seat's Go functions compute, as Lean functions, and that they do. Written by a program of this session's (wip/pr/pr.py) by means of the kit's printer, with contracts of ours for some functions; conditions: none beyond each theorem's own. -/
namespace Go.Proofs.YtjlnbahanghhcaaGreatDoor.PoptGet
open Go.RowKit Go.Proofs.YtjlnbahanghhcaaGreatDoorW.PrintWords Go.Proofs.YtjlnbahanghhcaaGreatDoorW.PrintLast Go.Proofs.YtjlnbahanghhcaaGreatDoorW.PrintMore
attribute [local go_sem] max2_int min2_int max_two min_two max_three min_three max_four min_four   -- for this text's walks alone
set_option linter.unusedVariables false
set_option linter.unusedSimpArgs false

/-! ### opt_one: function 84 -/
def opt_one.f (a0 : ByteArray) : Option (Int × ByteArray × Int) := if 0 < (a0.size : Int) then (if (wrap64 (bt a0 0)) < 32 then (some (wrap64 (bt a0 0), (⟨#[]⟩ : ByteArray), 1)) else (if (a0.size : Int) < 2 then (some (wrap64 (bt a0 0), (⟨#[]⟩ : ByteArray), 0)) else (if 1 < (a0.size : Int) then (if (wrap64 (bt a0 1)) < 2 then (some (wrap64 (bt a0 0), (⟨#[]⟩ : ByteArray), 0)) else (if (wrap64 (bt a0 1)) > (a0.size : Int) then (some (wrap64 (bt a0 0), (⟨#[]⟩ : ByteArray), 0)) else (if 2 ≤ (bt a0 1) then (if (bt a0 1) ≤ (a0.size : Int) then (some (wrap64 (bt a0 0), a0.extract 2 ((bt a0 1) : Int).toNat, wrap64 (bt a0 1))) else (none)) else (none)))) else (none)))) else (none)
set_option maxHeartbeats 8000000 in
set_option maxRecDepth 100000 in
theorem opt_one.calls (a0 : ByteArray) (r1 : Int) (r2 : ByteArray) (r3 : Int) (w : World) (h : opt_one.f a0 = some (r1, r2, r3)) :
    Calls Tryz.prog 84 #[.string a0] w fun e w' => e = .returned (.tuple #[.agg #[.int .i64 r1, .string r2], .int .i64 r3]) ∧ Below w.heap.size w w' := by
  have hu50 := Tryz.underlying50
  have HB := Aside0.mk (Below.refl w.heap.size w)
  have H : (if 0 < (a0.size : Int) then (if (wrap64 (bt a0 0)) < 32 then (some (wrap64 (bt a0 0), (⟨#[]⟩ : ByteArray), 1)) else (if (a0.size : Int) < 2 then (some (wrap64 (bt a0 0), (⟨#[]⟩ : ByteArray), 0)) else (if 1 < (a0.size : Int) then (if (wrap64 (bt a0 1)) < 2 then (some (wrap64 (bt a0 0), (⟨#[]⟩ : ByteArray), 0)) else (if (wrap64 (bt a0 1)) > (a0.size : Int) then (some (wrap64 (bt a0 0), (⟨#[]⟩ : ByteArray), 0)) else (if 2 ≤ (bt a0 1) then (if (bt a0 1) ≤ (a0.size : Int) then (some (wrap64 (bt a0 0), a0.extract 2 ((bt a0 1) : Int).toNat, wrap64 (bt a0 1))) else (none)) else (none)))) else (none)))) else (none)) = some (r1, r2, r3) := h
  clear h
  by_cases c2 : 0 < (a0.size : Int)
  · rw [if_pos c2] at H
    have c2b0 : decide (0 < (a0.size : Int)) = true := decide_eq_true c2
    have c2b1 : decide (0 < a0.size) = true := decide_eq_true (by omega)
    clear c2
    by_cases c4 : (wrap64 (bt a0 0)) < 32
    · rw [if_pos c4] at H
      have c4b0 : decide ((wrap64 (bt a0 0)) < 32) = true := decide_eq_true c4
      clear c4
      simp only [Option.some.injEq, Prod.mk.injEq] at H
      obtain ⟨rfl, rfl, rfl⟩ := H
      go_enter Tryz.func84, Tryz.ntmps84
      go_wp2_with (first | ((with_reducible refine gate_dst (N := 2) rfl ?_); (try (refine gate_guard (by rfl) ?_; dsimp only)); refine box_event ?hg (N := 2) ?hd (cs := #[.int .i64 0, .string (⟨#[]⟩ : ByteArray)]) (t := 50) ?hr ?_; (case hd => rfl); (case hg => rfl); (case hr => first | (go_simp; done) | (go_simp; rfl)); intro gb101 hg w5 hbox hb; have n0_ := Aside0.mk (below_step (by repeat (first | (with_reducible first | exact HB.out | apply below_alloc | apply pw_below_drewN | apply below_drew1) | exact HB.out)) hb); have n1_ := Aside0.mk (hbox); have n2_ := Aside0.mk ((by rw [hg]; exact (below_size (by repeat (first | (with_reducible first | exact HB.out | apply below_alloc | apply pw_below_drewN | apply below_drew1) | exact HB.out))) : w.heap.size ≤ gb101)); have n3_ := Aside0.mk ((by rw [hg]; exact (below_size (by repeat (first | (with_reducible first | exact HB.out | apply below_alloc | apply pw_below_drewN | apply below_drew1) | exact HB.out))) : w.heap.size ≤ gb101)); clear HB; have HB := n0_; have BK101 := n1_; have GW101 := n2_; have GE101 := n3_; clear n0_ n1_ n2_ n3_; clear hb hbox hg; have p3 : 0 ≤ (0 : Int) := (by omega); have q3 : 0 < a0.size := (by have : (0 : Int) < (a0.size : Int) := of_decide_eq_true (by first | (with_reducible assumption) | assumption); omega); have hx3 : ∀ h : 0 < a0.size, ((a0[0]'h).toNat : Int) = bt a0 0 := bt_at a0 0; clear p3; have qi3 : (0 < (a0.size : Int)) = True := eq_true (of_decide_eq_true (by first | (with_reducible assumption) | assumption)); replace q3 := eq_true q3) | ((with_reducible refine gate_dst (N := 4) rfl ?_); (try (refine gate_guard (by rfl) ?_; dsimp only)); refine box_event ?hg (N := 4) ?hd (cs := #[.int .i64 0, .string (⟨#[]⟩ : ByteArray)]) (t := 50) ?hr ?_; (case hd => rfl); (case hg => rfl); (case hr => first | (go_simp; done) | (go_simp; rfl)); intro gb102 hg w6 hbox hb; have n0_ := Aside0.mk (blk_below (g := gb101) (o := .cells #[.int .i64 0, .string (⟨#[]⟩ : ByteArray)] 50 (0, 0)) (by (with_reducible repeat (first | refine blk_drewN ?_ _ | refine blk_drew ?_ | refine blk_alloc ?_ _)); exact BK101.out) hb); have n1_ := Aside0.mk (below_step (by repeat (first | (with_reducible first | exact HB.out | apply below_alloc | apply pw_below_drewN | apply below_drew1 | refine below_set ?_ GE101.out) | exact HB.out)) hb); have n2_ := Aside0.mk (hbox); have n3_ := Aside0.mk ((by rw [hg]; exact (below_size (by repeat (first | (with_reducible first | exact HB.out | apply below_alloc | apply pw_below_drewN | apply below_drew1 | refine below_set ?_ GE101.out) | exact HB.out))) : w.heap.size ≤ gb102)); have n4_ := Aside0.mk ((by rw [hg]; exact (below_size (by repeat (first | (with_reducible first | exact HB.out | apply below_alloc | apply pw_below_drewN | apply below_drew1 | refine below_set ?_ GE101.out) | exact HB.out))) : w.heap.size ≤ gb102)); have n5_ := Aside0.mk ((by rw [hg]; exact Nat.ne_of_lt (blk_lt (g := gb101) (o := .cells #[.int .i64 0, .string (⟨#[]⟩ : ByteArray)] 50 (0, 0)) (by (with_reducible repeat (first | refine blk_drewN ?_ _ | refine blk_drew ?_ | refine blk_alloc ?_ _)); exact BK101.out)) : gb101 ≠ gb102)); have n6_ := Aside0.mk ((by rw [hg]; exact Nat.ne_of_gt (blk_lt (g := gb101) (o := .cells #[.int .i64 0, .string (⟨#[]⟩ : ByteArray)] 50 (0, 0)) (by (with_reducible repeat (first | refine blk_drewN ?_ _ | refine blk_drew ?_ | refine blk_alloc ?_ _)); exact BK101.out)) : gb102 ≠ gb101)); clear BK101; clear HB; have BK101 := n0_; have HB := n1_; have BK102 := n2_; have GW102 := n3_; have GE102 := n4_; have NB101_102 := n5_; have NB102_101 := n6_; clear n0_ n1_ n2_ n3_ n4_ n5_ n6_; clear hb hbox hg; have hnb7 := NB102_101.out; have hnc7 := NB101_102.out; have hcz8_0 : w6.cell? ⟨gb102, 0, none⟩ = some (.int .i64 0) := (blk_cell BK102.out 0).trans rfl; have hcz8_1 : w6.cell? ⟨gb102, 1, none⟩ = some (.string (⟨#[]⟩ : ByteArray)) := (blk_cell BK102.out 1).trans rfl; have hfz8_0 := blk_frozen BK102.out 0; have hfz8_1 := blk_frozen BK102.out 1; have hcz9_0 : w6.cell? ⟨gb101, 0, none⟩ = some (.int .i64 0) := (blk_cell BK101.out 0).trans rfl; have hcz9_1 : w6.cell? ⟨gb101, 1, none⟩ = some (.string (⟨#[]⟩ : ByteArray)) := (blk_cell BK101.out 1).trans rfl; have hfz9_0 := blk_frozen BK101.out 0; have hfz9_1 := blk_frozen BK101.out 1))
      refine bodyPost_ret (results_ct rfl _ _ gb101 50 #[.int .i64 (wrap64 (bt a0 0)), .string (⟨#[]⟩ : ByteArray)] (0, 0) _ rfl (by (with_reducible repeat (first | refine blk_drewN ?_ _ | refine blk_drew ?_ | refine blk_alloc ?_ _)); refine blk_put (cs := #[.int .i64 (wrap64 (bt a0 0)), .string (⟨#[]⟩ : ByteArray)]) ?_ 1 _ rfl; (with_reducible repeat (first | refine blk_drewN ?_ _ | refine blk_drew ?_ | refine blk_alloc ?_ _)); refine blk_put (cs := #[.int .i64 0, .string (⟨#[]⟩ : ByteArray)]) ?_ 0 _ rfl; (with_reducible repeat (first | refine blk_drewN ?_ _ | refine blk_drew ?_ | refine blk_alloc ?_ _)); refine blk_far ?_ NB101_102.out _; (with_reducible repeat (first | refine blk_drewN ?_ _ | refine blk_drew ?_ | refine blk_alloc ?_ _)); refine blk_far ?_ NB101_102.out _; (with_reducible repeat (first | refine blk_drewN ?_ _ | refine blk_drew ?_ | refine blk_alloc ?_ _)); exact BK101.out) Tryz.underlying50 rfl (by kernel_rfl)) rfl ?_
      exact ⟨by first | rfl | (simp [errW_none, errW_some] <;> rfl) | (simp [*, errW_none, errW_some] <;> rfl), by repeat (first | (with_reducible first | exact HB.out | apply below_alloc | apply pw_below_drewN | apply below_drew1 | refine below_set ?_ GE101.out | refine below_set ?_ GE102.out) | exact HB.out)⟩
    · rw [if_neg c4] at H
      have c4b0 : decide ((wrap64 (bt a0 0)) < 32) = false := decide_eq_false c4
      clear c4
      by_cases c10 : (a0.size : Int) < 2
      · rw [if_pos c10] at H
        have c10b0 : decide ((a0.size : Int) < 2) = true := decide_eq_true c10
        have c10b1 : decide (a0.size < 2) = true := decide_eq_true (by omega)
        clear c10
        simp only [Option.some.injEq, Prod.mk.injEq] at H
        obtain ⟨rfl, rfl, rfl⟩ := H
        go_enter Tryz.func84, Tryz.ntmps84
        go_wp2_with (first | ((with_reducible refine gate_dst (N := 2) rfl ?_); (try (refine gate_guard (by rfl) ?_; dsimp only)); refine box_event ?hg (N := 2) ?hd (cs := #[.int .i64 0, .string (⟨#[]⟩ : ByteArray)]) (t := 50) ?hr ?_; (case hd => rfl); (case hg => rfl); (case hr => first | (go_simp; done) | (go_simp; rfl)); intro gb101 hg w11 hbox hb; have n0_ := Aside0.mk (below_step (by repeat (first | (with_reducible first | exact HB.out | apply below_alloc | apply pw_below_drewN | apply below_drew1) | exact HB.out)) hb); have n1_ := Aside0.mk (hbox); have n2_ := Aside0.mk ((by rw [hg]; exact (below_size (by repeat (first | (with_reducible first | exact HB.out | apply below_alloc | apply pw_below_drewN | apply below_drew1) | exact HB.out))) : w.heap.size ≤ gb101)); have n3_ := Aside0.mk ((by rw [hg]; exact (below_size (by repeat (first | (with_reducible first | exact HB.out | apply below_alloc | apply pw_below_drewN | apply below_drew1) | exact HB.out))) : w.heap.size ≤ gb101)); clear HB; have HB := n0_; have BK101 := n1_; have GW101 := n2_; have GE101 := n3_; clear n0_ n1_ n2_ n3_; clear hb hbox hg; have p3 : 0 ≤ (0 : Int) := (by omega); have q3 : 0 < a0.size := (by have : (0 : Int) < (a0.size : Int) := of_decide_eq_true (by first | (with_reducible assumption) | assumption); omega); have hx3 : ∀ h : 0 < a0.size, ((a0[0]'h).toNat : Int) = bt a0 0 := bt_at a0 0; clear p3; have qi3 : (0 < (a0.size : Int)) = True := eq_true (of_decide_eq_true (by first | (with_reducible assumption) | assumption)); replace q3 := eq_true q3) | ((with_reducible refine gate_dst (N := 4) rfl ?_); (try (refine gate_guard (by rfl) ?_; dsimp only)); refine box_event ?hg (N := 4) ?hd (cs := #[.int .i64 0, .string (⟨#[]⟩ : ByteArray)]) (t := 50) ?hr ?_; (case hd => rfl); (case hg => rfl); (case hr => first | (go_simp; done) | (go_simp; rfl)); intro gb102 hg w12 hbox hb; have n0_ := Aside0.mk (blk_below (g := gb101) (o := .cells #[.int .i64 0, .string (⟨#[]⟩ : ByteArray)] 50 (0, 0)) (by (with_reducible repeat (first | refine blk_drewN ?_ _ | refine blk_drew ?_ | refine blk_alloc ?_ _)); exact BK101.out) hb); have n1_ := Aside0.mk (below_step (by repeat (first | (with_reducible first | exact HB.out | apply below_alloc | apply pw_below_drewN | apply below_drew1 | refine below_set ?_ GE101.out) | exact HB.out)) hb); have n2_ := Aside0.mk (hbox); have n3_ := Aside0.mk ((by rw [hg]; exact (below_size (by repeat (first | (with_reducible first | exact HB.out | apply below_alloc | apply pw_below_drewN | apply below_drew1 | refine below_set ?_ GE101.out) | exact HB.out))) : w.heap.size ≤ gb102)); have n4_ := Aside0.mk ((by rw [hg]; exact (below_size (by repeat (first | (with_reducible first | exact HB.out | apply below_alloc | apply pw_below_drewN | apply below_drew1 | refine below_set ?_ GE101.out) | exact HB.out))) : w.heap.size ≤ gb102)); have n5_ := Aside0.mk ((by rw [hg]; exact Nat.ne_of_lt (blk_lt (g := gb101) (o := .cells #[.int .i64 0, .string (⟨#[]⟩ : ByteArray)] 50 (0, 0)) (by (with_reducible repeat (first | refine blk_drewN ?_ _ | refine blk_drew ?_ | refine blk_alloc ?_ _)); exact BK101.out)) : gb101 ≠ gb102)); have n6_ := Aside0.mk ((by rw [hg]; exact Nat.ne_of_gt (blk_lt (g := gb101) (o := .cells #[.int .i64 0, .string (⟨#[]⟩ : ByteArray)] 50 (0, 0)) (by (with_reducible repeat (first | refine blk_drewN ?_ _ | refine blk_drew ?_ | refine blk_alloc ?_ _)); exact BK101.out)) : gb102 ≠ gb101)); clear BK101; clear HB; have BK101 := n0_; have HB := n1_; have BK102 := n2_; have GW102 := n3_; have GE102 := n4_; have NB101_102 := n5_; have NB102_101 := n6_; clear n0_ n1_ n2_ n3_ n4_ n5_ n6_; clear hb hbox hg; have hnb13 := NB102_101.out; have hnc13 := NB101_102.out; have hcz14_0 : w12.cell? ⟨gb102, 0, none⟩ = some (.int .i64 0) := (blk_cell BK102.out 0).trans rfl; have hcz14_1 : w12.cell? ⟨gb102, 1, none⟩ = some (.string (⟨#[]⟩ : ByteArray)) := (blk_cell BK102.out 1).trans rfl; have hfz14_0 := blk_frozen BK102.out 0; have hfz14_1 := blk_frozen BK102.out 1; have hcz15_0 : w12.cell? ⟨gb101, 0, none⟩ = some (.int .i64 0) := (blk_cell BK101.out 0).trans rfl; have hcz15_1 : w12.cell? ⟨gb101, 1, none⟩ = some (.string (⟨#[]⟩ : ByteArray)) := (blk_cell BK101.out 1).trans rfl; have hfz15_0 := blk_frozen BK101.out 0; have hfz15_1 := blk_frozen BK101.out 1))
        refine bodyPost_ret (results_ct rfl _ _ gb101 50 #[.int .i64 (wrap64 (bt a0 0)), .string (⟨#[]⟩ : ByteArray)] (0, 0) _ rfl (by (with_reducible repeat (first | refine blk_drewN ?_ _ | refine blk_drew ?_ | refine blk_alloc ?_ _)); refine blk_put (cs := #[.int .i64 (wrap64 (bt a0 0)), .string (⟨#[]⟩ : ByteArray)]) ?_ 1 _ rfl; (with_reducible repeat (first | refine blk_drewN ?_ _ | refine blk_drew ?_ | refine blk_alloc ?_ _)); refine blk_put (cs := #[.int .i64 0, .string (⟨#[]⟩ : ByteArray)]) ?_ 0 _ rfl; (with_reducible repeat (first | refine blk_drewN ?_ _ | refine blk_drew ?_ | refine blk_alloc ?_ _)); refine blk_far ?_ NB101_102.out _; (with_reducible repeat (first | refine blk_drewN ?_ _ | refine blk_drew ?_ | refine blk_alloc ?_ _)); refine blk_far ?_ NB101_102.out _; (with_reducible repeat (first | refine blk_drewN ?_ _ | refine blk_drew ?_ | refine blk_alloc ?_ _)); exact BK101.out) Tryz.underlying50 rfl (by kernel_rfl)) rfl ?_
        exact ⟨by first | rfl | (simp [errW_none, errW_some] <;> rfl) | (simp [*, errW_none, errW_some] <;> rfl), by repeat (first | (with_reducible first | exact HB.out | apply below_alloc | apply pw_below_drewN | apply below_drew1 | refine below_set ?_ GE101.out | refine below_set ?_ GE102.out) | exact HB.out)⟩
      · rw [if_neg c10] at H
        have c10b0 : decide ((a0.size : Int) < 2) = false := decide_eq_false c10
        have c10b1 : decide (a0.size < 2) = false := decide_eq_false (by omega)
        clear c10
        by_cases c16 : 1 < (a0.size : Int)
        · rw [if_pos c16] at H
          have c16b0 : decide (1 < (a0.size : Int)) = true := decide_eq_true c16
          have c16b1 : decide (1 < a0.size) = true := decide_eq_true (by omega)
          clear c16
          by_cases c18 : (wrap64 (bt a0 1)) < 2
          · rw [if_pos c18] at H
            have c18b0 : decide ((wrap64 (bt a0 1)) < 2) = true := decide_eq_true c18
            clear c18
            simp only [Option.some.injEq, Prod.mk.injEq] at H
            obtain ⟨rfl, rfl, rfl⟩ := H
            go_enter Tryz.func84, Tryz.ntmps84
            go_wp2_with (first | ((with_reducible refine gate_dst (N := 2) rfl ?_); (try (refine gate_guard (by rfl) ?_; dsimp only)); refine box_event ?hg (N := 2) ?hd (cs := #[.int .i64 0, .string (⟨#[]⟩ : ByteArray)]) (t := 50) ?hr ?_; (case hd => rfl); (case hg => rfl); (case hr => first | (go_simp; done) | (go_simp; rfl)); intro gb101 hg w19 hbox hb; have n0_ := Aside0.mk (below_step (by repeat (first | (with_reducible first | exact HB.out | apply below_alloc | apply pw_below_drewN | apply below_drew1) | exact HB.out)) hb); have n1_ := Aside0.mk (hbox); have n2_ := Aside0.mk ((by rw [hg]; exact (below_size (by repeat (first | (with_reducible first | exact HB.out | apply below_alloc | apply pw_below_drewN | apply below_drew1) | exact HB.out))) : w.heap.size ≤ gb101)); have n3_ := Aside0.mk ((by rw [hg]; exact (below_size (by repeat (first | (with_reducible first | exact HB.out | apply below_alloc | apply pw_below_drewN | apply below_drew1) | exact HB.out))) : w.heap.size ≤ gb101)); clear HB; have HB := n0_; have BK101 := n1_; have GW101 := n2_; have GE101 := n3_; clear n0_ n1_ n2_ n3_; clear hb hbox hg; have p3 : 0 ≤ (0 : Int) := (by omega); have q3 : 0 < a0.size := (by have : (0 : Int) < (a0.size : Int) := of_decide_eq_true (by first | (with_reducible assumption) | assumption); omega); have hx3 : ∀ h : 0 < a0.size, ((a0[0]'h).toNat : Int) = bt a0 0 := bt_at a0 0; clear p3; have qi3 : (0 < (a0.size : Int)) = True := eq_true (of_decide_eq_true (by first | (with_reducible assumption) | assumption)); replace q3 := eq_true q3) | ((with_reducible refine gate_dst (N := 4) rfl ?_); (try (refine gate_guard (by rfl) ?_; dsimp only)); refine box_event ?hg (N := 4) ?hd (cs := #[.int .i64 0, .string (⟨#[]⟩ : ByteArray)]) (t := 50) ?hr ?_; (case hd => rfl); (case hg => rfl); (case hr => first | (go_simp; done) | (go_simp; rfl)); intro gb102 hg w20 hbox hb; have n0_ := Aside0.mk (blk_below (g := gb101) (o := .cells #[.int .i64 0, .string (⟨#[]⟩ : ByteArray)] 50 (0, 0)) (by (with_reducible repeat (first | refine blk_drewN ?_ _ | refine blk_drew ?_ | refine blk_alloc ?_ _)); exact BK101.out) hb); have n1_ := Aside0.mk (below_step (by repeat (first | (with_reducible first | exact HB.out | apply below_alloc | apply pw_below_drewN | apply below_drew1 | refine below_set ?_ GE101.out) | exact HB.out)) hb); have n2_ := Aside0.mk (hbox); have n3_ := Aside0.mk ((by rw [hg]; exact (below_size (by repeat (first | (with_reducible first | exact HB.out | apply below_alloc | apply pw_below_drewN | apply below_drew1 | refine below_set ?_ GE101.out) | exact HB.out))) : w.heap.size ≤ gb102)); have n4_ := Aside0.mk ((by rw [hg]; exact (below_size (by repeat (first | (with_reducible first | exact HB.out | apply below_alloc | apply pw_below_drewN | apply below_drew1 | refine below_set ?_ GE101.out) | exact HB.out))) : w.heap.size ≤ gb102)); have n5_ := Aside0.mk ((by rw [hg]; exact Nat.ne_of_lt (blk_lt (g := gb101) (o := .cells #[.int .i64 0, .string (⟨#[]⟩ : ByteArray)] 50 (0, 0)) (by (with_reducible repeat (first | refine blk_drewN ?_ _ | refine blk_drew ?_ | refine blk_alloc ?_ _)); exact BK101.out)) : gb101 ≠ gb102)); have n6_ := Aside0.mk ((by rw [hg]; exact Nat.ne_of_gt (blk_lt (g := gb101) (o := .cells #[.int .i64 0, .string (⟨#[]⟩ : ByteArray)] 50 (0, 0)) (by (with_reducible repeat (first | refine blk_drewN ?_ _ | refine blk_drew ?_ | refine blk_alloc ?_ _)); exact BK101.out)) : gb102 ≠ gb101)); clear BK101; clear HB; have BK101 := n0_; have HB := n1_; have BK102 := n2_; have GW102 := n3_; have GE102 := n4_; have NB101_102 := n5_; have NB102_101 := n6_; clear n0_ n1_ n2_ n3_ n4_ n5_ n6_; clear hb hbox hg; have hnb21 := NB102_101.out; have hnc21 := NB101_102.out; have hcz22_0 : w20.cell? ⟨gb102, 0, none⟩ = some (.int .i64 0) := (blk_cell BK102.out 0).trans rfl; have hcz22_1 : w20.cell? ⟨gb102, 1, none⟩ = some (.string (⟨#[]⟩ : ByteArray)) := (blk_cell BK102.out 1).trans rfl; have hfz22_0 := blk_frozen BK102.out 0; have hfz22_1 := blk_frozen BK102.out 1; have p17 : 0 ≤ (1 : Int) := (by omega); have q17 : 1 < a0.size := (by have : (1 : Int) < (a0.size : Int) := of_decide_eq_true (by first | (with_reducible assumption) | assumption); omega); have hx17 : ∀ h : 1 < a0.size, ((a0[1]'h).toNat : Int) = bt a0 1 := bt_at a0 1; clear p17; have qi17 : (1 < (a0.size : Int)) = True := eq_true (of_decide_eq_true (by first | (with_reducible assumption) | assumption)); replace q17 := eq_true q17; have hcz23_0 : w20.cell? ⟨gb101, 0, none⟩ = some (.int .i64 0) := (blk_cell BK101.out 0).trans rfl; have hcz23_1 : w20.cell? ⟨gb101, 1, none⟩ = some (.string (⟨#[]⟩ : ByteArray)) := (blk_cell BK101.out 1).trans rfl; have hfz23_0 := blk_frozen BK101.out 0; have hfz23_1 := blk_frozen BK101.out 1))
            refine bodyPost_ret (results_ct rfl _ _ gb101 50 #[.int .i64 (wrap64 (bt a0 0)), .string (⟨#[]⟩ : ByteArray)] (0, 0) _ rfl (by (with_reducible repeat (first | refine blk_drewN ?_ _ | refine blk_drew ?_ | refine blk_alloc ?_ _)); refine blk_put (cs := #[.int .i64 (wrap64 (bt a0 0)), .string (⟨#[]⟩ : ByteArray)]) ?_ 1 _ rfl; (with_reducible repeat (first | refine blk_drewN ?_ _ | refine blk_drew ?_ | refine blk_alloc ?_ _)); refine blk_put (cs := #[.int .i64 0, .string (⟨#[]⟩ : ByteArray)]) ?_ 0 _ rfl; (with_reducible repeat (first | refine blk_drewN ?_ _ | refine blk_drew ?_ | refine blk_alloc ?_ _)); refine blk_far ?_ NB101_102.out _; (with_reducible repeat (first | refine blk_drewN ?_ _ | refine blk_drew ?_ | refine blk_alloc ?_ _)); refine blk_far ?_ NB101_102.out _; (with_reducible repeat (first | refine blk_drewN ?_ _ | refine blk_drew ?_ | refine blk_alloc ?_ _)); exact BK101.out) Tryz.underlying50 rfl (by kernel_rfl)) rfl ?_
            exact ⟨by first | rfl | (simp [errW_none, errW_some] <;> rfl) | (simp [*, errW_none, errW_some] <;> rfl), by repeat (first | (with_reducible first | exact HB.out | apply below_alloc | apply pw_below_drewN | apply below_drew1 | refine below_set ?_ GE101.out | refine below_set ?_ GE102.out) | exact HB.out)⟩
          · rw [if_neg c18] at H
            have c18b0 : decide ((wrap64 (bt a0 1)) < 2) = false := decide_eq_false c18
            clear c18
            by_cases c25 : (wrap64 (bt a0 1)) > (a0.size : Int)
            · rw [if_pos c25] at H
              have c25b0 : decide ((a0.size : Int) < (wrap64 (bt a0 1))) = true := decide_eq_true c25
              clear c25
              simp only [Option.some.injEq, Prod.mk.injEq] at H
              obtain ⟨rfl, rfl, rfl⟩ := H
              go_enter Tryz.func84, Tryz.ntmps84
              go_wp2_with (first | ((with_reducible refine gate_dst (N := 2) rfl ?_); (try (refine gate_guard (by rfl) ?_; dsimp only)); refine box_event ?hg (N := 2) ?hd (cs := #[.int .i64 0, .string (⟨#[]⟩ : ByteArray)]) (t := 50) ?hr ?_; (case hd => rfl); (case hg => rfl); (case hr => first | (go_simp; done) | (go_simp; rfl)); intro gb101 hg w26 hbox hb; have n0_ := Aside0.mk (below_step (by repeat (first | (with_reducible first | exact HB.out | apply below_alloc | apply pw_below_drewN | apply below_drew1) | exact HB.out)) hb); have n1_ := Aside0.mk (hbox); have n2_ := Aside0.mk ((by rw [hg]; exact (below_size (by repeat (first | (with_reducible first | exact HB.out | apply below_alloc | apply pw_below_drewN | apply below_drew1) | exact HB.out))) : w.heap.size ≤ gb101)); have n3_ := Aside0.mk ((by rw [hg]; exact (below_size (by repeat (first | (with_reducible first | exact HB.out | apply below_alloc | apply pw_below_drewN | apply below_drew1) | exact HB.out))) : w.heap.size ≤ gb101)); clear HB; have HB := n0_; have BK101 := n1_; have GW101 := n2_; have GE101 := n3_; clear n0_ n1_ n2_ n3_; clear hb hbox hg; have p3 : 0 ≤ (0 : Int) := (by omega); have q3 : 0 < a0.size := (by have : (0 : Int) < (a0.size : Int) := of_decide_eq_true (by first | (with_reducible assumption) | assumption); omega); have hx3 : ∀ h : 0 < a0.size, ((a0[0]'h).toNat : Int) = bt a0 0 := bt_at a0 0; clear p3; have qi3 : (0 < (a0.size : Int)) = True := eq_true (of_decide_eq_true (by first | (with_reducible assumption) | assumption)); replace q3 := eq_true q3) | ((with_reducible refine gate_dst (N := 4) rfl ?_); (try (refine gate_guard (by rfl) ?_; dsimp only)); refine box_event ?hg (N := 4) ?hd (cs := #[.int .i64 0, .string (⟨#[]⟩ : ByteArray)]) (t := 50) ?hr ?_; (case hd => rfl); (case hg => rfl); (case hr => first | (go_simp; done) | (go_simp; rfl)); intro gb102 hg w27 hbox hb; have n0_ := Aside0.mk (blk_below (g := gb101) (o := .cells #[.int .i64 0, .string (⟨#[]⟩ : ByteArray)] 50 (0, 0)) (by (with_reducible repeat (first | refine blk_drewN ?_ _ | refine blk_drew ?_ | refine blk_alloc ?_ _)); exact BK101.out) hb); have n1_ := Aside0.mk (below_step (by repeat (first | (with_reducible first | exact HB.out | apply below_alloc | apply pw_below_drewN | apply below_drew1 | refine below_set ?_ GE101.out) | exact HB.out)) hb); have n2_ := Aside0.mk (hbox); have n3_ := Aside0.mk ((by rw [hg]; exact (below_size (by repeat (first | (with_reducible first | exact HB.out | apply below_alloc | apply pw_below_drewN | apply below_drew1 | refine below_set ?_ GE101.out) | exact HB.out))) : w.heap.size ≤ gb102)); have n4_ := Aside0.mk ((by rw [hg]; exact (below_size (by repeat (first | (with_reducible first | exact HB.out | apply below_alloc | apply pw_below_drewN | apply below_drew1 | refine below_set ?_ GE101.out) | exact HB.out))) : w.heap.size ≤ gb102)); have n5_ := Aside0.mk ((by rw [hg]; exact Nat.ne_of_lt (blk_lt (g := gb101) (o := .cells #[.int .i64 0, .string (⟨#[]⟩ : ByteArray)] 50 (0, 0)) (by (with_reducible repeat (first | refine blk_drewN ?_ _ | refine blk_drew ?_ | refine blk_alloc ?_ _)); exact BK101.out)) : gb101 ≠ gb102)); have n6_ := Aside0.mk ((by rw [hg]; exact Nat.ne_of_gt (blk_lt (g := gb101) (o := .cells #[.int .i64 0, .string (⟨#[]⟩ : ByteArray)] 50 (0, 0)) (by (with_reducible repeat (first | refine blk_drewN ?_ _ | refine blk_drew ?_ | refine blk_alloc ?_ _)); exact BK101.out)) : gb102 ≠ gb101)); clear BK101; clear HB; have BK101 := n0_; have HB := n1_; have BK102 := n2_; have GW102 := n3_; have GE102 := n4_; have NB101_102 := n5_; have NB102_101 := n6_; clear n0_ n1_ n2_ n3_ n4_ n5_ n6_; clear hb hbox hg; have hnb28 := NB102_101.out; have hnc28 := NB101_102.out; have hcz29_0 : w27.cell? ⟨gb102, 0, none⟩ = some (.int .i64 0) := (blk_cell BK102.out 0).trans rfl; have hcz29_1 : w27.cell? ⟨gb102, 1, none⟩ = some (.string (⟨#[]⟩ : ByteArray)) := (blk_cell BK102.out 1).trans rfl; have hfz29_0 := blk_frozen BK102.out 0; have hfz29_1 := blk_frozen BK102.out 1; have p17 : 0 ≤ (1 : Int) := (by omega); have q17 : 1 < a0.size := (by have : (1 : Int) < (a0.size : Int) := of_decide_eq_true (by first | (with_reducible assumption) | assumption); omega); have hx17 : ∀ h : 1 < a0.size, ((a0[1]'h).toNat : Int) = bt a0 1 := bt_at a0 1; clear p17; have qi17 : (1 < (a0.size : Int)) = True := eq_true (of_decide_eq_true (by first | (with_reducible assumption) | assumption)); replace q17 := eq_true q17; have p24 : 0 ≤ (1 : Int) := (by omega); have q24 : 1 < a0.size := (by have : (1 : Int) < (a0.size : Int) := of_decide_eq_true (by first | (with_reducible assumption) | assumption); omega); have hx24 : ∀ h : 1 < a0.size, ((a0[1]'h).toNat : Int) = bt a0 1 := bt_at a0 1; clear p24; have qi24 : (1 < (a0.size : Int)) = True := eq_true (of_decide_eq_true (by first | (with_reducible assumption) | assumption)); replace q24 := eq_true q24; have hcz30_0 : w27.cell? ⟨gb101, 0, none⟩ = some (.int .i64 0) := (blk_cell BK101.out 0).trans rfl; have hcz30_1 : w27.cell? ⟨gb101, 1, none⟩ = some (.string (⟨#[]⟩ : ByteArray)) := (blk_cell BK101.out 1).trans rfl; have hfz30_0 := blk_frozen BK101.out 0; have hfz30_1 := blk_frozen BK101.out 1))
              refine bodyPost_ret (results_ct rfl _ _ gb101 50 #[.int .i64 (wrap64 (bt a0 0)), .string (⟨#[]⟩ : ByteArray)] (0, 0) _ rfl (by (with_reducible repeat (first | refine blk_drewN ?_ _ | refine blk_drew ?_ | refine blk_alloc ?_ _)); refine blk_put (cs := #[.int .i64 (wrap64 (bt a0 0)), .string (⟨#[]⟩ : ByteArray)]) ?_ 1 _ rfl; (with_reducible repeat (first | refine blk_drewN ?_ _ | refine blk_drew ?_ | refine blk_alloc ?_ _)); refine blk_put (cs := #[.int .i64 0, .string (⟨#[]⟩ : ByteArray)]) ?_ 0 _ rfl; (with_reducible repeat (first | refine blk_drewN ?_ _ | refine blk_drew ?_ | refine blk_alloc ?_ _)); refine blk_far ?_ NB101_102.out _; (with_reducible repeat (first | refine blk_drewN ?_ _ | refine blk_drew ?_ | refine blk_alloc ?_ _)); refine blk_far ?_ NB101_102.out _; (with_reducible repeat (first | refine blk_drewN ?_ _ | refine blk_drew ?_ | refine blk_alloc ?_ _)); exact BK101.out) Tryz.underlying50 rfl (by kernel_rfl)) rfl ?_
              exact ⟨by first | rfl | (simp [errW_none, errW_some] <;> rfl) | (simp [*, errW_none, errW_some] <;> rfl), by repeat (first | (with_reducible first | exact HB.out | apply below_alloc | apply pw_below_drewN | apply below_drew1 | refine below_set ?_ GE101.out | refine below_set ?_ GE102.out) | exact HB.out)⟩
            · rw [if_neg c25] at H
              have c25b0 : decide ((a0.size : Int) < (wrap64 (bt a0 1))) = false := decide_eq_false c25
              clear c25
              by_cases c32 : 2 ≤ (bt a0 1)
              · rw [if_pos c32] at H
                have c32b0 := eq_true c32
                have c32b1 : decide (2 ≤ (bt a0 1)) = true := decide_eq_true c32
                clear c32
                by_cases c33 : (bt a0 1) ≤ (a0.size : Int)
                · rw [if_pos c33] at H
                  have c33b0 := eq_true c33
                  have c33b1 : decide ((bt a0 1) ≤ (a0.size : Int)) = true := decide_eq_true c33
                  clear c33
                  simp only [Option.some.injEq, Prod.mk.injEq] at H
                  obtain ⟨rfl, rfl, rfl⟩ := H
                  go_enter Tryz.func84, Tryz.ntmps84
                  try go_wp2_with (first | ((with_reducible refine gate_dst (N := 2) rfl ?_); (try (refine gate_guard (by rfl) ?_; dsimp only)); refine box_event ?hg (N := 2) ?hd (cs := #[.int .i64 0, .string (⟨#[]⟩ : ByteArray)]) (t := 50) ?hr ?_; (case hd => rfl); (case hg => rfl); (case hr => first | (go_simp; done) | (go_simp; rfl)); intro gb101 hg w35 hbox hb; have n0_ := Aside0.mk (below_step (by repeat (first | (with_reducible first | exact HB.out | apply below_alloc | apply pw_below_drewN | apply below_drew1) | exact HB.out)) hb); have n1_ := Aside0.mk (hbox); have n2_ := Aside0.mk ((by rw [hg]; exact (below_size (by repeat (first | (with_reducible first | exact HB.out | apply below_alloc | apply pw_below_drewN | apply below_drew1) | exact HB.out))) : w.heap.size ≤ gb101)); have n3_ := Aside0.mk ((by rw [hg]; exact (below_size (by repeat (first | (with_reducible first | exact HB.out | apply below_alloc | apply pw_below_drewN | apply below_drew1) | exact HB.out))) : w.heap.size ≤ gb101)); clear HB; have HB := n0_; have BK101 := n1_; have GW101 := n2_; have GE101 := n3_; clear n0_ n1_ n2_ n3_; clear hb hbox hg; have p3 : 0 ≤ (0 : Int) := (by omega); have q3 : 0 < a0.size := (by have : (0 : Int) < (a0.size : Int) := of_decide_eq_true (by first | (with_reducible assumption) | assumption); omega); have hx3 : ∀ h : 0 < a0.size, ((a0[0]'h).toNat : Int) = bt a0 0 := bt_at a0 0; clear p3; have qi3 : (0 < (a0.size : Int)) = True := eq_true (of_decide_eq_true (by first | (with_reducible assumption) | assumption)); replace q3 := eq_true q3) | ((with_reducible refine gate_dst (N := 4) rfl ?_); (try (refine gate_guard (by rfl) ?_; dsimp only)); refine box_event ?hg (N := 4) ?hd (cs := #[.int .i64 0, .string (⟨#[]⟩ : ByteArray)]) (t := 50) ?hr ?_; (case hd => rfl); (case hg => rfl); (case hr => first | (go_simp; done) | (go_simp; rfl)); intro gb102 hg w36 hbox hb; have n0_ := Aside0.mk (blk_below (g := gb101) (o := .cells #[.int .i64 0, .string (⟨#[]⟩ : ByteArray)] 50 (0, 0)) (by (with_reducible repeat (first | refine blk_drewN ?_ _ | refine blk_drew ?_ | refine blk_alloc ?_ _)); exact BK101.out) hb); have n1_ := Aside0.mk (below_step (by repeat (first | (with_reducible first | exact HB.out | apply below_alloc | apply pw_below_drewN | apply below_drew1 | refine below_set ?_ GE101.out) | exact HB.out)) hb); have n2_ := Aside0.mk (hbox); have n3_ := Aside0.mk ((by rw [hg]; exact (below_size (by repeat (first | (with_reducible first | exact HB.out | apply below_alloc | apply pw_below_drewN | apply below_drew1 | refine below_set ?_ GE101.out) | exact HB.out))) : w.heap.size ≤ gb102)); have n4_ := Aside0.mk ((by rw [hg]; exact (below_size (by repeat (first | (with_reducible first | exact HB.out | apply below_alloc | apply pw_below_drewN | apply below_drew1 | refine below_set ?_ GE101.out) | exact HB.out))) : w.heap.size ≤ gb102)); have n5_ := Aside0.mk ((by rw [hg]; exact Nat.ne_of_lt (blk_lt (g := gb101) (o := .cells #[.int .i64 0, .string (⟨#[]⟩ : ByteArray)] 50 (0, 0)) (by (with_reducible repeat (first | refine blk_drewN ?_ _ | refine blk_drew ?_ | refine blk_alloc ?_ _)); exact BK101.out)) : gb101 ≠ gb102)); have n6_ := Aside0.mk ((by rw [hg]; exact Nat.ne_of_gt (blk_lt (g := gb101) (o := .cells #[.int .i64 0, .string (⟨#[]⟩ : ByteArray)] 50 (0, 0)) (by (with_reducible repeat (first | refine blk_drewN ?_ _ | refine blk_drew ?_ | refine blk_alloc ?_ _)); exact BK101.out)) : gb102 ≠ gb101)); clear BK101; clear HB; have BK101 := n0_; have HB := n1_; have BK102 := n2_; have GW102 := n3_; have GE102 := n4_; have NB101_102 := n5_; have NB102_101 := n6_; clear n0_ n1_ n2_ n3_ n4_ n5_ n6_; clear hb hbox hg; have hnb37 := NB102_101.out; have hnc37 := NB101_102.out; have hcz38_0 : w36.cell? ⟨gb102, 0, none⟩ = some (.int .i64 0) := (blk_cell BK102.out 0).trans rfl; have hcz38_1 : w36.cell? ⟨gb102, 1, none⟩ = some (.string (⟨#[]⟩ : ByteArray)) := (blk_cell BK102.out 1).trans rfl; have hfz38_0 := blk_frozen BK102.out 0; have hfz38_1 := blk_frozen BK102.out 1; have p17 : 0 ≤ (1 : Int) := (by omega); have q17 : 1 < a0.size := (by have : (1 : Int) < (a0.size : Int) := of_decide_eq_true (by first | (with_reducible assumption) | assumption); omega); have hx17 : ∀ h : 1 < a0.size, ((a0[1]'h).toNat : Int) = bt a0 1 := bt_at a0 1; clear p17; have qi17 : (1 < (a0.size : Int)) = True := eq_true (of_decide_eq_true (by first | (with_reducible assumption) | assumption)); replace q17 := eq_true q17; have p24 : 0 ≤ (1 : Int) := (by omega); have q24 : 1 < a0.size := (by have : (1 : Int) < (a0.size : Int) := of_decide_eq_true (by first | (with_reducible assumption) | assumption); omega); have hx24 : ∀ h : 1 < a0.size, ((a0[1]'h).toNat : Int) = bt a0 1 := bt_at a0 1; clear p24; have qi24 : (1 < (a0.size : Int)) = True := eq_true (of_decide_eq_true (by first | (with_reducible assumption) | assumption)); replace q24 := eq_true q24; have p31 : 0 ≤ (1 : Int) := (by omega); have q31 : 1 < a0.size := (by have : (1 : Int) < (a0.size : Int) := of_decide_eq_true (by first | (with_reducible assumption) | assumption); omega); have hx31 : ∀ h : 1 < a0.size, ((a0[1]'h).toNat : Int) = bt a0 1 := bt_at a0 1; clear p31; have qi31 : (1 < (a0.size : Int)) = True := eq_true (of_decide_eq_true (by first | (with_reducible assumption) | assumption)); replace q31 := eq_true q31))
                  have n0_ : Aside0 ((((w36.setCell ⟨gb102, 0, none⟩ (.int .i64 (wrap64 (bt a0 0)))).setCell ⟨gb102, 1, none⟩ (.string (⟨#[]⟩ : ByteArray))).setCell ⟨gb102, 1, none⟩ (.string (a0.extract 2 ((bt a0 1) : Int).toNat))).heap[gb101]? = some (.cells #[.int .i64 0, .string (⟨#[]⟩ : ByteArray)] 50 (0, 0))) := ⟨by (with_reducible repeat (first | refine blk_drewN ?_ _ | refine blk_drew ?_ | refine blk_alloc ?_ _)); refine blk_far ?_ NB101_102.out _; (with_reducible repeat (first | refine blk_drewN ?_ _ | refine blk_drew ?_ | refine blk_alloc ?_ _)); refine blk_far ?_ NB101_102.out _; (with_reducible repeat (first | refine blk_drewN ?_ _ | refine blk_drew ?_ | refine blk_alloc ?_ _)); refine blk_far ?_ NB101_102.out _; (with_reducible repeat (first | refine blk_drewN ?_ _ | refine blk_drew ?_ | refine blk_alloc ?_ _)); exact BK101.out⟩
                  have n1_ : Aside0 ((((w36.setCell ⟨gb102, 0, none⟩ (.int .i64 (wrap64 (bt a0 0)))).setCell ⟨gb102, 1, none⟩ (.string (⟨#[]⟩ : ByteArray))).setCell ⟨gb102, 1, none⟩ (.string (a0.extract 2 ((bt a0 1) : Int).toNat))).heap[gb102]? = some (.cells #[.int .i64 (wrap64 (bt a0 0)), .string (a0.extract 2 ((bt a0 1) : Int).toNat)] 50 (0, 0))) := ⟨by (with_reducible repeat (first | refine blk_drewN ?_ _ | refine blk_drew ?_ | refine blk_alloc ?_ _)); refine blk_put (cs := #[.int .i64 (wrap64 (bt a0 0)), .string (⟨#[]⟩ : ByteArray)]) ?_ 1 _ rfl; (with_reducible repeat (first | refine blk_drewN ?_ _ | refine blk_drew ?_ | refine blk_alloc ?_ _)); refine blk_put (cs := #[.int .i64 (wrap64 (bt a0 0)), .string (⟨#[]⟩ : ByteArray)]) ?_ 1 _ rfl; (with_reducible repeat (first | refine blk_drewN ?_ _ | refine blk_drew ?_ | refine blk_alloc ?_ _)); refine blk_put (cs := #[.int .i64 0, .string (⟨#[]⟩ : ByteArray)]) ?_ 0 _ rfl; (with_reducible repeat (first | refine blk_drewN ?_ _ | refine blk_drew ?_ | refine blk_alloc ?_ _)); exact BK102.out⟩
                  have n2_ : Aside0 (Below w.heap.size w (((w36.setCell ⟨gb102, 0, none⟩ (.int .i64 (wrap64 (bt a0 0)))).setCell ⟨gb102, 1, none⟩ (.string (⟨#[]⟩ : ByteArray))).setCell ⟨gb102, 1, none⟩ (.string (a0.extract 2 ((bt a0 1) : Int).toNat)))) := ⟨by repeat (first | (with_reducible first | exact HB.out | apply below_alloc | apply pw_below_drewN | apply below_drew1 | refine below_set ?_ GE101.out | refine below_set ?_ GE102.out) | exact HB.out)⟩
                  (try clear BK101)
                  (try clear BK102)
                  (try clear HB)
                  generalize (((w36.setCell ⟨gb102, 0, none⟩ (.int .i64 (wrap64 (bt a0 0)))).setCell ⟨gb102, 1, none⟩ (.string (⟨#[]⟩ : ByteArray))).setCell ⟨gb102, 1, none⟩ (.string (a0.extract 2 ((bt a0 1) : Int).toNat))) = w39 at n0_ n1_ n2_ ⊢
                  have BK101 := n0_
                  have BK102 := n1_
                  have HB := n2_
                  clear n0_ n1_ n2_
                  have n0_ := Aside0.mk (blk_drew BK101.out)
                  have n1_ := Aside0.mk (blk_drew BK102.out)
                  have n2_ := Aside0.mk (below_drew1 HB.out)
                  clear BK101
                  clear BK102
                  clear HB
                  have BK101 := n0_
                  have BK102 := n1_
                  have HB := n2_
                  clear n0_ n1_ n2_
                  have p34 : 0 ≤ (1 : Int) := (by omega)
                  have q34 : 1 < a0.size := (by have : (1 : Int) < (a0.size : Int) := of_decide_eq_true (by first | (with_reducible assumption) | assumption); omega)
                  have hx34 : ∀ h : 1 < a0.size, ((a0[1]'h).toNat : Int) = bt a0 1 := bt_at a0 1
                  clear p34
                  have qi34 : (1 < (a0.size : Int)) = True := eq_true (of_decide_eq_true (by first | (with_reducible assumption) | assumption))
                  replace q34 := eq_true q34
                  refine start_ (n := 6) (S := fun w' => w'.cell? ⟨gb102, 0, none⟩ = some (.int .i64 (wrap64 (bt a0 0))) ∧ w'.cell? ⟨gb102, 1, none⟩ = some (.string (a0.extract 2 ((bt a0 1) : Int).toNat))) (ds := []) #[false, false, false, false, false, false] (by kernel_rfl) rfl rfl ⟨(blk_cell BK102.out 0).trans rfl, (blk_cell BK102.out 1).trans rfl⟩ (fun hHeld => ?_)
                  generalize w39.drew = w40 at BK101 BK102 HB hHeld ⊢
                  refine pure_ (i := 1) (N := some 37) (v := ?_) (a' := ?_) #[false, true, false, false, false, false] rfl rfl (by kernel_rfl) (fun _ _ _ h => h) (Or.inl ⟨by rfl, ?_⟩) ?_ ?_
                  rotate_left
                  · intro w'
                    go_simp
                    with_reducible rfl
                  rotate_left
                  · simp only [Act.put, List.setIfInBounds_toArray, List.set_cons_zero, List.set_cons_succ, i64_w, i32_w]
                    rfl
                  refine take_ (i := 0) (N := some 36) (v := ?_) (a' := ?_) #[true, true, false, false, false, false] rfl rfl (by kernel_rfl) (fun _ _ _ h => h) (Or.inl ⟨by rfl, ?_⟩) hHeld ?_ ?_
                  rotate_left
                  · rintro w' ⟨s0, s1⟩
                    go_simp
                    with_reducible rfl
                  rotate_left
                  · simp only [Act.put, List.setIfInBounds_toArray, List.set_cons_zero, List.set_cons_succ, i64_w, i32_w]
                    rfl
                  refine take_ (i := 2) (N := some 38) (v := ?_) (a' := ?_) #[true, true, true, false, false, false] rfl rfl (by kernel_rfl) (fun _ _ _ h => h) (Or.inl ⟨by rfl, ?_⟩) hHeld ?_ ?_
                  rotate_left
                  · rintro w' ⟨s0, s1⟩
                    go_simp
                    with_reducible rfl
                  rotate_left
                  · simp only [Act.put, List.setIfInBounds_toArray, List.set_cons_zero, List.set_cons_succ, i64_w, i32_w]
                    rfl
                  refine pure_ (i := 3) (N := some 39) (v := ?_) (a' := ?_) #[true, true, true, true, false, false] rfl rfl (by kernel_rfl) (fun _ _ _ h => h) (Or.inl ⟨by rfl, ?_⟩) ?_ ?_
                  rotate_left
                  · intro w'
                    go_simp
                    with_reducible rfl
                  rotate_left
                  · simp only [Act.put, List.setIfInBounds_toArray, List.set_cons_zero, List.set_cons_succ, i64_w, i32_w]
                    rfl
                  refine one_ (i := 4) (N := none) #[true, true, true, true, true, false] rfl rfl (by kernel_rfl) (by decide) (fun K hK => ?_)
                  have hs41 : w40.cell? ⟨gb101, 0, none⟩ = some (.int .i64 0) := (blk_cell BK101.out 0).trans rfl
                  have hfs41 := blk_frozen BK101.out 0
                  have hns41_1 := NB102_101.out
                  have hms41_1 := NB101_102.out
                  have hs42 : w40.cell? ⟨gb101, 1, none⟩ = some (.string (⟨#[]⟩ : ByteArray)) := (blk_cell BK101.out 1).trans rfl
                  have hfs42 := blk_frozen BK101.out 1
                  have hns42_1 := NB102_101.out
                  have hms42_1 := NB101_102.out
                  refine skip_ (w1 := ?_) (by rfl) rfl ?_ ?_
                  rotate_left
                  · go_simp
                    rfl
                  refine hK.out _ _ ⟨((cell_far (p := ⟨gb101, _, none⟩) NB102_101.out _).trans (((cell_far (p := ⟨gb101, _, none⟩) NB102_101.out _).trans (hHeld.1)))), ((cell_far (p := ⟨gb101, _, none⟩) NB102_101.out _).trans (((cell_far (p := ⟨gb101, _, none⟩) NB102_101.out _).trans (hHeld.2))))⟩ (fun hHeld => ?_)
                  clear hK K
                  refine pure_ (i := 5) (N := some 3) (v := ?_) (a' := ?_) #[true, true, true, true, true, true] rfl rfl (by kernel_rfl) (fun _ _ _ h => h) (Or.inl ⟨by rfl, ?_⟩) ?_ ?_
                  rotate_left
                  · intro w'
                    go_simp
                    with_reducible rfl
                  rotate_left
                  · simp only [Act.put, List.setIfInBounds_toArray, List.set_cons_zero, List.set_cons_succ, i64_w, i32_w]
                    rfl
                  refine done_ (by kernel_rfl) ?_
                  try go_wp2
                  refine bodyPost_ret (results_ct rfl _ _ gb101 50 #[.int .i64 (wrap64 (bt a0 0)), .string (a0.extract 2 ((bt a0 1) : Int).toNat)] (0, 0) _ rfl (by (with_reducible repeat (first | refine blk_drewN ?_ _ | refine blk_drew ?_ | refine blk_alloc ?_ _)); refine blk_put (cs := #[.int .i64 (wrap64 (bt a0 0)), .string (⟨#[]⟩ : ByteArray)]) ?_ 1 _ rfl; (with_reducible repeat (first | refine blk_drewN ?_ _ | refine blk_drew ?_ | refine blk_alloc ?_ _)); refine blk_put (cs := #[.int .i64 0, .string (⟨#[]⟩ : ByteArray)]) ?_ 0 _ rfl; (with_reducible repeat (first | refine blk_drewN ?_ _ | refine blk_drew ?_ | refine blk_alloc ?_ _)); exact BK101.out) Tryz.underlying50 rfl (by kernel_rfl)) rfl ?_
                  exact ⟨by first | rfl | (simp [errW_none, errW_some] <;> rfl) | (simp [*, errW_none, errW_some] <;> rfl), by repeat (first | (with_reducible first | exact HB.out | apply below_alloc | apply pw_below_drewN | apply below_drew1 | refine below_set ?_ GE101.out | refine below_set ?_ GE102.out) | exact HB.out)⟩
                · rw [if_neg c33] at H
                  exact absurd H (by simp)
              · rw [if_neg c32] at H
                exact absurd H (by simp)
        · rw [if_neg c16] at H
          exact absurd H (by simp)
  · rw [if_neg c2] at H
    exact absurd H (by simp)

/-! ### opt_Get: function 52 -/
mutual
def opt_Get.l0 : Nat → ByteArray → List (S50) → Bool → Option ((List (S50)) × Int)
  | 0, _, _, _ => none
  | k + 1, x0, x4, x5 => if (x0.size : Int) > 0 then ((opt_one.f x0).bind fun bt103 => (if bt103.2.2 = 0 then (opt_Get.j1 k x0 x4 x5 bt103.2.2 true bt103.1 bt103.2.1) else (if x5 = true then (opt_Get.j1 k x0 x4 x5 bt103.2.2 (bt103.1 == 1) bt103.1 bt103.2.1) else (opt_Get.j1 k x0 x4 x5 bt103.2.2 false bt103.1 bt103.2.1)))) else (if x5 = true then (some (([] : List (S50)), 7)) else (some (x4, 0)))
def opt_Get.j1 : Nat → ByteArray → List (S50) → Bool → Int → Bool → Int → ByteArray → Option ((List (S50)) × Int)
  | 0, _, _, _, _, _, _, _ => none
  | k + 1, x0, x4, x5, x7, x25, x107000, x107001 => if x25 = true then (some (([] : List (S50)), 7)) else (if 0 ≤ x7 then (if x7 ≤ (x0.size : Int) then (if x107000 = 0 then (opt_Get.l0 k (x0.extract (x7 : Int).toNat x0.size) x4 x5) else (if x4.length < 5864062014805 then (opt_Get.l0 k (x0.extract (x7 : Int).toNat x0.size) (x4 ++ [(⟨x107000, x107001⟩ : S50)]) (x107000 == 1)) else (none))) else (none)) else (none))
end
def opt_Get.f (k : Nat) (a0 : ByteArray) : Option ((List (S50)) × Int) := opt_Get.l0 k a0 ([] : List (S50)) false
theorem opt_Get.mono_l : ∀ k, (∀ y0 y1 y2, LeO (opt_Get.l0 k y0 y1 y2) (opt_Get.l0 (k + 1) y0 y1 y2)) ∧ (∀ y0 y1 y2 y3 y4 y5 y6, LeO (opt_Get.j1 k y0 y1 y2 y3 y4 y5 y6) (opt_Get.j1 (k + 1) y0 y1 y2 y3 y4 y5 y6))
  | 0 => ⟨fun _ _ _ r h => by simp [opt_Get.l0] at h, fun _ _ _ _ _ _ _ r h => by simp [opt_Get.j1] at h⟩
  | k + 1 => by
    obtain ⟨ih0, ih1⟩ := opt_Get.mono_l k
    refine ⟨?_, ?_⟩
    · intro y0 y1 y2
      unfold opt_Get.l0
      repeat' first
      | (with_reducible exact ih0 _ _ _)
      | (with_reducible exact ih1 _ _ _ _ _ _ _)
      | (with_reducible exact LeO.refl _)
      | (with_reducible exact LeO.none _)
      | (with_reducible refine LeO.ite ?_ ?_)
      | (with_reducible refine LeO.bind ?_ (fun _ => ?_))
      | exact ih0 _ _ _
      | exact ih1 _ _ _ _ _ _ _
      | exact LeO.none _
      | refine LeO.ite ?_ ?_
      | refine LeO.bind ?_ (fun _ => ?_)
    · intro y0 y1 y2 y3 y4 y5 y6
      unfold opt_Get.j1
      repeat' first
      | (with_reducible exact ih0 _ _ _)
      | (with_reducible exact ih1 _ _ _ _ _ _ _)
      | (with_reducible exact LeO.refl _)
      | (with_reducible exact LeO.none _)
      | (with_reducible refine LeO.ite ?_ ?_)
      | (with_reducible refine LeO.bind ?_ (fun _ => ?_))
      | exact ih0 _ _ _
      | exact ih1 _ _ _ _ _ _ _
      | exact LeO.none _
      | refine LeO.ite ?_ ?_
      | refine LeO.bind ?_ (fun _ => ?_)
theorem opt_Get.mono : ∀ a0 k, LeO (opt_Get.f k a0) (opt_Get.f (k + 1) a0) := by
  intro a0 k
  obtain ⟨ih0, ih1⟩ := opt_Get.mono_l k
  unfold opt_Get.f
  repeat' first
      | (with_reducible exact ih0 _ _ _)
      | (with_reducible exact ih1 _ _ _ _ _ _ _)
      | (with_reducible exact LeO.refl _)
      | (with_reducible exact LeO.none _)
      | (with_reducible refine LeO.ite ?_ ?_)
      | (with_reducible refine LeO.bind ?_ (fun _ => ?_))
      | exact ih0 _ _ _
      | exact ih1 _ _ _ _ _ _ _
      | exact LeO.none _
      | refine LeO.ite ?_ ?_
      | refine LeO.bind ?_ (fun _ => ?_)
def opt_Get.T9 : Bool × List (List Nat × List Nat) := (true, [([], []), ([], []), ([1], [1]), ([0, 2], [0, 2]), ([], []), ([4], [4]), ([5], [5]), ([3, 3, 0, 1, 2, 3], [0, 3]), ([6, 7, 0, 1, 2, 3, 4, 5, 6, 7], [6])])
def opt_Get.B9 : List Nat := [0, 0, 2, 7, 0, 16, 48, 15, 255]
theorem opt_Get.tab9 : rtab .any (opsOf Tryz.f52 9) = opt_Get.T9 := by kernel_rfl
theorem opt_Get.bits9 : waitsOk opt_Get.T9.2 opt_Get.B9 = true := by kernel_rfl
set_option maxHeartbeats 8000000 in
set_option maxRecDepth 100000 in
theorem opt_Get.calls (k : Nat) (a0 : ByteArray) (r1 : List (S50)) (r2 : Int) (w : World) (h : opt_Get.f k a0 = some (r1, r2)) :
    Calls Tryz.prog 52 #[.string a0] w fun e w' => ∃ v0_ : Value, e = .returned (.tuple #[v0_, .int .i64 r2]) ∧ Kd.R k50 50 w' w.heap.size (fun _ => True) v0_ r1 ∧ Below w.heap.size w w' := by
  have hu50 := Tryz.underlying50
  have HB := Aside0.mk (Below.refl w.heap.size w)
  have H : (opt_Get.l0 k a0 ([] : List (S50)) false) = some (r1, r2) := h
  clear h
  have H' := Aside0.mk H
  clear H
  go_enter Tryz.func52, Tryz.ntmps52
  go_wp2
  go_loopg [0, 4, 5] k (fun kq v0 v4 v5 w' => ∃ (x0_1 : ByteArray) (x4_1 : List (S50)) (x5_1 : Bool), v0 = .string x0_1 ∧ v5 = .bool x5_1 ∧ Aside0 (opt_Get.l0 kq x0_1 x4_1 x5_1 = some (r1, r2)) ∧ Aside0 (kq ≤ k) ∧ Aside0 (Kd.R k50 50 w' w.heap.size (fun _ => True) v4 x4_1) ∧ Aside0 (Below w.heap.size w w'))
  case atStart => exact ⟨(a0), (([] : List (S50))), (false), (by first | rfl | (simp; done) | (simp [*]; done)), (by first | rfl | (simp; done) | (simp [*]; done)), H', ⟨Nat.le_refl _⟩, ⟨by first | exact Kd.R_nil _ _ _ _ _ | exact Kd.N_nil _ _ _ _ _ | exact Kd.V_nil _ _ _ _ _ | exact Kd.Q_nil _ _ _ _ _ | exact Kd.S_nil _ _ _ _ _⟩, ⟨by repeat (first | (with_reducible first | exact HB.out | apply below_alloc | apply pw_below_drewN | apply below_drew1) | exact HB.out)⟩⟩
  case round =>
    clear H'
    obtain ⟨x0_1, x4_1, x5_1, rfl, rfl, HA, HK1, HO_4, HB⟩ := hrel
    cases gk with
    | zero => exact absurd HA.out (by simp [opt_Get.l0])
    | succ k1 =>
      have H := HA.out
      clear HA
      simp only [opt_Get.l0] at H
      by_cases c2 : (x0_1.size : Int) > 0
      · rw [if_pos c2] at H
        have c2b0 : decide (0 < (x0_1.size : Int)) = true := decide_eq_true c2
        have c2b1 : decide (0 < x0_1.size) = true := decide_eq_true (by omega)
        clear c2
        replace H := Option.bind_eq_some_iff.mp H
        obtain ⟨⟨t103, t104, t105⟩, A30, H⟩ := H
        replace H : (if t105 = 0 then (opt_Get.j1 k1 x0_1 x4_1 x5_1 t105 true t103 t104) else (if x5_1 = true then (opt_Get.j1 k1 x0_1 x4_1 x5_1 t105 (t103 == 1) t103 t104) else (opt_Get.j1 k1 x0_1 x4_1 x5_1 t105 false t103 t104))) = some (r1, r2) := H
        have A3 := Aside0.mk A30
        clear A30
        have HC4 := Aside0.mk H
        clear H
        go_upto_region 5 with (first | ((with_reducible refine gate_callee (f := 84) rfl ?_); refine goesL_ (some 13) rfl rfl Tryz.func84 (by kernel_rfl) rfl #[.string x0_1] rfl (by (try simp only [List.map_toArray, List.map_cons, List.map_nil]); first | done | rfl | (simp only [List.length_drop, List.length_take]; rfl)) ?_; (with_reducible refine (opt_one.calls x0_1 t103 t104 t105 _ A3.out).mono ?_); rintro e w5 ⟨rfl, hb⟩; refine ⟨_, rfl, ?_⟩; have n0_ := Aside0.mk (Kd.R_below (by (with_reducible repeat (first | apply Kd.R_alloc | apply Kd.R_drewN | apply Kd.R_drew)); exact HO_4.out) hb); have n1_ := Aside0.mk (below_step (by repeat (first | (with_reducible first | exact HB.out | apply below_alloc | apply pw_below_drewN | apply below_drew1) | exact HB.out)) hb); clear HO_4; clear HB; have HO_4 := n0_; have HB := n1_; clear n0_ n1_; (try clear hb); (try clear hb2); (try clear hk); (try clear hi)) | ((with_reducible refine gate_dst (N := 6) rfl ?_); refine box_event ?hg (N := 6) ?hd (cs := #[.int .i64 0, .string (⟨#[]⟩ : ByteArray)]) (t := 50) ?hr ?_; (case hd => rfl); (case hg => rfl); (case hr => first | (go_simp; done) | (go_simp; rfl)); intro gb106 hg w6 hbox hb; have n0_ := Aside0.mk (Kd.R_below (Kd.R_elderB (by (with_reducible repeat (first | apply Kd.R_alloc | apply Kd.R_drewN | apply Kd.R_drew)); exact HO_4.out) gb106 (Nat.le_of_eq hg.symm)) hb); have n1_ := Aside0.mk (below_step (by repeat (first | (with_reducible first | exact HB.out | apply below_alloc | apply pw_below_drewN | apply below_drew1) | exact HB.out)) hb); have n2_ := Aside0.mk (hbox); have n3_ := Aside0.mk ((by rw [hg]; exact (below_size (by repeat (first | (with_reducible first | exact HB.out | apply below_alloc | apply pw_below_drewN | apply below_drew1) | exact HB.out))) : w.heap.size ≤ gb106)); have n4_ := Aside0.mk ((by rw [hg]; exact (below_size (by repeat (first | (with_reducible first | exact HB.out | apply below_alloc | apply pw_below_drewN | apply below_drew1) | exact HB.out))) : w.heap.size ≤ gb106)); clear HO_4; clear HB; have HO_4 := n0_; have HB := n1_; have BK106 := n2_; have GW106 := n3_; have GE106 := n4_; clear n0_ n1_ n2_ n3_ n4_; clear hb hbox hg; have hcz7_0 : w6.cell? ⟨gb106, 0, none⟩ = some (.int .i64 0) := (blk_cell BK106.out 0).trans rfl; have hcz7_1 : w6.cell? ⟨gb106, 1, none⟩ = some (.string (⟨#[]⟩ : ByteArray)) := (blk_cell BK106.out 1).trans rfl; have hfz7_0 := blk_frozen BK106.out 0; have hfz7_1 := blk_frozen BK106.out 1))
        (try simp only [Act.put, List.setIfInBounds_toArray, List.set_cons_zero, List.set_cons_succ])
        go_cut [25] (fun v25 wc => ∃ (kq : Nat) (x25_3 : Bool), v25 = .bool x25_3 ∧ Aside0 (opt_Get.j1 kq x0_1 x4_1 x5_1 t105 x25_3 t103 t104 = some (r1, r2)) ∧ Aside0 (kq ≤ k1) ∧ Aside0 (Kd.R k50 50 wc w.heap.size (fun k_ => k_ ≠ gb106) u4 x4_1) ∧ Aside0 (wc.heap[gb106]? = some (.cells #[.int .i64 t103, .string t104] 50 (0, 0))) ∧ Aside0 (Below w.heap.size w wc))
        case first =>
          have H := HC4.out
          clear HC4
          by_cases c8 : t105 = 0
          · rw [if_pos c8] at H
            have c8b0 : (t105 == 0) = true := beq_iff_eq.mpr c8
            have c8b1 : (t105 != 0) = false := bne_eq_false_iff_eq.mpr c8
            clear c8
            (first | rw [c8b0] | (simp only [i64_w, i32_w]; rw [c8b0]) | skip)
            have H' := Aside0.mk H
            clear H
            go_wp2
            go_meet
            case rel => exact ⟨_, (true), (by first | rfl | (simp; done) | (simp [*]; done)), H', ⟨by have := HK1.out; first | omega | exact Nat.le_refl _⟩, ⟨by (with_reducible repeat (first | apply Kd.R_alloc | apply Kd.R_drewN | apply Kd.R_drew)); exact Kd.R_mono (Kd.R_far (p := ⟨gb106, 1, none⟩) (Kd.R_far (p := ⟨gb106, 0, none⟩) (Kd.R_mono HO_4.out (fun k_ hk => (⟨hk, hk.2⟩ : _ ∧ k_ ≠ gb106))) (fun _ hk => hk.2) (.int .i64 t103)) (fun _ hk => hk.2) (.string t104)) (fun _ hk => hk.1.2)⟩, ⟨by (with_reducible repeat (first | refine blk_drewN ?_ _ | refine blk_drew ?_ | refine blk_alloc ?_ _)); refine blk_put (cs := #[.int .i64 t103, .string (⟨#[]⟩ : ByteArray)]) ?_ 1 _ rfl; (with_reducible repeat (first | refine blk_drewN ?_ _ | refine blk_drew ?_ | refine blk_alloc ?_ _)); refine blk_put (cs := #[.int .i64 0, .string (⟨#[]⟩ : ByteArray)]) ?_ 0 _ rfl; (with_reducible repeat (first | refine blk_drewN ?_ _ | refine blk_drew ?_ | refine blk_alloc ?_ _)); exact BK106.out⟩, ⟨by repeat (first | (with_reducible first | exact HB.out | apply below_alloc | apply pw_below_drewN | apply below_drew1 | refine below_set ?_ GE106.out) | exact HB.out)⟩⟩
          · rw [if_neg c8] at H
            have c8b0 : (t105 == 0) = false := beq_eq_false_iff_ne.mpr c8
            have c8b1 : (t105 != 0) = true := bne_iff_ne.mpr c8
            (first | rw [c8b0] | (simp only [i64_w, i32_w]; rw [c8b0]) | skip)
            by_cases c9 : x5_1 = true
            · subst c9
              have H1 : (opt_Get.j1 k1 x0_1 x4_1 true t105 (t103 == 1) t103 t104) = some (r1, r2) := by rw [if_pos rfl] at H; exact H
              clear H
              have H := H1
              clear H1
              have H' := Aside0.mk H
              clear H
              have hcz10_0 : w6.cell? ⟨gb106, 0, none⟩ = some (.int .i64 0) := (blk_cell BK106.out 0).trans rfl
              have hcz10_1 : w6.cell? ⟨gb106, 1, none⟩ = some (.string (⟨#[]⟩ : ByteArray)) := (blk_cell BK106.out 1).trans rfl
              have hfz10_0 := blk_frozen BK106.out 0
              have hfz10_1 := blk_frozen BK106.out 1
              go_wp2
              go_meet
              case rel => exact ⟨_, ((t103 == 1)), (by first | rfl | (simp; done) | (simp [*]; done)), H', ⟨by have := HK1.out; first | omega | exact Nat.le_refl _⟩, ⟨by (with_reducible repeat (first | apply Kd.R_alloc | apply Kd.R_drewN | apply Kd.R_drew)); exact Kd.R_mono (Kd.R_far (p := ⟨gb106, 1, none⟩) (Kd.R_far (p := ⟨gb106, 0, none⟩) (Kd.R_mono HO_4.out (fun k_ hk => (⟨hk, hk.2⟩ : _ ∧ k_ ≠ gb106))) (fun _ hk => hk.2) (.int .i64 t103)) (fun _ hk => hk.2) (.string t104)) (fun _ hk => hk.1.2)⟩, ⟨by (with_reducible repeat (first | refine blk_drewN ?_ _ | refine blk_drew ?_ | refine blk_alloc ?_ _)); refine blk_put (cs := #[.int .i64 t103, .string (⟨#[]⟩ : ByteArray)]) ?_ 1 _ rfl; (with_reducible repeat (first | refine blk_drewN ?_ _ | refine blk_drew ?_ | refine blk_alloc ?_ _)); refine blk_put (cs := #[.int .i64 0, .string (⟨#[]⟩ : ByteArray)]) ?_ 0 _ rfl; (with_reducible repeat (first | refine blk_drewN ?_ _ | refine blk_drew ?_ | refine blk_alloc ?_ _)); exact BK106.out⟩, ⟨by repeat (first | (with_reducible first | exact HB.out | apply below_alloc | apply pw_below_drewN | apply below_drew1 | refine below_set ?_ GE106.out) | exact HB.out)⟩⟩
            · replace c9 := Bool.eq_false_iff.mpr c9
              subst c9
              have H1 : (opt_Get.j1 k1 x0_1 x4_1 false t105 false t103 t104) = some (r1, r2) := by rw [if_neg (show ¬ (false = true) by decide)] at H; exact H
              clear H
              have H := H1
              clear H1
              have H' := Aside0.mk H
              clear H
              go_wp2
              go_meet
              case rel => exact ⟨_, (false), (by first | rfl | (simp; done) | (simp [*]; done)), H', ⟨by have := HK1.out; first | omega | exact Nat.le_refl _⟩, ⟨by (with_reducible repeat (first | apply Kd.R_alloc | apply Kd.R_drewN | apply Kd.R_drew)); exact Kd.R_mono (Kd.R_far (p := ⟨gb106, 1, none⟩) (Kd.R_far (p := ⟨gb106, 0, none⟩) (Kd.R_mono HO_4.out (fun k_ hk => (⟨hk, hk.2⟩ : _ ∧ k_ ≠ gb106))) (fun _ hk => hk.2) (.int .i64 t103)) (fun _ hk => hk.2) (.string t104)) (fun _ hk => hk.1.2)⟩, ⟨by (with_reducible repeat (first | refine blk_drewN ?_ _ | refine blk_drew ?_ | refine blk_alloc ?_ _)); refine blk_put (cs := #[.int .i64 t103, .string (⟨#[]⟩ : ByteArray)]) ?_ 1 _ rfl; (with_reducible repeat (first | refine blk_drewN ?_ _ | refine blk_drew ?_ | refine blk_alloc ?_ _)); refine blk_put (cs := #[.int .i64 0, .string (⟨#[]⟩ : ByteArray)]) ?_ 0 _ rfl; (with_reducible repeat (first | refine blk_drewN ?_ _ | refine blk_drew ?_ | refine blk_alloc ?_ _)); exact BK106.out⟩, ⟨by repeat (first | (with_reducible first | exact HB.out | apply below_alloc | apply pw_below_drewN | apply below_drew1 | refine below_set ?_ GE106.out) | exact HB.out)⟩⟩
        case rest =>
          clear HC4
          try clear c2
          try clear c2b0
          try clear c2b1
          try clear p2
          try clear c5
          try clear c8
          try clear c8b0
          try clear c8b1
          try clear c9
          try clear hcz10_0
          try clear hcz10_1
          try clear hcz7_0
          try clear hcz7_1
          try clear hfz10_0
          try clear hfz10_1
          try clear hfz7_0
          try clear hfz7_1
          obtain ⟨kq, x25_3, rfl, HA, HJ3, HO_4, BK106, HB⟩ := hcut
          cases kq with
          | zero => exact absurd HA.out (by simp [opt_Get.j1])
          | succ kj3 =>
            have H := HA.out
            clear HA
            simp only [opt_Get.j1] at H
            by_cases c11 : x25_3 = true
            · subst c11
              have H1 : (some (([] : List (S50)), 7)) = some (r1, r2) := by rw [if_pos rfl] at H; exact H
              clear H
              have H := H1
              clear H1
              simp only [Option.some.injEq, Prod.mk.injEq] at H
              obtain ⟨rfl, rfl⟩ := H
              go_wp2
              go_ret2
              exact ⟨_, by first | rfl | (simp [errW_none, errW_some] <;> rfl) | (simp [*, errW_none, errW_some] <;> rfl), by first | exact Kd.R_nil _ _ _ _ _ | exact Kd.N_nil _ _ _ _ _ | exact Kd.V_nil _ _ _ _ _ | exact Kd.Q_nil _ _ _ _ _ | exact Kd.S_nil _ _ _ _ _, by repeat (first | (with_reducible first | exact HB.out | apply below_alloc | apply pw_below_drewN | apply below_drew1 | refine below_set ?_ GE106.out) | exact HB.out)⟩
            · replace c11 := Bool.eq_false_iff.mpr c11
              subst c11
              have H1 : (if 0 ≤ t105 then (if t105 ≤ (x0_1.size : Int) then (if t103 = 0 then (opt_Get.l0 kj3 (x0_1.extract (t105 : Int).toNat x0_1.size) x4_1 x5_1) else (if x4_1.length < 5864062014805 then (opt_Get.l0 kj3 (x0_1.extract (t105 : Int).toNat x0_1.size) (x4_1 ++ [(⟨t103, t104⟩ : S50)]) (t103 == 1)) else (none))) else (none)) else (none)) = some (r1, r2) := by rw [if_neg (show ¬ (false = true) by decide)] at H; exact H
              clear H
              have H := H1
              clear H1
              by_cases c12 : 0 ≤ t105
              · rw [if_pos c12] at H
                have c12b0 := eq_true c12
                have c12b1 : decide (0 ≤ t105) = true := decide_eq_true c12
                clear c12
                by_cases c13 : t105 ≤ (x0_1.size : Int)
                · rw [if_pos c13] at H
                  have c13b0 := eq_true c13
                  have c13b1 : decide (t105 ≤ (x0_1.size : Int)) = true := decide_eq_true c13
                  clear c13
                  by_cases c14 : t103 = 0
                  · rw [if_pos c14] at H
                    have c14b0 : (t103 == 0) = true := beq_iff_eq.mpr c14
                    have c14b1 : (t103 != 0) = false := bne_eq_false_iff_eq.mpr c14
                    clear c14
                    have H' := Aside0.mk H
                    clear H
                    have hcz15_0 : wc.cell? ⟨gb106, 0, none⟩ = some (.int .i64 t103) := (blk_cell BK106.out 0).trans rfl
                    have hcz15_1 : wc.cell? ⟨gb106, 1, none⟩ = some (.string t104) := (blk_cell BK106.out 1).trans rfl
                    have hfz15_0 := blk_frozen BK106.out 0
                    have hfz15_1 := blk_frozen BK106.out 1
                    go_wp2
                    go_roundg kj3
                    case measure => have := HK1.out; have := HJ3.out; omega
                    case rel => exact ⟨(x0_1.extract (t105 : Int).toNat x0_1.size), (x4_1), (x5_1), (by first | rfl | (simp; done) | (simp [*]; done)), (by first | rfl | (simp; done) | (simp [*]; done)), H', ⟨by have := HK1.out; have := HJ3.out; omega⟩, ⟨by (with_reducible repeat (first | apply Kd.R_alloc | apply Kd.R_drewN | apply Kd.R_drew)); exact Kd.R_mono HO_4.out (fun _ hk => trivial)⟩, ⟨by repeat (first | (with_reducible first | exact HB.out | apply below_alloc | apply pw_below_drewN | apply below_drew1 | refine below_set ?_ GE106.out) | exact HB.out)⟩⟩
                  · rw [if_neg c14] at H
                    have c14b0 : (t103 == 0) = false := beq_eq_false_iff_ne.mpr c14
                    have c14b1 : (t103 != 0) = true := bne_iff_ne.mpr c14
                    by_cases c16 : x4_1.length < 5864062014805
                    · rw [if_pos c16] at H
                      have LMc16 := Aside0.mk c16
                      clear c16
                      obtain ⟨y107, hy107⟩ : ∃ y_ : List (S50), y_ = (x4_1 ++ [(⟨t103, t104⟩ : S50)]) := ⟨_, rfl⟩
                      replace H : (opt_Get.l0 kj3 (x0_1.extract (t105 : Int).toNat x0_1.size) y107 (t103 == 1)) = some (r1, r2) := by first | (rw [hy107]; with_reducible exact H) | (have H2_ := (Option.bind_some _ _).symm.trans H; rw [hy107]; with_reducible exact H2_) | (have H2_ := (Option.bind_some _ _).symm.trans H; with_reducible exact H2_) | with_reducible exact H | (rw [hy107]; exact H) | exact H
                      have Ny107 := Aside0.mk hy107
                      clear hy107
                      have H' := Aside0.mk H
                      clear H
                      have hcz17_0 : wc.cell? ⟨gb106, 0, none⟩ = some (.int .i64 t103) := (blk_cell BK106.out 0).trans rfl
                      have hcz17_1 : wc.cell? ⟨gb106, 1, none⟩ = some (.string t104) := (blk_cell BK106.out 1).trans rfl
                      have hfz17_0 := blk_frozen BK106.out 0
                      have hfz17_1 := blk_frozen BK106.out 1
                      try go_wp2
                      have n0_ := Aside0.mk (Kd.R_drew HO_4.out)
                      have n1_ := Aside0.mk (blk_drew BK106.out)
                      have n2_ := Aside0.mk (below_drew1 HB.out)
                      clear HO_4
                      clear BK106
                      clear HB
                      have HO_4 := n0_
                      have BK106 := n1_
                      have HB := n2_
                      clear n0_ n1_ n2_
                      refine start_ (n := 9) (S := fun w' => w'.cell? ⟨gb106, 0, none⟩ = some (.int .i64 t103) ∧ w'.cell? ⟨gb106, 1, none⟩ = some (.string t104)) (ds := []) #[false, false, false, false, false, false, false, false, false] (by kernel_rfl) rfl rfl ⟨(blk_cell BK106.out 0).trans rfl, (blk_cell BK106.out 1).trans rfl⟩ (fun hHeld => ?_); refine with_tabW opt_Get.tab9 opt_Get.bits9 (fun HT_ HW_ => ?_)
                      generalize wc.drew = w18 at HO_4 BK106 HB hHeld ⊢
                      refine pure_ (i := 0) (N := some 32) (v := ?_) (a' := ?_) #[true, false, false, false, false, false, false, false, false] rfl rfl (any_of HT_.out (by kernel_rfl)) (fun _ _ _ h => h) (Or.inl ⟨by rfl, ?_⟩) ?_ ?_
                      rotate_left
                      · intro w'
                        go_simp
                        with_reducible rfl
                      rotate_left
                      · simp only [Act.put, List.setIfInBounds_toArray, List.set_cons_zero, List.set_cons_succ, i64_w, i32_w]
                        rfl
                      refine pure_ (i := 4) (N := some 36) (v := ?_) (a' := ?_) #[true, false, false, false, true, false, false, false, false] rfl rfl (any_of HT_.out (by kernel_rfl)) (fun _ _ _ h => h) (Or.inl ⟨by rfl, ?_⟩) ?_ ?_
                      rotate_left
                      · intro w'
                        go_simp
                        with_reducible rfl
                      rotate_left
                      · simp only [Act.put, List.setIfInBounds_toArray, List.set_cons_zero, List.set_cons_succ, i64_w, i32_w]
                        rfl
                      refine take_ (i := 1) (N := some 33) (v := ?_) (a' := ?_) #[true, true, false, false, true, false, false, false, false] rfl rfl (take_ofW HT_.out HW_.out (by kernel_rfl)) (fun _ _ _ h => h) (Or.inl ⟨by rfl, ?_⟩) hHeld ?_ ?_
                      rotate_left
                      · rintro w' ⟨s0, s1⟩
                        go_simp
                        with_reducible rfl
                      rotate_left
                      · simp only [Act.put, List.setIfInBounds_toArray, List.set_cons_zero, List.set_cons_succ, i64_w, i32_w]
                        rfl
                      refine take_ (i := 5) (N := some 37) (v := ?_) (a' := ?_) #[true, true, false, false, true, true, false, false, false] rfl rfl (take_ofW HT_.out HW_.out (by kernel_rfl)) (fun _ _ _ h => h) (Or.inl ⟨by rfl, ?_⟩) hHeld ?_ ?_
                      rotate_left
                      · rintro w' ⟨s0, s1⟩
                        go_simp
                        with_reducible rfl
                      rotate_left
                      · simp only [Act.put, List.setIfInBounds_toArray, List.set_cons_zero, List.set_cons_succ, i64_w, i32_w]
                        rfl
                      refine pure_ (i := 6) (N := some 38) (v := ?_) (a' := ?_) #[true, true, false, false, true, true, true, false, false] rfl rfl (any_of HT_.out (by kernel_rfl)) (fun _ _ _ h => h) (Or.inl ⟨by rfl, ?_⟩) ?_ ?_
                      rotate_left
                      · intro w'
                        go_simp
                        with_reducible rfl
                      rotate_left
                      · simp only [Act.put, List.setIfInBounds_toArray, List.set_cons_zero, List.set_cons_succ, i64_w, i32_w]
                        rfl
                      refine one_ (i := 2) (N := some 34) #[true, true, true, false, true, true, true, false, false] rfl rfl (one_of HT_.out (by kernel_rfl)) (by decide) (fun K hK => ?_)
                      refine value_ (w1 := ?_) (v := ?_) (by rfl) rfl ?_ ?_
                      rotate_left 2
                      · go_simp
                        constructor
                        · rfl
                        · rfl
                      refine hK.out _ _ ⟨(blk_cell (blk_alloc BK106.out _) 0).trans rfl, (blk_cell (blk_alloc BK106.out _) 1).trans rfl⟩ (fun hHeld => ?_)
                      clear hK K
                      refine norm_ (a' := ?_) ?_ ?_
                      rotate_left
                      · show Act.put _ (some 34) _ = _
                        simp only [Act.put, List.setIfInBounds_toArray, List.set_cons_zero, List.set_cons_succ, i64_w, i32_w]
                        rfl
                      refine one_ (i := 3) (N := some 35) #[true, true, true, true, true, true, true, false, false] rfl rfl (one_of HT_.out (by kernel_rfl)) (by decide) (fun K hK => ?_)
                      refine Kd.R_append_step k50 (w0 := w) w.heap.size (by rfl) (.tmp 32) (.tmp 34) 27 50 (.agg #[(.int .i64 0), (.string ⟨#[]⟩)]) 24 rfl Tryz.underlying27 info50 rfl (by decide) (by omega) u4 x4_1 (⟨t103, t104⟩ : S50) [.int .i64 t103, .string t104] (fun k_ => k_ ≠ gb106) (fun _ => False) rfl rfl ?aP (fun _ hk => hk.elim) ?aF ?aO ?aB ?aS ?aL ?_
                      (case aP => exact k50_mkM _ _ _ (⟨t103, t104⟩ : S50))
                      (case aB => exact (by repeat (first | (with_reducible first | exact HB.out | apply below_alloc | apply pw_below_drewN | apply below_drew1 | refine below_set ?_ GE106.out) | exact HB.out)))
                      (case aF => exact (fun k_ hk => Kd.freshB (g := gb106) (o := .cells #[.int .i64 t103, .string t104] 50 (0, 0)) (by (with_reducible repeat (first | refine blk_drewN ?_ _ | refine blk_drew ?_ | refine blk_alloc ?_ _)); exact BK106.out) k_ hk))
                      (case aO => exact (by (with_reducible repeat (first | apply Kd.R_alloc | apply Kd.R_drewN | apply Kd.R_drew)); exact HO_4.out))
                      (case aS => exact (below_size (by repeat (first | (with_reducible first | exact HB.out | apply below_alloc | apply pw_below_drewN | apply below_drew1 | refine below_set ?_ GE106.out) | exact HB.out))))
                      (case aL => have := LMc16.out; omega)
                      intro v108 w19 ho hb hg hat
                      rw [← Ny107.out] at ho
                      have n0_ := Aside0.mk (blk_grown (g := gb106) (o := .cells #[.int .i64 t103, .string t104] 50 (0, 0)) (by (with_reducible repeat (first | refine blk_drewN ?_ _ | refine blk_drew ?_ | refine blk_alloc ?_ _)); exact BK106.out) hg (Kd.R_away HO_4.out (fun _ hk => hk)))
                      have n1_ := Aside0.mk (hb)
                      have n2_ := Aside0.mk (ho)
                      clear BK106
                      clear HB
                      clear HO_4
                      have BK106 := n0_
                      have HB := n1_
                      have HO109 := n2_
                      clear n0_ n1_ n2_
                      clear ho hb hg hat
                      refine hK.out _ _ ⟨(blk_cell BK106.out 0).trans rfl, (blk_cell BK106.out 1).trans rfl⟩ (fun hHeld => ?_)
                      clear hK K
                      refine norm_ (a' := ?_) ?_ ?_
                      rotate_left
                      · show Act.put _ (some 35) _ = _
                        simp only [Act.put, List.setIfInBounds_toArray, List.set_cons_zero, List.set_cons_succ, i64_w, i32_w]
                        rfl
                      refine pure_ (i := 7) (N := some 4) (v := ?_) (a' := ?_) #[true, true, true, true, true, true, true, true, false] rfl rfl (any_of HT_.out (by kernel_rfl)) (fun _ _ _ h => h) (Or.inl ⟨by rfl, ?_⟩) ?_ ?_
                      rotate_left
                      · intro w'
                        go_simp
                        with_reducible rfl
                      rotate_left
                      · simp only [Act.put, List.setIfInBounds_toArray, List.set_cons_zero, List.set_cons_succ, i64_w, i32_w]
                        rfl
                      refine pure_ (i := 8) (N := some 5) (v := ?_) (a' := ?_) #[true, true, true, true, true, true, true, true, true] rfl rfl (any_of HT_.out (by kernel_rfl)) (fun _ _ _ h => h) (Or.inl ⟨by rfl, ?_⟩) ?_ ?_
                      rotate_left
                      · intro w'
                        go_simp
                        with_reducible rfl
                      rotate_left
                      · simp only [Act.put, List.setIfInBounds_toArray, List.set_cons_zero, List.set_cons_succ, i64_w, i32_w]
                        rfl
                      refine done_ (done_of HT_.out (by kernel_rfl)) ?_
                      try go_wp2
                      go_roundg kj3
                      case measure => have := HK1.out; have := HJ3.out; omega
                      case rel => exact ⟨(x0_1.extract (t105 : Int).toNat x0_1.size), (y107), ((t103 == 1)), (by first | rfl | (simp; done) | (simp [*]; done)), (by first | rfl | (simp; done) | (simp [*]; done)), H', ⟨by have := HK1.out; have := HJ3.out; omega⟩, ⟨by (with_reducible repeat (first | apply Kd.R_alloc | apply Kd.R_drewN | apply Kd.R_drew)); exact Kd.R_mono HO109.out (fun _ hk => trivial)⟩, ⟨by repeat (first | (with_reducible first | exact HB.out | apply below_alloc | apply pw_below_drewN | apply below_drew1 | refine below_set ?_ GE106.out) | exact HB.out)⟩⟩
                    · rw [if_neg c16] at H
                      exact absurd H (by simp)
                · rw [if_neg c13] at H
                  exact absurd H (by simp)
              · rw [if_neg c12] at H
                exact absurd H (by simp)
      · rw [if_neg c2] at H
        have c2b0 : decide (0 < (x0_1.size : Int)) = false := decide_eq_false c2
        have c2b1 : decide (0 < x0_1.size) = false := decide_eq_false (by omega)
        clear c2
        by_cases c20 : x5_1 = true
        · subst c20
          have H1 : (some (([] : List (S50)), 7)) = some (r1, r2) := by rw [if_pos rfl] at H; exact H
          clear H
          have H := H1
          clear H1
          simp only [Option.some.injEq, Prod.mk.injEq] at H
          obtain ⟨rfl, rfl⟩ := H
          go_wp2
          go_ret2
          exact ⟨_, by first | rfl | (simp [errW_none, errW_some] <;> rfl) | (simp [*, errW_none, errW_some] <;> rfl), by first | exact Kd.R_nil _ _ _ _ _ | exact Kd.N_nil _ _ _ _ _ | exact Kd.V_nil _ _ _ _ _ | exact Kd.Q_nil _ _ _ _ _ | exact Kd.S_nil _ _ _ _ _, by repeat (first | (with_reducible first | exact HB.out | apply below_alloc | apply pw_below_drewN | apply below_drew1) | exact HB.out)⟩
        · replace c20 := Bool.eq_false_iff.mpr c20
          subst c20
          have H1 : (some (x4_1, 0)) = some (r1, r2) := by rw [if_neg (show ¬ (false = true) by decide)] at H; exact H
          clear H
          have H := H1
          clear H1
          simp only [Option.some.injEq, Prod.mk.injEq] at H
          obtain ⟨rfl, rfl⟩ := H
          go_wp2
          go_ret2
          exact ⟨_, by first | rfl | (simp [errW_none, errW_some] <;> rfl) | (simp [*, errW_none, errW_some] <;> rfl), by (with_reducible repeat (first | apply Kd.R_alloc | apply Kd.R_drewN | apply Kd.R_drew)); exact HO_4.out, by repeat (first | (with_reducible first | exact HB.out | apply below_alloc | apply pw_below_drewN | apply below_drew1) | exact HB.out)⟩

end Go.Proofs.YtjlnbahanghhcaaGreatDoor.PoptGet

/- What this seat's Go functions compute, as Lean functions, and that they do. Written by a program of this session's (wip/pr/pr.py) by means of the kit's printer, with contracts of ours for some functions; conditions: none beyond each theorem's own. -/
namespace Go.Proofs.YtjlnbahanghhcaaGreatDoor.PoptBytes
open Go.RowKit Go.Proofs.YtjlnbahanghhcaaGreatDoorW.PrintWords Go.Proofs.YtjlnbahanghhcaaGreatDoorW.PrintLast Go.Proofs.YtjlnbahanghhcaaGreatDoorW.PrintMore
attribute [local go_sem] max2_int min2_int max_two min_two max_three min_three max_four min_four   -- for this text's walks alone
set_option linter.unusedVariables false
set_option linter.unusedSimpArgs false



def errW : Option Int → Value
  | none => .nilIface
  | some c => .iface 0 (.int .i64 c)
theorem errW_none : errW none = .nilIface := rfl
theorem errW_some (c : Int) : errW (some c) = .iface 0 (.int .i64 c) := rfl

theorem info5 : (Tryz.prog.info? 5).map (fun i => (i.zero, i.size, i.bytes)) = some (some (.int .u8 0), 1, 1) := by kernel_rfl
-- the values' own types

end Go.Proofs.YtjlnbahanghhcaaGreatDoor.PoptBytes

/- What this seat's Go functions compute, as Lean functions, and that they do. Written by a program of this session's (wip/pr/pr.py) by means of the kit's printer, with contracts of ours for some functions; conditions: none beyond each theorem's own. -/
namespace Go.Proofs.YtjlnbahanghhcaaGreatDoor.PoptBytes
open Go.RowKit Go.Proofs.YtjlnbahanghhcaaGreatDoorW.PrintWords Go.Proofs.YtjlnbahanghhcaaGreatDoorW.PrintLast Go.Proofs.YtjlnbahanghhcaaGreatDoorW.PrintMore
attribute [local go_sem] max2_int min2_int max_two min_two max_three min_three max_four min_four   -- for this text's walks alone
set_option linter.unusedVariables false
set_option linter.unusedSimpArgs false

/-! ### opt_Bytes: function 44 -/
mutual
def opt_Bytes.j0 : Nat → Int → Int → Bool → Option (ByteArray)
  | 0, _, _, _ => none
  | k + 1, x0, x1, x12 => if x12 = true then (some (⟨#[]⟩ : ByteArray)) else (opt_Bytes.l0 k x0 ([] : List Int) (wrap64 (x1 - 1)))
def opt_Bytes.l0 : Nat → Int → List Int → Int → Option (ByteArray)
  | 0, _, _, _ => none
  | k + 1, x0, x5, x6 => if x6 ≥ 0 then (if 0 ≤ (wrap64 (8 * x6)) then (if x5.length < 140737488355328 then (opt_Bytes.l0 k x0 (x5 ++ [(shr .u64 x0 (wrap64 (8 * x6))) % 256]) (wrap64 (x6 - 1))) else (none)) else (none)) else (some (strOfNums x5))
end
def opt_Bytes.f (k : Nat) (a0 : Int) (a1 : Int) : Option (ByteArray) := if a1 < 1 then (opt_Bytes.j0 k a0 a1 true) else (opt_Bytes.j0 k a0 a1 (decide (a1 > 8)))
theorem opt_Bytes.mono_l : ∀ k, (∀ y0 y1 y2, LeO (opt_Bytes.j0 k y0 y1 y2) (opt_Bytes.j0 (k + 1) y0 y1 y2)) ∧ (∀ y0 y1 y2, LeO (opt_Bytes.l0 k y0 y1 y2) (opt_Bytes.l0 (k + 1) y0 y1 y2))
  | 0 => ⟨fun _ _ _ r h => by simp [opt_Bytes.j0] at h, fun _ _ _ r h => by simp [opt_Bytes.l0] at h⟩
  | k + 1 => by
    obtain ⟨ih0, ih1⟩ := opt_Bytes.mono_l k
    refine ⟨?_, ?_⟩
    · intro y0 y1 y2
      unfold opt_Bytes.j0
      repeat' first
      | (with_reducible exact ih0 _ _ _)
      | (with_reducible exact ih1 _ _ _)
      | (with_reducible exact LeO.refl _)
      | (with_reducible exact LeO.none _)
      | (with_reducible refine LeO.ite ?_ ?_)
      | (with_reducible refine LeO.bind ?_ (fun _ => ?_))
      | exact ih0 _ _ _
      | exact ih1 _ _ _
      | exact LeO.none _
      | refine LeO.ite ?_ ?_
      | refine LeO.bind ?_ (fun _ => ?_)
    · intro y0 y1 y2
      unfold opt_Bytes.l0
      repeat' first
      | (with_reducible exact ih0 _ _ _)
      | (with_reducible exact ih1 _ _ _)
      | (with_reducible exact LeO.refl _)
      | (with_reducible exact LeO.none _)
      | (with_reducible refine LeO.ite ?_ ?_)
      | (with_reducible refine LeO.bind ?_ (fun _ => ?_))
      | exact ih0 _ _ _
      | exact ih1 _ _ _
      | exact LeO.none _
      | refine LeO.ite ?_ ?_
      | refine LeO.bind ?_ (fun _ => ?_)
theorem opt_Bytes.mono : ∀ a0 a1 k, LeO (opt_Bytes.f k a0 a1) (opt_Bytes.f (k + 1) a0 a1) := by
  intro a0 a1 k
  obtain ⟨ih0, ih1⟩ := opt_Bytes.mono_l k
  unfold opt_Bytes.f
  repeat' first
      | (with_reducible exact ih0 _ _ _)
      | (with_reducible exact ih1 _ _ _)
      | (with_reducible exact LeO.refl _)
      | (with_reducible exact LeO.none _)
      | (with_reducible refine LeO.ite ?_ ?_)
      | (with_reducible refine LeO.bind ?_ (fun _ => ?_))
      | exact ih0 _ _ _
      | exact ih1 _ _ _
      | exact LeO.none _
      | refine LeO.ite ?_ ?_
      | refine LeO.bind ?_ (fun _ => ?_)
set_option maxHeartbeats 8000000 in
set_option maxRecDepth 100000 in
theorem opt_Bytes.calls (k : Nat) (a0 : Int) (a1 : Int) (r : ByteArray) (w : World) (h : opt_Bytes.f k a0 a1 = some r) :
    Calls Tryz.prog 44 #[.int .u64 a0, .int .i64 a1] w fun e w' => e = .returned (.string r) ∧ Below w.heap.size w w' := by
  have HB := Aside0.mk (Below.refl w.heap.size w)
  have H : (if a1 < 1 then (opt_Bytes.j0 k a0 a1 true) else (opt_Bytes.j0 k a0 a1 (decide (a1 > 8)))) = some r := h
  clear h
  have HC3 := Aside0.mk H
  clear H
  go_enter Tryz.func44, Tryz.ntmps44
  go_upto_region 1 with (fail)
  go_cut [12] (fun v12 wc => ∃ (kq : Nat) (x12_2 : Bool), v12 = .bool x12_2 ∧ Aside0 (opt_Bytes.j0 kq a0 a1 x12_2 = some r) ∧ Aside0 (kq ≤ k) ∧ Aside0 (Below w.heap.size w wc))
  case first =>
    have H := HC3.out
    clear HC3
    by_cases c4 : a1 < 1
    · rw [if_pos c4] at H
      have c4b0 : decide (a1 < 1) = true := decide_eq_true c4
      clear c4
      (first | rw [c4b0] | (simp only [i64_w, i32_w]; rw [c4b0]) | skip)
      have H' := Aside0.mk H
      clear H
      go_wp2
      go_meet
      case rel => exact ⟨_, (true), (by first | rfl | (simp; done) | (simp [*]; done)), H', ⟨by first | omega | exact Nat.le_refl _⟩, ⟨by repeat (first | (with_reducible first | exact HB.out | apply below_alloc | apply pw_below_drewN | apply below_drew1) | exact HB.out)⟩⟩
    · rw [if_neg c4] at H
      have c4b0 : decide (a1 < 1) = false := decide_eq_false c4
      clear c4
      (first | rw [c4b0] | (simp only [i64_w, i32_w]; rw [c4b0]) | skip)
      have H' := Aside0.mk H
      clear H
      go_wp2
      go_meet
      case rel => exact ⟨_, (decide (a1 > 8)), (by first | rfl | (simp; done) | (simp [*]; done)), H', ⟨by first | omega | exact Nat.le_refl _⟩, ⟨by repeat (first | (with_reducible first | exact HB.out | apply below_alloc | apply pw_below_drewN | apply below_drew1) | exact HB.out)⟩⟩
  case rest =>
    clear HC3
    try clear p2
    try clear c4
    try clear c4b0
    obtain ⟨kq, x12_2, rfl, HA, HJ2, HB⟩ := hcut
    cases kq with
    | zero => exact absurd HA.out (by simp [opt_Bytes.j0])
    | succ kj2 =>
      have H := HA.out
      clear HA
      simp only [opt_Bytes.j0] at H
      by_cases c5 : x12_2 = true
      · subst c5
        have H1 : (some (⟨#[]⟩ : ByteArray)) = some r := by rw [if_pos rfl] at H; exact H
        clear H
        have H := H1
        clear H1
        obtain rfl := Option.some.inj H
        go_wp2
        go_ret
        exact ⟨by first | rfl | (simp [errW_none, errW_some] <;> rfl) | (simp [*, errW_none, errW_some] <;> rfl), by repeat (first | (with_reducible first | exact HB.out | apply below_alloc | apply pw_below_drewN | apply below_drew1) | exact HB.out)⟩
      · replace c5 := Bool.eq_false_iff.mpr c5
        subst c5
        have H1 : (opt_Bytes.l0 kj2 a0 ([] : List Int) (wrap64 (a1 - 1))) = some r := by rw [if_neg (show ¬ (false = true) by decide)] at H; exact H
        clear H
        have H := H1
        clear H1
        have H' := Aside0.mk H
        clear H
        go_wp2
        go_loopg [5, 6] kj2 (fun kq v5 v6 w' => ∃ (x5_2 : List Int) (x6_2 : Int), v6 = .int .i64 x6_2 ∧ Aside0 (opt_Bytes.l0 kq a0 x5_2 x6_2 = some r) ∧ Aside0 (kq ≤ kj2) ∧ Aside0 (Kd.R (Kd.int .u8) 5 w' w.heap.size (fun _ => True) v5 x5_2) ∧ Aside0 (Below w.heap.size w w'))
        case atStart => exact ⟨(([] : List Int)), (wrap64 (a1 - 1)), (by first | rfl | (simp; done) | (simp [*]; done)), H', ⟨Nat.le_refl _⟩, ⟨by first | exact Kd.R_nil _ _ _ _ _ | exact Kd.N_nil _ _ _ _ _ | exact Kd.V_nil _ _ _ _ _ | exact Kd.Q_nil _ _ _ _ _ | exact Kd.S_nil _ _ _ _ _⟩, ⟨by repeat (first | (with_reducible first | exact HB.out | apply below_alloc | apply pw_below_drewN | apply below_drew1) | exact HB.out)⟩⟩
        case round =>
          clear H'
          try clear p2
          try clear c4
          try clear c4b0
          try clear c5
          try clear p2
          obtain ⟨x5_2, x6_2, rfl, HA, HK2, HO_5, HB⟩ := hrel
          cases gk with
          | zero => exact absurd HA.out (by simp [opt_Bytes.l0])
          | succ k2 =>
            have H := HA.out
            clear HA
            simp only [opt_Bytes.l0] at H
            by_cases c6 : x6_2 ≥ 0
            · rw [if_pos c6] at H
              have c6b0 : decide (0 ≤ x6_2) = true := decide_eq_true c6
              clear c6
              obtain ⟨ji7, hji7⟩ : ∃ j_ : Int, (wrap64 (8 * x6_2)) = j_ := ⟨_, rfl⟩
              replace H : (if 0 ≤ (ji7) then (if x5_2.length < 140737488355328 then (opt_Bytes.l0 k2 a0 (x5_2 ++ [(shr .u64 a0 (ji7)) % 256]) (wrap64 (x6_2 - 1))) else (none)) else (none)) = some r := by first | (rw [hji7] at H; exact H) | (simp only [hji7] at H ⊢; exact H)
              have hji7w : (IntKind.i64.wrap (8 * x6_2)) = ji7 := (i64_w _).trans hji7
              by_cases c8 : 0 ≤ (ji7)
              · rw [if_pos c8] at H
                have c8b0 := eq_true c8
                have c8b1 : decide (0 ≤ (ji7)) = true := decide_eq_true c8
                clear c8
                obtain ⟨ji9, hji9⟩ : ∃ j_ : Int, (shr .u64 a0 (ji7)) = j_ := ⟨_, rfl⟩
                replace H : (if x5_2.length < 140737488355328 then (opt_Bytes.l0 k2 a0 (x5_2 ++ [(ji9) % 256]) (wrap64 (x6_2 - 1))) else (none)) = some r := by first | (rw [hji9] at H; exact H) | (simp only [hji9] at H ⊢; exact H)
                have hji9_ : (a0 / 2 ^ min (ji7).toNat 64) = ji9 := hji9
                have hji9z : (ji7) ≤ 64 → (a0 / 2 ^ (ji7).toNat) = ji9 := shr_small hji9
                by_cases c10 : x5_2.length < 140737488355328
                · rw [if_pos c10] at H
                  have LMc10 := Aside0.mk c10
                  clear c10
                  obtain ⟨y101, hy101⟩ : ∃ y_ : List Int, y_ = (x5_2 ++ [(ji9) % 256]) := ⟨_, rfl⟩
                  replace H : (opt_Bytes.l0 k2 a0 y101 (wrap64 (x6_2 - 1))) = some r := by first | (rw [hy101]; with_reducible exact H) | (have H2_ := (Option.bind_some _ _).symm.trans H; rw [hy101]; with_reducible exact H2_) | (have H2_ := (Option.bind_some _ _).symm.trans H; with_reducible exact H2_) | with_reducible exact H | (rw [hy101]; exact H) | exact H
                  have Ny101 := Aside0.mk hy101
                  clear hy101
                  have H' := Aside0.mk H
                  clear H
                  go_wp2_with (first | ((with_reducible refine gate_builtin (b := .append) (xs := #[.tmp 19, .tmp 25]) rfl ?_); at_builtin; refine Kd.R_append (Kd.int .u8) (w0 := w) w.heap.size rfl (.tmp 19) (.tmp 25) 35 5 (.int .u8 0) 1 rfl Tryz.underlying35 info5 rfl (by decide) (by omega) u5 x5_2 ((ji9) % 256) [.int .u8 ((ji9) % 256)] (fun _ => True) (fun _ => False) rfl rfl ?aP (fun _ hk => hk.elim) ?aF ?aO ?aB ?aS ?aL ?_; (case aP => exact rfl); (case aB => exact (by repeat (first | (with_reducible first | exact HB.out | apply below_alloc | apply pw_below_drewN | apply below_drew1) | exact HB.out))); (case aF => exact (fun _ _ => trivial)); (case aO => exact (by (with_reducible repeat (first | apply Kd.R_alloc | apply Kd.R_drewN | apply Kd.R_drew)); exact HO_5.out)); (case aS => exact (below_size (by repeat (first | (with_reducible first | exact HB.out | apply below_alloc | apply pw_below_drewN | apply below_drew1) | exact HB.out)))); (case aL => have := LMc10.out; omega); intro v102 w11 ho hb hg hat; rw [← Ny101.out] at ho; have n0_ := Aside0.mk (hb); have n1_ := Aside0.mk (ho); clear HB; clear HO_5; have HB := n0_; have HO103 := n1_; clear n0_ n1_; clear ho hb hg hat))
                  go_roundg k2
                  case measure => have := HJ2.out; have := HK2.out; omega
                  case rel => exact ⟨(y101), (wrap64 (x6_2 - 1)), (by first | rfl | (simp; done) | (simp [*]; done)), H', ⟨by have := HJ2.out; have := HK2.out; omega⟩, ⟨by (with_reducible repeat (first | apply Kd.R_alloc | apply Kd.R_drewN | apply Kd.R_drew)); exact HO103.out⟩, ⟨by repeat (first | (with_reducible first | exact HB.out | apply below_alloc | apply pw_below_drewN | apply below_drew1) | exact HB.out)⟩⟩
                · rw [if_neg c10] at H
                  exact absurd H (by simp)
              · rw [if_neg c8] at H
                exact absurd H (by simp)
            · rw [if_neg c6] at H
              have c6b0 : decide (0 ≤ x6_2) = false := decide_eq_false c6
              clear c6
              obtain rfl := Option.some.inj H
              have hcv12 := own_string (P := Tryz.prog) Tryz.underlying35 Tryz.underlying5 Tryz.underlying9 (Kd.own_of_R HO_5.out)
              go_wp2
              go_ret
              exact ⟨by first | rfl | (simp [errW_none, errW_some] <;> rfl) | (simp [*, errW_none, errW_some] <;> rfl), by repeat (first | (with_reducible first | exact HB.out | apply below_alloc | apply pw_below_drewN | apply below_drew1) | exact HB.out)⟩

end Go.Proofs.YtjlnbahanghhcaaGreatDoor.PoptBytes

/- pkt.Get at the one packet that begun writes: what it answers. -/
namespace Go.Proofs.YtjlnbahanghhcaaGreatDoor
open Go.RowKit Go.Proofs.YtjlnbahanghhcaaGreatDoorW.PrintWords
set_option linter.unusedVariables false
set_option linter.unusedSimpArgs false

def lit : ByteArray := ⟨#[0, 1, 0, 2, 8, 0, 43, 56, 9, 0, 0, 0, 0, 0, 0, 77, 0, 0, 0, 0, 0, 0, 0, 5, 2, 40, 4, 120, 121, 0, 0, 0, 104, 101, 108, 108, 111]⟩
def litH : Hd := ⟨1, 2, 8, 0, 0, 11064, 4, true, 77, 5, 0, 0, 0, 0, 0⟩
theorem lit_size : lit.size = 37 := rfl
theorem lit_get : getH lit = (litH, 0) := by decide +kernel
theorem lit_sum : Sum.sum (joined [lit.extract 0 37]) = 0 := by decide +kernel
theorem lit_opts : PoptGet.opt_Get.f 12 (lit.extract 24 32) = some ([⟨2, ⟨#[]⟩⟩, ⟨40, ⟨#[120, 121]⟩⟩], 0) := by kernel_rfl
theorem lit_data : lit.extract 32 37 = ⟨#[104, 101, 108, 108, 111]⟩ := by kernel_rfl

abbrev Z39 : Array Value := #[.int .i64 0, .int .i64 0, .int .i64 0, .int .i64 0, .int .i64 0, .int .i64 0, .int .i64 0, .bool false, .int .u64 0, .int .u64 0, .int .u32 0, .int .i64 0, .int .u8 0, .int .u8 0, .int .u8 0, .slice none 0 0, .string ⟨#[]⟩]
theorem pk_one (A : Option Addr) (c : Nat) (d : ByteArray) : (#[.int .i64 1, .int .i64 2, .int .i64 8, .int .i64 0, .int .i64 0, .int .i64 11064, .int .i64 4, .bool true, .int .u64 77, .int .u64 5, .int .u32 0, .int .i64 0, .int .u8 0, .int .u8 0, .int .u8 0, .slice A 2 c, .string d] : Array Value).all (·.oneCell') = true := by kernel_rfl
set_option maxHeartbeats 1600000 in
set_option maxRecDepth 100000 in
theorem pkt_Get_lit (w : World) : Calls Tryz.prog 14 #[.string lit] w fun e w' => ∃ (v : Value) (A : Option Addr) (c : Nat), v = .slice A 2 c ∧ e = .returned (.tuple #[.agg #[.int .i64 1, .int .i64 2, .int .i64 8, .int .i64 0, .int .i64 0, .int .i64 11064, .int .i64 4, .bool true, .int .u64 77, .int .u64 5, .int .u32 0, .int .i64 0, .int .u8 0, .int .u8 0, .int .u8 0, v, .string ⟨#[104, 101, 108, 108, 111]⟩], .int .i64 0]) ∧ Below w.heap.size w w' := by
  have LS := hide lit_sum
  have HD := hide lit_data
  have HS := lit_size
  have G0 := fun W => head_Get lit (by rw [lit_size]; omega) W
  simp only [lit_get] at G0
  unfold litH at G0
  simp only [Hd.val_mk] at G0
  have G := hide G0
  clear G0
  have C0 := fun W => sum_Covered 37 32 0 W (by omega)
  rw [show covB 37 32 0 = true from by decide, show covN 37 32 0 = 37 from by decide] at C0
  have HO := lit_opts
  have C := hide C0
  clear C0
  generalize hb : lit = b at *
  have hs1 : b.size = 37 := HS
  have SO := hide (fun W : World => sum_Of (some ⟨W.heap.size, 0, none⟩) 1 (W.heap.size + 1) [b.extract 0 37] (W.alloc (.cells #[.string (b.extract 0 37)] 9)) (cells_new W [.string (b.extract 0 37)] 9) (by simp [joined, size_bytes, ByteArray.size_extract]; omega) (by simp))
  have S := hide (fun W => head_Size 4 true W)
  have OG := hide (fun W => PoptGet.opt_Get.calls 12 (b.extract 24 32) _ _ W HO)
  go_enter Tryz.func14, Tryz.ntmps14
  go_wp2_with fail
  refine (G.out _).mono ?_
  rintro e w2 ⟨rfl, hb2⟩
  have b0 := (Blk.new w Z39 29).below hb2 (by simp)
  have hw2 : Below w.heap.size w w2 := ((Below.refl _ _).alloc (Nat.le_refl _) _).trans (hb2.mono (by simp))
  have hz2 : w.heap.size + 1 ≤ w2.heap.size := by have := hb2.size; simpa using this
  have B0 := hide b0
  clear b0 hb2
  go_wp2_with (first | (go_at_call 25; refine (C.out _).mono ?_; rintro e w' ⟨rfl, rfl⟩))
  have so := SO.out (w2.alloc (.cells #[.int .i64 1, .int .i64 2, .int .i64 8, .int .i64 0, .int .i64 0, .int .i64 11064, .int .i64 4, .bool true, .int .u64 77, .int .u64 5, .int .u32 0, .int .i64 0, .int .u8 0, .int .u8 0, .int .u8 0] 26))
  rw [World.size_alloc, LS.out] at so
  refine so.mono ?_
  rintro e w3 ⟨rfl, rfl⟩
  have b0 := (B0.out.alloc (.cells #[.int .i64 1, .int .i64 2, .int .i64 8, .int .i64 0, .int .i64 0, .int .i64 11064, .int .i64 4, .bool true, .int .u64 77, .int .u64 5, .int .u32 0, .int .i64 0, .int .u8 0, .int .u8 0, .int .u8 0] 26)).alloc (.cells #[.string (b.extract 0 37)] 9)
  have b4 := (Blk.new w2 #[.int .i64 1, .int .i64 2, .int .i64 8, .int .i64 0, .int .i64 0, .int .i64 11064, .int .i64 4, .bool true, .int .u64 77, .int .u64 5, .int .u32 0, .int .i64 0, .int .u8 0, .int .u8 0, .int .u8 0] 26).alloc (.cells #[.string (b.extract 0 37)] 9)
  have hw3 : Below w.heap.size w ((w2.alloc (.cells #[.int .i64 1, .int .i64 2, .int .i64 8, .int .i64 0, .int .i64 0, .int .i64 11064, .int .i64 4, .bool true, .int .u64 77, .int .u64 5, .int .u32 0, .int .i64 0, .int .u8 0, .int .u8 0, .int .u8 0] 26)).alloc (.cells #[.string (b.extract 0 37)] 9)) := (hw2.alloc (by omega) _).alloc (by simp; omega) _
  have hz3 : w2.heap.size + 2 = ((w2.alloc (.cells #[.int .i64 1, .int .i64 2, .int .i64 8, .int .i64 0, .int .i64 0, .int .i64 11064, .int .i64 4, .bool true, .int .u64 77, .int .u64 5, .int .u32 0, .int .i64 0, .int .u8 0, .int .u8 0, .int .u8 0] 26)).alloc (.cells #[.string (b.extract 0 37)] 9)).heap.size := by simp
  generalize (w2.alloc (.cells #[.int .i64 1, .int .i64 2, .int .i64 8, .int .i64 0, .int .i64 0, .int .i64 11064, .int .i64 4, .bool true, .int .u64 77, .int .u64 5, .int .u32 0, .int .i64 0, .int .u8 0, .int .u8 0, .int .u8 0] 26)).alloc (.cells #[.string (b.extract 0 37)] 9) = w3 at b0 b4 hw3 hz3 ⊢
  have B0 := hide b0
  have B4 := hide b4
  have Hz3 := hide hz3
  have g6 : w3.cell? ⟨w2.heap.size, 6, none⟩ = some (.int .i64 4) := b4.cell rfl
  have g7 : w3.cell? ⟨w2.heap.size, 7, none⟩ = some (.bool true) := b4.cell rfl
  clear b0 b4 so hz3
  go_wp2_with (first | (go_at_call 43; refine (S.out _).mono ?_; rintro e w' ⟨rfl, rfl⟩))
  refine (OG.out _).mono ?_
  rintro e w4 ⟨v0, rfl, hR, hb4⟩
  obtain ⟨A, c, rfl⟩ := Kd.R_slice hR
  have hlen : ([⟨2, ⟨#[]⟩⟩, ⟨40, ⟨#[120, 121]⟩⟩] : List (PoptGet.S50)).length = 2 := rfl
  rw [hlen]
  have b0 := B0.out.below hb4 (by have := Hz3.out; omega)
  have b4 := B4.out.below hb4 (by have := Hz3.out; omega)
  replace hw3 := hw3.trans (hb4.mono hw3.size)
  have B0 := hide b0
  have B4 := hide b4
  clear b0 b4 hR hb4 g6 g7 hlen
  have k0 : w4.cell? ⟨w2.heap.size, 0, none⟩ = some (.int .i64 1) := B4.out.cell rfl
  have k1 : w4.cell? ⟨w2.heap.size, 1, none⟩ = some (.int .i64 2) := B4.out.cell rfl
  have k2 : w4.cell? ⟨w2.heap.size, 2, none⟩ = some (.int .i64 8) := B4.out.cell rfl
  have k3 : w4.cell? ⟨w2.heap.size, 3, none⟩ = some (.int .i64 0) := B4.out.cell rfl
  have k4 : w4.cell? ⟨w2.heap.size, 4, none⟩ = some (.int .i64 0) := B4.out.cell rfl
  have k5 : w4.cell? ⟨w2.heap.size, 5, none⟩ = some (.int .i64 11064) := B4.out.cell rfl
  have k6 : w4.cell? ⟨w2.heap.size, 6, none⟩ = some (.int .i64 4) := B4.out.cell rfl
  have k7 : w4.cell? ⟨w2.heap.size, 7, none⟩ = some (.bool true) := B4.out.cell rfl
  have k8 : w4.cell? ⟨w2.heap.size, 8, none⟩ = some (.int .u64 77) := B4.out.cell rfl
  have k9 : w4.cell? ⟨w2.heap.size, 9, none⟩ = some (.int .u64 5) := B4.out.cell rfl
  have k10 : w4.cell? ⟨w2.heap.size, 10, none⟩ = some (.int .u32 0) := B4.out.cell rfl
  have k11 : w4.cell? ⟨w2.heap.size, 11, none⟩ = some (.int .i64 0) := B4.out.cell rfl
  have k12 : w4.cell? ⟨w2.heap.size, 12, none⟩ = some (.int .u8 0) := B4.out.cell rfl
  have k13 : w4.cell? ⟨w2.heap.size, 13, none⟩ = some (.int .u8 0) := B4.out.cell rfl
  have k14 : w4.cell? ⟨w2.heap.size, 14, none⟩ = some (.int .u8 0) := B4.out.cell rfl
  have hu := Tryz.underlying26
  go_wp2_with fail
  go_still_tail 6, (by kernel_rfl)
  change wpList _ _ _ _ _ w4.drew
  have hone := hide (pk_one A c (b.extract 32 37))
  go_wp2_with (refine wpList_store_row rfl 29 _ _ rfl w.heap.size _ rfl rfl 29 Z39 B0.out.drew (by kernel_rfl) rfl hone.out ?_)
  refine bodyPost_ret (results_ct rfl _ _ w.heap.size 29 #[.int .i64 1, .int .i64 2, .int .i64 8, .int .i64 0, .int .i64 0, .int .i64 11064, .int .i64 4, .bool true, .int .u64 77, .int .u64 5, .int .u32 0, .int .i64 0, .int .u8 0, .int .u8 0, .int .u8 0, .slice A 2 c, .string (b.extract 32 37)] (0, 0) _ rfl (B0.out.drew.row) Tryz.underlying29 rfl (by kernel_rfl)) rfl ?_
  refine ⟨.slice A 2 c, A, c, rfl, ?_, below_row hw3.drew (Nat.le_refl _) _⟩
  rw [HD.out]; rfl
end Go.Proofs.YtjlnbahanghhcaaGreatDoor

/- What begun calls, at what it hands them. -/
namespace Go.Proofs.YtjlnbahanghhcaaGreatDoor
open Go.RowKit Go.Proofs.YtjlnbahanghhcaaGreatDoorW.PrintWords
set_option linter.unusedVariables false
set_option linter.unusedSimpArgs false

def os2 : List Op := [⟨2, ⟨#[]⟩⟩, ⟨40, ⟨#[120, 121]⟩⟩]
theorem lit_put : strOfNums (hb1 1 2 8 0 0 11064 ++ hb2 4 true 77 ++ hb3 4 true 5 ++ hb4 4 0 0 0 0 0) ++ strOfNums (putO os2) ++ ⟨#[104, 101, 108, 108, 111]⟩ = lit := by kernel_rfl
theorem lit_S : 11064 = Sum.sum (joined [(strOfNums (hb1 1 2 8 0 0 0 ++ hb2 4 true 77 ++ hb3 4 true 5 ++ hb4 4 0 0 0 0 0) ++ strOfNums (putO os2) ++ ⟨#[104, 101, 108, 108, 111]⟩).extract 0 37]) := by decide +kernel
theorem may_77 (o s : Nat) (h1 : 6 ≤ o) (h2 : o ≤ 255) (h3 : s ≤ 65535) : mayB ⟨(1 : Nat), (2 : Nat), (o : Nat), (0 : Nat), (0 : Nat), (s : Nat), (4 : Nat), true, (77 : Nat), (5 : Nat), (0 : Nat), (0 : Nat), (0 : Nat), (0 : Nat), (0 : Nat)⟩ = true := by
  have hz : sizeB ((4 : Nat) : Int) true = 24 := by decide
  have hn : numbersB ⟨(1 : Nat), (2 : Nat), (o : Nat), (0 : Nat), (0 : Nat), (s : Nat), (4 : Nat), true, (77 : Nat), (5 : Nat), (0 : Nat), (0 : Nat), (0 : Nat), (0 : Nat), (0 : Nat)⟩ = true := by
    unfold numbersB; exact decide_eq_true ⟨show ((77 : Nat) : Int) < mostB true from by decide, show ((5 : Nat) : Int) < mostB true from by decide, .inr (show ackB ((4 : Nat) : Int) = true from by decide)⟩
  have hi : infoB ⟨(1 : Nat), (2 : Nat), (o : Nat), (0 : Nat), (0 : Nat), (s : Nat), (4 : Nat), true, (77 : Nat), (5 : Nat), (0 : Nat), (0 : Nat), (0 : Nat), (0 : Nat), (0 : Nat)⟩ = true := rfl
  unfold mayB
  dsimp only
  rw [hz, hn, hi]
  have a1 : decide ((24 : Int) / 4 ≤ (o : Int)) = true := decide_eq_true (by omega)
  have a2 : decide ((o : Int) ≤ 255) = true := decide_eq_true (by omega)
  have a3 : inB (s : Int) 65535 = true := by unfold inB; exact decide_eq_true ⟨by omega, by omega⟩
  rw [a1, a2, a3]
  decide
theorem put_lit (A : Option Addr) (cap B : Nat) (off : Nat) (w : World) (hA : CellsAt w B A (ocells os2)) (hB : B ≤ w.heap.size) :
    Calls Tryz.prog 13 #[.agg #[.int .i64 1, .int .i64 2, .int .i64 0, .int .i64 0, .int .i64 0, .int .i64 0, .int .i64 4, .bool true, .int .u64 77, .int .u64 5, .int .u32 0, .int .i64 0, .int .u8 0, .int .u8 0, .int .u8 0, .slice A 2 cap, .string ⟨#[104, 101, 108, 108, 111]⟩]] w fun e w' => e = .returned (.tuple #[.string lit, .int .i64 0]) ∧ Below w.heap.size w w' := by
  have h := pkt_Put 1 2 0 0 0 0 4 true 77 5 0 0 0 0 0 6 8 37 11064 A cap B os2 ⟨#[104, 101, 108, 108, 111]⟩ w hA hB (by decide) (by decide) (by decide) (by decide) may_77 (by decide) (by decide) (by decide) (by decide) (by decide) (by decide) (by decide) lit_S (by decide) (by decide) (by decide) (by decide) (by decide) (by decide) (by decide) (by decide) (by decide) (by decide) (by decide) (by decide)
  rw [lit_put] at h
  exact h
theorem diff_lit (w : World) : Calls Tryz.prog 41 #[.int .u64 1, .int .u64 281474976710655] w fun e w' => e = .returned (.int .i64 2) ∧ w = w' := by
  have O := fun W => seq_Of 18446462598732840962 (by decide) (by decide) W
  have O := hide O
  go_enter Tryz.func41, Tryz.ntmps41
  go_wp2_with (first | (go_at_call 74; refine (O.out _).mono ?_; rintro e w' ⟨rfl, rfl⟩))
  go_ret
  exact ⟨rfl, rfl⟩
theorem add_lit (w : World) : Calls Tryz.prog 42 #[.int .u64 0, .int .i64 (-1)] w fun e w' => e = .returned (.int .u64 281474976710655) ∧ w = w' := by
  have O := fun W => seq_Of 18446744073709551615 (by decide) (by decide) W
  have O := hide O
  go_enter Tryz.func42, Tryz.ntmps42
  go_wp2_with (first | (go_at_call 74; refine (O.out _).mono ?_; rintro e w' ⟨rfl, rfl⟩))
  go_ret
  exact ⟨rfl, rfl⟩
theorem bytes_lit (w : World) : Calls Tryz.prog 44 #[.int .u64 258, .int .i64 2] w fun e w' => e = .returned (.string ⟨#[1, 2]⟩) ∧ Below w.heap.size w w' :=
  PoptBytes.opt_Bytes.calls 5 258 2 ⟨#[1, 2]⟩ w (by kernel_rfl)
theorem service_lit (w : World) : Calls Tryz.prog 30 #[.string ⟨#[83, 67, 58, 97, 98]⟩] w fun e w' => e = .returned (.tuple #[.int .u32 1633820704, .bool true]) ∧ w = w' := by
  have h := code_Service_signs ⟨#[83, 67, 58, 97, 98]⟩ w (by decide)
  rw [show codeOf (Lib.trimPrefix (⟨#[83, 67, 58, 97, 98]⟩ : ByteArray).data.toList [83, 67, 58]) = 1633820704 from by decide +kernel, show bySignsB (Lib.trimPrefix (⟨#[83, 67, 58, 97, 98]⟩ : ByteArray).data.toList [83, 67, 58]) = true from by decide +kernel] at h
  exact h
theorem text_lit (w : World) : Calls Tryz.prog 29 #[.int .u32 1633820704] w fun e w' => e = .returned (.string ⟨#[83, 67, 58, 97, 98]⟩) ∧ Below w.heap.size w w' := by
  have h := code_Text_signs 1633820704 w (by decide) (by decide +kernel) (by decide +kernel)
  rw [show (⟨#[83, 67, 58]⟩ ++ ⟨(textOf 1633820704).toArray⟩ : ByteArray) = ⟨#[83, 67, 58, 97, 98]⟩ from by decide +kernel] at h
  exact h
theorem muldiv_lit (w : World) : Calls Tryz.prog 39 #[.int .u64 9223372036854775808, .int .u64 4, .int .u64 8] w fun e w' => e = .returned (.int .u64 4611686018427387904) ∧ ∃ n, w' = w.drewN n := by
  have h := fix_MulDiv 9223372036854775808 4 8 w (by decide) (by decide) (by decide)
  rw [show Fix.quot 9223372036854775808 4 8 = 4611686018427387904 from by decide +kernel] at h
  exact h
theorem sqrt_lit (w : World) : Calls Tryz.prog 40 #[.int .u64 99] w fun e w' => e = .returned (.int .u64 9) ∧ w = w' := by
  have h := fix_Sqrt 99 w (by decide)
  rw [show Fix.root 99 = 9 from by decide +kernel] at h
  exact h
theorem sum_lit (W : World) : Calls Tryz.prog 26 #[.slice (some ⟨W.heap.size, 0, none⟩) 1 1] (W.alloc (.cells #[.string ⟨#[1, 2]⟩] 9)) fun e w' => e = .returned (.int .i64 65277) ∧ W.alloc (.cells #[.string ⟨#[1, 2]⟩] 9) = w' := by
  have h := sum_Of (some ⟨W.heap.size, 0, none⟩) 1 (W.heap.size + 1) [⟨#[1, 2]⟩] (W.alloc (.cells #[.string ⟨#[1, 2]⟩] 9)) (cells_new W [.string ⟨#[1, 2]⟩] 9) (by decide) (by decide)
  rw [show Sum.sum (joined [⟨#[1, 2]⟩]) = 65277 from by decide +kernel] at h
  exact h
theorem sum_lit' (W : World) (n : Nat) (hn : W.heap.size = n) : Calls Tryz.prog 26 #[.slice (some ⟨n, 0, none⟩) 1 1] (W.alloc (.cells #[.string ⟨#[1, 2]⟩] 9)) fun e w' => e = .returned (.int .i64 65277) ∧ W.alloc (.cells #[.string ⟨#[1, 2]⟩] 9) = w' := by
  subst hn; exact sum_lit W
theorem put_begun (w : World) : Calls Tryz.prog 13 #[.agg #[.int .i64 1, .int .i64 2, .int .i64 0, .int .i64 0, .int .i64 0, .int .i64 0, .int .i64 4, .bool true, .int .u64 77, .int .u64 5, .int .u32 0, .int .i64 0, .int .u8 0, .int .u8 0, .int .u8 0, .slice (some ⟨w.heap.size + 1, 0, none⟩) 2 2, .string ⟨#[104, 101, 108, 108, 111]⟩]] (((w.alloc (.cells #[.int .i64 1, .int .i64 2, .int .i64 0, .int .i64 0, .int .i64 0, .int .i64 0, .int .i64 4, .bool true, .int .u64 77, .int .u64 5, .int .u32 0, .int .i64 0, .int .u8 0, .int .u8 0, .int .u8 0] 26)).alloc (.cells #[.int .i64 2, .string ⟨#[]⟩, .int .i64 40, .string ⟨#[120, 121]⟩] 50)).alloc (.cells #[.int .i64 1, .int .i64 2, .int .i64 0, .int .i64 0, .int .i64 0, .int .i64 0, .int .i64 4, .bool true, .int .u64 77, .int .u64 5, .int .u32 0, .int .i64 0, .int .u8 0, .int .u8 0, .int .u8 0, .slice (some ⟨w.heap.size + 1, 0, none⟩) 2 2, .string ⟨#[104, 101, 108, 108, 111]⟩] 29)) fun e w' => e = .returned (.tuple #[.string lit, .int .i64 0]) ∧ Below w.heap.size w w' ∧ w.heap.size ≤ w'.heap.size := by
  have h1 := cells_new (w.alloc (.cells #[.int .i64 1, .int .i64 2, .int .i64 0, .int .i64 0, .int .i64 0, .int .i64 0, .int .i64 4, .bool true, .int .u64 77, .int .u64 5, .int .u32 0, .int .i64 0, .int .u8 0, .int .u8 0, .int .u8 0] 26)) [.int .i64 2, .string ⟨#[]⟩, .int .i64 40, .string ⟨#[120, 121]⟩] 50
  rw [World.size_alloc] at h1
  have h2 := h1.alloc (by simp) (.cells #[.int .i64 1, .int .i64 2, .int .i64 0, .int .i64 0, .int .i64 0, .int .i64 0, .int .i64 4, .bool true, .int .u64 77, .int .u64 5, .int .u32 0, .int .i64 0, .int .u8 0, .int .u8 0, .int .u8 0, .slice (some ⟨w.heap.size + 1, 0, none⟩) 2 2, .string ⟨#[104, 101, 108, 108, 111]⟩] 29)
  have hB : Below w.heap.size w (((w.alloc (.cells #[.int .i64 1, .int .i64 2, .int .i64 0, .int .i64 0, .int .i64 0, .int .i64 0, .int .i64 4, .bool true, .int .u64 77, .int .u64 5, .int .u32 0, .int .i64 0, .int .u8 0, .int .u8 0, .int .u8 0] 26)).alloc (.cells #[.int .i64 2, .string ⟨#[]⟩, .int .i64 40, .string ⟨#[120, 121]⟩] 50)).alloc (.cells #[.int .i64 1, .int .i64 2, .int .i64 0, .int .i64 0, .int .i64 0, .int .i64 0, .int .i64 4, .bool true, .int .u64 77, .int .u64 5, .int .u32 0, .int .i64 0, .int .u8 0, .int .u8 0, .int .u8 0, .slice (some ⟨w.heap.size + 1, 0, none⟩) 2 2, .string ⟨#[104, 101, 108, 108, 111]⟩] 29)) := (((Below.refl _ _).alloc (Nat.le_refl _) _).alloc (by simp) _).alloc (by simp; omega) _
  refine (put_lit (some ⟨w.heap.size + 1, 0, none⟩) 2 (w.heap.size + 1 + 1) 0 _ h2 (by simp)).mono ?_
  rintro e w' ⟨rfl, hb⟩
  have hz := hB.trans (hb.mono hB.size)
  exact ⟨rfl, hz, hz.size⟩
end Go.Proofs.YtjlnbahanghhcaaGreatDoor

/- begun: the program's small trial at the begin of every statement of this layer: it is true. -/
namespace Go.Proofs.YtjlnbahanghhcaaGreatDoor
open Go.RowKit Go.Proofs.YtjlnbahanghhcaaGreatDoorW.PrintWords
set_option linter.unusedVariables false
set_option linter.unusedSimpArgs false

theorem get_lit' (b : ByteArray) (h : lit = b) : ∀ W, Calls Tryz.prog 14 #[.string b] W fun e w' => ∃ (v : Value) (A : Option Addr) (c : Nat), v = .slice A 2 c ∧ e = .returned (.tuple #[.agg #[.int .i64 1, .int .i64 2, .int .i64 8, .int .i64 0, .int .i64 0, .int .i64 11064, .int .i64 4, .bool true, .int .u64 77, .int .u64 5, .int .u32 0, .int .i64 0, .int .u8 0, .int .u8 0, .int .u8 0, v, .string ⟨#[104, 101, 108, 108, 111]⟩], .int .i64 0]) ∧ Below W.heap.size W w' := h ▸ pkt_Get_lit
set_option maxHeartbeats 3200000 in
set_option maxRecDepth 100000 in
theorem begun_true (w : World) : Calls Tryz.prog 11 #[] w fun e w' => e = .returned (.bool true) ∧ Below w.heap.size w w' := by
  obtain ⟨b, HLIT⟩ : ∃ b, Hid (lit = b) := ⟨_, hide rfl⟩
  have hl0 : b.size = 37 := HLIT.out ▸ lit_size
  have HL := hide hl0
  clear hl0
  go_enter Tryz.func11, Tryz.ntmps11
  go_upto_region 3 with fail
  go_cut [3, 4] (fun v3 v4 wx => v3 = .string b ∧ v4 = .int .i64 0 ∧ Below w.heap.size w wx)
  case first => as_aux_lemma =>
    have PB := hide (put_begun w)
    rw [HLIT.out] at PB
    go_wp2_with fail
    refine (PB.out).mono ?_
    rintro e w2 ⟨rfl, hb2, hz2⟩
    go_wp2_with fail
    go_meet
    exact ⟨rfl, rfl, hb2⟩
  case rest =>
    obtain ⟨rfl, rfl, hb⟩ := hcut
    have hz := hb.size
    have HB := hide hb
    clear hb
    go_upto_region 4 with fail
    go_cut [5, 6] (fun v5 v6 wx => ∃ (g : Nat) (A : Option Addr) (c : Nat), v5 = .pointer (some ⟨g, 0, none⟩) ∧ v6 = .int .i64 0 ∧ Blk wx g #[.int .i64 1, .int .i64 2, .int .i64 8, .int .i64 0, .int .i64 0, .int .i64 11064, .int .i64 4, .bool true, .int .u64 77, .int .u64 5, .int .u32 0, .int .i64 0, .int .u8 0, .int .u8 0, .int .u8 0, .slice A 2 c, .string ⟨#[104, 101, 108, 108, 111]⟩] 29 ∧ Below w.heap.size w wx)
    case first => as_aux_lemma =>
      have PG := hide (get_lit' b HLIT.out)
      go_wp2_with fail
      refine (PG.out _).mono ?_
      rintro e w3 ⟨v, A, c, rfl, rfl, hb3⟩
      have hb4 := HB.out.trans (hb3.mono hz)
      have H4 := hide hb4
      have hz4 := hb4.size
      clear hb3 hb4
      go_wp2_with fail
      go_meet
      exact ⟨_, A, c, rfl, rfl, Blk.new _ _ _, H4.out.alloc hz4 _⟩
    case rest =>
      obtain ⟨g, A, c, rfl, rfl, bq, hb⟩ := hcut
      have hz := hb.size
      have HB := hide hb
      have BQ := hide bq
      clear hb bq
      have SV := hide service_lit
      go_upto_region 6 with (go_at_call 30; (with_reducible refine (SV.out _).mono ?_); rintro e w' ⟨rfl, rfl⟩)
      go_cut [0] (fun v0 wx => v0 = .bool true ∧ Below w.heap.size w wx)
      case first => as_aux_lemma =>
        have hl := HL.out
        have MD := hide muldiv_lit
        have SQ := hide sqrt_lit
        have DF := hide diff_lit
        have AD := hide add_lit
        have SU := hide sum_lit'
        have SZ := hide (fun W => head_Size 4 true W)
        have TX := hide text_lit
        have BY := hide bytes_lit
        go_wp2_with (first
          | (go_at_call 39; (with_reducible refine (MD.out _).mono ?_); rintro e w' ⟨rfl, ⟨nd, rfl⟩⟩)
          | (go_at_call 40; (with_reducible refine (SQ.out _).mono ?_); rintro e w' ⟨rfl, rfl⟩)
          | (go_at_call 41; (with_reducible refine (DF.out _).mono ?_); rintro e w' ⟨rfl, rfl⟩)
          | (go_at_call 42; (with_reducible refine (AD.out _).mono ?_); rintro e w' ⟨rfl, rfl⟩))
        refine (SU.out _ _ (by simp)).mono ?_
        rintro e w5 ⟨rfl, rfl⟩
        have bq := (BQ.out.drewN nd).alloc (.cells #[.string ⟨#[1, 2]⟩] 9)
        have hb5 : Below w.heap.size w ((wc.drewN nd).alloc (.cells #[.string ⟨#[1, 2]⟩] 9)) := Below.alloc (w := wc.drewN nd) (HB.out.trans ⟨rfl, rfl, rfl, Nat.le_refl _, fun _ _ => rfl⟩) hz _
        generalize (wc.drewN nd).alloc (.cells #[.string ⟨#[1, 2]⟩] 9) = w5 at bq hb5 ⊢
        have hz5 := hb5.size
        have H5 := hide hb5
        clear hb5
        have q2 : w5.cell? ⟨g, 2, none⟩ = some (.int .i64 8) := bq.cell rfl
        have q15 : w5.cell? ⟨g, 15, none⟩ = some (.slice A 2 c) := bq.cell rfl
        have q16 : w5.cell? ⟨g, 16, none⟩ = some (.string ⟨#[104, 101, 108, 108, 111]⟩) := bq.cell rfl
        clear bq
        go_wp2_with (go_at_call 43; (with_reducible refine (SZ.out _).mono ?_); rintro e w' ⟨rfl, rfl⟩)
        refine (TX.out _).mono ?_
        rintro e w6 ⟨rfl, hb6⟩
        go_wp2_with fail
        refine (BY.out _).mono ?_
        rintro e w7 ⟨rfl, hb7⟩
        go_wp2_with fail
        go_meet
        exact ⟨rfl, (H5.out.trans (hb6.mono hz5)).trans (hb7.mono (Nat.le_trans hz5 hb6.size))⟩
      case rest =>
        obtain ⟨rfl, hb⟩ := hcut
        go_wp2_with fail
        go_ret
        exact ⟨rfl, hb⟩
end Go.Proofs.YtjlnbahanghhcaaGreatDoor
