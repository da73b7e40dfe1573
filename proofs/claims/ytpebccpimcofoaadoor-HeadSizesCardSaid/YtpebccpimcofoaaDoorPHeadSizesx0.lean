/- What this seat's Go functions compute, as Lean functions, and that they do. Written by a program of this session's (wip/pr/pr.py) by means of the kit's printer, with contracts of ours for some functions; conditions: none beyond each theorem's own. -/
import Derived.Test.YtpebccpimcofoaaDoorProg
import Derived.Below
import Derived.Deep.Draws
import Derived.Deep.AppendLies
import Derived.Maps.AppendAt
import Derived.OwnWalk
import Derived.Laws.BytesArg
import Derived.Laws.MakeOwn
import Derived.Laws.OwnMore
import Derived.Deep.OwnRows
import Derived.Tactics
import Derived.Lib.ConvBytes
import Derived.Laws.Slices
import Derived.WalkKit
import Derived.KernelRfl
import Derived.RowKit3
import Derived.Deep.LoopGhost
import Derived.Deep.QuietTactic
import Derived.BigQuiet
import Derived.WideLaws
import Derived.Deep.DeepCutAuto
import Derived.Deep.CutBlock
import Derived.Deep.RegionHeld3
import Derived.Laws.Rows
import Derived.Lib.AppendStr
import Derived.ArgAppend
import Derived.Laws.IdiomCopy
import Derived.OrdersHeld
import Derived.Laws.BitsLemmas
import Derived.RowKit
import Derived.Test.YtpebccpimcofoaaDoorBaseD
import Derived.Test.YtpebccpimcofoaaDoorWWords
import Derived.Test.YtpebccpimcofoaaDoorWLast
import Derived.Test.YtpebccpimcofoaaDoorWTab
import Derived.Test.YtpebccpimcofoaaDoorWFour
import Derived.Test.YtpebccpimcofoaaDoorWQPut
import Derived.Test.YtpebccpimcofoaaDoorWApart
import Derived.Test.YtpebccpimcofoaaDoorWArr
import Derived.Test.YtpebccpimcofoaaDoorWZeros
import Derived.Test.YtpebccpimcofoaaDoorWFoot
import Derived.Test.YtpebccpimcofoaaDoorWKept
import Derived.Test.YtpebccpimcofoaaDoorWShare
import Derived.Test.YtpebccpimcofoaaDoorWN
import Derived.Test.YtpebccpimcofoaaDoorWFootNe
import Derived.Test.YtpebccpimcofoaaDoorWAt
import Derived.Test.YtpebccpimcofoaaDoorWEqStruct
import Derived.Test.YtpebccpimcofoaaDoorWRepsOne
import Derived.Test.YtpebccpimcofoaaDoorWInv
import Derived.Test.YtpebccpimcofoaaDoorWInvWords
import Derived.Test.YtpebccpimcofoaaDoorWGuard
import Derived.Test.YtpebccpimcofoaaDoorWNEv
import Derived.Test.YtpebccpimcofoaaDoorWMore
namespace Go.Proofs.YtpebccpimcofoaaDoor.PHeadSizes
open Go.RowKit Go.Proofs.YtpebccpimcofoaaDoorW.PrintWords Go.Proofs.YtpebccpimcofoaaDoorW.PrintLast Go.Proofs.YtpebccpimcofoaaDoorW.PrintMore
attribute [local go_sem] max2_int min2_int max_two min_two max_three min_three max_four min_four   -- for this text's walks alone
set_option linter.unusedVariables false
set_option linter.unusedSimpArgs false



def errW : Option Int → Value
  | none => .nilIface
  | some c => .iface 0 (.int .i64 c)
theorem errW_none : errW none = .nilIface := rfl
theorem errW_some (c : Int) : errW (some c) = .iface 0 (.int .i64 c) := rfl

-- the values' own types
/-! #### struct type 26 -/
structure S26 where
  f0 : Int
  f1 : Int
  f2 : Int
def z26 : S26 := ⟨(0 : Int), (0 : Int), (0 : Int)⟩
def k26 : Kd S26 := Kd.iso (Kd.pair (Kd.int .u8) (Kd.pair (Kd.int .u8) (Kd.int .u8))) (fun x : S26 => (x.f0, x.f1, x.f2))
theorem k26_open {w : World} {x : S26} {cs : List Value} (h : k26.K w x cs) : cs = [.int .u8 x.f0, .int .u8 x.f1, .int .u8 x.f2] := by
  obtain ⟨_, _, rfl, rfl, ⟨_, _, rfl, rfl, rfl⟩⟩ := h
  exact rfl
theorem k26_openM {w : World} {base : Nat} {ok : Nat → Prop} {x : S26} {cs : List Value} (h : k26.M w base ok x cs) : cs = [.int .u8 x.f0, .int .u8 x.f1, .int .u8 x.f2] := by
  obtain ⟨_, _, rfl, rfl, ⟨_, _, rfl, rfl, rfl⟩⟩ := h
  exact rfl
theorem k26_mk (w : World) (x : S26)  : k26.K w x [.int .u8 x.f0, .int .u8 x.f1, .int .u8 x.f2] := ⟨[.int .u8 x.f0], [.int .u8 x.f1, .int .u8 x.f2], rfl, rfl, ⟨[.int .u8 x.f1], [.int .u8 x.f2], rfl, rfl, rfl⟩⟩
theorem k26_mkM (w : World) (base : Nat) (ok : Nat → Prop) (x : S26)  : k26.M w base ok x [.int .u8 x.f0, .int .u8 x.f1, .int .u8 x.f2] := ⟨[.int .u8 x.f0], [.int .u8 x.f1, .int .u8 x.f2], rfl, rfl, ⟨[.int .u8 x.f1], [.int .u8 x.f2], rfl, rfl, rfl⟩⟩
def rd_T26 (xs : List S26) (i : Int) : S26 := xs.getD i.toNat z26
theorem at_T26 {w : World} {A : Option Addr} {n : Nat} {xs : List S26} (h : Kd.C k26 w A n xs) (i : Int) (h0 : 0 ≤ i) (h1 : i < n) : ∃ ad , A = some ad ∧ w.cell? (ad.add (i.toNat * 3)) = some (.int .u8 (rd_T26 xs i).f0) ∧ w.cell? ⟨(ad.add (i.toNat * 3)).block, (ad.add (i.toNat * 3)).off + 1, none⟩ = some (.int .u8 (rd_T26 xs i).f1) ∧ w.cell? ⟨(ad.add (i.toNat * 3)).block, (ad.add (i.toNat * 3)).off + 2, none⟩ = some (.int .u8 (rd_T26 xs i).f2) := by
  obtain ⟨ad, c, e, _, hK, hc0⟩ := Kd.C_get h z26 i h0 h1
  have hc : ∀ j u, c[j]? = some u → w.cell? (ad.add (i.toNat * 3 + j)) = some u := hc0
  obtain rfl := k26_open hK
  exact ⟨ad, e, hc 0 _ rfl, by rw [← add_field _ _ 1 (by omega)]; exact hc 1 _ rfl, by rw [← add_field _ _ 2 (by omega)]; exact hc 2 _ rfl⟩

/-! #### struct type 28 -/
structure S28 where
  f0 : Int
  f1 : Int
  f2 : Int
  f3 : Int
  f4 : Int
  f5 : Int
  f6 : Int
  f7 : Bool
  f8 : Int
  f9 : Int
  f10 : Int
  f11 : Int
  f12 : S26
def z28 : S28 := ⟨(0 : Int), (0 : Int), (0 : Int), (0 : Int), (0 : Int), (0 : Int), (0 : Int), false, (0 : Int), (0 : Int), (0 : Int), (0 : Int), z26⟩
def k28 : Kd S28 := Kd.iso (Kd.pair (Kd.int .i64) (Kd.pair (Kd.int .i64) (Kd.pair (Kd.int .i64) (Kd.pair (Kd.int .i64) (Kd.pair (Kd.int .i64) (Kd.pair (Kd.int .i64) (Kd.pair (Kd.int .i64) (Kd.pair Kd.bool (Kd.pair (Kd.int .u64) (Kd.pair (Kd.int .u64) (Kd.pair (Kd.int .u32) (Kd.pair (Kd.int .i64) k26)))))))))))) (fun x : S28 => (x.f0, x.f1, x.f2, x.f3, x.f4, x.f5, x.f6, x.f7, x.f8, x.f9, x.f10, x.f11, x.f12))
theorem k28_open {w : World} {x : S28} {cs : List Value} (h : k28.K w x cs) : cs = [.int .i64 x.f0, .int .i64 x.f1, .int .i64 x.f2, .int .i64 x.f3, .int .i64 x.f4, .int .i64 x.f5, .int .i64 x.f6, .bool x.f7, .int .u64 x.f8, .int .u64 x.f9, .int .u32 x.f10, .int .i64 x.f11, .int .u8 x.f12.f0, .int .u8 x.f12.f1, .int .u8 x.f12.f2] := by
  obtain ⟨_, _, rfl, rfl, ⟨_, _, rfl, rfl, ⟨_, _, rfl, rfl, ⟨_, _, rfl, rfl, ⟨_, _, rfl, rfl, ⟨_, _, rfl, rfl, ⟨_, _, rfl, rfl, ⟨_, _, rfl, rfl, ⟨_, _, rfl, rfl, ⟨_, _, rfl, rfl, ⟨_, _, rfl, rfl, ⟨_, _, rfl, rfl, s12⟩⟩⟩⟩⟩⟩⟩⟩⟩⟩⟩⟩ := h
  obtain rfl := k26_open s12
  exact rfl
theorem k28_openM {w : World} {base : Nat} {ok : Nat → Prop} {x : S28} {cs : List Value} (h : k28.M w base ok x cs) : cs = [.int .i64 x.f0, .int .i64 x.f1, .int .i64 x.f2, .int .i64 x.f3, .int .i64 x.f4, .int .i64 x.f5, .int .i64 x.f6, .bool x.f7, .int .u64 x.f8, .int .u64 x.f9, .int .u32 x.f10, .int .i64 x.f11, .int .u8 x.f12.f0, .int .u8 x.f12.f1, .int .u8 x.f12.f2] := by
  obtain ⟨_, _, rfl, rfl, ⟨_, _, rfl, rfl, ⟨_, _, rfl, rfl, ⟨_, _, rfl, rfl, ⟨_, _, rfl, rfl, ⟨_, _, rfl, rfl, ⟨_, _, rfl, rfl, ⟨_, _, rfl, rfl, ⟨_, _, rfl, rfl, ⟨_, _, rfl, rfl, ⟨_, _, rfl, rfl, ⟨_, _, rfl, rfl, s12⟩⟩⟩⟩⟩⟩⟩⟩⟩⟩⟩⟩ := h
  obtain rfl := k26_openM s12
  exact rfl
theorem k28_mk (w : World) (x : S28)  : k28.K w x [.int .i64 x.f0, .int .i64 x.f1, .int .i64 x.f2, .int .i64 x.f3, .int .i64 x.f4, .int .i64 x.f5, .int .i64 x.f6, .bool x.f7, .int .u64 x.f8, .int .u64 x.f9, .int .u32 x.f10, .int .i64 x.f11, .int .u8 x.f12.f0, .int .u8 x.f12.f1, .int .u8 x.f12.f2] := ⟨[.int .i64 x.f0], [.int .i64 x.f1, .int .i64 x.f2, .int .i64 x.f3, .int .i64 x.f4, .int .i64 x.f5, .int .i64 x.f6, .bool x.f7, .int .u64 x.f8, .int .u64 x.f9, .int .u32 x.f10, .int .i64 x.f11, .int .u8 x.f12.f0, .int .u8 x.f12.f1, .int .u8 x.f12.f2], rfl, rfl, ⟨[.int .i64 x.f1], [.int .i64 x.f2, .int .i64 x.f3, .int .i64 x.f4, .int .i64 x.f5, .int .i64 x.f6, .bool x.f7, .int .u64 x.f8, .int .u64 x.f9, .int .u32 x.f10, .int .i64 x.f11, .int .u8 x.f12.f0, .int .u8 x.f12.f1, .int .u8 x.f12.f2], rfl, rfl, ⟨[.int .i64 x.f2], [.int .i64 x.f3, .int .i64 x.f4, .int .i64 x.f5, .int .i64 x.f6, .bool x.f7, .int .u64 x.f8, .int .u64 x.f9, .int .u32 x.f10, .int .i64 x.f11, .int .u8 x.f12.f0, .int .u8 x.f12.f1, .int .u8 x.f12.f2], rfl, rfl, ⟨[.int .i64 x.f3], [.int .i64 x.f4, .int .i64 x.f5, .int .i64 x.f6, .bool x.f7, .int .u64 x.f8, .int .u64 x.f9, .int .u32 x.f10, .int .i64 x.f11, .int .u8 x.f12.f0, .int .u8 x.f12.f1, .int .u8 x.f12.f2], rfl, rfl, ⟨[.int .i64 x.f4], [.int .i64 x.f5, .int .i64 x.f6, .bool x.f7, .int .u64 x.f8, .int .u64 x.f9, .int .u32 x.f10, .int .i64 x.f11, .int .u8 x.f12.f0, .int .u8 x.f12.f1, .int .u8 x.f12.f2], rfl, rfl, ⟨[.int .i64 x.f5], [.int .i64 x.f6, .bool x.f7, .int .u64 x.f8, .int .u64 x.f9, .int .u32 x.f10, .int .i64 x.f11, .int .u8 x.f12.f0, .int .u8 x.f12.f1, .int .u8 x.f12.f2], rfl, rfl, ⟨[.int .i64 x.f6], [.bool x.f7, .int .u64 x.f8, .int .u64 x.f9, .int .u32 x.f10, .int .i64 x.f11, .int .u8 x.f12.f0, .int .u8 x.f12.f1, .int .u8 x.f12.f2], rfl, rfl, ⟨[.bool x.f7], [.int .u64 x.f8, .int .u64 x.f9, .int .u32 x.f10, .int .i64 x.f11, .int .u8 x.f12.f0, .int .u8 x.f12.f1, .int .u8 x.f12.f2], rfl, rfl, ⟨[.int .u64 x.f8], [.int .u64 x.f9, .int .u32 x.f10, .int .i64 x.f11, .int .u8 x.f12.f0, .int .u8 x.f12.f1, .int .u8 x.f12.f2], rfl, rfl, ⟨[.int .u64 x.f9], [.int .u32 x.f10, .int .i64 x.f11, .int .u8 x.f12.f0, .int .u8 x.f12.f1, .int .u8 x.f12.f2], rfl, rfl, ⟨[.int .u32 x.f10], [.int .i64 x.f11, .int .u8 x.f12.f0, .int .u8 x.f12.f1, .int .u8 x.f12.f2], rfl, rfl, ⟨[.int .i64 x.f11], [.int .u8 x.f12.f0, .int .u8 x.f12.f1, .int .u8 x.f12.f2], rfl, rfl, (k26_mk w x.f12 )⟩⟩⟩⟩⟩⟩⟩⟩⟩⟩⟩⟩
theorem k28_mkM (w : World) (base : Nat) (ok : Nat → Prop) (x : S28)  : k28.M w base ok x [.int .i64 x.f0, .int .i64 x.f1, .int .i64 x.f2, .int .i64 x.f3, .int .i64 x.f4, .int .i64 x.f5, .int .i64 x.f6, .bool x.f7, .int .u64 x.f8, .int .u64 x.f9, .int .u32 x.f10, .int .i64 x.f11, .int .u8 x.f12.f0, .int .u8 x.f12.f1, .int .u8 x.f12.f2] := ⟨[.int .i64 x.f0], [.int .i64 x.f1, .int .i64 x.f2, .int .i64 x.f3, .int .i64 x.f4, .int .i64 x.f5, .int .i64 x.f6, .bool x.f7, .int .u64 x.f8, .int .u64 x.f9, .int .u32 x.f10, .int .i64 x.f11, .int .u8 x.f12.f0, .int .u8 x.f12.f1, .int .u8 x.f12.f2], rfl, rfl, ⟨[.int .i64 x.f1], [.int .i64 x.f2, .int .i64 x.f3, .int .i64 x.f4, .int .i64 x.f5, .int .i64 x.f6, .bool x.f7, .int .u64 x.f8, .int .u64 x.f9, .int .u32 x.f10, .int .i64 x.f11, .int .u8 x.f12.f0, .int .u8 x.f12.f1, .int .u8 x.f12.f2], rfl, rfl, ⟨[.int .i64 x.f2], [.int .i64 x.f3, .int .i64 x.f4, .int .i64 x.f5, .int .i64 x.f6, .bool x.f7, .int .u64 x.f8, .int .u64 x.f9, .int .u32 x.f10, .int .i64 x.f11, .int .u8 x.f12.f0, .int .u8 x.f12.f1, .int .u8 x.f12.f2], rfl, rfl, ⟨[.int .i64 x.f3], [.int .i64 x.f4, .int .i64 x.f5, .int .i64 x.f6, .bool x.f7, .int .u64 x.f8, .int .u64 x.f9, .int .u32 x.f10, .int .i64 x.f11, .int .u8 x.f12.f0, .int .u8 x.f12.f1, .int .u8 x.f12.f2], rfl, rfl, ⟨[.int .i64 x.f4], [.int .i64 x.f5, .int .i64 x.f6, .bool x.f7, .int .u64 x.f8, .int .u64 x.f9, .int .u32 x.f10, .int .i64 x.f11, .int .u8 x.f12.f0, .int .u8 x.f12.f1, .int .u8 x.f12.f2], rfl, rfl, ⟨[.int .i64 x.f5], [.int .i64 x.f6, .bool x.f7, .int .u64 x.f8, .int .u64 x.f9, .int .u32 x.f10, .int .i64 x.f11, .int .u8 x.f12.f0, .int .u8 x.f12.f1, .int .u8 x.f12.f2], rfl, rfl, ⟨[.int .i64 x.f6], [.bool x.f7, .int .u64 x.f8, .int .u64 x.f9, .int .u32 x.f10, .int .i64 x.f11, .int .u8 x.f12.f0, .int .u8 x.f12.f1, .int .u8 x.f12.f2], rfl, rfl, ⟨[.bool x.f7], [.int .u64 x.f8, .int .u64 x.f9, .int .u32 x.f10, .int .i64 x.f11, .int .u8 x.f12.f0, .int .u8 x.f12.f1, .int .u8 x.f12.f2], rfl, rfl, ⟨[.int .u64 x.f8], [.int .u64 x.f9, .int .u32 x.f10, .int .i64 x.f11, .int .u8 x.f12.f0, .int .u8 x.f12.f1, .int .u8 x.f12.f2], rfl, rfl, ⟨[.int .u64 x.f9], [.int .u32 x.f10, .int .i64 x.f11, .int .u8 x.f12.f0, .int .u8 x.f12.f1, .int .u8 x.f12.f2], rfl, rfl, ⟨[.int .u32 x.f10], [.int .i64 x.f11, .int .u8 x.f12.f0, .int .u8 x.f12.f1, .int .u8 x.f12.f2], rfl, rfl, ⟨[.int .i64 x.f11], [.int .u8 x.f12.f0, .int .u8 x.f12.f1, .int .u8 x.f12.f2], rfl, rfl, (k26_mkM w base ok x.f12 )⟩⟩⟩⟩⟩⟩⟩⟩⟩⟩⟩⟩
def rd_T28 (xs : List S28) (i : Int) : S28 := xs.getD i.toNat z28
theorem at_T28 {w : World} {A : Option Addr} {n : Nat} {xs : List S28} (h : Kd.C k28 w A n xs) (i : Int) (h0 : 0 ≤ i) (h1 : i < n) : ∃ ad , A = some ad ∧ w.cell? (ad.add (i.toNat * 15)) = some (.int .i64 (rd_T28 xs i).f0) ∧ w.cell? ⟨(ad.add (i.toNat * 15)).block, (ad.add (i.toNat * 15)).off + 1, none⟩ = some (.int .i64 (rd_T28 xs i).f1) ∧ w.cell? ⟨(ad.add (i.toNat * 15)).block, (ad.add (i.toNat * 15)).off + 2, none⟩ = some (.int .i64 (rd_T28 xs i).f2) ∧ w.cell? ⟨(ad.add (i.toNat * 15)).block, (ad.add (i.toNat * 15)).off + 3, none⟩ = some (.int .i64 (rd_T28 xs i).f3) ∧ w.cell? ⟨(ad.add (i.toNat * 15)).block, (ad.add (i.toNat * 15)).off + 4, none⟩ = some (.int .i64 (rd_T28 xs i).f4) ∧ w.cell? ⟨(ad.add (i.toNat * 15)).block, (ad.add (i.toNat * 15)).off + 5, none⟩ = some (.int .i64 (rd_T28 xs i).f5) ∧ w.cell? ⟨(ad.add (i.toNat * 15)).block, (ad.add (i.toNat * 15)).off + 6, none⟩ = some (.int .i64 (rd_T28 xs i).f6) ∧ w.cell? ⟨(ad.add (i.toNat * 15)).block, (ad.add (i.toNat * 15)).off + 7, none⟩ = some (.bool (rd_T28 xs i).f7) ∧ w.cell? ⟨(ad.add (i.toNat * 15)).block, (ad.add (i.toNat * 15)).off + 8, none⟩ = some (.int .u64 (rd_T28 xs i).f8) ∧ w.cell? ⟨(ad.add (i.toNat * 15)).block, (ad.add (i.toNat * 15)).off + 9, none⟩ = some (.int .u64 (rd_T28 xs i).f9) ∧ w.cell? ⟨(ad.add (i.toNat * 15)).block, (ad.add (i.toNat * 15)).off + 10, none⟩ = some (.int .u32 (rd_T28 xs i).f10) ∧ w.cell? ⟨(ad.add (i.toNat * 15)).block, (ad.add (i.toNat * 15)).off + 11, none⟩ = some (.int .i64 (rd_T28 xs i).f11) ∧ w.cell? ⟨(ad.add (i.toNat * 15)).block, (ad.add (i.toNat * 15)).off + 12, none⟩ = some (.int .u8 (rd_T28 xs i).f12.f0) ∧ w.cell? ⟨(ad.add (i.toNat * 15)).block, (ad.add (i.toNat * 15)).off + 13, none⟩ = some (.int .u8 (rd_T28 xs i).f12.f1) ∧ w.cell? ⟨(ad.add (i.toNat * 15)).block, (ad.add (i.toNat * 15)).off + 14, none⟩ = some (.int .u8 (rd_T28 xs i).f12.f2) := by
  obtain ⟨ad, c, e, _, hK, hc0⟩ := Kd.C_get h z28 i h0 h1
  have hc : ∀ j u, c[j]? = some u → w.cell? (ad.add (i.toNat * 15 + j)) = some u := hc0
  obtain rfl := k28_open hK
  exact ⟨ad, e, hc 0 _ rfl, by rw [← add_field _ _ 1 (by omega)]; exact hc 1 _ rfl, by rw [← add_field _ _ 2 (by omega)]; exact hc 2 _ rfl, by rw [← add_field _ _ 3 (by omega)]; exact hc 3 _ rfl, by rw [← add_field _ _ 4 (by omega)]; exact hc 4 _ rfl, by rw [← add_field _ _ 5 (by omega)]; exact hc 5 _ rfl, by rw [← add_field _ _ 6 (by omega)]; exact hc 6 _ rfl, by rw [← add_field _ _ 7 (by omega)]; exact hc 7 _ rfl, by rw [← add_field _ _ 8 (by omega)]; exact hc 8 _ rfl, by rw [← add_field _ _ 9 (by omega)]; exact hc 9 _ rfl, by rw [← add_field _ _ 10 (by omega)]; exact hc 10 _ rfl, by rw [← add_field _ _ 11 (by omega)]; exact hc 11 _ rfl, by rw [← add_field _ _ 12 (by omega)]; exact hc 12 _ rfl, by rw [← add_field _ _ 13 (by omega)]; exact hc 13 _ rfl, by rw [← add_field _ _ 14 (by omega)]; exact hc 14 _ rfl⟩

end Go.Proofs.YtpebccpimcofoaaDoor.PHeadSizes
