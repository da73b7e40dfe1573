/- The contract of the laws' own Opts at two slices that hold the same options. -/
import Derived.Test.YthallmapddihgaaGreatDoorPOptsx2
import Derived.Test.YthallmapddihgaaGreatDoorPureKit
import Derived.Test.YthallmapddihgaaGreatDoorOptGetAny
namespace Go.Proofs.YthallmapddihgaaGreatDoor.RO
open Go.RowKit Go.Proofs.YthallmapddihgaaGreatDoor.POpts Go.Proofs.YthallmapddihgaaGreatDoorW.PrintWords Go.Proofs.YthallmapddihgaaGreatDoorW.PrintLast Go.Proofs.YthallmapddihgaaGreatDoorW.PrintMore
set_option linter.unusedVariables false
set_option linter.unusedSimpArgs false
def mkB (l : List UInt8) : ByteArray := ⟨l.toArray⟩
theorem mkB_data (l : List UInt8) : (mkB l).data.toList = l := rfl
theorem mkB_self (s : ByteArray) : mkB s.data.toList = s := ByteArray.ext (by unfold mkB; rw [Array.toArray_toList])
theorem ext_list (s : ByteArray) (a b : Nat) : (s.extract a b).data.toList = (s.data.toList.drop a).take (b - a) := by
  rw [ByteArray.data_extract, Array.toList_extract, List.extract_eq_take_drop]
theorem ext_mkB (s : ByteArray) (a b : Nat) : s.extract a b = mkB ((s.data.toList.drop a).take (b - a)) := by
  rw [← mkB_self (s.extract a b), ext_list]
theorem ext_drop (s : ByteArray) (a : Nat) : (s.extract a s.size).data.toList = s.data.toList.drop a := by
  rw [ext_list, List.take_of_length_le]
  rw [List.length_drop, Array.length_toList]; exact Nat.le_refl _
theorem len_size (s : ByteArray) : s.data.toList.length = s.size := by rw [Array.length_toList]; rfl
theorem bt_drop (s : ByteArray) (i : Nat) (t : UInt8) (r : List UInt8) (h : s.data.toList.drop i = t :: r) : bt s (i : Int) = (t.toNat : Int) := by
  have hlt : i < s.data.toList.length := by
    rcases Nat.lt_or_ge i s.data.toList.length with h' | h'
    · exact h'
    · rw [List.drop_eq_nil_of_le h'] at h; cases h
  have hlt' : i < s.size := by rw [← len_size]; exact hlt
  rw [List.drop_eq_getElem_cons hlt] at h
  rw [← bt_at s (i : Int) (by rw [Int.toNat_natCast]; exact hlt')]
  have e : s[i] = t := (List.cons.inj h).1
  show ((s[(i : Int).toNat]'_).toNat : Int) = _
  simp only [Int.toNat_natCast]
  rw [e]
theorem rdT_get (l : List S45) (i : Nat) (h : i < l.length) : rd_T45 l (i : Int) = l[i] := by
  unfold rd_T45
  rw [Int.toNat_natCast, List.getD_eq_getElem?_getD, List.getElem?_eq_getElem h]; rfl
theorem opts_loop (l : List S45) (d : Nat) : ∀ (i k : Nat), i + d = l.length → d < k → l.length ≤ 1000000000 → muleteerlaw1_Opts.l0 k l l (l.length : Int) (i : Int) = some true := by
  induction d with
  | zero =>
    intro i k hi hk _
    obtain ⟨k, rfl⟩ : ∃ j, k = j + 1 := ⟨k - 1, by omega⟩
    simp only [muleteerlaw1_Opts.l0]
    rw [if_neg (by omega)]
  | succ d ih =>
    intro i k hi hk hl
    obtain ⟨k, rfl⟩ : ∃ j, k = j + 1 := ⟨k - 1, by omega⟩
    have e : wrap64 ((i : Int) + 1) = ((i + 1 : Nat) : Int) := by rw [wrap64_eq]; omega
    simp only [muleteerlaw1_Opts.l0]
    rw [if_pos (by omega), if_pos (by omega), if_pos (by omega), if_pos (by omega), rdT_get l i (by omega), beq_self_eq_true, beq_self_eq_true, e]
    exact (if_neg (by simp)).trans (ih (i + 1) k (by omega) (by omega) hl)
theorem opts_same (l : List S45) (k : Nat) (hk : l.length < k) (hl : l.length ≤ 1000000000) : muleteerlaw1_Opts.f k l l = some true := by
  unfold muleteerlaw1_Opts.f
  rw [if_pos rfl]
  exact opts_loop l l.length 0 k (by omega) hk hl
def toS (o : Op) : S45 := ⟨o.typ, o.data⟩
theorem cells_row {w : World} {B : Nat} {A : Option Addr} {l : List Op} (h : CellsAt w B A (ocells l)) (hl : l.length ≤ 1000000000) : Kd.C k45 w A (l.map toS).length (l.map toS) := by
  refine ⟨rfl, by rw [List.length_map]; omega, fun hp => ?_⟩
  rw [List.length_map] at hp
  obtain ⟨ad, e, _, _⟩ := h 0 _ (ocells_at l 0 hp).1
  refine ⟨ad, e, fun j p hj => ?_⟩
  have hjl : j < l.length := by have := (List.getElem?_eq_some_iff.1 hj).1; rwa [List.length_map] at this
  obtain rfl : toS l[j] = p := by rw [List.getElem?_map, List.getElem?_eq_getElem hjl] at hj; exact Option.some.inj hj
  have hat := ocells_at l j hjl
  refine ⟨[.int .i64 l[j].typ, .string l[j].data], rfl, k45_mk _ _, fun i u hu => ?_⟩
  match i, hu with
  | 0, hu =>
    cases hu
    obtain ⟨ad', e', _, hc⟩ := h _ _ hat.1
    rw [e] at e'; cases e'; exact hc
  | 1, hu =>
    cases hu
    obtain ⟨ad', e', _, hc⟩ := h _ _ hat.2
    rw [e] at e'; cases e'; exact hc
theorem law_Opts_same (A0 A1 : Option Addr) (c0 c1 B : Nat) (l : List Op) (w : World) (hl : l.length ≤ 1000000000) (h0 : CellsAt w B A0 (ocells l)) (h1 : CellsAt w B A1 (ocells l)) (hc0 : l.length ≤ c0) (hc1 : l.length ≤ c1) :
    Calls Tryz.prog 34 #[.slice A0 l.length c0, .slice A1 l.length c1] w fun e w' => e = .returned (.bool true) ∧ Drawn0 w w' := by
  have h := muleteerlaw1_Opts.calls (l.length + 1) A0 c0 (l.map toS) A1 c1 (l.map toS) true w (cells_row h0 hl) (by rw [List.length_map]; exact hc0) (cells_row h1 hl) (by rw [List.length_map]; exact hc1) (opts_same _ _ (by rw [List.length_map]; omega) (by rw [List.length_map]; exact hl))
  rw [List.length_map] at h
  exact h
end Go.Proofs.YthallmapddihgaaGreatDoor.RO
