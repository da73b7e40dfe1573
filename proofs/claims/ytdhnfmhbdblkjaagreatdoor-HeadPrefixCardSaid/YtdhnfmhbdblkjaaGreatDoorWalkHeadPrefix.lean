/- HeadPrefix: the walk, by hand (printed by wip/gen/mk_hprefix.py): a head whose end is cut off is too short, wherever. -/
import Derived.Test.YtdhnfmhbdblkjaaGreatDoorRefMay
import Derived.Test.YtdhnfmhbdblkjaaGreatDoorBaseD
import Derived.Test.YtdhnfmhbdblkjaaGreatDoorPureKit
import Derived.StillTailTactics
import Derived.Laws.StructEq
namespace Go.Proofs.YtdhnfmhbdblkjaaGreatDoor
open Go.RowKit Go.Proofs.YtdhnfmhbdblkjaaGreatDoorW.PrintWords
set_option linter.unusedVariables false
set_option linter.unusedSimpArgs false
namespace HPre
theorem obind {α β : Type} {x : Option α} {a : α} {f : α → Option β} {r : Option β} (h : x = some a) (k : f a = r) : x.bind f = r := by subst h; exact k
def mkB (l : List UInt8) : ByteArray := ⟨l.toArray⟩
theorem mkB_data (l : List UInt8) : (mkB l).data.toList = l := rfl
theorem mkB_self (s : ByteArray) : mkB s.data.toList = s := ByteArray.ext (by unfold mkB; rw [Array.toArray_toList])
theorem ext_list (s : ByteArray) (a b : Nat) : (s.extract a b).data.toList = (s.data.toList.drop a).take (b - a) := by
  rw [ByteArray.data_extract, Array.toList_extract, List.extract_eq_take_drop]
theorem ext_mkB (s : ByteArray) (a b : Nat) : s.extract a b = mkB ((s.data.toList.drop a).take (b - a)) := by
  rw [← mkB_self (s.extract a b), ext_list]
theorem ext_drop (s : ByteArray) (a : Nat) : (s.extract a s.size).data.toList = s.data.toList.drop a := by
  rw [ext_list, List.take_of_length_le]
  rw [List.length_drop, Array.length_toList]; exact Nat.le_refl _
theorem len_size (s : ByteArray) : s.data.toList.length = s.size := by rw [Array.length_toList]; rfl
theorem bt_drop (s : ByteArray) (i : Nat) (t : UInt8) (r : List UInt8) (h : s.data.toList.drop i = t :: r) : bt s (i : Int) = (t.toNat : Int) := by
  have hlt : i < s.data.toList.length := by
    rcases Nat.lt_or_ge i s.data.toList.length with h' | h'
    · exact h'
    · rw [List.drop_eq_nil_of_le h'] at h; cases h
  have hlt' : i < s.size := by rw [← len_size]; exact hlt
  rw [List.drop_eq_getElem_cons hlt] at h
  rw [← bt_at s (i : Int) (by rw [Int.toNat_natCast]; exact hlt')]
  have e : s[i] = t := (List.cons.inj h).1
  show ((s[(i : Int).toNat]'_).toNat : Int) = _
  simp only [Int.toNat_natCast]
  rw [e]
theorem byte8 (h : Hd) (ht : 0 ≤ h.typ ∧ h.typ ≤ 9) : byteAt (hdBytes h) 8 = h.typ.toNat * 2 + (if h.x then 1 else 0) := by
  unfold hdBytes byteAt hb1 hb2
  rw [strOfNums_data]
  obtain ⟨src, dst, off, cc, cs, sum, typ, x, seq, ack, serv, code, i0, i1, i2⟩ := h
  dsimp only at ht ⊢
  simp only [Go.Proofs.YtdhnfmhbdblkjaaGreatDoor.be, List.cons_append, List.nil_append, List.append_assoc, List.map_cons]
  cases x
  · show (UInt8.ofNat ((typ.toNat * 2 : Nat) : Int).toNat).toNat = typ.toNat * 2 + 0
    rw [Int.toNat_natCast, UInt8.toNat_ofNat']; omega
  · show (UInt8.ofNat ((typ.toNat * 2 + 1 : Nat) : Int).toNat).toNat = typ.toNat * 2 + 1
    rw [Int.toNat_natCast, UInt8.toNat_ofNat']; omega
theorem head_len (h : Hd) (hm : mayB h = true) : ((hdBytes h).size : Int) = sizeB h.typ h.x ∧ 12 ≤ (hdBytes h).size := by
  have hb := may_bounds hm
  obtain ⟨z, hz, _⟩ := size_four h.typ h.x
  have hne : sizeB h.typ h.x ≠ 0 := by
    intro h0
    unfold mayB at hm
    rw [h0] at hm
    simp at hm
  have h2 := hb_len h.src.toNat h.dst.toNat h.off.toNat h.cc.toNat h.cs.toNat h.sum.toNat h.typ.toNat h.x h.seq.toNat h.ack.toNat h.serv.toNat h.code.toNat h.i0.toNat h.i1.toNat h.i2.toNat z (by omega) (by rw [← hz]; congr 1; omega) (by omega)
  have e : (hdBytes h).size = 4 * z := h2
  rw [hz]
  refine ⟨by omega, ?_⟩
  have : 12 ≤ sizeB h.typ h.x := by
    unfold sizeB at hne ⊢
    split
    · rename_i hc; rw [if_pos hc] at hne; exact absurd rfl hne
    · cases h.x <;> simp <;> split <;> split <;> omega
  omega
theorem byteAt_ext (s : ByteArray) (m i : Nat) (h : i < m) : byteAt (s.extract 0 m) i = byteAt s i := by
  unfold byteAt
  rw [ext_list, List.drop_zero, Nat.sub_zero, List.getD_eq_getElem?_getD, List.getD_eq_getElem?_getD, List.getElem?_take_of_lt h]
/-- a head whose end is cut off. -/
theorem cut_short (h : Hd) (hm : mayB h = true) (m : Nat) (hlt : m < (hdBytes h).size) : getH ((hdBytes h).extract 0 m) = (hd0, 1) := by
  have hb := may_bounds hm
  obtain ⟨hl, h12⟩ := head_len h hm
  have hz : ((hdBytes h).extract 0 m).size = m := by rw [ByteArray.size_extract]; omega
  unfold getH
  rw [hz]
  by_cases c : m < 12
  · rw [if_pos c]
  rw [if_neg c]
  have h8 := byte8 h (by omega)
  have hT : getT ((hdBytes h).extract 0 m) = h.typ.toNat := by
    unfold getT; rw [byteAt_ext _ _ _ (by omega), h8]; split <;> omega
  have hX : getX ((hdBytes h).extract 0 m) = h.x := by
    unfold getX; rw [byteAt_ext _ _ _ (by omega), h8]
    cases h.x
    · rw [if_neg Bool.false_ne_true, beq_eq_false_iff_ne]; omega
    · rw [if_pos rfl, beq_iff_eq]; omega
  have ht : ((h.typ.toNat : Nat) : Int) = h.typ := by omega
  rw [hT, hX, ht]
  have hi : isB h.typ = true := by unfold isB; exact decide_eq_true (by omega)
  rw [hi, if_neg (by simp), if_neg (by omega), if_pos (by omega)]
end HPre
open HPre
set_option maxHeartbeats 8000000 in
set_option maxRecDepth 100000 in
theorem HeadPrefix_walk (HB0 : ∀ W : World, Calls Tryz.prog 12 #[] W fun e w' => e = .returned (.bool true) ∧ Below W.heap.size W w')
    (h : Hd) (hk : okH h = true) (cut : Int) (w : World) (c0 : -9223372036854775808 ≤ cut) (c1 : cut ≤ 9223372036854775807) :
    Calls Tryz.prog 4 #[h.val, .int .i64 cut] w fun e w' => e = .returned (.bool true) ∧ Below w.heap.size w w' := by
  have hp := fun W => head_Put_any h hk W
  have hr := fun W => ref_MayHead h W
  have hput : (mayB h = true ∧ putH h = hdBytes h ∧ ((hdBytes h).size : Int) = sizeB h.typ h.x ∧ 12 ≤ (hdBytes h).size ∧ ∀ m, m < (hdBytes h).size → getH ((hdBytes h).extract 0 m) = (hd0, 1)) ∨ (mayB h = false ∧ putH h = ⟨#[]⟩) := by
    rcases hm : mayB h with _ | _
    · exact .inr ⟨rfl, if_neg (by rw [hm]; decide)⟩
    · have hl := head_len h hm
      exact .inl ⟨rfl, if_pos hm, hl.1, hl.2, fun m h1 => cut_short h hm m h1⟩
  have hz := sizeB_le h.typ h.x
  obtain ⟨src, dst, off, cc, cs, sum, typ, x, seq, ack, serv, code, i0, i1, i2⟩ := h
  rw [Hd.val_mk] at *
  generalize mayB ⟨src, dst, off, cc, cs, sum, typ, x, seq, ack, serv, code, i0, i1, i2⟩ = may at *
  generalize putH ⟨src, dst, off, cc, cs, sum, typ, x, seq, ack, serv, code, i0, i1, i2⟩ = p at *
  generalize hdBytes ⟨src, dst, off, cc, cs, sum, typ, x, seq, ack, serv, code, i0, i1, i2⟩ = q at *
  have HB := hide HB0; have HP := hide hp; have HR := hide hr; have HQ := hide hput
  clear HB0 hp hr hput hk
  have h9 : ∀ W : World, (Op.equalIn 9999 24 (.agg #[.int .u8 0, .int .u8 0, .int .u8 0]) (.agg #[.int .u8 0, .int .u8 0, .int .u8 0])).run Tryz.prog W = .ok true W := fun W => by rw [show (9999 : Nat) = 9997 + 2 from rfl, eq_three]; simp
  have H9 := hide h9
  clear h9
  go_enter Tryz.func4, Tryz.ntmps4
  go_wp2_with fail
  refine (HB.out _).mono ?_
  rintro e w1 ⟨rfl, hb1⟩
  have m0 : w1.cell? ⟨w.heap.size, 0, none⟩ = some (.int .i64 src) := (hb1.cell (by simp)).trans (by rw [World.cell?_alloc_at _ _ _ _ rfl]; rfl)
  have m1 : w1.cell? ⟨w.heap.size, 1, none⟩ = some (.int .i64 dst) := (hb1.cell (by simp)).trans (by rw [World.cell?_alloc_at _ _ _ _ rfl]; rfl)
  have m2 : w1.cell? ⟨w.heap.size, 2, none⟩ = some (.int .i64 off) := (hb1.cell (by simp)).trans (by rw [World.cell?_alloc_at _ _ _ _ rfl]; rfl)
  have m3 : w1.cell? ⟨w.heap.size, 3, none⟩ = some (.int .i64 cc) := (hb1.cell (by simp)).trans (by rw [World.cell?_alloc_at _ _ _ _ rfl]; rfl)
  have m4 : w1.cell? ⟨w.heap.size, 4, none⟩ = some (.int .i64 cs) := (hb1.cell (by simp)).trans (by rw [World.cell?_alloc_at _ _ _ _ rfl]; rfl)
  have m5 : w1.cell? ⟨w.heap.size, 5, none⟩ = some (.int .i64 sum) := (hb1.cell (by simp)).trans (by rw [World.cell?_alloc_at _ _ _ _ rfl]; rfl)
  have m6 : w1.cell? ⟨w.heap.size, 6, none⟩ = some (.int .i64 typ) := (hb1.cell (by simp)).trans (by rw [World.cell?_alloc_at _ _ _ _ rfl]; rfl)
  have m7 : w1.cell? ⟨w.heap.size, 7, none⟩ = some (.bool x) := (hb1.cell (by simp)).trans (by rw [World.cell?_alloc_at _ _ _ _ rfl]; rfl)
  have m8 : w1.cell? ⟨w.heap.size, 8, none⟩ = some (.int .u64 seq) := (hb1.cell (by simp)).trans (by rw [World.cell?_alloc_at _ _ _ _ rfl]; rfl)
  have m9 : w1.cell? ⟨w.heap.size, 9, none⟩ = some (.int .u64 ack) := (hb1.cell (by simp)).trans (by rw [World.cell?_alloc_at _ _ _ _ rfl]; rfl)
  have m10 : w1.cell? ⟨w.heap.size, 10, none⟩ = some (.int .u32 serv) := (hb1.cell (by simp)).trans (by rw [World.cell?_alloc_at _ _ _ _ rfl]; rfl)
  have m11 : w1.cell? ⟨w.heap.size, 11, none⟩ = some (.int .i64 code) := (hb1.cell (by simp)).trans (by rw [World.cell?_alloc_at _ _ _ _ rfl]; rfl)
  have m12 : w1.cell? ⟨w.heap.size, 12, none⟩ = some (.int .u8 i0) := (hb1.cell (by simp)).trans (by rw [World.cell?_alloc_at _ _ _ _ rfl]; rfl)
  have m13 : w1.cell? ⟨w.heap.size, 13, none⟩ = some (.int .u8 i1) := (hb1.cell (by simp)).trans (by rw [World.cell?_alloc_at _ _ _ _ rfl]; rfl)
  have m14 : w1.cell? ⟨w.heap.size, 14, none⟩ = some (.int .u8 i2) := (hb1.cell (by simp)).trans (by rw [World.cell?_alloc_at _ _ _ _ rfl]; rfl)
  have hz1 : w.heap.size + 1 ≤ w1.heap.size := by have := hb1.size; simpa using this
  have HBw := hide ((((Below.refl _ _).alloc (Nat.le_refl _) _).trans (hb1.mono (by simp)) : Below w.heap.size w w1))
  clear hb1
  go_wp2_with fail
  refine (HP.out _).mono ?_
  rintro e w2 ⟨rfl, hb2⟩
  have hlt : ∀ o, (⟨w.heap.size, o, none⟩ : Addr).block < w1.heap.size := fun o => by show w.heap.size < _; omega
  have hbw2 := HBw.out.trans (hb2.mono HBw.out.size)
  have HBw2 := hide hbw2
  have hz2 : w1.heap.size ≤ w2.heap.size := hb2.size
  rcases HQ.out with ⟨rfl, rfl, q1, q2, q3⟩ | ⟨rfl, rfl⟩
  · clear HQ HP HR m0 m1 m2 m3 m4 m5 m6 m7 m8 m9 m10 m11 m12 m13 m14 hb2 hbw2 hlt
    have hs : p.size ≤ 28 := by omega
    have hn := tmod_pos cut p.size (by omega) (by omega)
    obtain ⟨m, em⟩ : ∃ m : Nat, (wrap64 (cut.tmod (p.size : Int) + (p.size : Int))).tmod (p.size : Int) = (m : Int) := ⟨_, (Int.toNat_of_nonneg hn.1).symm⟩
    rw [em] at hn
    have hm2 : m < p.size := by omega
    have e0 : ((p.size : Int) == 0) = false := beq_eq_false_iff_ne.2 (by omega)
    have g0 := fun W => head_Get (p.extract 0 m) (by rw [ByteArray.size_extract]; omega) W
    simp only [q3 m hm2, hd0_val] at g0
    have hmi : (m : Int) ≤ (p.size : Int) := by omega
    have HG := hide g0
    clear g0 q3 q1 q2 hn
    go_wp2_with fail
    refine (HG.out _).mono ?_
    rintro e w3 ⟨rfl, hb3⟩
    have HB3 := hide (HBw2.out.trans (hb3.mono HBw2.out.size))
    have h9 := H9.out
    clear hb3 H9
    go_wp2
    go_ret
    exact ⟨rfl, by repeat (first | exact HB3.out | (refine Below.alloc ?_ (by have := HB3.out.size; omega) _))⟩
  · clear HQ HP
    have k0 : w2.cell? ⟨w.heap.size, 0, none⟩ = some (.int .i64 src) := (hb2.cell (hlt 0)).trans m0
    have k1 : w2.cell? ⟨w.heap.size, 1, none⟩ = some (.int .i64 dst) := (hb2.cell (hlt 1)).trans m1
    have k2 : w2.cell? ⟨w.heap.size, 2, none⟩ = some (.int .i64 off) := (hb2.cell (hlt 2)).trans m2
    have k3 : w2.cell? ⟨w.heap.size, 3, none⟩ = some (.int .i64 cc) := (hb2.cell (hlt 3)).trans m3
    have k4 : w2.cell? ⟨w.heap.size, 4, none⟩ = some (.int .i64 cs) := (hb2.cell (hlt 4)).trans m4
    have k5 : w2.cell? ⟨w.heap.size, 5, none⟩ = some (.int .i64 sum) := (hb2.cell (hlt 5)).trans m5
    have k6 : w2.cell? ⟨w.heap.size, 6, none⟩ = some (.int .i64 typ) := (hb2.cell (hlt 6)).trans m6
    have k7 : w2.cell? ⟨w.heap.size, 7, none⟩ = some (.bool x) := (hb2.cell (hlt 7)).trans m7
    have k8 : w2.cell? ⟨w.heap.size, 8, none⟩ = some (.int .u64 seq) := (hb2.cell (hlt 8)).trans m8
    have k9 : w2.cell? ⟨w.heap.size, 9, none⟩ = some (.int .u64 ack) := (hb2.cell (hlt 9)).trans m9
    have k10 : w2.cell? ⟨w.heap.size, 10, none⟩ = some (.int .u32 serv) := (hb2.cell (hlt 10)).trans m10
    have k11 : w2.cell? ⟨w.heap.size, 11, none⟩ = some (.int .i64 code) := (hb2.cell (hlt 11)).trans m11
    have k12 : w2.cell? ⟨w.heap.size, 12, none⟩ = some (.int .u8 i0) := (hb2.cell (hlt 12)).trans m12
    have k13 : w2.cell? ⟨w.heap.size, 13, none⟩ = some (.int .u8 i1) := (hb2.cell (hlt 13)).trans m13
    have k14 : w2.cell? ⟨w.heap.size, 14, none⟩ = some (.int .u8 i2) := (hb2.cell (hlt 14)).trans m14
    clear hb2 hbw2 hlt m0 m1 m2 m3 m4 m5 m6 m7 m8 m9 m10 m11 m12 m13 m14
    go_wp2_with fail
    refine (HR.out _).mono ?_
    rintro e w3 ⟨rfl, hb3⟩
    have HB3 := hide (HBw2.out.trans (hb3.mono HBw2.out.size))
    clear hb3
    go_wp2
    go_ret
    exact ⟨rfl, HB3.out⟩
end Go.Proofs.YtdhnfmhbdblkjaaGreatDoor
