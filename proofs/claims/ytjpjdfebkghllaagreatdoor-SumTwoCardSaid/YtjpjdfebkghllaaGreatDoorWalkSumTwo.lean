/- SumTwo: the walk. -/
import Derived.Test.YtjpjdfebkghllaaGreatDoorRaw
import Derived.Test.YtjpjdfebkghllaaGreatDoorText
import Derived.Test.YtjpjdfebkghllaaGreatDoorBaseA
import Derived.Test.YtjpjdfebkghllaaGreatDoorFits
import Derived.Test.YtjpjdfebkghllaaGreatDoorPureSumTwo
import Derived.Test.YtjpjdfebkghllaaGreatDoorPureKit
import Derived.StillTailTactics
import Derived.Deep.AppendLies
import Derived.Laws.BitsLemmas
import Derived.Deep.DeepCutAuto
import Derived.IntWalk
import Derived.Deep.OwnRows
import Derived.Deep.RegionLaw
import Derived.Deep.CutBlock
namespace Go.Proofs.YtjpjdfebkghllaaGreatDoor
open Go.RowKit
set_option linter.unusedVariables false
set_option linter.unusedSimpArgs false

theorem sum_one (s : ByteArray) (h : s.size ≤ 140737488355328) (W : World) (b : Nat) (hb : W.cell? ⟨b, 0, none⟩ = some (.string s)) :
    Calls Tryz.prog 26 #[.slice (some ⟨b, 0, none⟩) 1 1] W fun e w' => e = .returned (.int .i64 (Sum.sum s.data.toList : Nat)) ∧ W = w' := by
  have h := sum_Of (some ⟨b, 0, none⟩) 1 (b + 1) [s] W (fun k u hu => ⟨_, rfl, by simp, by
    match k, hu with
    | 0, hu => simp at hu; subst hu; exact hb⟩) (by simpa [joined, size_bytes] using h) (by simp)
  rwa [show joined [s] = s.data.toList from by simp [joined]] at h

theorem Raw.swap {w : World} {b : Nat} {l : List Int} (h : Raw w b l) (p q : Nat) (hp : p < l.length) (hq : q < l.length) (u v : Int) (hu : l.getD p default = u) (hv : l.getD q default = v) :
    Raw ((w.setCell ⟨b, p, none⟩ (.int .u8 v)).setCell ⟨b, q, none⟩ (.int .u8 u)).drew b (Sum.swap l p q) := by
  subst hu; subst hv
  exact ((h.setCell p hp _).setCell q (by simpa using hq) _).drew
theorem Below.swap {B b : Nat} {w w' : World} (h : Below B w w') (hB : B ≤ b) (p q : Nat) (u v : Value) : Below B w ((w'.setCell ⟨b, p, none⟩ v).setCell ⟨b, q, none⟩ u).drew :=
  ((h.setCell (p := ⟨b, p, none⟩) hB v).setCell (p := ⟨b, q, none⟩) hB u).drew

attribute [local go_sem] RawS.alloc RawS.alloc2 RawS.drew
set_option maxHeartbeats 4000000 in
set_option maxRecDepth 100000 in
theorem SumTwo_walk (HB0 : ∀ W : World, Calls Tryz.prog 10 #[] W fun e w' => e = .returned (.bool true) ∧ Below W.heap.size W w') (s : ByteArray) (i j : Int) (w : World) (hs : s.size ≤ 140737488351232) (hi0 : -9223372036854775808 ≤ i) (hi1 : i ≤ 9223372036854775807) (hj0 : -9223372036854775808 ≤ j) (hj1 : j ≤ 9223372036854775807) :
    Calls Tryz.prog 9 #[.string s, .int .i64 i, .int .i64 j] w fun e w' => e = .returned (.bool true) ∧ Below w.heap.size w w' := by
  have HB := hide HB0
  have HT := hide (fun W : World => law_Text s 200 W hs)
  obtain ⟨t, ht⟩ : ∃ t, s.extract 0 (min s.size 200) = t := ⟨_, rfl⟩
  have ht3 : t.size ≤ 200 := by rw [← ht, ByteArray.size_extract]; omega
  rw [ht] at HT
  clear ht HB0
  replace HT : Hid (∀ W : World, Calls Tryz.prog 11 #[.string s, .int .i64 200] W fun e w' => e = .returned (.string t) ∧ W = w') := HT
  obtain ⟨b, hbb⟩ : ∃ b, t.extract 0 (t.size / 2 * 2) = b := ⟨_, rfl⟩
  have hbs : b.size = t.size / 2 * 2 := by rw [← hbb, ByteArray.size_extract]; omega
  have hbe : b.size % 2 = 0 := by omega
  have hb3 : b.size ≤ 200 := by omega
  go_enter Tryz.func9, Tryz.ntmps9
  go_upto_region 6 with (first | (go_at_call 10; refine (HB.out _).mono ?_; rintro e w1 ⟨rfl, hb1⟩) | (go_at_call 11; refine (HT.out _).mono ?_; rintro e w2 ⟨rfl, rfl⟩))
  simp only [hbb]
  clear hbb
  obtain ⟨n, hn⟩ : ∃ n : Nat, t.size / 2 = n := ⟨_, rfl⟩
  have hn2 : (t.size : Int) / 2 = (n : Int) := by omega
  have hn200 : n ≤ 100 := by omega
  by_cases h0 : n = 0
  · have hdat : b.data.toList = [] := by
      have := size_bytes b
      exact List.eq_nil_of_length_eq_zero (by omega)
    subst h0
    have PT0 := sum_one ⟨#[255, 255]⟩ (by decide)
    rw [show Sum.sum (ByteArray.mk #[255, 255]).data.toList = 0 from by decide] at PT0
    have PT := hide PT0
    clear PT0 hdat
    go_wp2_with (go_at_call 26; refine (PT.out _ _ (cell_new _ _ _ _ _ _ rfl)).mono ?_; rintro e w2 ⟨rfl, rfl⟩)
    go_ret
    exact ⟨rfl, hb1.alloc hb1.size _⟩
  · have h0' : 0 < n := by omega
    have h00 : ((n : Int) == 0) = false := beq_eq_false_iff_ne.2 (by omega)
    clear h0
    go_upto_region 9 with fail
    go_region
    obtain ⟨a, ha, ea⟩ : ∃ m : Nat, m < n ∧ (wrap64 (i.tmod (n : Int) + (n : Int))).tmod (n : Int) = (m : Int) := by
      obtain ⟨h1, h2⟩ := tmod_pos i n (by omega) (by omega)
      exact ⟨_, by omega, (Int.toNat_of_nonneg h1).symm⟩
    obtain ⟨c, hc, ec⟩ : ∃ m : Nat, m < n ∧ (wrap64 (j.tmod (n : Int) + (n : Int))).tmod (n : Int) = (m : Int) := by
      obtain ⟨h1, h2⟩ := tmod_pos j n (by omega) (by omega)
      exact ⟨_, by omega, (Int.toNat_of_nonneg h1).symm⟩
    rw [ea, ec]
    clear ea ec
    generalize hw2 : w1.drew = w2
    have hb2 : Below w.heap.size w w2 := by rw [← hw2]; exact hb1.drew
    clear hw2 hb1
    go_upto_region 11 with (refine wpList_bytes_of rfl (.tmp 44) rfl b rfl ?_; intro cap w3 hraw hb3' hsz3)
    have hl : (b.data.toList.map fun c => (c.toNat : Int)).length = b.size := by simp
    generalize hL : (b.data.toList.map fun c => (c.toNat : Int)) = L at *
    obtain ⟨p, hp⟩ : ∃ p : Nat, 2 * a = p := ⟨_, rfl⟩
    obtain ⟨q, hq⟩ : ∃ q : Nat, 2 * c = q := ⟨_, rfl⟩
    have ep : IntKind.i64.wrap (2 * (a : Int)) = (p : Int) := by rw [IntWalk.i64_in _ (by omega)]; omega
    have eq : IntKind.i64.wrap (2 * (c : Int)) = (q : Int) := by rw [IntWalk.i64_in _ (by omega)]; omega
    have ep2 : 2 * (a : Int) = (p : Int) := by omega
    have eq2 : 2 * (c : Int) = (q : Int) := by omega
    obtain ⟨p1, hp1⟩ : ∃ m : Nat, p + 1 = m := ⟨_, rfl⟩
    obtain ⟨q1, hq1⟩ : ∃ m : Nat, q + 1 = m := ⟨_, rfl⟩
    have ep3 : IntKind.i64.wrap ((p : Int) + 1) = (p1 : Int) := by rw [IntWalk.i64_in _ (by omega)]; omega
    have eq3 : IntKind.i64.wrap ((q : Int) + 1) = (q1 : Int) := by rw [IntWalk.i64_in _ (by omega)]; omega
    have ep4 : (p : Int) + 1 = (p1 : Int) := by omega
    have eq4 : (q : Int) + 1 = (q1 : Int) := by omega
    have hpL : p < L.length := by omega
    have hqL : q < L.length := by omega
    have hpL1 : p1 < L.length := by omega
    have hqL1 : q1 < L.length := by omega
    have hpb : (p : Int) < (b.size : Int) := by omega
    have hqb : (q : Int) < (b.size : Int) := by omega
    have hpb1 : (p1 : Int) < (b.size : Int) := by omega
    have hqb1 : (q1 : Int) < (b.size : Int) := by omega
    have hsum := Sum.sum_swaps b a c (by omega) (by omega)
    rw [hL, hp, hq, hp1, hq1] at hsum
    have hblk : w.heap.size ≤ w2.heap.size := hb2.size
    have hb3 := hb2.trans (hb3'.mono hb2.size)
    clear hb3' hsz3
    obtain ⟨u, hu⟩ : ∃ u, L.getD p default = u := ⟨_, rfl⟩
    have cu : w3.cell? ⟨w2.heap.size, p, none⟩ = some (.int .u8 u) := by rw [hraw.cell p hpL, ← hu]; simp [hpL]
    have fu := hraw.frozen p hpL
    by_cases hac : a = c
    case' pos =>
      subst hac
      have e : p = q := by omega
      subst e
      have e : p1 = q1 := by omega
      subst e
      clear eq eq2 hqL hqb eq3 eq4 hqL1 hqb1
      go_region
      have hraw4 := hraw.swap p p hpL hpL u u hu hu
      have hb4 := Below.swap hb3 hblk p p (.int .u8 u) (.int .u8 u)
      generalize ((w3.setCell { block := w2.heap.size, off := p } (Value.int IntKind.u8 u)).setCell { block := w2.heap.size, off := p } (Value.int IntKind.u8 u)).drew = w4 at *
      obtain ⟨L2, hL2⟩ : ∃ M, Sum.swap L p p = M := ⟨_, rfl⟩
      have hl2 : L2.length = L.length := by rw [← hL2]; exact Sum.swap_length _ _ _
      rw [hL2] at hraw4 hsum
      clear cu fu hu hraw hb3
      obtain ⟨u2, hu⟩ : ∃ u, L2.getD p1 default = u := ⟨_, rfl⟩
      have hpM : p1 < L2.length := by omega
      have cu : w4.cell? ⟨w2.heap.size, p1, none⟩ = some (.int .u8 u2) := by rw [hraw4.cell p1 hpM, ← hu]; simp [hpM]
      have fu := hraw4.frozen p1 hpM
      go_upto_region 12 with fail
      go_region
      have hraw5 := hraw4.swap p1 p1 hpM hpM u2 u2 hu hu
      have hb5 := Below.swap hb4 hblk p1 p1 (.int .u8 u2) (.int .u8 u2)
      generalize ((w4.setCell { block := w2.heap.size, off := p1 } (Value.int IntKind.u8 u2)).setCell { block := w2.heap.size, off := p1 } (Value.int IntKind.u8 u2)).drew = w5 at *
      generalize hU : strOfNums (Sum.swap L2 p1 p1) = U at *
      have HR : RawS w5 w2.heap.size (n * 2) U := ⟨_, hraw5, by rw [Sum.swap_length]; omega, hU⟩
      have hUs : U.size = b.size := by rw [← hU, strOfNums_size, Sum.swap_length]; omega
      clear hraw5 hraw4 hb4
    case' neg =>
      obtain ⟨v, hv⟩ : ∃ v, L.getD q default = v := ⟨_, rfl⟩
      have cv : w3.cell? ⟨w2.heap.size, q, none⟩ = some (.int .u8 v) := by rw [hraw.cell q hqL, ← hv]; simp [hqL]
      have fv := hraw.frozen q hqL
      have npq : p ≠ q := by omega
      have nqp : q ≠ p := by omega
      go_region
      have hraw4 := hraw.swap p q hpL hqL u v hu hv
      have hb4 := Below.swap hb3 hblk p q (.int .u8 u) (.int .u8 v)
      generalize ((w3.setCell { block := w2.heap.size, off := p } (Value.int IntKind.u8 v)).setCell { block := w2.heap.size, off := q } (Value.int IntKind.u8 u)).drew = w4 at *
      obtain ⟨L2, hL2⟩ : ∃ M, Sum.swap L p q = M := ⟨_, rfl⟩
      have hl2 : L2.length = L.length := by rw [← hL2]; exact Sum.swap_length _ _ _
      rw [hL2] at hraw4 hsum
      clear cu fu hu cv fv hv hraw hb3
      obtain ⟨u2, hu⟩ : ∃ u, L2.getD p1 default = u := ⟨_, rfl⟩
      obtain ⟨v2, hv⟩ : ∃ u, L2.getD q1 default = u := ⟨_, rfl⟩
      have hpM : p1 < L2.length := by omega
      have hqM : q1 < L2.length := by omega
      have cu : w4.cell? ⟨w2.heap.size, p1, none⟩ = some (.int .u8 u2) := by rw [hraw4.cell p1 hpM, ← hu]; simp [hpM]
      have fu := hraw4.frozen p1 hpM
      have cv : w4.cell? ⟨w2.heap.size, q1, none⟩ = some (.int .u8 v2) := by rw [hraw4.cell q1 hqM, ← hv]; simp [hqM]
      have fv := hraw4.frozen q1 hqM
      have npq1 : p1 ≠ q1 := by omega
      have nqp1 : q1 ≠ p1 := by omega
      go_upto_region 12 with fail
      go_region
      have hraw5 := hraw4.swap p1 q1 hpM hqM u2 v2 hu hv
      have hb5 := Below.swap hb4 hblk p1 q1 (.int .u8 u2) (.int .u8 v2)
      generalize ((w4.setCell { block := w2.heap.size, off := p1 } (Value.int IntKind.u8 v2)).setCell { block := w2.heap.size, off := q1 } (Value.int IntKind.u8 u2)).drew = w5 at *
      generalize hU : strOfNums (Sum.swap L2 p1 q1) = U at *
      have HR : RawS w5 w2.heap.size (n * 2) U := ⟨_, hraw5, by rw [Sum.swap_length]; omega, hU⟩
      have hUs : U.size = b.size := by rw [← hU, strOfNums_size, Sum.swap_length]; omega
      clear hraw5 hraw4 hb4
    all_goals
      have hrun : ∀ W, RawS W w2.heap.size (n * 2) U → (convert 30 9 (.slice (some ⟨w2.heap.size, 0, none⟩) (n * 2) cap)).run Tryz.prog W = .ok (.string U) W := fun W h => raw_run h
      have hff := Sum.sum_fits b hbe
      have hones := Sum.sum_ones b (ByteArray.mk #[255, 255]).data.toList rfl hbe
      have hX := Sum.sum_le b.data.toList
      have PB0 := sum_one b (by omega)
      have PU0 := sum_one U (by omega)
      have PF0 := Fits_walk b hbe (by omega) (Sum.sum b.data.toList) hX
      have P20 := sum_two b ⟨#[255, 255]⟩ (by have : (ByteArray.mk #[255, 255]).size = 2 := rfl; omega)
      rw [hsum] at PU0
      rw [hff] at PF0
      generalize Sum.sum (b.data.toList ++ (ByteArray.mk #[255, 255]).data.toList) = Z at *
      generalize Sum.sum b.data.toList = X at *
      have PB := hide PB0; have PU := hide PU0; have PF := hide PF0; have P2 := hide P20
      clear PB0 PU0 PF0 P20 hff hsum
      go_upto_region 14 with (first | (go_at_call 26; refine (PB.out _ _ (cell_new _ _ _ _ _ _ rfl)).mono ?_; rintro e w6 ⟨rfl, hw6⟩))
      have HR6 : RawS w6 w2.heap.size (n * 2) U := by rw [← hw6]; exact HR.alloc _
      have hb6 : Below w.heap.size w w6 := by rw [← hw6]; exact hb5.alloc hb5.size _
      clear hw6 HR hb5
      have H6 := hide hb6
      clear hb6
      by_cases hx : X = 65535
      · have e65 : ((X : Int) == 65535) = true := beq_iff_eq.2 (by omega)
        clear hones hx
        go_wp2_with fail
        refine (PU.out _ _ ?hc).mono ?_
        case hc => exact cell_new _ _ _ _ _ _ rfl
        rintro e w7 ⟨rfl, rfl⟩
        go_wp2_with fail
        refine (PF.out _ _ ?hc).mono ?_
        case hc => exact cell_new2 _ _ _ _ _ _ _ rfl
        rintro e w8 ⟨rfl, hb8⟩
        go_wp2
        go_ret
        have h7 := (H6.out.alloc H6.out.size (Obj.cells #[Value.string U] 9))
        have h8 := h7.alloc h7.size (Obj.cells #[Value.string b] 9)
        exact ⟨rfl, h8.trans (hb8.mono h8.size)⟩
      · have e65 : ((X : Int) == 65535) = false := beq_eq_false_iff_ne.2 (by omega)
        have hz : Z = X := hones hx
        subst hz
        clear hones hx
        go_wp2_with fail
        refine (PU.out _ _ ?hc).mono ?_
        case hc => exact cell_new _ _ _ _ _ _ rfl
        rintro e w7 ⟨rfl, rfl⟩
        go_wp2_with fail
        refine (PF.out _ _ ?hc).mono ?_
        case hc => exact cell_new2 _ _ _ _ _ _ _ rfl
        rintro e w8 ⟨rfl, hb8⟩
        go_wp2_with fail
        refine (P2.out _ _ ?hc ?hd).mono ?_
        case hc => exact cell_new _ _ _ _ _ _ rfl
        case hd => exact cell_new _ _ _ _ _ _ rfl
        rintro e w9 ⟨rfl, rfl⟩
        go_wp2
        go_ret
        have h7 := (H6.out.alloc H6.out.size (Obj.cells #[Value.string U] 9))
        have h8 := h7.alloc h7.size (Obj.cells #[Value.string b] 9)
        have h9 := h8.trans (hb8.mono h8.size)
        exact ⟨rfl, h9.alloc h9.size _⟩
end Go.Proofs.YtjpjdfebkghllaaGreatDoor
