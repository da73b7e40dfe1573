/- SumBit: the walk. -/
import Derived.Test.YtdhnfmhbdblkjaaDoorRaw
import Derived.Test.YtdhnfmhbdblkjaaDoorText
import Derived.Test.YtdhnfmhbdblkjaaDoorBaseA
import Derived.Test.YtdhnfmhbdblkjaaDoorTurn
import Derived.Test.YtdhnfmhbdblkjaaDoorPureKit
import Derived.StillTailTactics
import Derived.Deep.AppendLies
import Derived.Laws.BitsLemmas
import Derived.Deep.DeepCutAuto
import Derived.IntWalk
import Derived.Deep.OwnRows
import Derived.Deep.RegionLaw
import Derived.Deep.CutBlock
namespace Go.Proofs.YtdhnfmhbdblkjaaDoor
open Go.RowKit
set_option linter.unusedVariables false
set_option linter.unusedSimpArgs false

theorem sum_one (s : ByteArray) (h : s.size ≤ 140737488355328) (W : World) (b : Nat) (hb : W.cell? ⟨b, 0, none⟩ = some (.string s)) :
    Calls Tryd.prog 12 #[.slice (some ⟨b, 0, none⟩) 1 1] W fun e w' => e = .returned (.int .i64 (Sum.sum s.data.toList : Nat)) ∧ W = w' := by
  have h := sum_Of (some ⟨b, 0, none⟩) 1 (b + 1) [s] W (fun k u hu => ⟨_, rfl, by simp, by
    match k, hu with
    | 0, hu => simp at hu; subst hu; exact hb⟩) (by simpa [joined, size_bytes] using h) (by simp)
  rwa [show joined [s] = s.data.toList from by simp [joined]] at h

attribute [local go_sem] RawS.alloc RawS.alloc2 RawS.drew
set_option maxHeartbeats 4000000 in
set_option maxRecDepth 100000 in
theorem SumBit_walk (HB0 : ∀ W : World, Calls Tryd.prog 6 #[] W fun e w' => e = .returned (.bool true) ∧ Below W.heap.size W w') (s : ByteArray) (n : Int) (w : World) (hs : s.size ≤ 140737488351232) (hn0 : -9223372036854775808 ≤ n) (hn1 : n ≤ 9223372036854775807) :
    Calls Tryd.prog 5 #[.string s, .int .i64 n] w fun e w' => e = .returned (.bool true) ∧ Below w.heap.size w w' := by
  have HB := hide HB0
  have HT := hide (fun W : World => law_Text s 300 W hs)
  obtain ⟨t, ht⟩ : ∃ t, s.extract 0 (min s.size 300) = t := ⟨_, rfl⟩
  have ht3 : t.size ≤ 300 := by rw [← ht, ByteArray.size_extract]; omega
  rw [ht] at HT
  clear ht HB0
  replace HT : Hid (∀ W : World, Calls Tryd.prog 8 #[.string s, .int .i64 300] W fun e w' => e = .returned (.string t) ∧ W = w') := HT
  by_cases h0 : t.size = 0
  · have hdat : t.data.toList = [] := by
      have := size_bytes t
      exact List.eq_nil_of_length_eq_zero (by omega)
    have e0 : ((t.size : Int) == 0) = true := beq_iff_eq.2 (by omega)
    have PT0 := sum_one t (by omega)
    rw [hdat, show (Sum.sum [] : Nat) = 65535 from by decide] at PT0
    have PT := hide PT0
    clear PT0 hdat h0
    go_enter Tryd.func5, Tryd.ntmps5
    go_wp2_with (first | (go_at_call 6; refine (HB.out _).mono ?_; rintro e w1 ⟨rfl, hb1⟩) | (go_at_call 8; refine (HT.out _).mono ?_; rintro e w2 ⟨rfl, rfl⟩) | (go_at_call 12; refine (PT.out _ _ (by simp)).mono ?_; rintro e w2 ⟨rfl, rfl⟩))
    go_ret
    exact ⟨rfl, hb1.alloc hb1.size _⟩
  · have h0' : 0 < t.size := by omega
    clear h0
    go_enter Tryd.func5, Tryd.ntmps5
    go_upto_region 8 with (first | (go_at_call 6; refine (HB.out _).mono ?_; rintro e w1 ⟨rfl, hb1⟩) | (go_at_call 8; refine (HT.out _).mono ?_; rintro e w2 ⟨rfl, rfl⟩))
    obtain ⟨m, hm, em⟩ : ∃ m : Nat, m < 8 * t.size ∧ (wrap64 (n.tmod (8 * (t.size : Int)) + 8 * (t.size : Int))).tmod (8 * (t.size : Int)) = (m : Int) := by
      obtain ⟨h1, h2⟩ := tmod_pos n (8 * (t.size : Int)) (by omega) (by omega)
      exact ⟨_, by omega, (Int.toNat_of_nonneg h1).symm⟩
    rw [em]
    clear em
    have hl : (t.data.toList.map fun c => (c.toNat : Int)).length = t.size := by simp
    go_upto_region 9 with (refine wpList_bytes_of rfl (.tmp 34) rfl t rfl ?_; intro cap w2 hraw hb2 hsz2)
    generalize hL : (t.data.toList.map fun c => (c.toNat : Int)) = L at *
    obtain ⟨k, hk, ek⟩ : ∃ k : Nat, k < L.length ∧ IntKind.i64.wrap ((m : Int) / 8) = (k : Int) := ⟨m / 8, by omega, by rw [IntWalk.i64_in _ (by omega)]; omega⟩
    obtain ⟨r, hr, er⟩ : ∃ r : Nat, r < 8 ∧ (m : Int).tmod 8 = (r : Int) := ⟨m % 8, by omega, by rw [Int.tmod_eq_emod_of_nonneg (by omega)]; omega⟩
    have hr0 : (0 : Int) ≤ (r : Int) := by omega
    have hr8 : (r : Int) < 8 := by omega
    have hc := hraw.cell k hk
    have hf := hraw.frozen k hk
    have hkt : (k : Int) < (t.size : Int) := by omega
    obtain ⟨q, hq⟩ : ∃ q : Int, IntKind.u8.wrap (2 ^ r) = q := ⟨_, rfl⟩
    obtain ⟨v, hv⟩ : ∃ v : Int, bits BinOp.xor IntKind.u8 L[k] q = v := ⟨_, rfl⟩
    go_still_tail 10, (by kernel_rfl)
    change wpList _ _ _ _ _ w2.drew
    go_wp2
    have hraw2 := (hraw.setCell k hk v).drew
    have hb3 := ((hb1.trans (hb2.mono hb1.size)).setCell (p := ⟨w1.heap.size, k, none⟩) (by have := hb1.size; simpa using this) (.int .u8 v)).drew
    generalize (w2.setCell ⟨w1.heap.size, k, none⟩ (.int .u8 v)).drew = w3 at *
    have sums_apart : Sum.sum t.data.toList ≠ Sum.sum (strOfNums (L.set k v)).data.toList ∧ (Sum.sum t.data.toList ≠ 0 ∨ Sum.sum (strOfNums (L.set k v)).data.toList ≠ 65535) := by
      have h := Sum.sum_bit t k r (by rw [hL]; exact hk) hr
      simp only [hL, hq, hv] at h
      exact h
    generalize hl2 : L.set k v = L2 at *
    have hl3 : L2.length = t.size := by rw [← hl2]; simpa using hl
    have hu : (strOfNums L2).size = t.size := by rw [strOfNums_size]; exact hl3
    generalize hU : strOfNums L2 = u at *
    have HR : RawS w3 w1.heap.size t.size u := ⟨L2, hraw2, hl3, hU⟩
    have hrun : ∀ W, RawS W w1.heap.size t.size u → (convert 40 9 (.slice (some ⟨w1.heap.size, 0, none⟩) t.size cap)).run Tryd.prog W = .ok (.string u) W := fun W h => raw_run h
    have hXY := sums_apart
    have PT0 := sum_one t (by omega)
    have PU0 := sum_one u (by omega)
    generalize Sum.sum t.data.toList = X at *
    generalize Sum.sum u.data.toList = Y at *
    have PT := hide PT0; have PU := hide PU0
    have HXY := hide hXY
    have HB3 := hide hb3
    clear PT0 PU0 hXY hb3
    clear hraw hc hf hkt hr0 hr8 er ek hb1 hb2 hsz2 hraw2 hU hl3 hl2 hl hL
    go_region_law (first | (go_simp; go_at_call 12; refine (PT.out _ _ ?hc).mono ?_; (case hc => first | (simp; done) | (simp [World.cell?_alloc_lt]; done)); rintro e w' ⟨rfl, rfl⟩) | (go_simp; go_at_call 12; refine (PU.out _ _ ?hc).mono ?_; (case hc => first | (simp; done) | (simp [World.cell?_alloc_lt]; done)); rintro e w' ⟨rfl, rfl⟩))
    all_goals
      have e1 : ((X : Int) != (Y : Int)) = true := bne_iff_ne.2 (by have := HXY.out.1; omega)
      rcases Nat.eq_zero_or_pos X with h1 | h1
      · have e3 : ((X : Int) != 0) = false := bne_eq_false_iff_eq.2 (by omega)
        have e2 : ((Y : Int) != 65535) = true := bne_iff_ne.2 (by have := HXY.out.2; omega)
        clear HXY h1
        go_wp2
        go_ret
        exact ⟨rfl, by repeat (first | exact HB3.out | apply Below.drew | (refine Below.alloc ?_ (by have := HB3.out.size; simp; omega) _))⟩
      · have e2 : ((X : Int) != 0) = true := bne_iff_ne.2 (by omega)
        clear HXY h1
        go_wp2
        go_ret
        exact ⟨rfl, by repeat (first | exact HB3.out | apply Below.drew | (refine Below.alloc ?_ (by have := HB3.out.size; simp; omega) _))⟩
end Go.Proofs.YtdhnfmhbdblkjaaDoor
