/- HeadAll: a head's bytes with too few or enough behind them, read: plain. -/
import Derived.Test.YthallmapddihgaaGreatDoorRefGetHead
import Derived.Test.YthallmapddihgaaGreatDoorHeadBack
namespace Go.Proofs.YthallmapddihgaaGreatDoor
set_option linter.unusedVariables false
set_option linter.unusedSimpArgs false
theorem byteAt_left (a r : ByteArray) (i : Nat) (h : i < a.size) : byteAt (a ++ r) i = byteAt a i := by
  unfold byteAt
  rw [ByteArray.data_append, Array.toList_append, List.getD_eq_getElem?_getD, List.getD_eq_getElem?_getD, List.getElem?_append_left (by rw [Array.length_toList]; exact h)]
theorem headall_fin (h : Hd) (hm : mayB h = true) (hk : okH h = true) (r q : ByteArray) (hq : hdBytes h ++ r = q) : (4 * h.off ≤ (q.size : Int) → getH q = (h, 0)) ∧ ((q.size : Int) < 4 * h.off → getH q = (hd0, 4)) := by
  constructor
  · exact fun hz => PkB.getH_hd h hm hk r q hq hz
  · intro hz
    have hlen := PkB.head_len h hm
    have hbd := may_bounds hm
    obtain ⟨z, hzz⟩ : ∃ z : ByteArray, z.size = 1020 := ⟨strOfNums (List.replicate 1020 0), by rw [strOfNums_size, List.length_replicate]⟩
    have hq' := PkB.getH_hd h hm hk (r ++ z) (q ++ z) (by rw [← hq, ByteArray.append_assoc]) (by rw [ByteArray.size_append, hzz]; omega)
    obtain ⟨ht, hx⟩ := PkB.getH_tx _ h hq'
    have hqs : 12 ≤ q.size := by rw [← hq, ByteArray.size_append]; omega
    have h8 := byteAt_left q z 8 (by omega)
    have h4 := byteAt_left q z 4 (by omega)
    have hT : getT q = getT (q ++ z) := by unfold getT; rw [h8]
    have hX : getX q = getX (q ++ z) := by unfold getX; rw [h8]
    have ho : h.off = (byteAt (q ++ z) 4 : Int) := by
      have e2 := PkB.getH_fst _ (show (getH (q ++ z)).2 = 0 by rw [hq'])
      rw [hq'] at e2
      have e3 : h = getHd (q ++ z) (getT (q ++ z)) (getX (q ++ z)) := congrArg Prod.fst e2
      rw [e3]; rfl
    have hsz : (hdBytes h).size ≤ q.size := by rw [← hq, ByteArray.size_append]; omega
    refine RH.gH_place q hqs ?_ ?_ ?_ ?_
    · rw [hT, ht]; unfold isB; exact decide_eq_true (by omega)
    · rw [hT, hX, ht, hx]; omega
    · rw [hT, hX, ht, hx]; omega
    · right; rw [h4] at ho; omega
end Go.Proofs.YthallmapddihgaaGreatDoor
