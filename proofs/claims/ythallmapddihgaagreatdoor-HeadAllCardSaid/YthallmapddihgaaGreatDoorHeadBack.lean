/- A head's own bytes with whatever behind them, read: the head itself. Plain. -/
import Derived.Test.YthallmapddihgaaGreatDoorPackBack
namespace Go.Proofs.YthallmapddihgaaGreatDoor.PkB
set_option linter.unusedVariables false
set_option linter.unusedSimpArgs false

theorem getH_hd (h : Hd) (hm : mayB h = true) (hk : okH h = true) (r q : ByteArray) (hq : hdBytes h ++ r = q) (hz : 4 * h.off ≤ (q.size : Int)) : getH q = (h, 0) := by
  have hb := may_bounds hm
  unfold okH at hk
  have hk := of_decide_eq_true hk
  have hd : q.data.toList = (hdBytes h).data.toList ++ r.data.toList := by rw [← hq, ByteArray.data_append, Array.toList_append]
  obtain ⟨src, dst, off, cc, cs, sum, typ, x, seq, ack, serv, code, i0, i1, i2⟩ := h
  dsimp only at *
  have hz4 : (0 : Int) ≤ sizeB typ x / 4 := by have := sizeB_le typ x; omega
  obtain ⟨src, rfl⟩ := Int.eq_ofNat_of_zero_le (a := src) (by omega)
  obtain ⟨dst, rfl⟩ := Int.eq_ofNat_of_zero_le (a := dst) (by omega)
  obtain ⟨off, rfl⟩ := Int.eq_ofNat_of_zero_le (a := off) (by omega)
  obtain ⟨cc, rfl⟩ := Int.eq_ofNat_of_zero_le (a := cc) (by omega)
  obtain ⟨cs, rfl⟩ := Int.eq_ofNat_of_zero_le (a := cs) (by omega)
  obtain ⟨sum, rfl⟩ := Int.eq_ofNat_of_zero_le (a := sum) (by omega)
  obtain ⟨typ, rfl⟩ := Int.eq_ofNat_of_zero_le (a := typ) (by omega)
  obtain ⟨seq, rfl⟩ := Int.eq_ofNat_of_zero_le (a := seq) (by omega)
  obtain ⟨ack, rfl⟩ := Int.eq_ofNat_of_zero_le (a := ack) (by omega)
  obtain ⟨serv, rfl⟩ := Int.eq_ofNat_of_zero_le (a := serv) (by omega)
  obtain ⟨code, rfl⟩ := Int.eq_ofNat_of_zero_le (a := code) (by omega)
  obtain ⟨i0, rfl⟩ := Int.eq_ofNat_of_zero_le (a := i0) (by omega)
  obtain ⟨i1, rfl⟩ := Int.eq_ofNat_of_zero_le (a := i1) (by omega)
  obtain ⟨i2, rfl⟩ := Int.eq_ofNat_of_zero_le (a := i2) (by omega)
  refine get_of q src dst off cc cs sum typ x seq ack serv code i0 i1 i2 r.data.toList ?_ hm (by omega) (by omega) (by omega) (by omega) (by omega)
  rw [hd, hdBytes_nat]
theorem getH_fst (b : ByteArray) (h : (getH b).2 = 0) : getH b = (getHd b (getT b) (getX b), 0) := by
  unfold getH at h ⊢
  split at h
  · exact absurd h (by decide)
  split at h
  · exact absurd h (by decide)
  split at h
  · exact absurd h (by decide)
  split at h
  · exact absurd h (by decide)
  split at h
  · exact absurd h (by decide)
  rename_i a1 a2 a3 a4 a5
  rw [if_neg a1, if_neg a2, if_neg a3, if_neg a4, if_neg a5]
theorem getH_tx (b : ByteArray) (h : Hd) (e : getH b = (h, 0)) : (getT b : Int) = h.typ ∧ getX b = h.x := by
  have e2 := getH_fst b (by rw [e])
  rw [e] at e2
  have e3 : h = getHd b (getT b) (getX b) := congrArg Prod.fst e2
  rw [e3]
  exact ⟨rfl, rfl⟩
end Go.Proofs.YthallmapddihgaaGreatDoor.PkB
