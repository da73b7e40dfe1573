/- HeadLoose: what the bytes that were written into are read as: the head itself. Plain. -/
import Derived.Test.YthallmapddihgaaGreatDoorLooseBits
import Derived.Test.YthallmapddihgaaGreatDoorHeadBack
namespace Go.Proofs.YthallmapddihgaaGreatDoor.PkB
set_option linter.unusedVariables false
set_option linter.unusedSimpArgs false

theorem getD_same (L : List Int) (k : Nat) (v : Int) (h : k < L.length) : (L.set k v).getD k 0 = v := by
  rw [List.getD_eq_getElem?_getD, List.getElem?_set_self h]; rfl
def rowL (b : ByteArray) : List Int := b.data.toList.map fun c => (c.toNat : Int)
theorem rowL_len (b : ByteArray) : (rowL b).length = b.size := by unfold rowL; rw [List.length_map]; rw [Array.length_toList]; rfl
def looseL (L : List Int) (c j nj : Int) (x a : Bool) : List Int :=
  if a = true then (if x = true then ((if x = true then (L.set 8 c).set 9 j else L.set 8 c).set 16 j).set 17 nj else (if x = true then (L.set 8 c).set 9 j else L.set 8 c).set 12 j) else (if x = true then (L.set 8 c).set 9 j else L.set 8 c)
theorem looseL_tt (L : List Int) (c j nj : Int) (x a : Bool) (ha : a = true) (hx : x = true) : looseL L c j nj x a = ((if x = true then (L.set 8 c).set 9 j else L.set 8 c).set 16 j).set 17 nj := by
  unfold looseL; rw [if_pos ha, if_pos hx]
theorem looseL_len (L : List Int) (c j nj : Int) (x a : Bool) : (looseL L c j nj x a).length = L.length := by
  unfold looseL; cases x <;> cases a <;> simp
theorem looseL_8 (L : List Int) (c j nj : Int) (x a : Bool) (h : 8 < L.length) : (looseL L c j nj x a).getD 8 0 = c := by
  unfold looseL
  cases x <;> cases a <;> simp only [Bool.false_eq_true, if_true, if_false]
  · exact getD_same _ _ _ h
  · rw [getD_set _ _ _ _ (by decide)]; exact getD_same _ _ _ h
  · rw [getD_set _ _ _ _ (by decide)]; exact getD_same _ _ _ h
  · rw [getD_set _ _ _ _ (by decide), getD_set _ _ _ _ (by decide), getD_set _ _ _ _ (by decide)]; exact getD_same _ _ _ h
theorem looseL_other (L : List Int) (c j nj : Int) (x a : Bool) (i : Nat) (h8 : i ≠ 8) (h9 : ¬ (i = 9 ∧ x = true)) (h12 : ¬ (i = 12 ∧ x = false ∧ a = true)) (h16 : ¬ ((i = 16 ∨ i = 17) ∧ x = true ∧ a = true)) : (looseL L c j nj x a).getD i 0 = L.getD i 0 := by
  unfold looseL
  cases x <;> cases a <;> simp only [Bool.false_eq_true, if_true, if_false]
  · exact getD_set _ _ _ _ h8
  · rw [getD_set _ _ _ _ (fun e => h12 ⟨e, rfl, rfl⟩)]; exact getD_set _ _ _ _ h8
  · rw [getD_set _ _ _ _ (fun e => h9 ⟨e, rfl⟩)]; exact getD_set _ _ _ _ h8
  · rw [getD_set _ _ _ _ (fun e => h16 ⟨.inr e, rfl, rfl⟩), getD_set _ _ _ _ (fun e => h16 ⟨.inl e, rfl, rfl⟩), getD_set _ _ _ _ (fun e => h9 ⟨e, rfl⟩)]; exact getD_set _ _ _ _ h8
theorem loose_get (h : Hd) (hm : mayB h = true) (hk : okH h = true) (r q : ByteArray) (hq : hdBytes h ++ r = q) (hz : 4 * h.off ≤ (q.size : Int)) (h24 : 24 ≤ q.size) (c : Nat) (hc : c < 256) (hc8 : c % 32 = byteAt q 8 % 32) (j nj : Int) :
    getH (strOfNums (looseL (rowL q) c j nj h.x (ackB h.typ))) = (h, 0) := by
  have hg := getH_hd h hm hk r q hq hz
  obtain ⟨ht, hx⟩ := getH_tx q h hg
  rw [← hg]
  have hl : (rowL q).length = q.size := rowL_len q
  refine getH_loose q _ ?_ h24 ?_ ?_
  · rw [strOfNums_size, looseL_len, hl]
  · rw [byteAt_nums, looseL_8 _ _ _ _ _ _ (by omega), Int.toNat_natCast, UInt8.toNat_ofNat_of_lt' hc]; exact hc8
  · intro i
    rw [byteAt_nums]
    by_cases h8 : i = 8
    · exact .inr (.inl h8)
    by_cases h9 : i = 9 ∧ h.x = true
    · exact .inr (.inr (.inl ⟨h9.1, hx.trans h9.2⟩))
    by_cases h12 : i = 12 ∧ h.x = false ∧ ackB h.typ = true
    · exact .inr (.inr (.inr (.inl ⟨h12.1, hx.trans h12.2.1, by rw [ht]; exact h12.2.2⟩)))
    by_cases h16 : (i = 16 ∨ i = 17) ∧ h.x = true ∧ ackB h.typ = true
    · exact .inr (.inr (.inr (.inr ⟨h16.1, hx.trans h16.2.1, by rw [ht]; exact h16.2.2⟩)))
    · left
      rw [looseL_other _ _ _ _ _ _ i h8 h9 h12 h16]
      exact byteAt_row q i
end Go.Proofs.YthallmapddihgaaGreatDoor.PkB
