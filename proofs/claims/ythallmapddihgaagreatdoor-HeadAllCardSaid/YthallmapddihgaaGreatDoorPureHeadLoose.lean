/- HeadLoose: bytes of a head that say nothing may be anything. No program in sight. -/
import Derived.Test.YthallmapddihgaaGreatDoorPackBack
namespace Go.Proofs.YthallmapddihgaaGreatDoor.PkB
set_option linter.unusedVariables false
set_option linter.unusedSimpArgs false

theorem numAt_congr (b c : ByteArray) (hs : c.size = b.size) (i j : Nat) (h : ∀ k, i ≤ k → k < j → byteAt c k = byteAt b k) : numAt c i j = numAt b i j := by
  rw [numAt_eq, numAt_eq]
  congr 1
  apply List.ext_getElem?
  intro n
  rw [List.getElem?_take, List.getElem?_take]
  split
  · rename_i hn
    rw [List.getElem?_drop, List.getElem?_drop]
    have hk := h (i + n) (by omega) (by omega)
    have l1 := len_size b
    have l2 := len_size c
    unfold byteAt at hk
    rw [List.getD_eq_getElem?_getD, List.getD_eq_getElem?_getD] at hk
    by_cases hlt : i + n < b.size
    · rw [List.getElem?_eq_getElem (by omega), List.getElem?_eq_getElem (by omega)] at hk ⊢
      simp only [Option.getD_some] at hk
      rw [UInt8.toNat_inj.1 hk]
    · rw [List.getElem?_eq_none (by omega), List.getElem?_eq_none (by omega)]
  · rfl
theorem numAt_step (b : ByteArray) (i j : Nat) (hij : i < j) (hj : j ≤ b.size) : numAt b i j = byteAt b i * 256 ^ (j - (i + 1)) + numAt b (i + 1) j := by
  have l1 := len_size b
  rw [numAt_eq, numAt_eq, List.drop_eq_getElem_cons (by omega), show j - i = (j - (i + 1)) + 1 from by omega, List.take_succ_cons, num_cons]
  rw [List.length_take, List.length_drop, show min (j - (i + 1)) (b.data.toList.length - (i + 1)) = j - (i + 1) from by omega]
  congr 2
  rw [← byteAt_get b i (by omega)]
  rfl
theorem getH_loose (b c : ByteArray) (hs : c.size = b.size) (h24 : 24 ≤ b.size) (h8 : byteAt c 8 % 32 = byteAt b 8 % 32)
    (h : ∀ i, byteAt c i = byteAt b i ∨ i = 8 ∨ (i = 9 ∧ getX b = true) ∨ (i = 12 ∧ getX b = false ∧ ackB (getT b) = true) ∨ ((i = 16 ∨ i = 17) ∧ getX b = true ∧ ackB (getT b) = true)) : getH c = getH b := by
  have hT : getT c = getT b := by unfold getT; omega
  have hX : getX c = getX b := by
    unfold getX
    rw [show byteAt c 8 % 2 = byteAt b 8 % 2 from by omega]
  have hlow : ∀ i, i < 8 → byteAt c i = byteAt b i := fun i hi => by
    rcases h i with e | e | ⟨e, _⟩ | ⟨e, _⟩ | ⟨e, _⟩
    · exact e
    all_goals omega
  have n0 := numAt_congr b c hs 0 2 (fun k _ hk => hlow k (by omega))
  have n2 := numAt_congr b c hs 2 4 (fun k _ hk => hlow k (by omega))
  have n6 := numAt_congr b c hs 6 8 (fun k _ hk => hlow k (by omega))
  have b4 := hlow 4 (by omega)
  have b5 := hlow 5 (by omega)
  unfold getH getHd
  rw [hs, hT, hX, b4, b5, n0, n2, n6]
  generalize getT b = T at *
  generalize getX b = x at *
  have hother : ∀ i, 8 < i → (x = true → i ≠ 9) → ((x = false ∧ ackB T = true) → i ≠ 12) → ((x = true ∧ ackB T = true) → i ≠ 16 ∧ i ≠ 17) → byteAt c i = byteAt b i := fun i h1 h2 h3 h4 => by
    rcases h i with e | e | ⟨e, e2⟩ | ⟨e, e2⟩ | ⟨e, e2⟩
    · exact e
    · omega
    · exact absurd e (h2 e2)
    · exact absurd e (h3 e2)
    · have := h4 e2; omega
  have hmore : ∀ i, moreAt T x ≤ i → byteAt c i = byteAt b i := fun i hi => by
    unfold moreAt ackAt at hi
    refine hother i ?_ ?_ ?_ ?_
    · revert hi; split <;> split <;> intro hi <;> omega
    · intro hx; rw [hx] at hi; revert hi; split <;> intro hi <;> simp at hi <;> omega
    · intro ⟨hx, ha⟩; rw [hx, ha] at hi; simp at hi; omega
    · intro ⟨hx, ha⟩; rw [hx, ha] at hi; simp at hi; omega
  have nm := numAt_congr b c hs (moreAt T x) (moreAt T x + 4) (fun k hk _ => hmore k hk)
  have m0 := hmore (moreAt T x) (by omega)
  have m1 := hmore (moreAt T x + 1) (by omega)
  have m2 := hmore (moreAt T x + 2) (by omega)
  have m3 := hmore (moreAt T x + 3) (by omega)
  rw [nm, m0, m1, m2, m3]
  have hseq : (if x = true then (numAt c 10 16 : Int) else (numAt c 9 12 : Int)) = (if x = true then (numAt b 10 16 : Int) else (numAt b 9 12 : Int)) := by
    cases x with
    | false =>
      simp only [Bool.false_eq_true, if_false]
      exact congrArg _ (numAt_congr b c hs 9 12 (fun k hk hk2 => hother k (by omega) (fun h => by cases h) (fun _ => by omega) (fun h => by cases h.1)))
    | true =>
      simp only [if_true]
      exact congrArg _ (numAt_congr b c hs 10 16 (fun k hk hk2 => hother k (by omega) (fun _ => by omega) (fun h => by cases h.1) (fun _ => by omega)))
  have hack : (if ackB T = true then (if x = true then (numAt c 17 24 : Int) % 281474976710656 else (numAt c 13 16 : Int)) else 0) = (if ackB T = true then (if x = true then (numAt b 17 24 : Int) % 281474976710656 else (numAt b 13 16 : Int)) else 0) := by
    split
    · cases x with
      | false =>
        simp only [Bool.false_eq_true, if_false]
        exact congrArg _ (numAt_congr b c hs 13 16 (fun k hk hk2 => hother k (by omega) (fun h => by cases h) (fun _ => by omega) (fun h => by cases h.1)))
      | true =>
        simp only [if_true]
        have e := numAt_congr b c hs 18 24 (fun k hk hk2 => hother k (by omega) (fun _ => by omega) (fun h => by cases h.1) (fun _ => by omega))
        have e1 := numAt_step c 17 24 (by omega) (by omega)
        have e2 := numAt_step b 17 24 (by omega) (by omega)
        rw [show (256 : Nat) ^ (24 - (17 + 1)) = 281474976710656 from by decide, show 17 + 1 = 18 from rfl] at e1 e2
        rw [e1, e2, e]
        omega
    · rfl
  rw [hseq, hack]
end Go.Proofs.YthallmapddihgaaGreatDoor.PkB
