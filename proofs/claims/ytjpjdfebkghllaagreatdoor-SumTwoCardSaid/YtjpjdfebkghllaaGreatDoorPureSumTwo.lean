/- SumTwo: two words of a text change places: the sum is kept; a word ffff: kept too, but at ffff. No program in sight. -/
import Derived.Test.YtjpjdfebkghllaaGreatDoorTurn
import Derived.Laws.BytesArg
namespace Go.Proofs.YtjpjdfebkghllaaGreatDoor.Sum
set_option linter.unusedVariables false
set_option linter.unusedSimpArgs false

def swap {α : Type} [Inhabited α] (l : List α) (p q : Nat) : List α := (l.set p (l.getD q default)).set q (l.getD p default)
theorem swap_length {α : Type} [Inhabited α] (l : List α) (p q : Nat) : (swap l p q).length = l.length := by simp [swap]
theorem wt_swap (l : List UInt8) (p q : Nat) (hp : p < l.length) (hq : q < l.length) (h : p % 2 = q % 2) : wt 0 (swap l p q) = wt 0 l := by
  unfold swap
  have ep : l.getD p default = l[p] := by simp [hp]
  have eq : l.getD q default = l[q] := by simp [hq]
  rw [ep, eq]
  have h1 := wt_set l[q] l p 0 hp
  have h2 := wt_set l[p] (l.set p l[q]) q 0 (by simpa using hq)
  have e : (l.set p l[q])[q]'(by simpa using hq) = l[q] := by
    rw [List.getElem_set]
    split
    · rfl
    · rfl
  rw [e] at h2
  simp only [Nat.zero_add] at h1 h2
  rw [← h] at h2
  omega
theorem map_swap (l : List UInt8) (p q : Nat) (hp : p < l.length) (hq : q < l.length) : swap (l.map fun c => (c.toNat : Int)) p q = (swap l p q).map fun c => (c.toNat : Int) := by
  unfold swap
  simp [hp, hq, List.map_set]
theorem nums_back (l : List UInt8) : (strOfNums (l.map fun c => (c.toNat : Int))).data.toList = l := by
  rw [strOfNums_data, List.map_map, List.map_congr_left (g := id) (fun x _ => by simp), List.map_id]
theorem sum_swaps (t : ByteArray) (i j : Nat) (hi : 2 * i + 1 < t.size) (hj : 2 * j + 1 < t.size) :
    sum (strOfNums (swap (swap (t.data.toList.map fun c => (c.toNat : Int)) (2 * i) (2 * j)) (2 * i + 1) (2 * j + 1))).data.toList = sum t.data.toList := by
  have hl : t.data.toList.length = t.size := by rw [Array.length_toList]; rfl
  rw [map_swap _ _ _ (by omega) (by omega), map_swap _ _ _ (by rw [swap_length]; omega) (by rw [swap_length]; omega), nums_back]
  unfold sum
  rw [wt_swap _ _ _ (by rw [swap_length]; omega) (by rw [swap_length]; omega) (by omega), wt_swap _ _ _ (by omega) (by omega) (by omega)]
theorem sum_fits (t : ByteArray) (he : t.size % 2 = 0) : sum (t.data.toList ++ [UInt8.ofNat (sum t.data.toList / 256), UInt8.ofNat (sum t.data.toList % 256)]) = 0 := by
  have hl : t.data.toList.length = t.size := by rw [Array.length_toList]; rfl
  have hle := sum_le t.data.toList
  generalize hx : sum t.data.toList = x at *
  have e : wt 0 (t.data.toList ++ [UInt8.ofNat (x / 256), UInt8.ofNat (x % 256)]) = wt 0 t.data.toList + x := by
    rw [wt_append]
    simp only [wt, Nat.zero_add, hl]
    rw [if_pos he, if_neg (by omega)]
    simp only [UInt8.toNat_ofNat']
    omega
  unfold sum at hx ⊢
  rw [e]
  have hf := fold_le (wt 0 t.data.toList)
  have hm := fold_mod (wt 0 t.data.toList)
  have h2 : fold (wt 0 t.data.toList + x) = 65535 := by
    rw [← hx]
    generalize wt 0 t.data.toList = n at *
    unfold fold at hf hm ⊢
    split at hm
    · subst n; decide
    · rw [if_neg (by omega)]
      rw [if_neg (by omega)] at hf
      rw [if_neg (by omega)]
      omega
  omega
theorem sum_ones (t : ByteArray) (u : List UInt8) (hu : u = [255, 255]) (he : t.size % 2 = 0) (h : sum t.data.toList ≠ 65535) : sum (t.data.toList ++ u) = sum t.data.toList := by
  have hl : t.data.toList.length = t.size := by rw [Array.length_toList]; rfl
  subst hu
  have e : wt 0 (t.data.toList ++ [255, 255]) = wt 0 t.data.toList + 65535 := by
    rw [wt_append]
    simp only [wt, Nat.zero_add, hl]
    rw [if_pos he, if_neg (by omega)]
    rfl
  unfold sum at h ⊢
  rw [e]
  have hz := fold_zero (wt 0 t.data.toList)
  have := (fold_eq (wt 0 t.data.toList + 65535) (wt 0 t.data.toList)).2 ⟨by omega, by omega⟩
  omega
end Go.Proofs.YtjpjdfebkghllaaGreatDoor.Sum
