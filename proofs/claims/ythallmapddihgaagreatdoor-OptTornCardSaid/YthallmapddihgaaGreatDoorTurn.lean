/- What a bit that is turned does to a sum of bytes, in plain arithmetic. -/
import Derived.Test.YthallmapddihgaaGreatDoorBaseA
import Derived.Laws.BytesArg
namespace Go.Proofs.YthallmapddihgaaGreatDoor.Sum
set_option linter.unusedVariables false
set_option linter.unusedSimpArgs false

theorem wt_set (c : UInt8) : ∀ (l : List UInt8) (k i : Nat) (h : k < l.length), wt i (l.set k c) + l[k].toNat * (if (i + k) % 2 = 0 then 256 else 1) = wt i l + c.toNat * (if (i + k) % 2 = 0 then 256 else 1)
  | [], k, i, h => by simp at h
  | d :: r, 0, i, h => by simp only [List.set_cons_zero, wt, List.getElem_cons_zero, Nat.add_zero]; omega
  | d :: r, k + 1, i, h => by
    have ih := wt_set c r k (i + 1) (by simpa using h)
    simp only [List.set_cons_succ, wt, List.getElem_cons_succ]
    rw [show i + (k + 1) = i + 1 + k from by omega]
    omega
theorem wt_turn (l : List UInt8) (k : Nat) (h : k < l.length) (c : UInt8) (p : Nat) (hp : 1 ≤ p ∧ p ≤ 128) (hc : c.toNat = l[k].toNat + p ∨ l[k].toNat = c.toNat + p) :
    ∃ d, 0 < d ∧ d < 65535 ∧ (wt 0 (l.set k c) = wt 0 l + d ∨ wt 0 l = wt 0 (l.set k c) + d) := by
  have hw := wt_set c l k 0 h
  by_cases hk : (0 + k) % 2 = 0
  · rw [if_pos hk] at hw
    refine ⟨256 * p, by omega, by omega, ?_⟩
    rcases hc with hc | hc
    · left; rw [hc] at hw; omega
    · right; rw [hc] at hw; omega
  · rw [if_neg hk] at hw
    refine ⟨p, by omega, by omega, ?_⟩
    rcases hc with hc | hc
    · left; rw [hc] at hw; omega
    · right; rw [hc] at hw; omega
theorem apart (m n d : Nat) (h0 : 0 < d) (h1 : d < 65535) (h : n = m + d ∨ m = n + d) : 65535 - fold m ≠ 65535 - fold n ∧ (65535 - fold m ≠ 0 ∨ 65535 - fold n ≠ 65535) := by
  have hm := fold_le m
  have hn := fold_le n
  have e := fold_eq m n
  have zm := fold_mod m
  have zn := fold_zero n
  constructor
  · intro hh
    have h2 := e.1 (by omega)
    omega
  · by_cases hz : n = 0
    · left; intro h3
      have : fold m = 65535 := by omega
      rw [this] at zm
      omega
    · right; intro h3; exact hz (zn.1 (by omega))
theorem sum_turn_bit (l : List UInt8) (k : Nat) (h : k < l.length) (c : UInt8) (p : Nat) (hp : 1 ≤ p ∧ p ≤ 128) (hc : c.toNat = l[k].toNat + p ∨ l[k].toNat = c.toNat + p) :
    sum l ≠ sum (l.set k c) ∧ (sum l ≠ 0 ∨ sum (l.set k c) ≠ 65535) := by
  obtain ⟨d, h0, h1, h2⟩ := wt_turn l k h c p hp hc
  exact apart _ _ d h0 h1 h2
theorem xor_turn : ∀ (b : Fin 256) (r : Fin 8), ∃ c : Fin 256, bits BinOp.xor IntKind.u8 (b.val : Int) (IntKind.u8.wrap (2 ^ r.val)) = (c.val : Int) ∧ (c.val = b.val + 2 ^ r.val ∨ b.val = c.val + 2 ^ r.val) := by
  intro b r
  have h : ∀ (b : Fin 256) (r : Fin 8), (bits BinOp.xor IntKind.u8 (b.val : Int) (IntKind.u8.wrap (2 ^ r.val))).toNat < 256 ∧ 0 ≤ bits BinOp.xor IntKind.u8 (b.val : Int) (IntKind.u8.wrap (2 ^ r.val)) ∧ ((bits BinOp.xor IntKind.u8 (b.val : Int) (IntKind.u8.wrap (2 ^ r.val))).toNat = b.val + 2 ^ r.val ∨ b.val = (bits BinOp.xor IntKind.u8 (b.val : Int) (IntKind.u8.wrap (2 ^ r.val))).toNat + 2 ^ r.val) := by decide +kernel
  obtain ⟨h1, h2, h3⟩ := h b r
  exact ⟨⟨_, h1⟩, (Int.toNat_of_nonneg h2).symm, h3⟩
theorem pow_le (r : Nat) (h : r < 8) : 1 ≤ 2 ^ r ∧ 2 ^ r ≤ 128 := by
  have : ∀ r : Fin 8, 1 ≤ 2 ^ r.val ∧ 2 ^ r.val ≤ 128 := by decide
  exact this ⟨r, h⟩
theorem sum_bit (t : ByteArray) (k r : Nat) (h : k < (t.data.toList.map fun c => (c.toNat : Int)).length) (hr : r < 8) :
    sum t.data.toList ≠ sum (strOfNums ((t.data.toList.map fun c => (c.toNat : Int)).set k (bits BinOp.xor IntKind.u8 ((t.data.toList.map fun c => (c.toNat : Int))[k]) (IntKind.u8.wrap (2 ^ r))))).data.toList ∧
      (sum t.data.toList ≠ 0 ∨ sum (strOfNums ((t.data.toList.map fun c => (c.toNat : Int)).set k (bits BinOp.xor IntKind.u8 ((t.data.toList.map fun c => (c.toNat : Int))[k]) (IntKind.u8.wrap (2 ^ r))))).data.toList ≠ 65535) := by
  have hk : k < t.data.toList.length := by simpa using h
  obtain ⟨c, hc, h2⟩ := xor_turn ⟨t.data.toList[k].toNat, t.data.toList[k].toNat_lt⟩ ⟨r, hr⟩
  simp only at hc h2
  have he : (t.data.toList.map fun c => (c.toNat : Int))[k] = ((t.data.toList[k].toNat : Nat) : Int) := by simp
  rw [he, hc]
  have hs : (strOfNums ((t.data.toList.map fun c => (c.toNat : Int)).set k (c.val : Int))).data.toList = t.data.toList.set k (UInt8.ofNat c.val) := by
    rw [strOfNums_data, List.map_set, List.map_map]
    congr 1
    · rw [List.map_congr_left (g := id) (fun x _ => by simp), List.map_id]
  rw [hs]
  have hv : (UInt8.ofNat c.val).toNat = c.val := by
    have := c.isLt
    simp [UInt8.toNat_ofNat]
  exact sum_turn_bit _ k hk _ (2 ^ r) (pow_le r hr) (by rw [hv]; exact h2)
end Go.Proofs.YthallmapddihgaaGreatDoor.Sum
