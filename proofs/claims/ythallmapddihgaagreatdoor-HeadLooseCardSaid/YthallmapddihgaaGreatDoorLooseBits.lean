/- HeadLoose: what the bits do; the bytes of a text that was written into. No program in sight. -/
import Derived.Test.YthallmapddihgaaGreatDoorPureHeadLoose
import Derived.Test.YthallmapddihgaaGreatDoorBaseA
import Derived.Laws.BytesArg
namespace Go.Proofs.YthallmapddihgaaGreatDoor.PkB
set_option linter.unusedVariables false
set_option linter.unusedSimpArgs false

theorem and_224 : ∀ j : Fin 256, ∃ k : Fin 8, bits BinOp.and IntKind.u8 (j.val : Int) 224 = ((32 * k.val : Nat) : Int) := by decide +kernel
theorem or_32 : ∀ (b : Fin 256) (k : Fin 8), ∃ c : Fin 256, bits BinOp.or IntKind.u8 (b.val : Int) ((32 * k.val : Nat) : Int) = (c.val : Int) ∧ c.val % 32 = b.val % 32 := by
  intro b k
  have h : ∀ (b : Fin 256) (k : Fin 8), (bits BinOp.or IntKind.u8 (b.val : Int) ((32 * k.val : Nat) : Int)).toNat < 256 ∧ 0 ≤ bits BinOp.or IntKind.u8 (b.val : Int) ((32 * k.val : Nat) : Int) ∧ (bits BinOp.or IntKind.u8 (b.val : Int) ((32 * k.val : Nat) : Int)).toNat % 32 = b.val % 32 := by decide +kernel
  obtain ⟨h1, h2, h3⟩ := h b k
  exact ⟨⟨_, h1⟩, (Int.toNat_of_nonneg h2).symm, h3⟩
/-- byte 8 with a byte's upper three bits laid over it. -/
theorem or_loose (b : UInt8) (j : Int) (h0 : 0 ≤ j) (h1 : j ≤ 255) : ∃ c : Nat, c < 256 ∧ bits BinOp.or IntKind.u8 (b.toNat : Int) (bits BinOp.and IntKind.u8 j 224) = (c : Int) ∧ c % 32 = b.toNat % 32 := by
  obtain ⟨k, hk⟩ := and_224 ⟨j.toNat, by omega⟩
  simp only [Int.toNat_of_nonneg h0] at hk
  obtain ⟨c, hc, h2⟩ := or_32 ⟨b.toNat, b.toNat_lt⟩ k
  exact ⟨c.val, c.isLt, by rw [hk]; exact hc, h2⟩
theorem byteAt_nums (L : List Int) (i : Nat) : byteAt (strOfNums L) i = (UInt8.ofNat (L.getD i 0).toNat).toNat := by
  unfold byteAt
  rw [strOfNums_data, List.getD_eq_getElem?_getD, List.getD_eq_getElem?_getD, List.getElem?_map]
  cases L[i]? <;> rfl
theorem byteAt_row (b : ByteArray) (i : Nat) : (UInt8.ofNat ((b.data.toList.map fun c => (c.toNat : Int)).getD i 0).toNat).toNat = byteAt b i := by
  unfold byteAt
  rw [List.getD_eq_getElem?_getD, List.getD_eq_getElem?_getD, List.getElem?_map]
  cases b.data.toList[i]? with
  | none => rfl
  | some c => simp
theorem getD_set (L : List Int) (k i : Nat) (v : Int) (h : i ≠ k) : (L.set k v).getD i 0 = L.getD i 0 := by
  rw [List.getD_eq_getElem?_getD, List.getD_eq_getElem?_getD, List.getElem?_set_ne (by omega)]
end Go.Proofs.YthallmapddihgaaGreatDoor.PkB
