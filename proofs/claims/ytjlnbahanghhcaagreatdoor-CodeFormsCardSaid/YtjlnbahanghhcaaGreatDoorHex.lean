/- The law's own Hex: a numeral of base 16 that reads as the number. -/
import Derived.Test.YtjlnbahanghhcaaGreatDoorServAny
import Derived.Deep.DeepCutAuto
import Derived.Deep.CutBlock
import Derived.IntWalk
namespace Go.Proofs.YtjlnbahanghhcaaGreatDoor
open Go.RowKit
set_option linter.unusedVariables false
set_option linter.unusedSimpArgs false
def sixteen : ByteArray := ⟨#[48, 49, 50, 51, 52, 53, 54, 55, 56, 57, 97, 98, 99, 100, 101, 102]⟩
theorem hex_piece : ∀ d : Fin 16, ((sixteen.extract d.val (d.val + 1)).data.toList.map fun b => hexD b.toNat) = [d.val] := by decide +kernel
structure HexAt (c y : Nat) (s : ByteArray) : Prop where
  small : s.size ≤ 8
  zero : s.size = 0 ∨ 1 ≤ y
  is : ∃ v, c = y * 16 ^ s.size + v ∧ ∀ a, digP 16 a s.data.toList = some (a * 16 ^ s.size + v)
theorem hex_step (c y d : Nat) (hc : c < 4294967296) (s p : ByteArray) (h : HexAt c y s) (hd : y % 16 = d) (hp : sixteen.extract d (d + 1) = p) : (p ++ s).size = s.size + 1 ∧ s.size ≤ 7 ∧ ∃ v, c = (y / 16) * 16 ^ (s.size + 1) + v ∧ ∀ a, digP 16 a (p ++ s).data.toList = some (a * 16 ^ (s.size + 1) + v) := by
  have hpl := hex_piece ⟨d, by omega⟩
  simp only at hpl
  rw [hp] at hpl
  have hz : p.data.toList.length = 1 := by have := congrArg List.length hpl; simpa using this
  obtain ⟨x, hx⟩ : ∃ x, p.data.toList = [x] := by
    match hq : p.data.toList, hz with
    | [x], _ => exact ⟨x, rfl⟩
  rw [hx] at hpl
  have hxd : hexD x.toNat = d := by simpa using hpl
  obtain ⟨v, h1, h2⟩ := h.is
  have h7 : s.size ≤ 7 := by
    rcases Nat.lt_or_ge s.size 8 with h' | h'
    · omega
    · have e8 : s.size = 8 := by have := h.small; omega
      rcases h.zero with h0 | h0
      · omega
      · rw [e8] at h1
        have : (16 : Nat) ^ 8 = 4294967296 := by decide
        rw [this] at h1
        have : 1 * 4294967296 ≤ y * 4294967296 := Nat.mul_le_mul_right _ h0
        omega
  refine ⟨?_, h7, d * 16 ^ s.size + v, ?_, fun a => ?_⟩
  · rw [ByteArray.size_append, ← size_bytes p, hz]; omega
  · rw [h1, Nat.pow_succ]
    have : y = y / 16 * 16 + d := by omega
    calc y * 16 ^ s.size + v = (y / 16 * 16 + d) * 16 ^ s.size + v := by rw [← this]
      _ = y / 16 * (16 ^ s.size * 16) + (d * 16 ^ s.size + v) := by rw [Nat.add_mul, Nat.mul_assoc, Nat.mul_comm 16 (16 ^ s.size)]; omega
  · rw [ByteArray.data_append, Array.toList_append, hx]
    show (if _ then _ else _) = _
    rw [hxd, if_pos (by omega)]
    show digP 16 (a * 16 + d) s.data.toList = _
    rw [h2, Nat.pow_succ, Nat.add_mul, Nat.mul_assoc, Nat.mul_comm 16 (16 ^ s.size)]
    congr 1; omega
set_option maxHeartbeats 4000000 in
set_option maxRecDepth 100000 in
theorem law_Hex (c : Nat) (hc : c < 4294967296) (w : World) : Calls Tryz.prog 33 #[.int .u32 c] w fun e w' => (∃ S : ByteArray, e = .returned (.string S) ∧ digP 16 0 S.data.toList = some c ∧ 1 ≤ S.size ∧ S.size ≤ 8) ∧ w = w' := by
  go_enter Tryz.func33, Tryz.ntmps33
  go_upto_region 2 with fail
  go_loop [0, 3] (fun u v => ∃ (y : Nat) (s : ByteArray), y < 4294967296 ∧ u = .int .u32 y ∧ v = .string s ∧ Hid (HexAt c y s)) (fun u _ => (intOf u).toNat)
  case atStart => exact ⟨c, ByteArray.empty, hc, rfl, rfl, hide ⟨by decide, .inl rfl, 0, by show c = c * 16 ^ 0 + 0; omega, fun a => by show some a = some (a * 16 ^ 0 + 0); rw [Nat.pow_zero, Nat.mul_one, Nat.add_zero]⟩⟩
  case round =>
    obtain ⟨y, s, hy, rfl, rfl, H⟩ := hrel
    obtain ⟨d, hd⟩ : ∃ d, y % 16 = d := ⟨_, rfl⟩
    obtain ⟨p, hp⟩ : ∃ p, sixteen.extract d (d + 1) = p := ⟨_, rfl⟩
    obtain ⟨t1, t2, v, t3, t4⟩ := hex_step c y d hc s p H.out hd hp
    have hdi : (y : Int) % 16 = (d : Int) := by omega
    have hd16 : (d : Int) < 16 := by omega
    have hpz : p.size ≤ 1 := by rw [ByteArray.size_append] at t1; omega
    have hpi : (p.size : Int) ≤ 1 := by omega
    have hsi : (s.size : Int) ≤ 7 := by omega
    have hp' : (⟨#[48, 49, 50, 51, 52, 53, 54, 55, 56, 57, 97, 98, 99, 100, 101, 102]⟩ : ByteArray).extract d (d + 1) = p := hp
    have T3 := hide t3; have T4 := hide t4; have T1 := hide t1
    clear t3 t4 H hp t1
    by_cases h16 : y < 16
    · have e0 : ((y : Int) / 16 == 0) = true := beq_iff_eq.2 (by omega)
      have hy0 : y / 16 = 0 := by omega
      as_aux_lemma =>
        go_wp2
        go_ret
        refine ⟨⟨p ++ s, ?_, ?_, by rw [T1.out]; omega, by rw [T1.out]; omega⟩, rfl⟩
        · first | rfl | (rw [← hp']; rfl)
        · rw [T4.out 0, T3.out, hy0]
    · have e0 : ((y : Int) / 16 == 0) = false := beq_eq_false_iff_ne.2 (by omega)
      as_aux_lemma =>
        go_wp2
        go_round
        case rel => exact ⟨y / 16, p ++ s, by omega, by go_num, by first | rfl | (rw [← hp']; rfl), hide ⟨by rw [T1.out]; omega, .inr (by omega), v, by rw [T1.out]; exact T3.out, fun a => by rw [T1.out]; exact T4.out a⟩⟩
        case measure => simp [intOf]; omega
end Go.Proofs.YtjlnbahanghhcaaGreatDoor
