/- Codes: plain facts on decimal numerals and texts of signs. No program in sight. -/
import Derived.Test.YtjlnbahanghhcaaGreatDoorBaseB
import Derived.Lib.ItoaNum
import Derived.Lib.ParseIntB
import Derived.Lib.TrimByte
namespace Go.Proofs.YtjlnbahanghhcaaGreatDoor.Cd
open Go.RowKit
set_option linter.unusedVariables false
set_option linter.unusedSimpArgs false
theorem dec_small (c : Nat) (h : c < 10) : Lib.decDigits c = [UInt8.ofNat (48 + c)] := by rw [Lib.decDigits, dif_pos h]
theorem dec_big (c : Nat) (h : ¬ c < 10) : Lib.decDigits c = Lib.decDigits (c / 10) ++ [UInt8.ofNat (48 + c % 10)] := by rw [Lib.decDigits, dif_neg h]
theorem u8_dig (d : Nat) (h : d < 10) : (UInt8.ofNat (48 + d)).toNat = 48 + d := UInt8.toNat_ofNat_of_lt' (by show 48 + d < 256; omega)
theorem step_dig (M acc d : Nat) (r : List UInt8) (hd : d < 10) (h1 : acc < 1844674407370955162) (h2 : acc * 10 + d ≤ M) : Lib.parseUintM M acc (UInt8.ofNat (48 + d) :: r) = Lib.parseUintM M (acc * 10 + d) r := by
  simp only [Lib.parseUintM, u8_dig d hd]
  rw [if_pos (by omega), if_neg (by omega), if_neg (by omega), show 48 + d - 48 = d from by omega]
theorem parse_dec (M : Nat) : ∀ (c : Nat) (r : List UInt8), c < 4294967296 → c ≤ M → Lib.parseUintM M 0 (Lib.decDigits c ++ r) = Lib.parseUintM M c r := by
  intro c
  induction c using Nat.strongRecOn with
  | _ c ih =>
    intro r hc hM
    by_cases h : c < 10
    · rw [dec_small c h]
      have := step_dig M 0 c r h (by omega) (by omega)
      simpa using this
    · rw [dec_big c h, List.append_assoc, ih (c / 10) (by omega) _ (by omega) (by omega)]
      have := step_dig M (c / 10) (c % 10) r (by omega) (by omega) (by omega)
      rw [List.singleton_append, this]
      congr 1
      omega
theorem dec_ne (c : Nat) : Lib.decDigits c ≠ [] := by
  by_cases h : c < 10
  · rw [dec_small c h]; simp
  · rw [dec_big c h]; simp
theorem dec_parse (c : Nat) (hc : c < 4294967296) : Lib.parseUintB 64 (Lib.decDigits c) = .ok c := by
  unfold Lib.parseUintB
  rw [if_neg (dec_ne c)]
  have := parse_dec (2 ^ 64 - 1) c [] hc (by omega)
  rw [List.append_nil] at this
  rw [this]; rfl
theorem dec_digits : ∀ (c : Nat) (b : UInt8), b ∈ Lib.decDigits c → 48 ≤ b.toNat ∧ b.toNat ≤ 57 := by
  intro c
  induction c using Nat.strongRecOn with
  | _ c ih =>
    intro b hb
    by_cases h : c < 10
    · rw [dec_small c h, List.mem_singleton] at hb
      rw [hb, u8_dig c h]; omega
    · rw [dec_big c h, List.mem_append, List.mem_singleton] at hb
      rcases hb with hb | rfl
      · exact ih (c / 10) (by omega) b hb
      · rw [u8_dig _ (by omega)]; omega
theorem dec_len : ∀ (k c : Nat), c < 10 ^ (k + 1) → (Lib.decDigits c).length ≤ k + 1
  | 0, c, h => by rw [dec_small c (by simpa using h)]; simp
  | k + 1, c, h => by
    by_cases h1 : c < 10
    · rw [dec_small c h1]; simp
    · rw [dec_big c h1, List.length_append]
      have := dec_len k (c / 10) (by rw [Nat.pow_succ] at h; omega)
      simp only [List.length_cons, List.length_nil]; omega
theorem dec_head : ∀ (c : Nat), 1 ≤ c → ∃ b r, Lib.decDigits c = b :: r ∧ b.toNat ≠ 48 := by
  intro c
  induction c using Nat.strongRecOn with
  | _ c ih =>
    intro hc
    by_cases h : c < 10
    · exact ⟨_, [], dec_small c h, by rw [u8_dig c h]; omega⟩
    · obtain ⟨b, r, e, hb⟩ := ih (c / 10) (by omega) (by omega)
      exact ⟨b, r ++ [UInt8.ofNat (48 + c % 10)], by rw [dec_big c h, e]; rfl, hb⟩
/-- four bytes, blanks cut off behind: signs alone, or not. f: which are signs; blank is none. -/
theorem four_signs (f : Nat → Bool) (hf : f 32 = false) (l : List UInt8) (hl : l.length = 4) (n : Nat) (hn : n ≤ 4) (h1 : ∀ j (h : j < l.length), j < n → f l[j].toNat = true) (h2 : ∀ (h : n < l.length), f l[n].toNat = false) :
    ((0 < n ∧ ∀ j (h : j < l.length), n ≤ j → l[j].toNat = 32) → Lib.trimRightB l 32 = l.take n ∧ (l.take n).all (fun b => f b.toNat) = true ∧ (l.take n).length = n) ∧
    (¬ (0 < n ∧ ∀ j (h : j < l.length), n ≤ j → l[j].toNat = 32) → (Lib.trimRightB l 32).length = 0 ∨ (Lib.trimRightB l 32).all (fun b => f b.toNat) = false) := by
  match l, hl with
  | [p, q, r, t], _ =>
  have e32 : ∀ b : UInt8, (b == 32) = decide (b.toNat = 32) := fun b => by
    rw [Bool.eq_iff_iff, beq_iff_eq, decide_eq_true_eq, ← UInt8.toNat_inj]; rfl
  have hp := h1 0 (by simp); have hq := h1 1 (by simp); have hr := h1 2 (by simp); have ht := h1 3 (by simp)
  have gp : ∀ {b : UInt8}, f b.toNat = true → ¬ b.toNat = 32 := fun h e => by rw [e, hf] at h; cases h
  simp only [List.getElem_cons_zero, List.getElem_cons_succ] at hp hq hr ht
  unfold Lib.trimRightB
  simp only [List.reverse_cons, List.reverse_nil, List.nil_append, List.cons_append, List.dropWhile_cons, e32]
  have hn5 : n = 0 ∨ n = 1 ∨ n = 2 ∨ n = 3 ∨ n = 4 := by omega
  rcases hn5 with rfl | rfl | rfl | rfl | rfl
  · have h0 := h2 (by simp)
    simp only [List.getElem_cons_zero] at h0
    refine ⟨fun h => absurd h.1 (by omega), fun _ => ?_⟩
    by_cases c3 : t.toNat = 32 <;> by_cases c2 : r.toNat = 32 <;> by_cases c1 : q.toNat = 32 <;> by_cases c0 : p.toNat = 32 <;> simp [c0, c1, c2, c3, h0, hf]
  · have h0 := h2 (by simp)
    simp only [List.getElem_cons_zero, List.getElem_cons_succ] at h0
    have hp := hp (by omega)
    have np := gp hp
    constructor
    · rintro ⟨_, h⟩
      have a1 := h 1 (by simp) (by omega); have a2 := h 2 (by simp) (by omega); have a3 := h 3 (by simp) (by omega)
      simp only [List.getElem_cons_zero, List.getElem_cons_succ] at a1 a2 a3
      simp [a1, a2, a3, np, hp]
    · intro h
      by_cases c3 : t.toNat = 32 <;> by_cases c2 : r.toNat = 32 <;> by_cases c1 : q.toNat = 32
      · exact absurd ⟨by omega, fun j hj hn => by
          match j, hj, hn with
          | 1, _, _ => exact c1
          | 2, _, _ => exact c2
          | 3, _, _ => exact c3⟩ h
      all_goals simp [c1, c2, c3, h0, hp, np, hf]
  · have h0 := h2 (by simp)
    simp only [List.getElem_cons_zero, List.getElem_cons_succ] at h0
    have hp := hp (by omega); have hq := hq (by omega)
    have np := gp hp; have nq := gp hq
    constructor
    · rintro ⟨_, h⟩
      have a2 := h 2 (by simp) (by omega); have a3 := h 3 (by simp) (by omega)
      simp only [List.getElem_cons_zero, List.getElem_cons_succ] at a2 a3
      simp [a2, a3, np, nq, hp, hq]
    · intro h
      by_cases c3 : t.toNat = 32 <;> by_cases c2 : r.toNat = 32
      · exact absurd ⟨by omega, fun j hj hn => by
          match j, hj, hn with
          | 2, _, _ => exact c2
          | 3, _, _ => exact c3⟩ h
      all_goals simp [c2, c3, h0, hp, hq, np, nq, hf]
  · have h0 := h2 (by simp)
    simp only [List.getElem_cons_zero, List.getElem_cons_succ] at h0
    have hp := hp (by omega); have hq := hq (by omega); have hr := hr (by omega)
    have np := gp hp; have nq := gp hq; have nr := gp hr
    constructor
    · rintro ⟨_, h⟩
      have a3 := h 3 (by simp) (by omega)
      simp only [List.getElem_cons_zero, List.getElem_cons_succ] at a3
      simp [a3, np, nq, nr, hp, hq, hr]
    · intro h
      by_cases c3 : t.toNat = 32
      · exact absurd ⟨by omega, fun j hj hn => by
          match j, hj, hn with
          | 3, _, _ => exact c3⟩ h
      all_goals simp [c3, h0, hp, hq, hr, np, nq, nr, hf]
  · have hp := hp (by omega); have hq := hq (by omega); have hr := hr (by omega); have ht := ht (by omega)
    have nt := gp ht
    constructor
    · intro _
      simp [nt, hp, hq, hr, ht]
    · intro h
      exact absurd ⟨by omega, fun j hj hn => absurd hj (by simp; omega)⟩ h
end Go.Proofs.YtjlnbahanghhcaaGreatDoor.Cd
