/- strconv.ParseUint at base 16, few bytes. -/
import Derived.Test.YtjlnbahanghhcaaGreatDoorShelfErr
import Derived.Test.YtjlnbahanghhcaaGreatDoorBaseB
import Derived.Lib.AtoiAllMem
import Derived.Lib.ConvBytes
import Derived.Lib.Hide
import Derived.Laws.Strings3
import Derived.Laws.Closers25
import Derived.Laws.Closers25b
import Derived.Laws.BitsAllLaws
import Derived.WalkKit
import Derived.BigCall
import Derived.BigGuard
namespace Go.Proofs.YtjlnbahanghhcaaGreatDoor
open Go.RowKit
set_option linter.unusedVariables false
set_option linter.unusedSimpArgs false
def hexD (c : Nat) : Nat := if 48 ≤ c ∧ c ≤ 57 then c - 48 else if 97 ≤ c ∧ c ≤ 102 then c - 87 else if 65 ≤ c ∧ c ≤ 70 then c - 55 else 99
def hexP (acc : Nat) : List UInt8 → Option Nat
  | [] => some acc
  | c :: r => if hexD c.toNat < 16 then hexP (acc * 16 + hexD c.toNat) r else none
theorem hexD_lt (c : Nat) (h : hexD c ≠ 99) : hexD c < 16 := by
  unfold hexD at h ⊢
  split
  · omega
  · split
    · omega
    · split
      · omega
      · rename_i h1 h2 h3
        rw [if_neg h1, if_neg h2, if_neg h3] at h
        exact absurd rfl h
theorem hex_lo : ∀ x : Fin 256, ¬ (48 ≤ x.val ∧ x.val ≤ 57) → ((97 ≤ (x.val ||| 32) ∧ (x.val ||| 32) ≤ 102) → hexD x.val = (x.val ||| 32) - 87) ∧ (¬ (97 ≤ (x.val ||| 32) ∧ (x.val ||| 32) ≤ 102) → ¬ hexD x.val < 16) := by decide +kernel
theorem or_lt : ∀ x : Fin 256, (x.val ||| 32) < 256 := by decide +kernel
theorem u8_or32 (c : Nat) (h : c < 256) : bits .or .u8 (c : Int) 32 = ((c ||| 32 : Nat) : Int) := by
  have H : ∀ x : Fin 256, bits .or .u8 (x.val : Int) 32 = ((x.val ||| 32 : Nat) : Int) := by decide +kernel
  exact H ⟨c, h⟩
def tup16 : Option Nat → Value
  | some u => .tuple #[.int .u64 (u : Nat), .nilIface]
  | none => .tuple #[.int .u64 0, .iface 147 (.int .i64 2)]
set_option maxHeartbeats 32000000 in
set_option maxRecDepth 100000 in
theorem iParse16 (t : ByteArray) (hne : t.size ≠ 0) (hmax : t.size ≤ 8) (w : World) :
    Calls Tryz.prog 111 #[.string t, .int .i64 16, .int .i64 64] w fun e w' => e = .returned (tup16 (hexP 0 t.data.toList)) ∧ w' = Lib.bytesWorld w 5 t := by
  have hemp : t.toList.isEmpty = false := by
    rw [← decide_eq_emptyBytes]
    exact decide_eq_false (fun h => hne (by rw [h]; rfl))
  have hcv := Lib.run_convert_string_bytes (P := Tryz.prog) w 9 35 5 t (u := .string) Tryz.underlying9 Tryz.underlying35 Tryz.underlying5
  have hB : ∀ j, j < t.size → (Lib.bytesWorld w 5 t).cell? ⟨w.heap.size, j, none⟩ = some (.int .u8 (t.data.toList.getD j 0).toNat) := fun j hj => Lib.bytesWorld_cell w 5 t j hj
  obtain ⟨W1, hW1⟩ : ∃ W1, W1 = Lib.bytesWorld w 5 t := ⟨_, rfl⟩
  rw [← hW1] at hcv hB ⊢
  clear hW1
  obtain ⟨bs, hL⟩ : ∃ bs, bs = t.data.toList := ⟨_, rfl⟩
  have hLn : bs.length = t.size := by rw [hL, Lib.size_eq]
  rw [← hL] at hB ⊢
  clear hL
  have hmv : IntKind.u64.wrap (IntKind.u64.wrap 18446744073709551616 - 1) = 18446744073709551615 := by
    rw [IntKind.wrap_u64, IntKind.wrap_u64]
    decide
  go_enter Tryz.func111, Tryz.ntmps111
  go_wp2
  go_loop [12, 13, 101] (fun vu vn vi => ∃ (k acc : Nat) (a : Int), vu = .bool false ∧ vn = .int .u64 a ∧ vi = .int .i64 k ∧ k ≤ t.size ∧ Hid (a = (acc : Int) ∧ acc < 16 ^ k ∧ hexP 0 bs = hexP acc (bs.drop k)))
    (fun _ _ vi => t.size - (intOf vi).toNat)
  case atStart => exact ⟨0, 0, 0, rfl, rfl, rfl, by omega, rfl, by omega, rfl⟩
  case round =>
    obtain ⟨k, acc, a, rfl, rfl, rfl, hk, hh⟩ := hrel
    obtain ⟨ha, hacc, hdec⟩ := hh.out
    clear hh
    have hacc8 : acc < 4294967296 := Nat.lt_of_lt_of_le hacc (by
      have : (16 : Nat) ^ k ≤ 16 ^ 8 := Nat.pow_le_pow_right (by decide) (by omega)
      have e : (16 : Nat) ^ 8 = 4294967296 := by decide
      omega)
    have a0 : 0 ≤ a := by omega
    have a1 : a < 4294967296 := by omega
    by_cases hkn : k < t.size
    · have hc := hB k hkn
      have hdrop : bs.drop k = bs[k]'(by omega) :: bs.drop (k + 1) := List.drop_eq_getElem_cons (by omega)
      have hget : bs.getD k 0 = bs[k]'(by omega) := by simp [List.getD, List.getElem?_eq_getElem (show k < bs.length by omega)]
      rw [hdrop] at hdec
      rw [hget] at hc
      generalize bs[k]'(by omega) = c at hc hdec
      have hc256 : c.toNat < 256 := c.toNat_lt
      clear hB hdrop hget
      have hnext : hexD c.toNat < 16 → Hid (a * 16 + ((hexD c.toNat : Nat) : Int) = ((acc * 16 + hexD c.toNat : Nat) : Int) ∧ acc * 16 + hexD c.toNat < 16 ^ (k + 1) ∧ hexP 0 bs = hexP (acc * 16 + hexD c.toNat) (bs.drop (k + 1))) := fun h => hide ⟨by omega, by rw [Nat.pow_succ]; omega, by rw [hdec]; show (if _ then _ else _) = _; rw [if_pos h]⟩
      have hnone : ¬ hexD c.toNat < 16 → hexP 0 bs = none := fun h => by rw [hdec]; show (if _ then _ else _) = _; rw [if_neg h]
      clear hdec
      by_cases hdig : 48 ≤ c.toNat ∧ c.toNat ≤ 57
      · obtain ⟨hd0, hd1⟩ := hdig
        have hd : hexD c.toNat = c.toNat - 48 := by unfold hexD; rw [if_pos ⟨hd0, hd1⟩]
        have HN := hnext (by omega)
        rw [hd, show ((c.toNat - 48 : Nat) : Int) = (c.toNat : Int) - 48 from by omega] at HN
        clear hnext hnone hd hacc hacc8 ha
        as_aux_lemma =>
          go_wp2
          refine ⟨⟨k + 1, acc * 16 + (c.toNat - 48), a * 16 + ((c.toNat : Int) - 48), rfl, (by first | rfl | (congr 1; omega)), (by first | rfl | (congr 1; omega)), by omega, HN⟩, by simp [intOf]; omega⟩
      · by_cases h95 : c.toNat = 95
        · have hN := hnone (by rw [h95]; decide)
          have HNN := hide hN
          have hlow := fun W => Tryz.internal_strconv_lower 95 W
          rw [show bits .or .u8 95 32 = 127 from by decide] at hlow
          have HLO := hide (fun W => (hlow W).mono fun _ _ h => And.intro h.1 h.2.symm)
          have hc95 : W1.cell? ⟨w.heap.size, k, none⟩ = some (.int .u8 95) := by rw [hc, h95]; rfl
          clear hnext hnone hacc hacc8 ha hdig hN hlow hc h95
          as_aux_lemma =>
            go_wp2_with (go_at_call 125; refine (HLO.out _).mono ?_; rintro e w' ⟨rfl, rfl⟩)
            all_goals go_ret2
            all_goals exact ⟨by rw [HNN.out]; rfl, rfl⟩
        have e95 : ((c.toNat : Int) == 95) = false := beq_eq_false_iff_ne.2 (by omega)
        obtain ⟨hy, hn⟩ := hex_lo ⟨c.toNat, hc256⟩ hdig
        have hlt := or_lt ⟨c.toNat, hc256⟩
        simp only at hy hn hlt
        have hlow := fun W => Tryz.internal_strconv_lower (c.toNat : Int) W
        rw [u8_or32 c.toNat hc256] at hlow
        generalize (c.toNat ||| 32) = lo at *
        have HLO := hide (fun W => (hlow W).mono fun _ _ h => And.intro h.1 h.2.symm)
        clear hlow
        have hdi : ¬ (48 ≤ (c.toNat : Int)) ∨ ¬ ((c.toNat : Int) ≤ 57) := by omega
        by_cases h6 : 97 ≤ lo ∧ lo ≤ 102
        · have hd := hy h6
          have HN := hnext (by omega)
          rw [hd, show ((lo - 87 : Nat) : Int) = (lo : Int) - 97 + 10 from by omega] at HN
          have l0 : 97 ≤ (lo : Int) := by omega
          have l1 : (lo : Int) ≤ 102 := by omega
          clear hnext hnone hy hn hd hacc hacc8 ha hdig h6 hlt
          rcases hdi with hdi | hdi
          all_goals as_aux_lemma =>
            go_wp2_with (go_at_call 125; refine (HLO.out _).mono ?_; rintro e w' ⟨rfl, rfl⟩)
            refine ⟨⟨k + 1, acc * 16 + (lo - 87), a * 16 + ((lo : Int) - 97 + 10), rfl, (by first | rfl | (congr 1; omega)), (by first | rfl | (congr 1; omega)), by omega, HN⟩, by simp [intOf]; omega⟩
        · have hN := hnone (hn h6)
          have HNN := hide hN
          have hcs : ((lo : Int) < 97) ∨ (122 < (lo : Int)) ∨ (97 ≤ (lo : Int) ∧ (lo : Int) ≤ 122 ∧ 103 ≤ (lo : Int)) := by omega
          have hlt2 : (lo : Int) < 256 := by omega
          clear hnext hnone hy hn hacc hacc8 ha hdig h6 hlt hN
          rcases hcs with h | h | ⟨h, h', h''⟩ <;> rcases hdi with hdi | hdi
          all_goals as_aux_lemma =>
            go_wp2_with (go_at_call 125; refine (HLO.out _).mono ?_; rintro e w' ⟨rfl, rfl⟩)
            all_goals go_ret2
            all_goals exact ⟨by rw [HNN.out]; rfl, rfl⟩
    · have hkk : k = t.size := by omega
      subst hkk
      have hF : hexP acc (bs.drop t.size) = some acc := by rw [List.drop_eq_nil_of_le (by omega)]; rfl
      rw [hF] at hdec
      subst ha
      clear hacc hF a0 a1 hacc8
      as_aux_lemma =>
        go_wp2
        go_ret2
        exact ⟨rfl, rfl⟩
end Go.Proofs.YtjlnbahanghhcaaGreatDoor
