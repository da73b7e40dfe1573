/- code.byNumber at whatever text: base 16 (at most eight bytes) and base 10 (at most ten). -/
import Derived.Test.YtjlnbahanghhcaaGreatDoorParse16
import Derived.Test.YtjlnbahanghhcaaGreatDoorCodeDec
import Derived.Deep.DeepCutAuto
import Derived.Deep.CutBlock
namespace Go.Proofs.YtjlnbahanghhcaaGreatDoor
open Go.RowKit
set_option linter.unusedVariables false
set_option linter.unusedSimpArgs false
/-- a numeral's value by a base. -/
def digP (b : Nat) (acc : Nat) : List UInt8 → Option Nat
  | [] => some acc
  | c :: r => if hexD c.toNat < b then digP b (acc * b + hexD c.toNat) r else none
theorem hexP_dig : ∀ (l : List UInt8) (acc : Nat), hexP acc l = digP 16 acc l
  | [], acc => rfl
  | c :: r, acc => by
    show (if _ then _ else _) = (if _ then _ else _)
    split
    · exact hexP_dig r _
    · rfl
theorem dec_dig (c : Nat) : hexD c < 10 ↔ (48 ≤ c ∧ c ≤ 57) := by
  unfold hexD
  split
  · omega
  · split
    · omega
    · split <;> omega
theorem parse_dig : ∀ (l : List UInt8) (acc k : Nat), acc < 10 ^ k → k + l.length ≤ 12 → Lib.parseUintM (2 ^ 64 - 1) acc l = match digP 10 acc l with | some u => .ok u | none => .syntax
  | [], acc, k, _, _ => rfl
  | c :: r, acc, k, h, hk => by
    have h12 : (10 : Nat) ^ k ≤ 10 ^ 11 := Nat.pow_le_pow_right (by decide) (by simp only [List.length_cons] at hk; omega)
    have e12 : (10 : Nat) ^ 11 = 100000000000 := by decide
    simp only [Lib.parseUintM, digP]
    by_cases hd : 48 ≤ c.toNat ∧ c.toNat ≤ 57
    · have hx : hexD c.toNat = c.toNat - 48 := by unfold hexD; rw [if_pos hd]
      rw [if_pos hd, if_pos ((dec_dig _).2 hd), if_neg (by omega), if_neg (by omega), hx]
      exact parse_dig r _ (k + 1) (by rw [Nat.pow_succ]; omega) (by simp only [List.length_cons] at hk; omega)
    · rw [if_neg hd, if_neg (fun h => hd ((dec_dig _).1 h))]
def numberOf (b most : Nat) (l : List UInt8) : Nat × Bool :=
  if 1 ≤ l.length ∧ l.length ≤ most then (match digP b 0 l with | some u => if u ≤ 4294967294 then (u, true) else (0, false) | none => (0, false)) else (0, false)
theorem numberOf_none (b most : Nat) (l : List UInt8) (h : digP b 0 l = none) : numberOf b most l = (0, false) := by
  unfold numberOf; rw [h]; split <;> rfl
theorem numberOf_len (b most : Nat) (l : List UInt8) (h : ¬ (1 ≤ l.length ∧ l.length ≤ most)) : numberOf b most l = (0, false) := by
  unfold numberOf; rw [if_neg h]
theorem digP_bad (b : Nat) (hb : b ≤ 16) (x : UInt8) (hx : hexD x.toNat = 99) : ∀ (l : List UInt8) (acc : Nat), x ∈ l → digP b acc l = none
  | [], acc, h => by simp at h
  | c :: r, acc, h => by
    show (if _ then _ else _) = _
    rcases List.mem_cons.1 h with rfl | h
    · rw [if_neg (by rw [hx]; omega)]
    · split
      · exact digP_bad b hb x hx r _ h
      · rfl
theorem ParseUint16 (t : ByteArray) (hne : t.size ≠ 0) (hmax : t.size ≤ 8) (w : World) (ev : Value) (hv : w.cell? ⟨6, 0, none⟩ = some ev) (hev : ev = .nilIface ∨ ∃ te pe, ev = .iface te pe) :
    Calls Tryz.prog 96 #[.string t, .int .i64 16, .int .i64 64] w fun e w' => (∃ u v : Value, e = .returned (.tuple #[u, v]) ∧ match hexP 0 t.data.toList with | some n => u = .int .u64 (n : Nat) ∧ v = .nilIface | none => u = .int .u64 0 ∧ ∃ N, v = .iface 150 (.pointer (some ⟨N, 0, none⟩))) ∧ Below w.heap.size w w' := by
  have HP := hide (iParse16 t hne hmax w)
  have hb1 : Below w.heap.size w (Lib.bytesWorld w 5 t) := ⟨rfl, rfl, rfl, by rw [Lib.bytesWorld_size]; omega, fun k hk => Lib.bytesWorld_at_old _ _ _ k hk⟩
  have hv1 : (Lib.bytesWorld w 5 t).cell? ⟨6, 0, none⟩ = some ev := (hb1.cell (World.block_lt_of_cell? w _ hv)).trans hv
  have HE := hide (fun (fn : ByteArray) => Tryz.strconv_toError_syntax fn t 16 64 ev (Lib.bytesWorld w 5 t) (by omega) hv1 hev)
  have HB1 := hide hb1
  clear hb1 hv1 hv
  generalize Lib.bytesWorld w 5 t = w1 at *
  cases h : hexP 0 t.data.toList with
  | some n =>
    rw [h] at HP
    simp only [tup16] at HP
    clear h
    go_enter Tryz.func96, Tryz.ntmps96
    go_wp2_with (go_at_call 111; refine HP.out.mono ?_; rintro e w2 ⟨rfl, rfl⟩)
    go_ret2
    exact ⟨⟨_, _, rfl, rfl, rfl⟩, HB1.out⟩
  | none =>
    rw [h] at HP
    simp only [tup16] at HP
    clear h
    go_enter Tryz.func96, Tryz.ntmps96
    go_wp2_with (first | (go_at_call 111; refine HP.out.mono ?_; rintro e w2 ⟨rfl, rfl⟩) | (go_at_call 112; refine (HE.out _).mono ?_; rintro e w3 ⟨M, rfl, hM, _, hb3⟩))
    go_ret2
    exact ⟨⟨_, _, rfl, rfl, _, rfl⟩, HB1.out.trans (hb3.mono HB1.out.size)⟩
end Go.Proofs.YtjlnbahanghhcaaGreatDoor
