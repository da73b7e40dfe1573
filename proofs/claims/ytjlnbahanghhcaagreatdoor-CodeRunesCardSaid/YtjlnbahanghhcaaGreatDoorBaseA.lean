/- Contracts of the layers fix, sum, seq and of head's small functions, as the document has them. Conditions: each theorem's own. -/
import Derived.Test.YtjlnbahanghhcaaGreatDoorProg
import Derived.WalkKit
import Derived.WalkSpells
import Derived.Deep.QuietTactic
import Derived.BigQuiet
import Derived.Laws.Bits64b
import Derived.Lib.BitFns
import Derived.Shelf.Strings.Builder1
import Derived.Shelf.Strings.Builder2
import Derived.Shelf.Strings.Trim
import Derived.Shelf.Small.Utf8
import Derived.Shelf.Small.Bits
import Derived.Shelf.Small.Strs
import Derived.Shelf.Small.Wraps
import Derived.Shelf.Strconv.Itoa0
import Derived.Ground.MpProg
import Derived.Shelf.Pu.ParseUintPublic10
import Derived.Shelf.Strings.Search1
import Derived.Shelf.Strings.Search2
import Derived.Shelf.Strings.Search3
import Derived.Shelf.LaysM
import Derived.Shelf.Strings.Shaped
import Derived.Shelf.Strings.Prefix
import Derived.Shelf.Strings.Runes
import Derived.Shelf.Strings.AsciiSet
import Derived.Shelf.Bits.Mul64
import Derived.Shelf.Unicode.DecodeSlow
import Derived.Laws.Externs
import Derived.WalkLawsBesides
import Derived.Deep.Draws
import Derived.Laws.OwnMore
import Derived.Laws.StructEq
import Derived.Laws.BitsAllLaws

/- Plain arithmetic under math/bits.Div64: one digit of a quotient at a time. No program in sight. -/
namespace Go.Proofs.YtjlnbahanghhcaaGreatDoor.DivMath
set_option linter.unusedVariables false
/-- one digit: what is known at each head of the loop: q yn1 + r = u, and the true digit is no greater than q. -/
theorem digit_start (yn1 yn0 u n1 : Nat) (h0 : yn0 < 4294967296) (hn : n1 < 4294967296) (hy : 0 < yn1) :
    (u * 4294967296 + n1) / (yn1 * 4294967296 + yn0) ≤ u / yn1 := by
  rw [Nat.div_le_iff_le_mul_add_pred (by omega)]
  have := Nat.div_add_mod u yn1
  have hm := Nat.mod_lt u hy
  generalize u / yn1 = q at *
  have e : (yn1 * 4294967296 + yn0) * q = (yn1 * q) * 4294967296 + yn0 * q := by
    rw [Nat.add_mul, Nat.mul_right_comm]
  rw [e]
  have : u * 4294967296 + n1 = (yn1 * q) * 4294967296 + (u % yn1) * 4294967296 + n1 := by
    conv => lhs; rw [← this]
    rw [Nat.add_mul]
  rw [this]
  generalize yn1 * q = z at *
  generalize yn0 * q = zz at *
  have : u % yn1 * 4294967296 + n1 < yn1 * 4294967296 := by omega
  omega

theorem expand (q yn1 yn0 : Nat) : q * (yn1 * 4294967296 + yn0) = (q * yn1) * 4294967296 + q * yn0 := by
  rw [Nat.mul_add, Nat.mul_assoc]

/-- the test says no: q is the digit. -/
theorem digit_done (q r yn1 yn0 u n1 : Nat) (hy : 0 < yn1) (hu : q * yn1 + r = u) (hq : (u * 4294967296 + n1) / (yn1 * 4294967296 + yn0) ≤ q)
    (ht : q * yn0 ≤ 4294967296 * r + n1) : q = (u * 4294967296 + n1) / (yn1 * 4294967296 + yn0) := by
  refine Nat.le_antisymm ?_ hq
  rw [Nat.le_div_iff_mul_le (by omega), expand]
  subst hu
  omega

/-- the test says yes: one less is still no less than the digit; and there is one less. -/
theorem digit_less (q r yn1 yn0 u n1 : Nat) (hy : 0 < yn1) (hn : n1 < 4294967296) (hlt : u < yn1 * 4294967296 + yn0) (hu : q * yn1 + r = u) (hq : (u * 4294967296 + n1) / (yn1 * 4294967296 + yn0) ≤ q)
    (ht : 4294967296 ≤ q ∨ 4294967296 * r + n1 < q * yn0) : (u * 4294967296 + n1) / (yn1 * 4294967296 + yn0) ≤ q - 1 ∧ 1 ≤ q ∧ (q - 1) * yn1 + (r + yn1) = u := by
  have h1 : (u * 4294967296 + n1) / (yn1 * 4294967296 + yn0) < q := by
    rw [Nat.div_lt_iff_lt_mul (by omega)]
    rcases ht with ht | ht
    · have : 4294967296 * (yn1 * 4294967296 + yn0) ≤ q * (yn1 * 4294967296 + yn0) := Nat.mul_le_mul_right _ ht
      omega
    · rw [expand]; subst hu; omega
  refine ⟨Nat.le_sub_one_of_lt h1, Nat.lt_of_le_of_lt (Nat.zero_le _) h1, ?_⟩
  have h2 : 0 < q := Nat.lt_of_le_of_lt (Nat.zero_le _) h1
  clear h1 hq
  obtain ⟨k, rfl⟩ : ∃ k, q = k + 1 := ⟨q - 1, by omega⟩
  rw [Nat.add_sub_cancel, ← hu, Nat.add_mul]
  omega

/-- the break: r has no room any more: q is the digit. -/
theorem digit_break (q r yn1 yn0 u n1 : Nat) (hy : 0 < yn1) (h0 : yn0 < 4294967296) (hlt : u < yn1 * 4294967296 + yn0) (hu : q * yn1 + r = u) (hq : (u * 4294967296 + n1) / (yn1 * 4294967296 + yn0) ≤ q)
    (hr : 4294967296 ≤ r) : q = (u * 4294967296 + n1) / (yn1 * 4294967296 + yn0) := by
  refine digit_done q r yn1 yn0 u n1 hy hu hq ?_
  have hq1 : q < 4294967296 := by
    have : q * yn1 < 4294967296 * yn1 := by rw [Nat.mul_comm 4294967296]; omega
    exact Nat.lt_of_mul_lt_mul_right this
  have : q * yn0 ≤ 4294967296 * yn0 := Nat.mul_le_mul_right _ (by omega)
  omega
/-- what a round of the loop may meet, in the walk's own words. -/
theorem ways (q r yn1 yn0 u n1 d : Nat) (hy : 0 < yn1) (h0 : yn0 < 4294967296) (hn : n1 < 4294967296) (hlt : u < yn1 * 4294967296 + yn0) (hu : q * yn1 + r = u)
    (hq : (u * 4294967296 + n1) / (yn1 * 4294967296 + yn0) ≤ q) (hd : (u * 4294967296 + n1) / (yn1 * 4294967296 + yn0) = d) :
    (d = q ∧ ¬ (4294967296 : Int) ≤ q ∧ ¬ 4294967296 * (r : Int) + n1 < (q : Int) * yn0 ∧ (q : Int) * yn0 ≤ 18446744065119617025 ∧ 0 ≤ (q : Int) * yn0) ∨
    ∃ p : Nat, q = p + 1 ∧ ((4294967296 : Int) ≤ (p : Int) + 1 ∧ True ∨ ¬ (4294967296 : Int) ≤ (p : Int) + 1 ∧ 4294967296 * (r : Int) + n1 < ((p : Int) + 1) * yn0 ∧ ((p : Int) + 1) * yn0 ≤ 18446744065119617025 ∧ 0 ≤ ((p : Int) + 1) * yn0) ∧
      (d = p ∧ (4294967296 : Int) ≤ (r : Int) + yn1 ∨ ¬ (4294967296 : Int) ≤ (r : Int) + yn1 ∧ p * yn1 + (r + yn1) = u ∧ (u * 4294967296 + n1) / (yn1 * 4294967296 + yn0) ≤ p) := by
  have bd : ∀ a : Nat, a < 4294967296 → a * yn0 ≤ 18446744065119617025 := fun a ha => by
    have : a * yn0 ≤ 4294967295 * 4294967295 := Nat.mul_le_mul (by omega) (by omega)
    omega
  by_cases c : 4294967296 ≤ q ∨ 4294967296 * r + n1 < q * yn0
  · right
    obtain ⟨a1, a2, a3⟩ := digit_less q r yn1 yn0 u n1 hy hn hlt hu hq c
    obtain ⟨p, rfl⟩ : ∃ p, q = p + 1 := ⟨q - 1, by omega⟩
    rw [Nat.add_sub_cancel] at a1 a3
    refine ⟨p, rfl, ?_, ?_⟩
    · by_cases c1 : 4294967296 ≤ p + 1
      · exact .inl ⟨by omega, trivial⟩
      · have c2 : 4294967296 * r + n1 < (p + 1) * yn0 := by
          rcases c with c | c
          · exact absurd c c1
          · exact c
        have b := bd (p + 1) (by omega)
        refine .inr ⟨by omega, ?_, ?_, ?_⟩
        · have : ((4294967296 * r + n1 : Nat) : Int) < (((p + 1) * yn0 : Nat) : Int) := by omega
          simpa using this
        · have : (((p + 1) * yn0 : Nat) : Int) ≤ 18446744065119617025 := by omega
          simpa using this
        · have : 0 ≤ (((p + 1) * yn0 : Nat) : Int) := by omega
          simpa using this
    · by_cases c3 : 4294967296 ≤ r + yn1
      · exact .inl ⟨hd ▸ (digit_break p (r + yn1) yn1 yn0 u n1 hy h0 hlt a3 a1 c3).symm, by omega⟩
      · exact .inr ⟨by omega, a3, a1⟩
  · left
    have c1 : q * yn0 ≤ 4294967296 * r + n1 := by omega
    have b := bd q (by omega)
    refine ⟨hd ▸ (digit_done q r yn1 yn0 u n1 hy hu hq c1).symm, by omega, ?_, ?_, ?_⟩
    · rw [← Int.natCast_mul]; omega
    · rw [← Int.natCast_mul]; omega
    · rw [← Int.natCast_mul]; omega

theorem digit_lt (y u n1 : Nat) (hn : n1 < 4294967296) (hlt : u < y) : (u * 4294967296 + n1) / y < 4294967296 := by
  rw [Nat.div_lt_iff_lt_mul (by omega)]; omega

/-- two digits make the quotient. -/
theorem two_digits' (B y u n1 n0 : Nat) (hy : 0 < y) :
    ((u * B + n1) / y) * B + (((u * B + n1) % y) * B + n0) / y = ((u * B + n1) * B + n0) / y ∧
    (((u * B + n1) % y) * B + n0) % y = ((u * B + n1) * B + n0) % y := by
  have h := Nat.div_add_mod (u * B + n1) y
  generalize (u * B + n1) = a at *
  have e2 : a * B + n0 = (a % y * B + n0) + y * (a / y * B) := by
    conv => lhs; rw [← h]
    rw [Nat.add_mul, Nat.mul_assoc]; omega
  rw [e2, Nat.add_mul_div_left _ _ hy, Nat.add_mul_mod_self_left]
  exact ⟨by omega, rfl⟩
/-- shifted both: the same quotient, the rest shifted. -/
theorem scaled (a y s : Nat) : (a * 2 ^ s) / (y * 2 ^ s) = a / y ∧ (a * 2 ^ s) % (y * 2 ^ s) / 2 ^ s = a % y := by
  have hp : 0 < 2 ^ s := Nat.two_pow_pos s
  refine ⟨Nat.mul_div_mul_right _ _ hp, ?_⟩
  rw [Nat.mul_mod_mul_right, Nat.mul_div_cancel _ hp]
end Go.Proofs.YtjlnbahanghhcaaGreatDoor.DivMath

/- math/bits.Div64: the quotient and the rest of a number of two halves. -/
namespace Go.Proofs.YtjlnbahanghhcaaGreatDoor
open Go.RowKit
set_option linter.unusedVariables false
set_option linter.unusedSimpArgs false
theorem hide_ {p : Prop} (h : p) : Hid p := h
theorem mul_bd {q z : Nat} (h : q < 4294967296) (k : z < 4294967296) : (q : Int) * (z : Int) ≤ 18446744065119617025 := by
  have : q * z ≤ 4294967295 * 4294967295 := Nat.mul_le_mul (by omega) (by omega)
  rw [← Int.natCast_mul]; omega
theorem mul_nn (q z : Nat) : 0 ≤ (q : Int) * (z : Int) := by rw [← Int.natCast_mul]; omega

set_option maxHeartbeats 4000000 in
set_option maxRecDepth 1000000 in
theorem div64_core (hi lo y s Y yn1 yn0 u l n1 n0 q0 r0 d1 R q2 r2 d2 R2 : Nat) (w : World) (hz : (hi : Int) ≠ 0) (h1 : (hi : Int) < y) (hs : s ≤ 63)
    (hy1 : yn1 < 4294967296) (hy0 : yn0 < 4294967296) (hn1 : n1 < 4294967296) (hn0 : n0 < 4294967296) (hyp : 0 < yn1) (hu : u < yn1 * 4294967296 + yn0) (hr0 : r0 < 4294967296)
    (hq0 : q0 < 17179869184) (hd1 : d1 < 4294967296) (hR : R < yn1 * 4294967296 + yn0) (hr2 : r2 < 4294967296) (hq2 : q2 < 17179869184) (hd2 : d2 < 4294967296)
    (i0 : Hid (q0 * yn1 + r0 = u ∧ (u * 4294967296 + n1) / (yn1 * 4294967296 + yn0) ≤ q0)) (i1 : Hid ((u * 4294967296 + n1) / (yn1 * 4294967296 + yn0) = d1))
    (i2 : Hid (q2 * yn1 + r2 = R ∧ (R * 4294967296 + n0) / (yn1 * 4294967296 + yn0) ≤ q2)) (i3 : Hid ((R * 4294967296 + n0) / (yn1 * 4294967296 + yn0) = d2))
    (e1 : IntKind.u64.wrap ((y : Int) * 2 ^ s) = (Y : Int)) (e2 : (Y : Int) / 4294967296 = (yn1 : Int)) (e3 : bits .and .u64 (Y : Int) 4294967295 = (yn0 : Int))
    (e4 : bits .or .u64 (IntKind.u64.wrap ((hi : Int) * 2 ^ s)) ((lo : Int) / 2 ^ (64 - s)) = (u : Int)) (e5 : IntKind.u64.wrap ((lo : Int) * 2 ^ s) = (l : Int))
    (e6 : (l : Int) / 4294967296 = (n1 : Int)) (e7 : bits .and .u64 (l : Int) 4294967295 = (n0 : Int)) (e8 : (u : Int) / (yn1 : Int) = (q0 : Int)) (e9 : IntKind.u64.wrap ((u : Int) - IntKind.u64.wrap ((q0 : Int) * (yn1 : Int))) = (r0 : Int))
    (f1 : IntKind.u64.wrap (IntKind.u64.wrap (IntKind.u64.wrap ((u : Int) * 4294967296) + (n1 : Int)) - IntKind.u64.wrap ((d1 : Int) * (Y : Int))) = (R : Int))
    (f2 : (R : Int) / (yn1 : Int) = (q2 : Int)) (f3 : IntKind.u64.wrap ((R : Int) - IntKind.u64.wrap ((q2 : Int) * (yn1 : Int))) = (r2 : Int))
    (f4 : IntKind.u64.wrap (IntKind.u64.wrap (IntKind.u64.wrap ((R : Int) * 4294967296) + (n0 : Int)) - IntKind.u64.wrap ((d2 : Int) * (Y : Int))) = (R2 : Int))
    (lz : ∀ W : World, Calls Tryz.prog 100 #[.int .u64 y] W fun e w' => e = .returned (.int .i64 s) ∧ W = w') :
    Calls Tryz.prog 72 #[.int .u64 hi, .int .u64 lo, .int .u64 y] w fun e w' => e = .returned (.tuple #[.int .u64 ((d1 : Int) * 4294967296 + (d2 : Int)), .int .u64 ((R2 : Int) / 2 ^ s)]) ∧ w = w' := by
  have b1 : ((y : Int) == 0) = false := by rw [beq_eq_false_iff_ne]; omega
  have b2 : ((hi : Int) == 0) = false := by rw [beq_eq_false_iff_ne]; omega
  have b3 : ¬ ((y : Int) ≤ hi) := by omega
  have b4 : ¬ ((yn1 : Int) = 0) := by omega
  go_enter Tryz.func72, Tryz.ntmps72
  go_wp2_with (go_at_call 100; refine (lz _).mono ?_; rintro e w' ⟨rfl, rfl⟩)
  clear e4 e5 e1 e8 e9 b3 b2 b1 lz e2 e3 e6 e7
  go_loop [15, 16] (fun a b => ∃ q r : Nat, a = .int .u64 q ∧ b = .int .u64 r ∧ r < 4294967296 ∧ q < 17179869184 ∧ Hid (q * yn1 + r = u ∧ (u * 4294967296 + n1) / (yn1 * 4294967296 + yn0) ≤ q)) (fun a _ => (intOf a).toNat)
  case atStart => exact ⟨q0, r0, rfl, rfl, hr0, hq0, i0⟩
  case round =>
    obtain ⟨q, r, rfl, rfl, hr, hq, H⟩ := hrel
    clear i0 hr0 hq0
    rcases DivMath.ways q r yn1 yn0 u n1 d1 hyp hy0 hn1 hu H.out.1 H.out.2 i1.out with ⟨rfl, a1, a2, a3, a4⟩ | ⟨p, rfl, ⟨a1, -⟩ | ⟨a1, a2, a3, a4⟩, ⟨rfl, c⟩ | ⟨c, hp⟩⟩
    all_goals clear H
    all_goals try (have Hp := hide_ hp; clear hp)
    all_goals go_wp2
    all_goals try (go_round; (case rel => exact ⟨p, r + yn1, by go_num, by go_num, by omega, by omega, Hp⟩); (case measure => first | (simp [intOf]; done) | (simp [intOf]; omega)))
    all_goals (clear f1 f2 f3 i1 hq hr; try clear a1; try clear a2; try clear a3; try clear a4; try clear c)
    all_goals go_loop [18, 16] (fun a b => ∃ q r : Nat, a = .int .u64 q ∧ b = .int .u64 r ∧ r < 4294967296 ∧ q < 17179869184 ∧ Hid (q * yn1 + r = R ∧ (R * 4294967296 + n0) / (yn1 * 4294967296 + yn0) ≤ q)) (fun a _ => (intOf a).toNat)
    all_goals try (case atStart => exact ⟨q2, r2, rfl, rfl, hr2, hq2, i2⟩)
    all_goals (
      case round =>
        obtain ⟨q, r, rfl, rfl, hr, hq, H⟩ := hrel
        clear i2 hr2 hq2
        rcases DivMath.ways q r yn1 yn0 R n0 d2 hyp hy0 hn0 hR H.out.1 H.out.2 i3.out with ⟨rfl, a1, a2, a3, a4⟩ | ⟨p, rfl, ⟨a1, -⟩ | ⟨a1, a2, a3, a4⟩, ⟨rfl, c⟩ | ⟨c, hp⟩⟩
        all_goals clear H
        all_goals try (have Hp := hide_ hp; clear hp)
        all_goals go_wp2
        all_goals try (go_round; (case rel => exact ⟨p, r + yn1, by go_num, by go_num, by omega, by omega, Hp⟩); (case measure => first | (simp [intOf]; done) | (simp [intOf]; omega)))
        all_goals (go_ret2; exact ⟨rfl, rfl⟩))

set_option maxHeartbeats 1000000 in
set_option maxRecDepth 1000000 in
theorem div64_low (lo y : Nat) (w : World) (hy : 0 < y) (h3 : lo < 18446744073709551616) :
    Calls Tryz.prog 72 #[.int .u64 0, .int .u64 lo, .int .u64 y] w fun e w' => e = .returned (.tuple #[.int .u64 ((lo / y : Nat) : Int), .int .u64 ((lo % y : Nat) : Int)]) ∧ (∃ n, w' = w.drewN n) := by
  have b1 : ((y : Int) == 0) = false := by rw [beq_eq_false_iff_ne]; omega
  have b3 : ¬ ((y : Int) ≤ 0) := by omega
  have b4 : ¬ ((y : Int) = 0) := by omega
  have ew : IntKind.u64.wrap ((lo : Int) / (y : Int)) = (lo : Int) / (y : Int) := by
    have e : (lo : Int) / (y : Int) = ((lo / y : Nat) : Int) := by rw [Int.natCast_ediv]
    have := Nat.div_le_self lo y
    rw [e, IntKind.wrap_u64]
    generalize lo / y = z at *
    omega
  clear h3
  go_enter Tryz.func72, Tryz.ntmps72
  go_wp2_with fail
  go_quiet (fail)
  go_wp2
  go_ret2
  exact ⟨by simp, _, rfl⟩

end Go.Proofs.YtjlnbahanghhcaaGreatDoor

/- math/bits.Div64: the quotient and the rest of a number of two halves, for every divisor above the upper half. -/
namespace Go.Proofs.YtjlnbahanghhcaaGreatDoor
open Go.RowKit
set_option linter.unusedVariables false
set_option linter.unusedSimpArgs false

theorem bitLenAux_two : ∀ (f x : Nat), 0 < x → x < 2 ^ f → ∃ m, Lib.bitLenAux f x = m + 1 ∧ m < f ∧ 2 ^ m ≤ x ∧ x < 2 ^ (m + 1)
  | 0, x, h0, h => by simp at h; omega
  | f + 1, x, h0, h => by
    by_cases h1 : x / 2 = 0
    · refine ⟨0, ?_, by omega, by omega, by omega⟩
      simp only [Lib.bitLenAux]; rw [if_neg (by omega), h1]
      cases f <;> simp [Lib.bitLenAux]
    · obtain ⟨m, e, a, b, c⟩ := bitLenAux_two f (x / 2) (by omega) (by rw [Nat.pow_succ] at h; omega)
      refine ⟨m + 1, ?_, by omega, ?_, ?_⟩
      · simp only [Lib.bitLenAux]; rw [if_neg (by omega), e]; omega
      · rw [Nat.pow_succ]; omega
      · rw [Nat.pow_succ]; omega
theorem wrap3 (a b c : Int) : IntKind.u64.wrap (IntKind.u64.wrap (IntKind.u64.wrap a + b) - IntKind.u64.wrap c) = (a + b - c) % 18446744073709551616 := by
  simp only [IntKind.wrap_u64]; omega
theorem wrap2 (a c : Int) : IntKind.u64.wrap (a - IntKind.u64.wrap c) = (a - c) % 18446744073709551616 := by
  simp only [IntKind.wrap_u64]; omega

set_option maxRecDepth 1000000 in
set_option maxHeartbeats 4000000 in
theorem div64 (hi lo y : Nat) (w : World) (h1 : hi < y) (h2 : y < 18446744073709551616) (h3 : lo < 18446744073709551616)
    (lz : ∀ W : World, Calls Tryz.prog 100 #[.int .u64 y] W fun e w' => e = .returned (.int .i64 (64 - (Lib.bitLen y : Int))) ∧ w' = W) :
    Calls Tryz.prog 72 #[.int .u64 hi, .int .u64 lo, .int .u64 y] w fun e w' => e = .returned (.tuple #[.int .u64 (((hi * 18446744073709551616 + lo) / y : Nat) : Int), .int .u64 (((hi * 18446744073709551616 + lo) % y : Nat) : Int)]) ∧ (∃ n, w' = w.drewN n) := by
  by_cases hz : hi = 0
  · subst hz
    have := div64_low lo y w (by omega) h3
    simpa using this
  obtain ⟨m, hb, hm, p1, p2⟩ := bitLenAux_two 64 y (by omega) h2
  have hS : 2 ^ (m + 1) * 2 ^ (63 - m) = 18446744073709551616 := by rw [← Nat.pow_add, show m + 1 + (63 - m) = 64 from by omega]
  have hS1 : 2 ^ m * 2 ^ (63 - m) = 9223372036854775808 := by rw [← Nat.pow_add, show m + (63 - m) = 63 from by omega]
  have hS2 : 2 ^ (64 - (63 - m)) = 2 ^ (m + 1) := by rw [show 64 - (63 - m) = m + 1 from by omega]
  have hSp := Nat.two_pow_pos (63 - m)
  have hmp := Nat.two_pow_pos (m + 1)
  generalize hs : 63 - m = s at *
  have hY1 : y * 2 ^ s < 18446744073709551616 := by rw [← hS]; exact Nat.mul_lt_mul_of_pos_right p2 hSp
  have hY0 : 9223372036854775808 ≤ y * 2 ^ s := by rw [← hS1]; exact Nat.mul_le_mul_right _ p1
  have hhi : hi * 2 ^ s + 2 ^ s ≤ y * 2 ^ s := by rw [← Nat.succ_mul]; exact Nat.mul_le_mul_right _ h1
  have hlo : lo / 2 ^ (m + 1) < 2 ^ s := by rw [Nat.div_lt_iff_lt_mul hmp, Nat.mul_comm, hS]; exact h3
  -- the whole, shifted
  have hN : (hi * 18446744073709551616 + lo) * 2 ^ s = (hi * 2 ^ s + lo / 2 ^ (m + 1)) * 18446744073709551616 + lo * 2 ^ s % 18446744073709551616 := by
    have e1 : lo * 2 ^ s / 18446744073709551616 = lo / 2 ^ (m + 1) := by rw [← hS, Nat.mul_div_mul_right _ _ hSp]
    have e2 := Nat.div_add_mod (lo * 2 ^ s) 18446744073709551616
    rw [e1] at e2
    rw [Nat.add_mul, Nat.mul_right_comm]
    generalize hi * 2 ^ s = a at *
    generalize lo * 2 ^ s = b at *
    generalize lo / 2 ^ (m + 1) = c at *
    omega
  have hsc := DivMath.scaled (hi * 18446744073709551616 + lo) y s
  rw [hN] at hsc
  have hu4 : bits .or .u64 (IntKind.u64.wrap ((hi : Int) * 2 ^ s)) ((lo : Int) / 2 ^ (64 - s)) = ((hi * 2 ^ s + lo / 2 ^ (m + 1) : Nat) : Int) := by
    have e1 : IntKind.u64.wrap ((hi : Int) * 2 ^ s) = ((hi * 2 ^ s : Nat) : Int) := by
      have : (hi : Int) * 2 ^ s = ((hi * 2 ^ s : Nat) : Int) := by push_cast; rfl
      rw [this, IntKind.wrap_u64]; omega
    have e2 : (lo : Int) / 2 ^ (64 - s) = ((lo / 2 ^ (m + 1) : Nat) : Int) := by
      rw [← hS2]; push_cast; rfl
    rw [e1, e2, bits_or_u64_nat _ _ (by omega) (by omega)]
    congr 1
    have := Nat.two_pow_add_eq_or_of_lt hlo hi
    rw [Nat.mul_comm hi]; exact this.symm
  have hu : hi * 2 ^ s + lo / 2 ^ (m + 1) < y * 2 ^ s := by omega
  have e1 : IntKind.u64.wrap ((y : Int) * 2 ^ s) = ((y * 2 ^ s : Nat) : Int) := by
    have : (y : Int) * 2 ^ s = ((y * 2 ^ s : Nat) : Int) := by push_cast; rfl
    rw [this, IntKind.wrap_u64]; omega
  have e5 : IntKind.u64.wrap ((lo : Int) * 2 ^ s) = ((lo * 2 ^ s % 18446744073709551616 : Nat) : Int) := by
    have : (lo : Int) * 2 ^ s = ((lo * 2 ^ s : Nat) : Int) := by push_cast; rfl
    rw [this, IntKind.wrap_u64]; omega
  have lz' : ∀ W : World, Calls Tryz.prog 100 #[.int .u64 y] W fun e w' => e = .returned (.int .i64 s) ∧ W = w' := fun W => (lz W).mono fun e w' ⟨a, b⟩ => ⟨by rw [a]; unfold Lib.bitLen; rw [hb]; congr 2; omega, b.symm⟩
  have hlm : lo * 2 ^ s % 18446744073709551616 < 18446744073709551616 := Nat.mod_lt _ (by omega)
  rw [← hsc.1, ← hsc.2]
  generalize hi * 2 ^ s + lo / 2 ^ (m + 1) = u at *
  generalize lo * 2 ^ s % 18446744073709551616 = l at *
  generalize y * 2 ^ s = Y at *
  clear hsc hN lz hb p1 p2 hS hS1 hS2 hhi hlo hmp
  -- the halves
  have e3 : bits .and .u64 (Y : Int) 4294967295 = ((Y % 4294967296 : Nat) : Int) := by
    have h := bits_and_u64_nat Y 4294967295 hY1 (by omega)
    rw [show Y &&& 4294967295 = Y % 4294967296 from Nat.and_two_pow_sub_one_eq_mod Y 32] at h
    exact h
  have e7 : bits .and .u64 (l : Int) 4294967295 = ((l % 4294967296 : Nat) : Int) := by
    have h := bits_and_u64_nat l 4294967295 hlm (by omega)
    rw [show l &&& 4294967295 = l % 4294967296 from Nat.and_two_pow_sub_one_eq_mod l 32] at h
    exact h
  have e2 : (Y : Int) / 4294967296 = ((Y / 4294967296 : Nat) : Int) := by omega
  have e6 : (l : Int) / 4294967296 = ((l / 4294967296 : Nat) : Int) := by omega
  have hyn : 2147483648 ≤ Y / 4294967296 := by omega
  have t := DivMath.two_digits' 4294967296 Y u (l / 4294967296) (l % 4294967296) (by omega)
  have et : (u * 4294967296 + l / 4294967296) * 4294967296 + l % 4294967296 = u * 18446744073709551616 + l := by
    rw [Nat.add_mul, Nat.mul_assoc, Nat.add_assoc, Nat.div_add_mod']
  rw [← et, ← t.1, ← t.2]
  clear et t
  have b1 := DivMath.digit_start (Y / 4294967296) (Y % 4294967296) u (l / 4294967296) (by omega) (by omega) (by omega)
  have q1 := Nat.div_add_mod u (Y / 4294967296)
  have m1 := Nat.mod_lt u (show 0 < Y / 4294967296 by omega)
  have l1 : u / (Y / 4294967296) < 17179869184 := by
    rw [Nat.div_lt_iff_lt_mul (by omega)]
    have : 17179869184 * 2147483648 ≤ 17179869184 * (Y / 4294967296) := Nat.mul_le_mul_left _ hyn
    omega
  have g1 := Nat.div_add_mod (u * 4294967296 + l / 4294967296) Y
  have c1 := Nat.mod_lt (u * 4294967296 + l / 4294967296) (show 0 < Y by omega)
  have k1 := DivMath.digit_lt Y u (l / 4294967296) (by omega) hu
  obtain ⟨R, hR⟩ : ∃ R, (u * 4294967296 + l / 4294967296) % Y = R := ⟨_, rfl⟩
  obtain ⟨d1, hd⟩ : ∃ d, (u * 4294967296 + l / 4294967296) / Y = d := ⟨_, rfl⟩
  rw [hR] at g1 c1 ⊢
  rw [hd] at g1 k1 ⊢
  have b2 := DivMath.digit_start (Y / 4294967296) (Y % 4294967296) R (l % 4294967296) (by omega) (by omega) (by omega)
  have q2 := Nat.div_add_mod R (Y / 4294967296)
  have m2 := Nat.mod_lt R (show 0 < Y / 4294967296 by omega)
  have l2 : R / (Y / 4294967296) < 17179869184 := by
    rw [Nat.div_lt_iff_lt_mul (by omega)]
    have : 17179869184 * 2147483648 ≤ 17179869184 * (Y / 4294967296) := Nat.mul_le_mul_left _ hyn
    omega
  have g2 := Nat.div_add_mod (R * 4294967296 + l % 4294967296) Y
  have c2 := Nat.mod_lt (R * 4294967296 + l % 4294967296) (show 0 < Y by omega)
  have k2 := DivMath.digit_lt Y R (l % 4294967296) (by omega) c1
  obtain ⟨R2, hR2⟩ : ∃ r, (R * 4294967296 + l % 4294967296) % Y = r := ⟨_, rfl⟩
  obtain ⟨d2, hd2⟩ : ∃ d, (R * 4294967296 + l % 4294967296) / Y = d := ⟨_, rfl⟩
  rw [hR2] at g2 c2 ⊢
  rw [hd2] at g2 k2 ⊢
  have hYe : Y / 4294967296 * 4294967296 + Y % 4294967296 = Y := Nat.div_add_mod' Y 4294967296
  rw [hYe] at b1 b2
  have core := div64_core hi lo y s Y (Y / 4294967296) (Y % 4294967296) u l (l / 4294967296) (l % 4294967296) (u / (Y / 4294967296)) (u % (Y / 4294967296)) d1 R (R / (Y / 4294967296)) (R % (Y / 4294967296)) d2 R2 w
    (by omega) (by omega) (by omega) (by omega) (by omega) (by omega) (by omega) (by omega) (by omega) (by omega) l1 k1 (by omega) (by omega) l2 k2
    (hide_ ⟨by rw [Nat.mul_comm]; exact q1, by rw [hYe]; exact b1⟩) (hide_ (by rw [hYe]; exact hd))
    (hide_ ⟨by rw [Nat.mul_comm]; exact q2, by rw [hYe]; exact b2⟩) (hide_ (by rw [hYe]; exact hd2))
    e1 e2 e3 hu4 e5 e6 e7 (Int.natCast_ediv _ _).symm
    (by
      rw [wrap2, ← Int.natCast_mul]
      rw [Nat.mul_comm] at q1
      generalize u / (Y / 4294967296) * (Y / 4294967296) = z at *
      omega)
    (by
      rw [wrap3, ← Int.natCast_mul]
      rw [Nat.mul_comm] at g1
      generalize d1 * Y = z at *
      omega)
    (Int.natCast_ediv _ _).symm
    (by
      rw [wrap2, ← Int.natCast_mul]
      rw [Nat.mul_comm] at q2
      generalize R / (Y / 4294967296) * (Y / 4294967296) = z at *
      omega)
    (by
      rw [wrap3, ← Int.natCast_mul]
      rw [Nat.mul_comm] at g2
      generalize d2 * Y = z at *
      omega)
    lz'
  refine core.mono ?_
  rintro e w' ⟨rfl, rfl⟩
  refine ⟨?_, 0, rfl⟩
  congr 4
end Go.Proofs.YtjlnbahanghhcaaGreatDoor

/- What the functions of fix come to, in plain arithmetic. No program in sight. -/
namespace Go.Proofs.YtjlnbahanghhcaaGreatDoor.Fix
set_option linter.unusedVariables false

/-- bit by bit from bit i - 1 down: the greatest number whose square is no more than N. -/
def sqrtFrom (N : Nat) : Nat → Nat → Nat
  | 0, r => r
  | i + 1, r => sqrtFrom N i (if (r + 2 ^ i) * (r + 2 ^ i) ≤ N then r + 2 ^ i else r)
def root (N : Nat) : Nat := sqrtFrom N 64 0
def sum (a b : Nat) : Nat := if a + b < 18446744073709551616 then a + b else 18446744073709551615
def prod (a b : Nat) : Nat := if a * b < 18446744073709551616 then a * b else 18446744073709551615
def quot (a b c : Nat) : Nat := if a * b / 18446744073709551616 < c then a * b / c else 18446744073709551615

theorem sqrtFrom_spec (N : Nat) : ∀ (i r : Nat), r * r ≤ N → N < (r + 2 ^ i) * (r + 2 ^ i) → sqrtFrom N i r * sqrtFrom N i r ≤ N ∧ N < (sqrtFrom N i r + 1) * (sqrtFrom N i r + 1)
  | 0, r, h0, h1 => ⟨h0, h1⟩
  | i + 1, r, h0, h1 => by
    simp only [sqrtFrom]
    by_cases h : (r + 2 ^ i) * (r + 2 ^ i) ≤ N
    · rw [if_pos h]
      refine sqrtFrom_spec N i _ h ?_
      rw [Nat.add_assoc, ← Nat.two_mul, ← Nat.pow_succ']
      exact h1
    · rw [if_neg h]
      exact sqrtFrom_spec N i _ h0 (Nat.lt_of_not_le h)
theorem root_spec (N : Nat) (h : N < 18446744073709551616 * 18446744073709551616) : root N * root N ≤ N ∧ N < (root N + 1) * (root N + 1) := by
  refine sqrtFrom_spec N 64 0 (Nat.zero_le _) ?_
  rw [Nat.zero_add, show (2 : Nat) ^ 64 = 18446744073709551616 from by decide]
  exact h
theorem sqrtFrom_le (N : Nat) : ∀ (i r : Nat), sqrtFrom N i r + 1 ≤ r + 2 ^ i
  | 0, r => by simp [sqrtFrom]
  | i + 1, r => by
    simp only [sqrtFrom]
    have hp := Nat.two_pow_pos i
    have e : 2 ^ (i + 1) = 2 ^ i + 2 ^ i := by rw [Nat.pow_succ]; omega
    split
    · have := sqrtFrom_le N i (r + 2 ^ i); omega
    · have := sqrtFrom_le N i r; omega
theorem root_lt (N : Nat) : root N < 18446744073709551616 := by
  have := sqrtFrom_le N 64 0
  rw [Nat.zero_add, show (2 : Nat) ^ 64 = 18446744073709551616 from by decide] at this
  unfold root
  omega
/-- a square between: the root is known. -/
theorem root_of (N r : Nat) (h0 : r * r ≤ N) (h1 : N < (r + 1) * (r + 1)) (h : N < 18446744073709551616 * 18446744073709551616) : root N = r := by
  obtain ⟨a, b⟩ := root_spec N h
  rcases Nat.lt_trichotomy (root N) r with c | c | c
  · have : (root N + 1) * (root N + 1) ≤ r * r := Nat.mul_le_mul c c
    omega
  · exact c
  · have : (r + 1) * (r + 1) ≤ root N * root N := Nat.mul_le_mul c c
    omega
theorem root_mono (M N : Nat) (hM : M ≤ N) (h : N < 18446744073709551616 * 18446744073709551616) : root M ≤ root N := by
  obtain ⟨a, b⟩ := root_spec N h
  obtain ⟨c, d⟩ := root_spec M (Nat.lt_of_le_of_lt hM h)
  rcases Nat.lt_or_ge (root N) (root M) with e | e
  · have : (root N + 1) * (root N + 1) ≤ root M * root M := Nat.mul_le_mul e e
    omega
  · exact e
theorem sum_lt (a b : Nat) : sum a b < 18446744073709551616 := by unfold sum; split <;> omega
theorem prod_lt (a b : Nat) : prod a b < 18446744073709551616 := by unfold prod; split <;> omega
theorem quot_lt (a b c : Nat) : quot a b c < 18446744073709551616 := by
  unfold quot
  split
  · rename_i h
    rw [Nat.div_lt_iff_lt_mul (Nat.pos_of_ne_zero (by rintro rfl; exact absurd h (Nat.not_lt_zero _)))]
    rw [Nat.div_lt_iff_lt_mul (by omega)] at h
    rw [Nat.mul_comm 18446744073709551616]; exact h
  · omega
end Go.Proofs.YtjlnbahanghhcaaGreatDoor.Fix

/-
  DERIVED: THE SHELF's CONTRACTS AT THIS DUMP, IN PLAIN WORDS (tools/lay-plain.mjs out of 'TryzShelf.lean', which tools/lay-shelf.mjs wrote): THE SAME DECLARATIONS UNDER THE SAME NAMES: 'import', 'namespace', 'open', 'def', 'theorem' AND NOTHING ELSE: no command of the shelf's: FOR A HAND-IN. Each laying: the table of numbers ('.._ren') and one theorem, a field a fact of the dump's own or the kernel's comparison; each contract: ONE APPLICATION.
-/
namespace Go.Proofs
open Go.Shelf
def Tryz.lays169_ren : Go.Shelf.Ren := ⟨fun | 169 => 67 | n => n, fun | 70 => 92 | 9 => 9 | 0 => 0 | 72 => 94 | 37 => 35 | 127 => 123 | 3 => 3 | 5 => 5 | n => n, fun | n => n⟩
theorem Tryz.lays169 : Go.Proofs.Lays.n169 Tryz.prog Tryz.lays169_ren := {
  mixed := by kernel_rfl
  f169 := Tryz.func67.trans (congrArg some (by kernel_rfl))
  t0 := Tryz.underlying0
  a0 := Tryz.isAgg0
  z0 := Tryz.sizeOf0
  v0 := Tryz.zeroValue0
  t3 := Tryz.underlying3
  a3 := Tryz.isAgg3
  z3 := Tryz.sizeOf3
  v3 := Tryz.zeroValue3
  t9 := Tryz.underlying9
  a9 := Tryz.isAgg9
  z9 := Tryz.sizeOf9
  v9 := Tryz.zeroValue9
  t37 := Tryz.underlying35
  a37 := Tryz.isAgg35
  z37 := Tryz.sizeOf35
  v37 := Tryz.zeroValue35
  t70 := Tryz.underlying92
  a70 := Tryz.isAgg92
  z70 := Tryz.sizeOf92
  v70 := Tryz.zeroValue92
  t72 := Tryz.underlying94
  a72 := Tryz.isAgg94
  z72 := Tryz.sizeOf94
  v72 := Tryz.zeroValue94
  t127 := Tryz.underlying123
  a127 := Tryz.isAgg123
  z127 := Tryz.sizeOf123
  v127 := Tryz.zeroValue123 }
theorem Tryz.Builder_Extra_169 : Builder.Extra Tryz.prog Tryz.lays169_ren := {
  sizeBuilder := by kernel_rfl
  liesBuilder := by kernel_rfl
  t5 := Tryz.underlying5
  a5 := Tryz.isAgg5
  z5 := Tryz.sizeOf5
  v5 := Tryz.zeroValue5
  infoByte := by kernel_rfl
  cellsByte := by kernel_rfl
  sizeByte := by kernel_rfl
  neB5 := by decide }
open Go.RowKit in
/-- (*strings.Builder).String: "String returns the accumulated string.": OF A BUILDER THAT HOLDS AT LEAST ONE BYTE. ✋ THE MODEL FREEZES THOSE BYTES IN THE BUFFER (unsafe.String): a later write INTO them ends the model's run without an answer; a later append BEHIND them goes on. The statement's order of evaluation is drawn: one draw. (LAID: no walk: one application.) -/
theorem Tryz.Builder_String (B b : Nat) (l : List UInt8) (w : World) (h : Lib.IsBuilder 94 5 B b (Lib.byteCells l) w) (h0 : l ≠ []) :
    Calls Tryz.prog 67 #[.pointer (some ⟨b, 0, none⟩)] w fun e w' => e = .returned (.string ⟨l.toArray⟩) ∧ Below B w w' := Any.Builder_String Tryz.lays169 Tryz.Builder_Extra_169 B b l w h h0
open Go.RowKit in
/-- (*strings.Builder).String OF A BUILDER THAT HOLDS NO BYTE: the empty string. (Its buffer is nil, or a row of which it has taken nothing yet; where that row has NO capacity the model lays one new block for unsafe.SliceData's 'some address'.) One draw. (LAID: no walk: one application.) -/
theorem Tryz.Builder_String_empty (B b : Nat) (w : World) (h : Lib.IsBuilder 94 5 B b [] w) (hBw : B ≤ w.heap.size) :
    Calls Tryz.prog 67 #[.pointer (some ⟨b, 0, none⟩)] w fun e w' => e = .returned (.string ⟨#[]⟩) ∧ Below B w w' := Any.Builder_String_empty Tryz.lays169 Tryz.Builder_Extra_169 B b w h hBw
open Go.RowKit in
/-- (*strings.Builder).String: "String returns the accumulated string.": WHATEVER THE BUILDER HOLDS. (LAID: no walk: one application.) -/
theorem Tryz.Builder_String_any (B b : Nat) (l : List UInt8) (w : World) (h : Lib.IsBuilder 94 5 B b (Lib.byteCells l) w) (hBw : B ≤ w.heap.size) :
    Calls Tryz.prog 67 #[.pointer (some ⟨b, 0, none⟩)] w fun e w' => e = .returned (.string ⟨l.toArray⟩) ∧ Below B w w' := Any.Builder_String_any Tryz.lays169 Tryz.Builder_Extra_169 B b l w h hBw
def Tryz.lays241_ren : Go.Shelf.Ren := ⟨fun | 241 => 101 | 277 => 116 | n => n, fun | 70 => 92 | 3 => 3 | 0 => 0 | 72 => 94 | 37 => 35 | 5 => 5 | n => n, fun | n => n⟩
theorem Tryz.lays241 : Go.Proofs.Lays.n241 Tryz.prog Tryz.lays241_ren := {
  mixed := by kernel_rfl
  f241 := Tryz.func101.trans (congrArg some (by kernel_rfl))
  f277 := Tryz.func116.trans (congrArg some (by kernel_rfl))
  t0 := Tryz.underlying0
  a0 := Tryz.isAgg0
  z0 := Tryz.sizeOf0
  v0 := Tryz.zeroValue0
  t3 := Tryz.underlying3
  a3 := Tryz.isAgg3
  z3 := Tryz.sizeOf3
  v3 := Tryz.zeroValue3
  t37 := Tryz.underlying35
  a37 := Tryz.isAgg35
  z37 := Tryz.sizeOf35
  v37 := Tryz.zeroValue35
  t70 := Tryz.underlying92
  a70 := Tryz.isAgg92
  z70 := Tryz.sizeOf92
  v70 := Tryz.zeroValue92
  t72 := Tryz.underlying94
  a72 := Tryz.isAgg94
  z72 := Tryz.sizeOf94
  v72 := Tryz.zeroValue94 }
theorem Tryz.Builder_Extra_241 : Builder.Extra Tryz.prog Tryz.lays241_ren := {
  sizeBuilder := by kernel_rfl
  liesBuilder := by kernel_rfl
  t5 := Tryz.underlying5
  a5 := Tryz.isAgg5
  z5 := Tryz.sizeOf5
  v5 := Tryz.zeroValue5
  infoByte := by kernel_rfl
  cellsByte := by kernel_rfl
  sizeByte := by kernel_rfl
  neB5 := by decide }
open Go.RowKit in
/-- (*strings.Builder).grow (no doc but "grow copies the buffer to a new, larger buffer so that there are at least n bytes of capacity beyond len(b.buf)."): AT A BUILDER WITHOUT A BUFFER: a new row of whatever bytes for its buffer, none of them its own yet. Three draws. (LAID: no walk: one application.) -/
theorem Tryz.Builder_grow_fresh (B b n : Nat) (w : World) (hB : B ≤ b) (hbk : w.heap[b]? = some (.cells #[.pointer (some ⟨b, 0, none⟩), .slice none 0 0] 94 (0, 0))) (hBw : B ≤ w.heap.size) (hn : n ≤ 281474976710656) :
    Calls Tryz.prog 101 #[.pointer (some ⟨b, 0, none⟩), .int .i64 n] w fun e w' => e = .returned (.tuple #[]) ∧ (Lib.BuilderAt 94 5 B b (.pointer (some ⟨b, 0, none⟩)) [] w' ∧ Below B w w') := Any.Builder_grow_fresh Tryz.lays241 Tryz.Builder_Extra_241 B b n w hB hbk hBw hn
def Tryz.lays165_ren : Go.Shelf.Ren := ⟨fun | 165 => 85 | 240 => 97 | 241 => 101 | 276 => 113 | 277 => 116 | n => n, fun | 70 => 92 | 3 => 3 | 0 => 0 | 4 => 4 | 9 => 9 | 20 => 20 | 72 => 94 | 37 => 35 | 164 => 134 | 5 => 5 | n => n, fun | n => n⟩
theorem Tryz.lays165 : Go.Proofs.Lays.n165 Tryz.prog Tryz.lays165_ren := {
  mixed := by kernel_rfl
  f165 := Tryz.func85.trans (congrArg some (by kernel_rfl))
  f240 := Tryz.func97.trans (congrArg some (by kernel_rfl))
  f241 := Tryz.func101.trans (congrArg some (by kernel_rfl))
  f276 := Tryz.func113.trans (congrArg some (by kernel_rfl))
  f277 := Tryz.func116.trans (congrArg some (by kernel_rfl))
  t0 := Tryz.underlying0
  a0 := Tryz.isAgg0
  z0 := Tryz.sizeOf0
  v0 := Tryz.zeroValue0
  t3 := Tryz.underlying3
  a3 := Tryz.isAgg3
  z3 := Tryz.sizeOf3
  v3 := Tryz.zeroValue3
  t4 := Tryz.underlying4
  a4 := Tryz.isAgg4
  z4 := Tryz.sizeOf4
  v4 := Tryz.zeroValue4
  t9 := Tryz.underlying9
  a9 := Tryz.isAgg9
  z9 := Tryz.sizeOf9
  v9 := Tryz.zeroValue9
  t20 := Tryz.underlying20
  a20 := Tryz.isAgg20
  z20 := Tryz.sizeOf20
  v20 := Tryz.zeroValue20
  t37 := Tryz.underlying35
  a37 := Tryz.isAgg35
  z37 := Tryz.sizeOf35
  v37 := Tryz.zeroValue35
  t70 := Tryz.underlying92
  a70 := Tryz.isAgg92
  z70 := Tryz.sizeOf92
  v70 := Tryz.zeroValue92
  t72 := Tryz.underlying94
  a72 := Tryz.isAgg94
  z72 := Tryz.sizeOf94
  v72 := Tryz.zeroValue94
  t164 := Tryz.underlying134
  a164 := Tryz.isAgg134
  z164 := Tryz.sizeOf134
  v164 := Tryz.zeroValue134 }
theorem Tryz.Builder_Extra_165 : Builder.Extra Tryz.prog Tryz.lays165_ren := {
  sizeBuilder := by kernel_rfl
  liesBuilder := by kernel_rfl
  t5 := Tryz.underlying5
  a5 := Tryz.isAgg5
  z5 := Tryz.sizeOf5
  v5 := Tryz.zeroValue5
  infoByte := by kernel_rfl
  cellsByte := by kernel_rfl
  sizeByte := by kernel_rfl
  neB5 := by decide }
open Go.RowKit in
/-- (*strings.Builder).Grow AT A BUILDER THAT HAS NOT BEEN WRITTEN ('var b strings.Builder; b.Grow(n)'): "Grow grows b's capacity, if necessary, to guarantee space for another n bytes.": it holds no byte behind it as before it. (LAID: no walk: one application.) -/
theorem Tryz.Builder_Grow_fresh (B b n : Nat) (w : World) (hB : B ≤ b) (hbk : w.heap[b]? = some (.cells #[.pointer none, .slice none 0 0] 94 (0, 0))) (hBw : B ≤ w.heap.size) (hn : n ≤ 281474976710656) :
    Calls Tryz.prog 85 #[.pointer (some ⟨b, 0, none⟩), .int .i64 n] w fun e w' => e = .returned (.tuple #[]) ∧ (Lib.BuilderAt 94 5 B b (.pointer (some ⟨b, 0, none⟩)) [] w' ∧ Below B w w') := Any.Builder_Grow_fresh Tryz.lays165 Tryz.Builder_Extra_165 B b n w hB hbk hBw hn
def Tryz.lays232_ren : Go.Shelf.Ren := ⟨fun | 232 => 87 | n => n, fun | 9 => 9 | 5 => 5 | 3 => 3 | 4 => 4 | n => n, fun | n => n⟩
theorem Tryz.lays232 : Go.Proofs.Lays.n232 Tryz.prog Tryz.lays232_ren := {
  mixed := by kernel_rfl
  f232 := Tryz.func87.trans (congrArg some (by kernel_rfl))
  t3 := Tryz.underlying3
  a3 := Tryz.isAgg3
  z3 := Tryz.sizeOf3
  v3 := Tryz.zeroValue3
  t4 := Tryz.underlying4
  a4 := Tryz.isAgg4
  z4 := Tryz.sizeOf4
  v4 := Tryz.zeroValue4
  t5 := Tryz.underlying5
  a5 := Tryz.isAgg5
  z5 := Tryz.sizeOf5
  v5 := Tryz.zeroValue5
  t9 := Tryz.underlying9
  a9 := Tryz.isAgg9
  z9 := Tryz.sizeOf9
  v9 := Tryz.zeroValue9 }
open Go.RowKit in
/-- strings.trimRightByte (no doc; what TrimRight and Trim call at a cutset of one ASCII byte): the trailing bytes that are c are cut off. The world is as it was. ('hs': a string's length is a number that an int holds.) (LAID: no walk: one application.) -/
theorem Tryz.strings_trimRightByte (s : ByteArray) (c : UInt8) (w : World) (hs : s.size ≤ 9223372036854775807) :
    Calls Tryz.prog 87 #[.string s, .int .u8 c.toNat] w fun e w' => e = .returned (.string ⟨(Lib.trimRightB s.data.toList c).toArray⟩) ∧ w' = w := Any.strings_trimRightByte Tryz.lays232 s c w hs
def Tryz.lays162_ren : Go.Shelf.Ren := ⟨fun | 162 => 59 | 232 => 87 | 227 => 88 | 234 => 89 | 236 => 90 | 228 => 102 | 271 => 103 | 151 => 104 | 120 => 117 | 197 => 70 | 152 => 118 | 260 => 99 | 137 => 105 | 119 => 131 | 224 => 132 | 225 => 133 | 217 => 119 | 266 => 134 | n => n, fun | 9 => 9 | 4 => 4 | 3 => 3 | 5 => 5 | 117 => 116 | 116 => 115 | 0 => 0 | 124 => 119 | 21 => 21 | 105 => 71 | 46 => 61 | 119 => 136 | 139 => 139 | 138 => 138 | n => n, fun | 3 => 2 | 4 => 3 | n => n⟩
theorem Tryz.lays162 : Go.Proofs.Lays.n162 Tryz.prog Tryz.lays162_ren := {
  mixed := by kernel_rfl
  f119 := Tryz.func131.trans (congrArg some (by kernel_rfl))
  f120 := Tryz.func117.trans (congrArg some (by kernel_rfl))
  f137 := Tryz.func105.trans (congrArg some (by kernel_rfl))
  f151 := Tryz.func104.trans (congrArg some (by kernel_rfl))
  f152 := Tryz.func118.trans (congrArg some (by kernel_rfl))
  f162 := Tryz.func59.trans (congrArg some (by kernel_rfl))
  f197 := Tryz.func70.trans (congrArg some (by kernel_rfl))
  f217 := Tryz.func119.trans (congrArg some (by kernel_rfl))
  f224 := Tryz.func132.trans (congrArg some (by kernel_rfl))
  f225 := Tryz.func133.trans (congrArg some (by kernel_rfl))
  f227 := Tryz.func88.trans (congrArg some (by kernel_rfl))
  f228 := Tryz.func102.trans (congrArg some (by kernel_rfl))
  f232 := Tryz.func87.trans (congrArg some (by kernel_rfl))
  f234 := Tryz.func89.trans (congrArg some (by kernel_rfl))
  f236 := Tryz.func90.trans (congrArg some (by kernel_rfl))
  f260 := Tryz.func99.trans (congrArg some (by kernel_rfl))
  f266 := Tryz.func134.trans (congrArg some (by kernel_rfl))
  f271 := Tryz.func103.trans (congrArg some (by kernel_rfl))
  t0 := Tryz.underlying0
  a0 := Tryz.isAgg0
  z0 := Tryz.sizeOf0
  v0 := Tryz.zeroValue0
  t3 := Tryz.underlying3
  a3 := Tryz.isAgg3
  z3 := Tryz.sizeOf3
  v3 := Tryz.zeroValue3
  t4 := Tryz.underlying4
  a4 := Tryz.isAgg4
  z4 := Tryz.sizeOf4
  v4 := Tryz.zeroValue4
  t5 := Tryz.underlying5
  a5 := Tryz.isAgg5
  z5 := Tryz.sizeOf5
  v5 := Tryz.zeroValue5
  t9 := Tryz.underlying9
  a9 := Tryz.isAgg9
  z9 := Tryz.sizeOf9
  v9 := Tryz.zeroValue9
  t21 := Tryz.underlying21
  a21 := Tryz.isAgg21
  z21 := Tryz.sizeOf21
  v21 := Tryz.zeroValue21
  t46 := Tryz.underlying61
  a46 := Tryz.isAgg61
  z46 := Tryz.sizeOf61
  v46 := Tryz.zeroValue61
  t105 := Tryz.underlying71
  a105 := Tryz.isAgg71
  z105 := Tryz.sizeOf71
  v105 := Tryz.zeroValue71
  t116 := Tryz.underlying115
  a116 := Tryz.isAgg115
  z116 := Tryz.sizeOf115
  t117 := Tryz.underlying116
  a117 := Tryz.isAgg116
  z117 := Tryz.sizeOf116
  v117 := Tryz.zeroValue116
  t119 := Tryz.underlying136
  a119 := Tryz.isAgg136
  z119 := Tryz.sizeOf136
  t124 := Tryz.underlying119
  a124 := Tryz.isAgg119
  z124 := Tryz.sizeOf119
  v124 := Tryz.zeroValue119
  t138 := Tryz.underlying138
  a138 := Tryz.isAgg138
  z138 := Tryz.sizeOf138
  v138 := Tryz.zeroValue138
  t139 := Tryz.underlying139
  a139 := Tryz.isAgg139
  z139 := Tryz.sizeOf139
  v139 := Tryz.zeroValue139
  g3 := by kernel_rfl
  g4 := by kernel_rfl }
open Go.RowKit in
/-- strings.TrimRight: "TrimRight returns a slice of the string s, with all trailing Unicode code points contained in cutset removed.": AT A cutset OF ONE ASCII BYTE. The world is as it was. (LAID: no walk: one application.) -/
theorem Tryz.strings_TrimRight_one (s : ByteArray) (c : UInt8) (hc : c.toNat < 128) (w : World) (hs : s.size ≤ 9223372036854775807) :
    Calls Tryz.prog 59 #[.string s, .string ⟨#[c]⟩] w fun e w' => e = .returned (.string ⟨(Lib.trimRightB s.data.toList c).toArray⟩) ∧ w' = w := Any.strings_TrimRight_one Tryz.lays162 s c hc w hs
def Tryz.lays119_ren : Go.Shelf.Ren := ⟨fun | 119 => 131 | n => n, fun | 21 => 21 | 4 => 4 | n => n, fun | n => n⟩
theorem Tryz.lays119 : Go.Proofs.Lays.n119 Tryz.prog Tryz.lays119_ren := {
  mixed := by kernel_rfl
  f119 := Tryz.func131.trans (congrArg some (by kernel_rfl))
  t4 := Tryz.underlying4
  a4 := Tryz.isAgg4
  z4 := Tryz.sizeOf4
  v4 := Tryz.zeroValue4
  t21 := Tryz.underlying21
  a21 := Tryz.isAgg21
  z21 := Tryz.sizeOf21
  v21 := Tryz.zeroValue21 }
/-- utf8.ValidRune: "ValidRune reports whether r can be legally encoded as UTF-8. Code points that are out of range or a surrogate half are illegal.": IT RETURNS 'Lib.validRune r'; the world is as it was. (LAID: no walk: one application.) -/
theorem Tryz.utf8_ValidRune (r : Int) (w : World) :
    Calls Tryz.prog 131 #[.int .i32 r] w fun e w' => e = .returned (.bool (Lib.validRune r)) ∧ w' = w := Any.utf8_ValidRune Tryz.lays119 r w
def Tryz.lays120_ren : Go.Shelf.Ren := ⟨fun | 120 => 117 | n => n, fun | 5 => 5 | 4 => 4 | n => n, fun | n => n⟩
theorem Tryz.lays120 : Go.Proofs.Lays.n120 Tryz.prog Tryz.lays120_ren := {
  mixed := by kernel_rfl
  f120 := Tryz.func117.trans (congrArg some (by kernel_rfl))
  t4 := Tryz.underlying4
  a4 := Tryz.isAgg4
  z4 := Tryz.sizeOf4
  v4 := Tryz.zeroValue4
  t5 := Tryz.underlying5
  a5 := Tryz.isAgg5
  z5 := Tryz.sizeOf5
  v5 := Tryz.zeroValue5 }
/-- utf8.RuneStart: "RuneStart reports whether the byte could be the first byte of an encoded, possibly invalid rune. Second and subsequent bytes always have the top two bits set to 10.": IT RETURNS 'Lib.runeStart b'; the world is as it was. ('h0', 'h1': b is a byte: a caller has it of every byte that it was handed.) (LAID: no walk: one application.) -/
theorem Tryz.utf8_RuneStart (b : Int) (w : World) (h0 : 0 ≤ b) (h1 : b < 256) :
    Calls Tryz.prog 117 #[.int .u8 b] w fun e w' => e = .returned (.bool (Lib.runeStart b)) ∧ w' = w := Any.utf8_RuneStart Tryz.lays120 b w h0 h1
def Tryz.lays134_ren : Go.Shelf.Ren := ⟨fun | 134 => 100 | 129 => 115 | n => n, fun | 53 => 22 | 3 => 3 | 4 => 4 | 46 => 61 | 5 => 5 | 9 => 9 | n => n, fun | n => n⟩
theorem Tryz.lays134 : Go.Proofs.Lays.n134 Tryz.prog Tryz.lays134_ren := {
  mixed := by kernel_rfl
  f129 := Tryz.func115.trans (congrArg some (by kernel_rfl))
  f134 := Tryz.func100.trans (congrArg some (by kernel_rfl))
  t3 := Tryz.underlying3
  a3 := Tryz.isAgg3
  z3 := Tryz.sizeOf3
  v3 := Tryz.zeroValue3
  t4 := Tryz.underlying4
  a4 := Tryz.isAgg4
  z4 := Tryz.sizeOf4
  v4 := Tryz.zeroValue4
  t5 := Tryz.underlying5
  a5 := Tryz.isAgg5
  z5 := Tryz.sizeOf5
  v5 := Tryz.zeroValue5
  t9 := Tryz.underlying9
  a9 := Tryz.isAgg9
  z9 := Tryz.sizeOf9
  v9 := Tryz.zeroValue9
  t46 := Tryz.underlying61
  a46 := Tryz.isAgg61
  z46 := Tryz.sizeOf61
  v46 := Tryz.zeroValue61
  t53 := Tryz.underlying22
  a53 := Tryz.isAgg22
  z53 := Tryz.sizeOf22
  v53 := Tryz.zeroValue22 }
/-- bits.LeadingZeros64: "LeadingZeros64 returns the number of leading zero bits in x; the result is 64 for x == 0.": IT RETURNS '64 - Lib.bitLen x'; the world is as it was. ITS CALLEE bits.Len64 IS MET BY ITS OWN CONTRACT OFF THE SHELF (lay that first): entered in place it sends the kernel out of memory. (LAID: no walk: one application.) -/
theorem Tryz.bits_LeadingZeros64 (x : Int) (w : World) (h0 : 0 ≤ x) (h1 : x ≤ 18446744073709551615) :
    Calls Tryz.prog 100 #[.int .u64 x] w fun e w' => e = .returned (.int .i64 (64 - (Lib.bitLen x.toNat : Int))) ∧ w' = w := Any.bits_LeadingZeros64 Tryz.lays134 x w h0 h1
def Tryz.lays137_ren : Go.Shelf.Ren := ⟨fun | 137 => 105 | 217 => 119 | 266 => 134 | n => n, fun | 9 => 9 | 5 => 5 | 3 => 3 | n => n, fun | n => n⟩
theorem Tryz.lays137 : Go.Proofs.Lays.n137 Tryz.prog Tryz.lays137_ren := {
  mixed := by kernel_rfl
  f137 := Tryz.func105.trans (congrArg some (by kernel_rfl))
  f217 := Tryz.func119.trans (congrArg some (by kernel_rfl))
  f266 := Tryz.func134.trans (congrArg some (by kernel_rfl))
  t3 := Tryz.underlying3
  a3 := Tryz.isAgg3
  z3 := Tryz.sizeOf3
  v3 := Tryz.zeroValue3
  t5 := Tryz.underlying5
  a5 := Tryz.isAgg5
  z5 := Tryz.sizeOf5
  v5 := Tryz.zeroValue5
  t9 := Tryz.underlying9
  a9 := Tryz.isAgg9
  z9 := Tryz.sizeOf9
  v9 := Tryz.zeroValue9 }
open Go.RowKit in
/-- strings.IndexByte: "IndexByte returns the index of the first instance of c in s, or -1 if c is not present in s.": IT RETURNS 'Lib.indexByte s c'; the world is as it was. (LAID: no walk: one application.) -/
theorem Tryz.strings_IndexByte (s : ByteArray) (c : Int) (w : World) :
    Calls Tryz.prog 105 #[.string s, .int .u8 c] w fun e w' => e = .returned (.int .i64 (Lib.indexByte s.data.toList c.toNat.toUInt8)) ∧ w' = w := Any.strings_IndexByte Tryz.lays137 s c w
def Tryz.lays210_ren : Go.Shelf.Ren := ⟨fun | 210 => 93 | 206 => 94 | n => n, fun | 9 => 9 | 4 => 4 | 3 => 3 | n => n, fun | n => n⟩
theorem Tryz.lays210 : Go.Proofs.Lays.n210 Tryz.prog Tryz.lays210_ren := {
  mixed := by kernel_rfl
  f206 := Tryz.func94.trans (congrArg some (by kernel_rfl))
  f210 := Tryz.func93.trans (congrArg some (by kernel_rfl))
  t3 := Tryz.underlying3
  a3 := Tryz.isAgg3
  z3 := Tryz.sizeOf3
  v3 := Tryz.zeroValue3
  t4 := Tryz.underlying4
  a4 := Tryz.isAgg4
  z4 := Tryz.sizeOf4
  v4 := Tryz.zeroValue4
  t9 := Tryz.underlying9
  a9 := Tryz.isAgg9
  z9 := Tryz.sizeOf9
  v9 := Tryz.zeroValue9 }
open Go.RowKit in
/-- internal/stringslite.CutPrefix (what strings.CutPrefix calls). (LAID: no walk: one application.) -/
theorem Tryz.stringslite_CutPrefix (s p : ByteArray) (w : World) :
    Calls Tryz.prog 93 #[.string s, .string p] w fun e w' => e = .returned (.tuple #[.string ⟨(Lib.trimPrefix s.data.toList p.data.toList).toArray⟩, .bool (Lib.hasPrefix s.data.toList p.data.toList)]) ∧ w' = w := Any.stringslite_CutPrefix Tryz.lays210 s p w
def Tryz.lays103_ren : Go.Shelf.Ren := ⟨fun | 103 => 62 | 210 => 93 | 206 => 94 | n => n, fun | 9 => 9 | 4 => 4 | 24 => 87 | 3 => 3 | n => n, fun | n => n⟩
theorem Tryz.lays103 : Go.Proofs.Lays.n103 Tryz.prog Tryz.lays103_ren := {
  mixed := by kernel_rfl
  f103 := Tryz.func62.trans (congrArg some (by kernel_rfl))
  f206 := Tryz.func94.trans (congrArg some (by kernel_rfl))
  f210 := Tryz.func93.trans (congrArg some (by kernel_rfl))
  t3 := Tryz.underlying3
  a3 := Tryz.isAgg3
  z3 := Tryz.sizeOf3
  v3 := Tryz.zeroValue3
  t4 := Tryz.underlying4
  a4 := Tryz.isAgg4
  z4 := Tryz.sizeOf4
  v4 := Tryz.zeroValue4
  t9 := Tryz.underlying9
  a9 := Tryz.isAgg9
  z9 := Tryz.sizeOf9
  v9 := Tryz.zeroValue9
  t24 := Tryz.underlying87
  a24 := Tryz.isAgg87
  z24 := Tryz.sizeOf87
  v24 := Tryz.zeroValue87 }
open Go.RowKit in
/-- strings.CutPrefix: "CutPrefix returns s without the provided leading prefix string and reports whether it found the prefix. If s doesn't start with prefix, CutPrefix returns s, false. If prefix is the empty string, CutPrefix returns s, true.": IT RETURNS '(Lib.trimPrefix s p, Lib.hasPrefix s p)'; the world is as it was. (LAID: no walk: one application.) -/
theorem Tryz.strings_CutPrefix (s p : ByteArray) (w : World) :
    Calls Tryz.prog 62 #[.string s, .string p] w fun e w' => e = .returned (.tuple #[.string ⟨(Lib.trimPrefix s.data.toList p.data.toList).toArray⟩, .bool (Lib.hasPrefix s.data.toList p.data.toList)]) ∧ w' = w := Any.strings_CutPrefix Tryz.lays103 s p w
def Tryz.lays129_ren : Go.Shelf.Ren := ⟨fun | 129 => 115 | n => n, fun | 53 => 22 | 3 => 3 | 4 => 4 | 46 => 61 | 5 => 5 | 9 => 9 | n => n, fun | n => n⟩
theorem Tryz.lays129 : Go.Proofs.Lays.n129 Tryz.prog Tryz.lays129_ren := {
  mixed := by kernel_rfl
  f129 := Tryz.func115.trans (congrArg some (by kernel_rfl))
  t3 := Tryz.underlying3
  a3 := Tryz.isAgg3
  z3 := Tryz.sizeOf3
  v3 := Tryz.zeroValue3
  t4 := Tryz.underlying4
  a4 := Tryz.isAgg4
  z4 := Tryz.sizeOf4
  v4 := Tryz.zeroValue4
  t5 := Tryz.underlying5
  a5 := Tryz.isAgg5
  z5 := Tryz.sizeOf5
  v5 := Tryz.zeroValue5
  t9 := Tryz.underlying9
  a9 := Tryz.isAgg9
  z9 := Tryz.sizeOf9
  v9 := Tryz.zeroValue9
  t46 := Tryz.underlying61
  a46 := Tryz.isAgg61
  z46 := Tryz.sizeOf61
  v46 := Tryz.zeroValue61
  t53 := Tryz.underlying22
  a53 := Tryz.isAgg22
  z53 := Tryz.sizeOf22
  v53 := Tryz.zeroValue22 }
/-- bits.Len64: "Len64 returns the minimum number of bits required to represent x; the result is 0 for x == 0.": IT RETURNS 'Lib.bitLen x'; the world is as it was. ('h0', 'h1': x is a uint64.) (LAID: no walk: one application.) -/
theorem Tryz.bits_Len64 (x : Int) (w : World) (h0 : 0 ≤ x) (h1 : x ≤ 18446744073709551615) :
    Calls Tryz.prog 115 #[.int .u64 x] w fun e w' => e = .returned (.int .i64 (Lib.bitLen x.toNat)) ∧ w' = w := Any.bits_Len64 Tryz.lays129 x w h0 h1
def Tryz.laysPu14_ren : Go.Shelf.Ren := ⟨fun | 14 => 96 | 16 => 111 | 17 => 112 | 19 => 125 | 20 => 126 | 21 => 127 | 22 => 128 | 23 => 129 | 24 => 130 | 25 => 138 | 27 => 140 | 26 => 139 | 28 => 142 | 29 => 143 | 30 => 106 | 31 => 107 | 32 => 108 | 33 => 109 | 35 => 115 | 34 => 120 | 36 => 121 | 37 => 122 | 38 => 123 | 39 => 135 | 40 => 136 | n => n, fun | 9 => 9 | 3 => 3 | 22 => 22 | 24 => 96 | 25 => 120 | 4 => 4 | 34 => 147 | 5 => 5 | 36 => 61 | 37 => 35 | 0 => 0 | 39 => 150 | 21 => 21 | 44 => 156 | 47 => 123 | 50 => 164 | 48 => 162 | 2 => 2 | 52 => 128 | 55 => 130 | 59 => 144 | 60 => 23 | 20 => 20 | 61 => 145 | 65 => 158 | 66 => 159 | 67 => 99 | n => n, fun | 0 => 6 | 1 => 7 | 2 => 4 | 3 => 8 | 4 => 9 | n => n⟩
theorem Tryz.laysPu14 : Go.Proofs.LaysPu.n14 Tryz.prog Tryz.laysPu14_ren := {
  mixed := by kernel_rfl
  f14 := Tryz.func96.trans (congrArg some (by kernel_rfl))
  f16 := Tryz.func111.trans (congrArg some (by kernel_rfl))
  f17 := Tryz.func112.trans (congrArg some (by kernel_rfl))
  f19 := Tryz.func125.trans (congrArg some (by kernel_rfl))
  f20 := Tryz.func126.trans (congrArg some (by kernel_rfl))
  f21 := Tryz.func127.trans (congrArg some (by kernel_rfl))
  f22 := Tryz.func128.trans (congrArg some (by kernel_rfl))
  f23 := Tryz.func129.trans (congrArg some (by kernel_rfl))
  f24 := Tryz.func130.trans (congrArg some (by kernel_rfl))
  f25 := Tryz.func138.trans (congrArg some (by kernel_rfl))
  f26 := Tryz.func139.trans (congrArg some (by kernel_rfl))
  f27 := Tryz.func140.trans (congrArg some (by kernel_rfl))
  f28 := Tryz.func142.trans (congrArg some (by kernel_rfl))
  f29 := Tryz.func143.trans (congrArg some (by kernel_rfl))
  f30 := Tryz.func106.trans (congrArg some (by kernel_rfl))
  f31 := Tryz.func107.trans (congrArg some (by kernel_rfl))
  f32 := Tryz.func108.trans (congrArg some (by kernel_rfl))
  f33 := Tryz.func109.trans (congrArg some (by kernel_rfl))
  f34 := Tryz.func120.trans (congrArg some (by kernel_rfl))
  f35 := Tryz.func115.trans (congrArg some (by kernel_rfl))
  f36 := Tryz.func121.trans (congrArg some (by kernel_rfl))
  f37 := Tryz.func122.trans (congrArg some (by kernel_rfl))
  f38 := Tryz.func123.trans (congrArg some (by kernel_rfl))
  f39 := Tryz.func135.trans (congrArg some (by kernel_rfl))
  f40 := Tryz.func136.trans (congrArg some (by kernel_rfl))
  t0 := Tryz.underlying0
  a0 := Tryz.isAgg0
  z0 := Tryz.sizeOf0
  v0 := Tryz.zeroValue0
  i0 := by kernel_rfl
  t2 := Tryz.underlying2
  a2 := Tryz.isAgg2
  z2 := Tryz.sizeOf2
  v2 := Tryz.zeroValue2
  i2 := by kernel_rfl
  t3 := Tryz.underlying3
  a3 := Tryz.isAgg3
  z3 := Tryz.sizeOf3
  v3 := Tryz.zeroValue3
  i3 := by kernel_rfl
  t4 := Tryz.underlying4
  a4 := Tryz.isAgg4
  z4 := Tryz.sizeOf4
  v4 := Tryz.zeroValue4
  i4 := by kernel_rfl
  t5 := Tryz.underlying5
  a5 := Tryz.isAgg5
  z5 := Tryz.sizeOf5
  v5 := Tryz.zeroValue5
  i5 := by kernel_rfl
  t9 := Tryz.underlying9
  a9 := Tryz.isAgg9
  z9 := Tryz.sizeOf9
  v9 := Tryz.zeroValue9
  i9 := by kernel_rfl
  t20 := Tryz.underlying20
  a20 := Tryz.isAgg20
  z20 := Tryz.sizeOf20
  v20 := Tryz.zeroValue20
  i20 := by kernel_rfl
  t21 := Tryz.underlying21
  a21 := Tryz.isAgg21
  z21 := Tryz.sizeOf21
  v21 := Tryz.zeroValue21
  i21 := by kernel_rfl
  t22 := Tryz.underlying22
  a22 := Tryz.isAgg22
  z22 := Tryz.sizeOf22
  v22 := Tryz.zeroValue22
  i22 := by kernel_rfl
  t24 := Tryz.underlying96
  a24 := Tryz.isAgg96
  z24 := Tryz.sizeOf96
  v24 := Tryz.zeroValue96
  i24 := by kernel_rfl
  t25 := Tryz.underlying120
  a25 := Tryz.isAgg120
  z25 := Tryz.sizeOf120
  v25 := Tryz.zeroValue120
  i25 := by kernel_rfl
  t34 := Tryz.underlying147
  a34 := Tryz.isAgg147
  z34 := Tryz.sizeOf147
  v34 := Tryz.zeroValue147
  i34 := by kernel_rfl
  c34 := by kernel_rfl
  t36 := Tryz.underlying61
  a36 := Tryz.isAgg61
  z36 := Tryz.sizeOf61
  v36 := Tryz.zeroValue61
  i36 := by kernel_rfl
  t37 := Tryz.underlying35
  a37 := Tryz.isAgg35
  z37 := Tryz.sizeOf35
  v37 := Tryz.zeroValue35
  i37 := by kernel_rfl
  t39 := Tryz.underlying150
  a39 := Tryz.isAgg150
  z39 := Tryz.sizeOf150
  v39 := Tryz.zeroValue150
  i39 := by kernel_rfl
  t44 := Tryz.underlying156
  a44 := Tryz.isAgg156
  z44 := Tryz.sizeOf156
  v44 := Tryz.zeroValue156
  i44 := by kernel_rfl
  t47 := Tryz.underlying123
  a47 := Tryz.isAgg123
  z47 := Tryz.sizeOf123
  v47 := Tryz.zeroValue123
  i47 := by kernel_rfl
  t48 := Tryz.underlying162
  a48 := Tryz.isAgg162
  z48 := Tryz.sizeOf162
  v48 := Tryz.zeroValue162
  i48 := by kernel_rfl
  t50 := Tryz.underlying164
  a50 := Tryz.isAgg164
  z50 := Tryz.sizeOf164
  v50 := Tryz.zeroValue164
  i50 := by kernel_rfl
  t52 := Tryz.underlying128
  a52 := Tryz.isAgg128
  z52 := Tryz.sizeOf128
  v52 := Tryz.zeroValue128
  i52 := by kernel_rfl
  t55 := Tryz.underlying130
  a55 := Tryz.isAgg130
  z55 := Tryz.sizeOf130
  v55 := Tryz.zeroValue130
  i55 := by kernel_rfl
  t59 := Tryz.underlying144
  a59 := Tryz.isAgg144
  z59 := Tryz.sizeOf144
  v59 := Tryz.zeroValue144
  i59 := by kernel_rfl
  t60 := Tryz.underlying23
  a60 := Tryz.isAgg23
  z60 := Tryz.sizeOf23
  v60 := Tryz.zeroValue23
  i60 := by kernel_rfl
  t61 := Tryz.underlying145
  a61 := Tryz.isAgg145
  z61 := Tryz.sizeOf145
  t65 := Tryz.underlying158
  a65 := Tryz.isAgg158
  z65 := Tryz.sizeOf158
  v65 := Tryz.zeroValue158
  i65 := by kernel_rfl
  t66 := Tryz.underlying159
  a66 := Tryz.isAgg159
  z66 := Tryz.sizeOf159
  v66 := Tryz.zeroValue159
  i66 := by kernel_rfl
  t67 := Tryz.underlying99
  a67 := Tryz.isAgg99
  z67 := Tryz.sizeOf99
  v67 := Tryz.zeroValue99
  i67 := by kernel_rfl
  g0 := by kernel_rfl
  m0 := by kernel_rfl
  g1 := by kernel_rfl
  m1 := by kernel_rfl
  g2 := by kernel_rfl
  m2 := by kernel_rfl
  g3 := by kernel_rfl
  m3 := by kernel_rfl
  g4 := by kernel_rfl
  m4 := by kernel_rfl }
open Go.RowKit in
/-- strconv.ParseUint(s, 10, 0), AT EVERY STRING THAT SPELLS A uint64 ('Lib.parseUintB 64 s.data.toList = .ok u'): u, AND NO ERROR. (LAID: no walk: one application.) -/
theorem Tryz.strconv_ParseUint_10_at0_ok (s : ByteArray) (hmax : s.size ≤ 9223372036854775806) (u : Nat) (h : Lib.parseUintB 64 s.data.toList = .ok u) (w : World) :
    Calls Tryz.prog 96 #[.string s, .int .i64 10, .int .i64 0] w fun e w' => e = .returned (.tuple #[.int .u64 u, .nilIface]) ∧ (w' = w ∨ w' = Lib.bytesWorld w 5 s) := Any.strconv_ParseUint_10_at0_ok Tryz.laysPu14 s hmax u h w
open Go.RowKit in
/-- strconv.ParseUint(s, 10, 0), AT EVERY STRING THAT IS NO ROW OF DECIMAL DIGITS (a sign is a fault): 0, AND AN ERROR THAT IS NOT nil: a *NumError in a new block N: {Func: "ParseUint", Num: s's bytes, Err: what the variable ErrSyntax holds}. Of what was there nothing has turned. (LAID: no walk: one application.) -/
theorem Tryz.strconv_ParseUint_10_at0_syntax (s : ByteArray) (hlim : s.size ≤ 281474976710656) (h : Lib.parseUintB 64 s.data.toList = .«syntax») (ev : Value) (w : World) (hv : w.cell? ⟨6, 0, none⟩ = some ev) (hev : ev = .nilIface ∨ ∃ te pe, ev = .iface te pe) :
    Calls Tryz.prog 96 #[.string s, .int .i64 10, .int .i64 0] w fun e w' => ∃ N, e = .returned (.tuple #[.int .u64 0, .iface 150 (.pointer (some ⟨N, 0, none⟩))]) ∧ w.heap.size ≤ N ∧ w'.heap[N]? = some (.cells #[.string ⟨#[80, 97, 114, 115, 101, 85, 105, 110, 116]⟩, .string s, ev] 156 (0, 0)) ∧ Below w.heap.size w w' := Any.strconv_ParseUint_10_at0_syntax Tryz.laysPu14 s hlim h ev w hv hev
open Go.RowKit in
/-- strconv.ParseUint(s, 10, 0), AT EVERY NUMERAL THAT NO uint64 HOLDS: THE GREATEST uint64, AND AN ERROR THAT IS NOT nil: a *NumError in a new block N: {Func: "ParseUint", Num: s's bytes, Err: what the variable ErrRange holds}. Of what was there nothing has turned. (LAID: no walk: one application.) -/
theorem Tryz.strconv_ParseUint_10_at0_range (s : ByteArray) (hlim : s.size ≤ 281474976710656) (h : Lib.parseUintB 64 s.data.toList = .range) (ev : Value) (w : World) (hv : w.cell? ⟨7, 0, none⟩ = some ev) (hev : ev = .nilIface ∨ ∃ te pe, ev = .iface te pe) :
    Calls Tryz.prog 96 #[.string s, .int .i64 10, .int .i64 0] w fun e w' => ∃ N, e = .returned (.tuple #[.int .u64 18446744073709551615, .iface 150 (.pointer (some ⟨N, 0, none⟩))]) ∧ w.heap.size ≤ N ∧ w'.heap[N]? = some (.cells #[.string ⟨#[80, 97, 114, 115, 101, 85, 105, 110, 116]⟩, .string s, ev] 156 (0, 0)) ∧ Below w.heap.size w w' := Any.strconv_ParseUint_10_at0_range Tryz.laysPu14 s hlim h ev w hv hev
open Go.RowKit in
/-- strconv.ParseUint(s, 10, 64), AT EVERY STRING THAT SPELLS A uint64 ('Lib.parseUintB 64 s.data.toList = .ok u'): u, AND NO ERROR. (LAID: no walk: one application.) -/
theorem Tryz.strconv_ParseUint_10_at64_ok (s : ByteArray) (hmax : s.size ≤ 9223372036854775806) (u : Nat) (h : Lib.parseUintB 64 s.data.toList = .ok u) (w : World) :
    Calls Tryz.prog 96 #[.string s, .int .i64 10, .int .i64 64] w fun e w' => e = .returned (.tuple #[.int .u64 u, .nilIface]) ∧ (w' = w ∨ w' = Lib.bytesWorld w 5 s) := Any.strconv_ParseUint_10_at64_ok Tryz.laysPu14 s hmax u h w
open Go.RowKit in
/-- strconv.ParseUint(s, 10, 64), AT EVERY STRING THAT IS NO ROW OF DECIMAL DIGITS (a sign is a fault): 0, AND AN ERROR THAT IS NOT nil: a *NumError in a new block N: {Func: "ParseUint", Num: s's bytes, Err: what the variable ErrSyntax holds}. Of what was there nothing has turned. (LAID: no walk: one application.) -/
theorem Tryz.strconv_ParseUint_10_at64_syntax (s : ByteArray) (hlim : s.size ≤ 281474976710656) (h : Lib.parseUintB 64 s.data.toList = .«syntax») (ev : Value) (w : World) (hv : w.cell? ⟨6, 0, none⟩ = some ev) (hev : ev = .nilIface ∨ ∃ te pe, ev = .iface te pe) :
    Calls Tryz.prog 96 #[.string s, .int .i64 10, .int .i64 64] w fun e w' => ∃ N, e = .returned (.tuple #[.int .u64 0, .iface 150 (.pointer (some ⟨N, 0, none⟩))]) ∧ w.heap.size ≤ N ∧ w'.heap[N]? = some (.cells #[.string ⟨#[80, 97, 114, 115, 101, 85, 105, 110, 116]⟩, .string s, ev] 156 (0, 0)) ∧ Below w.heap.size w w' := Any.strconv_ParseUint_10_at64_syntax Tryz.laysPu14 s hlim h ev w hv hev
open Go.RowKit in
/-- strconv.ParseUint(s, 10, 64), AT EVERY NUMERAL THAT NO uint64 HOLDS: THE GREATEST uint64, AND AN ERROR THAT IS NOT nil: a *NumError in a new block N: {Func: "ParseUint", Num: s's bytes, Err: what the variable ErrRange holds}. Of what was there nothing has turned. (LAID: no walk: one application.) -/
theorem Tryz.strconv_ParseUint_10_at64_range (s : ByteArray) (hlim : s.size ≤ 281474976710656) (h : Lib.parseUintB 64 s.data.toList = .range) (ev : Value) (w : World) (hv : w.cell? ⟨7, 0, none⟩ = some ev) (hev : ev = .nilIface ∨ ∃ te pe, ev = .iface te pe) :
    Calls Tryz.prog 96 #[.string s, .int .i64 10, .int .i64 64] w fun e w' => ∃ N, e = .returned (.tuple #[.int .u64 18446744073709551615, .iface 150 (.pointer (some ⟨N, 0, none⟩))]) ∧ w.heap.size ≤ N ∧ w'.heap[N]? = some (.cells #[.string ⟨#[80, 97, 114, 115, 101, 85, 105, 110, 116]⟩, .string s, ev] 156 (0, 0)) ∧ Below w.heap.size w w' := Any.strconv_ParseUint_10_at64_range Tryz.laysPu14 s hlim h ev w hv hev
open Go.RowKit in
/-- strconv.ParseUint(s, 10, 32), AT EVERY STRING THAT SPELLS A uint32 ('Lib.parseUintB 32 s.data.toList = .ok u'): u, AND NO ERROR. (LAID: no walk: one application.) -/
theorem Tryz.strconv_ParseUint_10_at32_ok (s : ByteArray) (hmax : s.size ≤ 9223372036854775806) (u : Nat) (h : Lib.parseUintB 32 s.data.toList = .ok u) (w : World) :
    Calls Tryz.prog 96 #[.string s, .int .i64 10, .int .i64 32] w fun e w' => e = .returned (.tuple #[.int .u64 u, .nilIface]) ∧ (w' = w ∨ w' = Lib.bytesWorld w 5 s) := Any.strconv_ParseUint_10_at32_ok Tryz.laysPu14 s hmax u h w
open Go.RowKit in
/-- strconv.ParseUint(s, 10, 32), AT EVERY STRING THAT IS NO ROW OF DECIMAL DIGITS (a sign is a fault): 0, AND AN ERROR THAT IS NOT nil: a *NumError in a new block N: {Func: "ParseUint", Num: s's bytes, Err: what the variable ErrSyntax holds}. Of what was there nothing has turned. (LAID: no walk: one application.) -/
theorem Tryz.strconv_ParseUint_10_at32_syntax (s : ByteArray) (hlim : s.size ≤ 281474976710656) (h : Lib.parseUintB 32 s.data.toList = .«syntax») (ev : Value) (w : World) (hv : w.cell? ⟨6, 0, none⟩ = some ev) (hev : ev = .nilIface ∨ ∃ te pe, ev = .iface te pe) :
    Calls Tryz.prog 96 #[.string s, .int .i64 10, .int .i64 32] w fun e w' => ∃ N, e = .returned (.tuple #[.int .u64 0, .iface 150 (.pointer (some ⟨N, 0, none⟩))]) ∧ w.heap.size ≤ N ∧ w'.heap[N]? = some (.cells #[.string ⟨#[80, 97, 114, 115, 101, 85, 105, 110, 116]⟩, .string s, ev] 156 (0, 0)) ∧ Below w.heap.size w w' := Any.strconv_ParseUint_10_at32_syntax Tryz.laysPu14 s hlim h ev w hv hev
open Go.RowKit in
/-- strconv.ParseUint(s, 10, 32), AT EVERY NUMERAL THAT NO uint32 HOLDS: THE GREATEST uint32, AND AN ERROR THAT IS NOT nil: a *NumError in a new block N: {Func: "ParseUint", Num: s's bytes, Err: what the variable ErrRange holds}. Of what was there nothing has turned. (LAID: no walk: one application.) -/
theorem Tryz.strconv_ParseUint_10_at32_range (s : ByteArray) (hlim : s.size ≤ 281474976710656) (h : Lib.parseUintB 32 s.data.toList = .range) (ev : Value) (w : World) (hv : w.cell? ⟨7, 0, none⟩ = some ev) (hev : ev = .nilIface ∨ ∃ te pe, ev = .iface te pe) :
    Calls Tryz.prog 96 #[.string s, .int .i64 10, .int .i64 32] w fun e w' => ∃ N, e = .returned (.tuple #[.int .u64 4294967295, .iface 150 (.pointer (some ⟨N, 0, none⟩))]) ∧ w.heap.size ≤ N ∧ w'.heap[N]? = some (.cells #[.string ⟨#[80, 97, 114, 115, 101, 85, 105, 110, 116]⟩, .string s, ev] 156 (0, 0)) ∧ Below w.heap.size w w' := Any.strconv_ParseUint_10_at32_range Tryz.laysPu14 s hlim h ev w hv hev
open Go.RowKit in
/-- strconv.ParseUint(s, 10, 16), AT EVERY STRING THAT SPELLS A uint16 ('Lib.parseUintB 16 s.data.toList = .ok u'): u, AND NO ERROR. (LAID: no walk: one application.) -/
theorem Tryz.strconv_ParseUint_10_at16_ok (s : ByteArray) (hmax : s.size ≤ 9223372036854775806) (u : Nat) (h : Lib.parseUintB 16 s.data.toList = .ok u) (w : World) :
    Calls Tryz.prog 96 #[.string s, .int .i64 10, .int .i64 16] w fun e w' => e = .returned (.tuple #[.int .u64 u, .nilIface]) ∧ (w' = w ∨ w' = Lib.bytesWorld w 5 s) := Any.strconv_ParseUint_10_at16_ok Tryz.laysPu14 s hmax u h w
open Go.RowKit in
/-- strconv.ParseUint(s, 10, 16), AT EVERY STRING THAT IS NO ROW OF DECIMAL DIGITS (a sign is a fault): 0, AND AN ERROR THAT IS NOT nil: a *NumError in a new block N: {Func: "ParseUint", Num: s's bytes, Err: what the variable ErrSyntax holds}. Of what was there nothing has turned. (LAID: no walk: one application.) -/
theorem Tryz.strconv_ParseUint_10_at16_syntax (s : ByteArray) (hlim : s.size ≤ 281474976710656) (h : Lib.parseUintB 16 s.data.toList = .«syntax») (ev : Value) (w : World) (hv : w.cell? ⟨6, 0, none⟩ = some ev) (hev : ev = .nilIface ∨ ∃ te pe, ev = .iface te pe) :
    Calls Tryz.prog 96 #[.string s, .int .i64 10, .int .i64 16] w fun e w' => ∃ N, e = .returned (.tuple #[.int .u64 0, .iface 150 (.pointer (some ⟨N, 0, none⟩))]) ∧ w.heap.size ≤ N ∧ w'.heap[N]? = some (.cells #[.string ⟨#[80, 97, 114, 115, 101, 85, 105, 110, 116]⟩, .string s, ev] 156 (0, 0)) ∧ Below w.heap.size w w' := Any.strconv_ParseUint_10_at16_syntax Tryz.laysPu14 s hlim h ev w hv hev
open Go.RowKit in
/-- strconv.ParseUint(s, 10, 16), AT EVERY NUMERAL THAT NO uint16 HOLDS: THE GREATEST uint16, AND AN ERROR THAT IS NOT nil: a *NumError in a new block N: {Func: "ParseUint", Num: s's bytes, Err: what the variable ErrRange holds}. Of what was there nothing has turned. (LAID: no walk: one application.) -/
theorem Tryz.strconv_ParseUint_10_at16_range (s : ByteArray) (hlim : s.size ≤ 281474976710656) (h : Lib.parseUintB 16 s.data.toList = .range) (ev : Value) (w : World) (hv : w.cell? ⟨7, 0, none⟩ = some ev) (hev : ev = .nilIface ∨ ∃ te pe, ev = .iface te pe) :
    Calls Tryz.prog 96 #[.string s, .int .i64 10, .int .i64 16] w fun e w' => ∃ N, e = .returned (.tuple #[.int .u64 65535, .iface 150 (.pointer (some ⟨N, 0, none⟩))]) ∧ w.heap.size ≤ N ∧ w'.heap[N]? = some (.cells #[.string ⟨#[80, 97, 114, 115, 101, 85, 105, 110, 116]⟩, .string s, ev] 156 (0, 0)) ∧ Below w.heap.size w w' := Any.strconv_ParseUint_10_at16_range Tryz.laysPu14 s hlim h ev w hv hev
open Go.RowKit in
/-- strconv.ParseUint(s, 10, 8), AT EVERY STRING THAT SPELLS A uint8 ('Lib.parseUintB 8 s.data.toList = .ok u'): u, AND NO ERROR. (LAID: no walk: one application.) -/
theorem Tryz.strconv_ParseUint_10_at8_ok (s : ByteArray) (hmax : s.size ≤ 9223372036854775806) (u : Nat) (h : Lib.parseUintB 8 s.data.toList = .ok u) (w : World) :
    Calls Tryz.prog 96 #[.string s, .int .i64 10, .int .i64 8] w fun e w' => e = .returned (.tuple #[.int .u64 u, .nilIface]) ∧ (w' = w ∨ w' = Lib.bytesWorld w 5 s) := Any.strconv_ParseUint_10_at8_ok Tryz.laysPu14 s hmax u h w
open Go.RowKit in
/-- strconv.ParseUint(s, 10, 8), AT EVERY STRING THAT IS NO ROW OF DECIMAL DIGITS (a sign is a fault): 0, AND AN ERROR THAT IS NOT nil: a *NumError in a new block N: {Func: "ParseUint", Num: s's bytes, Err: what the variable ErrSyntax holds}. Of what was there nothing has turned. (LAID: no walk: one application.) -/
theorem Tryz.strconv_ParseUint_10_at8_syntax (s : ByteArray) (hlim : s.size ≤ 281474976710656) (h : Lib.parseUintB 8 s.data.toList = .«syntax») (ev : Value) (w : World) (hv : w.cell? ⟨6, 0, none⟩ = some ev) (hev : ev = .nilIface ∨ ∃ te pe, ev = .iface te pe) :
    Calls Tryz.prog 96 #[.string s, .int .i64 10, .int .i64 8] w fun e w' => ∃ N, e = .returned (.tuple #[.int .u64 0, .iface 150 (.pointer (some ⟨N, 0, none⟩))]) ∧ w.heap.size ≤ N ∧ w'.heap[N]? = some (.cells #[.string ⟨#[80, 97, 114, 115, 101, 85, 105, 110, 116]⟩, .string s, ev] 156 (0, 0)) ∧ Below w.heap.size w w' := Any.strconv_ParseUint_10_at8_syntax Tryz.laysPu14 s hlim h ev w hv hev
open Go.RowKit in
/-- strconv.ParseUint(s, 10, 8), AT EVERY NUMERAL THAT NO uint8 HOLDS: THE GREATEST uint8, AND AN ERROR THAT IS NOT nil: a *NumError in a new block N: {Func: "ParseUint", Num: s's bytes, Err: what the variable ErrRange holds}. Of what was there nothing has turned. (LAID: no walk: one application.) -/
theorem Tryz.strconv_ParseUint_10_at8_range (s : ByteArray) (hlim : s.size ≤ 281474976710656) (h : Lib.parseUintB 8 s.data.toList = .range) (ev : Value) (w : World) (hv : w.cell? ⟨7, 0, none⟩ = some ev) (hev : ev = .nilIface ∨ ∃ te pe, ev = .iface te pe) :
    Calls Tryz.prog 96 #[.string s, .int .i64 10, .int .i64 8] w fun e w' => ∃ N, e = .returned (.tuple #[.int .u64 255, .iface 150 (.pointer (some ⟨N, 0, none⟩))]) ∧ w.heap.size ≤ N ∧ w'.heap[N]? = some (.cells #[.string ⟨#[80, 97, 114, 115, 101, 85, 105, 110, 116]⟩, .string s, ev] 156 (0, 0)) ∧ Below w.heap.size w w' := Any.strconv_ParseUint_10_at8_range Tryz.laysPu14 s hlim h ev w hv hev
def Tryz.lays217_ren : Go.Shelf.Ren := ⟨fun | 217 => 119 | 266 => 134 | n => n, fun | 9 => 9 | 5 => 5 | 3 => 3 | n => n, fun | n => n⟩
theorem Tryz.lays217 : Go.Proofs.Lays.n217 Tryz.prog Tryz.lays217_ren := {
  mixed := by kernel_rfl
  f217 := Tryz.func119.trans (congrArg some (by kernel_rfl))
  f266 := Tryz.func134.trans (congrArg some (by kernel_rfl))
  t3 := Tryz.underlying3
  a3 := Tryz.isAgg3
  z3 := Tryz.sizeOf3
  v3 := Tryz.zeroValue3
  t5 := Tryz.underlying5
  a5 := Tryz.isAgg5
  z5 := Tryz.sizeOf5
  v5 := Tryz.zeroValue5
  t9 := Tryz.underlying9
  a9 := Tryz.isAgg9
  z9 := Tryz.sizeOf9
  v9 := Tryz.zeroValue9 }
open Go.RowKit Go.Lib in
/-- internal/stringslite.IndexByte (what strings.IndexByte calls): IT RETURNS 'Lib.indexByte s c'; the world is as it was. (LAID: no walk: one application.) -/
theorem Tryz.stringslite_IndexByte (s : ByteArray) (c : Int) (w : World) :
    Calls Tryz.prog 119 #[.string s, .int .u8 c] w fun e w' => e = .returned (.int .i64 (Lib.indexByte s.data.toList c.toNat.toUInt8)) ∧ w' = w := Any.stringslite_IndexByte Tryz.lays217 s c w
def Tryz.lays224_ren : Go.Shelf.Ren := ⟨fun | 224 => 132 | n => n, fun | 3 => 3 | n => n, fun | n => n⟩
theorem Tryz.lays224 : Go.Proofs.Lays.n224 Tryz.prog Tryz.lays224_ren := {
  mixed := by kernel_rfl
  f224 := Tryz.func132.trans (congrArg some (by kernel_rfl))
  t3 := Tryz.underlying3
  a3 := Tryz.isAgg3
  z3 := Tryz.sizeOf3
  v3 := Tryz.zeroValue3 }
open Go.RowKit Go.Lib in
/-- internal/bytealg.Cutover: "Cutover reports the number of failures of IndexByte we should tolerate before switching over to Index. n is the number of bytes processed so far.": on amd64: (n + 16) / 8. (LAID: no walk: one application.) -/
theorem Tryz.bytealg_Cutover (n : Int) (h0 : 0 ≤ n) (h1 : n < 4611686018427387904) (w : World) :
    Calls Tryz.prog 132 #[.int .i64 n] w fun e w' => e = .returned (.int .i64 ((n + 16) / 8)) ∧ w' = w := Any.bytealg_Cutover Tryz.lays224 n h0 h1 w
def Tryz.lays314_ren : Go.Shelf.Ren := ⟨fun | 314 => 141 | n => n, fun | 9 => 9 | 51 => 23 | 3 => 3 | 4 => 4 | 5 => 5 | 46 => 61 | n => n, fun | n => n⟩
theorem Tryz.lays314 : Go.Proofs.Lays.n314 Tryz.prog Tryz.lays314_ren := {
  mixed := by kernel_rfl
  f314 := Tryz.func141.trans (congrArg some (by kernel_rfl))
  t3 := Tryz.underlying3
  a3 := Tryz.isAgg3
  z3 := Tryz.sizeOf3
  v3 := Tryz.zeroValue3
  t4 := Tryz.underlying4
  a4 := Tryz.isAgg4
  z4 := Tryz.sizeOf4
  v4 := Tryz.zeroValue4
  t5 := Tryz.underlying5
  a5 := Tryz.isAgg5
  z5 := Tryz.sizeOf5
  v5 := Tryz.zeroValue5
  t9 := Tryz.underlying9
  a9 := Tryz.isAgg9
  z9 := Tryz.sizeOf9
  v9 := Tryz.zeroValue9
  t46 := Tryz.underlying61
  a46 := Tryz.isAgg61
  z46 := Tryz.sizeOf61
  v46 := Tryz.zeroValue61
  t51 := Tryz.underlying23
  a51 := Tryz.isAgg23
  z51 := Tryz.sizeOf23
  v51 := Tryz.zeroValue23 }
open Go.RowKit Go.Lib in
/-- hashStr: "returns the hash and the appropriate multiplicative factor for use in Rabin-Karp algorithm": THE HASH OF ALL OF sep, AND 16777619 ^ len(sep), both in uint32. (LAID: no walk: one application.) -/
theorem Tryz.bytealg_hashStr (sep : ByteArray) (hs : sep.size < 4294967281) (w : World) :
    Calls Tryz.prog 141 #[.string sep] w fun e w' => e = .returned (.tuple #[.int .u32 (RK.H sep.data.toList % 4294967296), .int .u32 (16777619 ^ sep.size % 4294967296)]) ∧ w' = w := Any.bytealg_hashStr Tryz.lays314 sep hs w
def Tryz.lays267_ren : Go.Shelf.Ren := ⟨fun | 267 => 137 | 314 => 141 | n => n, fun | 9 => 9 | 3 => 3 | 146 => 160 | 51 => 23 | 4 => 4 | 5 => 5 | 46 => 61 | n => n, fun | n => n⟩
theorem Tryz.lays267 : Go.Proofs.Lays.n267 Tryz.prog Tryz.lays267_ren := {
  mixed := by kernel_rfl
  f267 := Tryz.func137.trans (congrArg some (by kernel_rfl))
  f314 := Tryz.func141.trans (congrArg some (by kernel_rfl))
  t3 := Tryz.underlying3
  a3 := Tryz.isAgg3
  z3 := Tryz.sizeOf3
  v3 := Tryz.zeroValue3
  t4 := Tryz.underlying4
  a4 := Tryz.isAgg4
  z4 := Tryz.sizeOf4
  v4 := Tryz.zeroValue4
  t5 := Tryz.underlying5
  a5 := Tryz.isAgg5
  z5 := Tryz.sizeOf5
  v5 := Tryz.zeroValue5
  t9 := Tryz.underlying9
  a9 := Tryz.isAgg9
  z9 := Tryz.sizeOf9
  v9 := Tryz.zeroValue9
  t46 := Tryz.underlying61
  a46 := Tryz.isAgg61
  z46 := Tryz.sizeOf61
  v46 := Tryz.zeroValue61
  t51 := Tryz.underlying23
  a51 := Tryz.isAgg23
  z51 := Tryz.sizeOf23
  v51 := Tryz.zeroValue23
  t146 := Tryz.underlying160
  a146 := Tryz.isAgg160
  z146 := Tryz.sizeOf160
  v146 := Tryz.zeroValue160 }
open Go.RowKit Go.Lib in
theorem Tryz.bytealg_IndexRabinKarp (s sep : ByteArray) (h1 : 1 ≤ sep.size) (h2 : sep.size ≤ s.size) (hs : s.size < 4294967281) (w : World) :
    Calls Tryz.prog 137 #[.string s, .string sep] w fun e w' => e = .returned (.int .i64 (Lib.index s.data.toList sep.data.toList)) ∧ w' = w := Any.bytealg_IndexRabinKarp Tryz.lays267 s sep h1 h2 hs w
def Tryz.lays219_ren : Go.Shelf.Ren := ⟨fun | 219 => 124 | 217 => 119 | 225 => 133 | 224 => 132 | 267 => 137 | 266 => 134 | 314 => 141 | n => n, fun | 9 => 9 | 3 => 3 | 4 => 4 | 5 => 5 | 46 => 61 | 146 => 160 | 51 => 23 | n => n, fun | 1 => 5 | n => n⟩
theorem Tryz.lays219 : Go.Proofs.Lays.n219 Tryz.prog Tryz.lays219_ren := {
  mixed := by kernel_rfl
  f217 := Tryz.func119.trans (congrArg some (by kernel_rfl))
  f219 := Tryz.func124.trans (congrArg some (by kernel_rfl))
  f224 := Tryz.func132.trans (congrArg some (by kernel_rfl))
  f225 := Tryz.func133.trans (congrArg some (by kernel_rfl))
  f266 := Tryz.func134.trans (congrArg some (by kernel_rfl))
  f267 := Tryz.func137.trans (congrArg some (by kernel_rfl))
  f314 := Tryz.func141.trans (congrArg some (by kernel_rfl))
  t3 := Tryz.underlying3
  a3 := Tryz.isAgg3
  z3 := Tryz.sizeOf3
  v3 := Tryz.zeroValue3
  t4 := Tryz.underlying4
  a4 := Tryz.isAgg4
  z4 := Tryz.sizeOf4
  v4 := Tryz.zeroValue4
  t5 := Tryz.underlying5
  a5 := Tryz.isAgg5
  z5 := Tryz.sizeOf5
  v5 := Tryz.zeroValue5
  t9 := Tryz.underlying9
  a9 := Tryz.isAgg9
  z9 := Tryz.sizeOf9
  v9 := Tryz.zeroValue9
  t46 := Tryz.underlying61
  a46 := Tryz.isAgg61
  z46 := Tryz.sizeOf61
  v46 := Tryz.zeroValue61
  t51 := Tryz.underlying23
  a51 := Tryz.isAgg23
  z51 := Tryz.sizeOf23
  v51 := Tryz.zeroValue23
  t146 := Tryz.underlying160
  a146 := Tryz.isAgg160
  z146 := Tryz.sizeOf160
  v146 := Tryz.zeroValue160
  g1 := by kernel_rfl }
open Go.RowKit Go.Lib in
/-- internal/stringslite.Index (what strings.Index calls) AT A substr OF ONE BYTE c: IT RETURNS 'Lib.indexByte s c'; the world is as it was. (LAID: no walk: one application.) -/
theorem Tryz.stringslite_Index_one (s : ByteArray) (c : UInt8) (w : World) :
    Calls Tryz.prog 124 #[.string s, .string ⟨#[c]⟩] w fun e w' => e = .returned (.int .i64 (Lib.indexByte s.data.toList c)) ∧ w' = w := Any.stringslite_Index_one Tryz.lays219 s c w
open Go.RowKit Go.Lib in
/-- internal/stringslite.Index (what strings.Index calls) AT A substr OF WHATEVER LENGTH: IT RETURNS 'Lib.index s substr'; the world is as it was. 'm': what internal/bytealg.MaxLen holds: whatever. (LAID: no walk: one application.) -/
theorem Tryz.stringslite_Index (s sub : ByteArray) (m : Int) (w : World) (hs : s.size < 4294967281) (hm : w.cell? ⟨5, 0, none⟩ = some (.int .i64 m)) :
    Calls Tryz.prog 124 #[.string s, .string sub] w fun e w' => e = .returned (.int .i64 (Lib.index s.data.toList sub.data.toList)) ∧ w' = w := Any.stringslite_Index Tryz.lays219 s sub m w hs hm
def Tryz.lays143_ren : Go.Shelf.Ren := ⟨fun | 143 => 110 | 219 => 124 | 217 => 119 | 225 => 133 | 224 => 132 | 267 => 137 | 266 => 134 | 314 => 141 | n => n, fun | 9 => 9 | 3 => 3 | 4 => 4 | 5 => 5 | 46 => 61 | 146 => 160 | 51 => 23 | n => n, fun | 1 => 5 | n => n⟩
theorem Tryz.lays143 : Go.Proofs.Lays.n143 Tryz.prog Tryz.lays143_ren := {
  mixed := by kernel_rfl
  f143 := Tryz.func110.trans (congrArg some (by kernel_rfl))
  f217 := Tryz.func119.trans (congrArg some (by kernel_rfl))
  f219 := Tryz.func124.trans (congrArg some (by kernel_rfl))
  f224 := Tryz.func132.trans (congrArg some (by kernel_rfl))
  f225 := Tryz.func133.trans (congrArg some (by kernel_rfl))
  f266 := Tryz.func134.trans (congrArg some (by kernel_rfl))
  f267 := Tryz.func137.trans (congrArg some (by kernel_rfl))
  f314 := Tryz.func141.trans (congrArg some (by kernel_rfl))
  t3 := Tryz.underlying3
  a3 := Tryz.isAgg3
  z3 := Tryz.sizeOf3
  v3 := Tryz.zeroValue3
  t4 := Tryz.underlying4
  a4 := Tryz.isAgg4
  z4 := Tryz.sizeOf4
  v4 := Tryz.zeroValue4
  t5 := Tryz.underlying5
  a5 := Tryz.isAgg5
  z5 := Tryz.sizeOf5
  v5 := Tryz.zeroValue5
  t9 := Tryz.underlying9
  a9 := Tryz.isAgg9
  z9 := Tryz.sizeOf9
  v9 := Tryz.zeroValue9
  t46 := Tryz.underlying61
  a46 := Tryz.isAgg61
  z46 := Tryz.sizeOf61
  v46 := Tryz.zeroValue61
  t51 := Tryz.underlying23
  a51 := Tryz.isAgg23
  z51 := Tryz.sizeOf23
  v51 := Tryz.zeroValue23
  t146 := Tryz.underlying160
  a146 := Tryz.isAgg160
  z146 := Tryz.sizeOf160
  v146 := Tryz.zeroValue160
  g1 := by kernel_rfl }
open Go.RowKit Go.Lib in
/-- strings.Index: "Index returns the index of the first instance of substr in s, or -1 if substr is not present in s.": AT A substr OF ONE BYTE c: IT RETURNS 'Lib.indexByte s c'; the world is as it was. (LAID: no walk: one application.) -/
theorem Tryz.strings_Index_one (s : ByteArray) (c : UInt8) (w : World) :
    Calls Tryz.prog 110 #[.string s, .string ⟨#[c]⟩] w fun e w' => e = .returned (.int .i64 (Lib.indexByte s.data.toList c)) ∧ w' = w := Any.strings_Index_one Tryz.lays143 s c w
open Go.RowKit Go.Lib in
/-- strings.Index: "Index returns the index of the first instance of substr in s, or -1 if substr is not present in s.": IT RETURNS 'Lib.index s substr'; the world is as it was. (LAID: no walk: one application.) -/
theorem Tryz.strings_Index (s sub : ByteArray) (m : Int) (w : World) (hs : s.size < 4294967281) (hm : w.cell? ⟨5, 0, none⟩ = some (.int .i64 m)) :
    Calls Tryz.prog 110 #[.string s, .string sub] w fun e w' => e = .returned (.int .i64 (Lib.index s.data.toList sub.data.toList)) ∧ w' = w := Any.strings_Index Tryz.lays143 s sub m w hs hm
def Tryz.lays144_ren : Go.Shelf.Ren := ⟨fun | 144 => 95 | 143 => 110 | 219 => 124 | 217 => 119 | 225 => 133 | 224 => 132 | 267 => 137 | 266 => 134 | 314 => 141 | n => n, fun | 9 => 9 | 4 => 4 | 3 => 3 | 5 => 5 | 46 => 61 | 146 => 160 | 51 => 23 | n => n, fun | 1 => 5 | n => n⟩
theorem Tryz.lays144 : Go.Proofs.Lays.n144 Tryz.prog Tryz.lays144_ren := {
  mixed := by kernel_rfl
  f143 := Tryz.func110.trans (congrArg some (by kernel_rfl))
  f144 := Tryz.func95.trans (congrArg some (by kernel_rfl))
  f217 := Tryz.func119.trans (congrArg some (by kernel_rfl))
  f219 := Tryz.func124.trans (congrArg some (by kernel_rfl))
  f224 := Tryz.func132.trans (congrArg some (by kernel_rfl))
  f225 := Tryz.func133.trans (congrArg some (by kernel_rfl))
  f266 := Tryz.func134.trans (congrArg some (by kernel_rfl))
  f267 := Tryz.func137.trans (congrArg some (by kernel_rfl))
  f314 := Tryz.func141.trans (congrArg some (by kernel_rfl))
  t3 := Tryz.underlying3
  a3 := Tryz.isAgg3
  z3 := Tryz.sizeOf3
  v3 := Tryz.zeroValue3
  t4 := Tryz.underlying4
  a4 := Tryz.isAgg4
  z4 := Tryz.sizeOf4
  v4 := Tryz.zeroValue4
  t5 := Tryz.underlying5
  a5 := Tryz.isAgg5
  z5 := Tryz.sizeOf5
  v5 := Tryz.zeroValue5
  t9 := Tryz.underlying9
  a9 := Tryz.isAgg9
  z9 := Tryz.sizeOf9
  v9 := Tryz.zeroValue9
  t46 := Tryz.underlying61
  a46 := Tryz.isAgg61
  z46 := Tryz.sizeOf61
  v46 := Tryz.zeroValue61
  t51 := Tryz.underlying23
  a51 := Tryz.isAgg23
  z51 := Tryz.sizeOf23
  v51 := Tryz.zeroValue23
  t146 := Tryz.underlying160
  a146 := Tryz.isAgg160
  z146 := Tryz.sizeOf160
  v146 := Tryz.zeroValue160
  g1 := by kernel_rfl }
open Go.RowKit Go.Lib in
/-- strings.Contains: "Contains reports whether substr is within s.": AT A substr OF ONE BYTE c: IT RETURNS 'decide (0 ≤ Lib.indexByte s c)'; the world is as it was. (LAID: no walk: one application.) -/
theorem Tryz.strings_Contains_one (s : ByteArray) (c : UInt8) (w : World) :
    Calls Tryz.prog 95 #[.string s, .string ⟨#[c]⟩] w fun e w' => e = .returned (.bool (decide (0 ≤ Lib.indexByte s.data.toList c))) ∧ w' = w := Any.strings_Contains_one Tryz.lays144 s c w
open Go.RowKit Go.Lib in
/-- strings.Contains: "Contains reports whether substr is within s.": IT RETURNS 'Lib.contains s substr'; the world is as it was. (LAID: no walk: one application.) -/
theorem Tryz.strings_Contains (s sub : ByteArray) (m : Int) (w : World) (hs : s.size < 4294967281) (hm : w.cell? ⟨5, 0, none⟩ = some (.int .i64 m)) :
    Calls Tryz.prog 95 #[.string s, .string sub] w fun e w' => e = .returned (.bool (Lib.contains s.data.toList sub.data.toList)) ∧ w' = w := Any.strings_Contains Tryz.lays144 s sub m w hs hm
def Tryz.laysM219_ren : Go.Shelf.Ren := ⟨fun | 219 => 124 | 217 => 119 | 225 => 133 | 224 => 132 | 267 => 137 | 266 => 134 | 314 => 141 | n => n, fun | 9 => 9 | 3 => 3 | 4 => 4 | 5 => 5 | 46 => 61 | 146 => 160 | 51 => 23 | n => n, fun | 1 => 5 | n => n⟩
theorem Tryz.laysM219 : Go.Proofs.LaysM.n219 Tryz.prog Tryz.laysM219_ren := {
  mixed := by kernel_rfl
  f217 := Tryz.func119.trans (congrArg some (by kernel_rfl))
  f219 := Tryz.func124.trans (congrArg some (by kernel_rfl))
  f224 := Tryz.func132.trans (congrArg some (by kernel_rfl))
  f225 := Tryz.func133.trans (congrArg some (by kernel_rfl))
  f266 := Tryz.func134.trans (congrArg some (by kernel_rfl))
  f267 := Tryz.func137.trans (congrArg some (by kernel_rfl))
  f314 := Tryz.func141.trans (congrArg some (by kernel_rfl))
  t3 := Tryz.underlying3
  a3 := Tryz.isAgg3
  z3 := Tryz.sizeOf3
  v3 := Tryz.zeroValue3
  t4 := Tryz.underlying4
  a4 := Tryz.isAgg4
  z4 := Tryz.sizeOf4
  v4 := Tryz.zeroValue4
  t5 := Tryz.underlying5
  a5 := Tryz.isAgg5
  z5 := Tryz.sizeOf5
  v5 := Tryz.zeroValue5
  t9 := Tryz.underlying9
  a9 := Tryz.isAgg9
  z9 := Tryz.sizeOf9
  v9 := Tryz.zeroValue9
  t46 := Tryz.underlying61
  a46 := Tryz.isAgg61
  z46 := Tryz.sizeOf61
  v46 := Tryz.zeroValue61
  t51 := Tryz.underlying23
  a51 := Tryz.isAgg23
  z51 := Tryz.sizeOf23
  v51 := Tryz.zeroValue23
  t146 := Tryz.underlying160
  a146 := Tryz.isAgg160
  z146 := Tryz.sizeOf160
  v146 := Tryz.zeroValue160
  g1 := by kernel_rfl
  i3 := by kernel_rfl
  i4 := by kernel_rfl
  i5 := by kernel_rfl
  i9 := by kernel_rfl
  i46 := by kernel_rfl
  i51 := by kernel_rfl
  i146 := by kernel_rfl
  m1 := by kernel_rfl
  s1_3 := fun w h => Go.Proofs.cell_of_shapedOpen_int (zero := #[.int .i64 0]) (t := 3) h (of_decide_eq_true (by kernel_rfl)) (by kernel_rfl) rfl (by kernel_rfl) (by kernel_rfl) Tryz.underlying3 }
open Go.RowKit Go.Lib in
theorem Tryz.stringslite_Index_shaped (s sub : ByteArray) (w : World) (h : w.ShapedOpen Tryz.prog) (hs : s.size < 4294967281) :
    Calls Tryz.prog 124 #[.string s, .string sub] w fun e w' => e = .returned (.int .i64 (Lib.index s.data.toList sub.data.toList)) ∧ w' = w := Any.stringslite_Index_shaped Tryz.laysM219 s sub w h hs
def Tryz.laysM143_ren : Go.Shelf.Ren := ⟨fun | 143 => 110 | 219 => 124 | 217 => 119 | 225 => 133 | 224 => 132 | 267 => 137 | 266 => 134 | 314 => 141 | n => n, fun | 9 => 9 | 3 => 3 | 4 => 4 | 5 => 5 | 46 => 61 | 146 => 160 | 51 => 23 | n => n, fun | 1 => 5 | n => n⟩
theorem Tryz.laysM143 : Go.Proofs.LaysM.n143 Tryz.prog Tryz.laysM143_ren := {
  mixed := by kernel_rfl
  f143 := Tryz.func110.trans (congrArg some (by kernel_rfl))
  f217 := Tryz.func119.trans (congrArg some (by kernel_rfl))
  f219 := Tryz.func124.trans (congrArg some (by kernel_rfl))
  f224 := Tryz.func132.trans (congrArg some (by kernel_rfl))
  f225 := Tryz.func133.trans (congrArg some (by kernel_rfl))
  f266 := Tryz.func134.trans (congrArg some (by kernel_rfl))
  f267 := Tryz.func137.trans (congrArg some (by kernel_rfl))
  f314 := Tryz.func141.trans (congrArg some (by kernel_rfl))
  t3 := Tryz.underlying3
  a3 := Tryz.isAgg3
  z3 := Tryz.sizeOf3
  v3 := Tryz.zeroValue3
  t4 := Tryz.underlying4
  a4 := Tryz.isAgg4
  z4 := Tryz.sizeOf4
  v4 := Tryz.zeroValue4
  t5 := Tryz.underlying5
  a5 := Tryz.isAgg5
  z5 := Tryz.sizeOf5
  v5 := Tryz.zeroValue5
  t9 := Tryz.underlying9
  a9 := Tryz.isAgg9
  z9 := Tryz.sizeOf9
  v9 := Tryz.zeroValue9
  t46 := Tryz.underlying61
  a46 := Tryz.isAgg61
  z46 := Tryz.sizeOf61
  v46 := Tryz.zeroValue61
  t51 := Tryz.underlying23
  a51 := Tryz.isAgg23
  z51 := Tryz.sizeOf23
  v51 := Tryz.zeroValue23
  t146 := Tryz.underlying160
  a146 := Tryz.isAgg160
  z146 := Tryz.sizeOf160
  v146 := Tryz.zeroValue160
  g1 := by kernel_rfl
  i3 := by kernel_rfl
  i4 := by kernel_rfl
  i5 := by kernel_rfl
  i9 := by kernel_rfl
  i46 := by kernel_rfl
  i51 := by kernel_rfl
  i146 := by kernel_rfl
  m1 := by kernel_rfl
  s1_3 := fun w h => Go.Proofs.cell_of_shapedOpen_int (zero := #[.int .i64 0]) (t := 3) h (of_decide_eq_true (by kernel_rfl)) (by kernel_rfl) rfl (by kernel_rfl) (by kernel_rfl) Tryz.underlying3 }
open Go.RowKit Go.Lib in
theorem Tryz.strings_Index_shaped (s sub : ByteArray) (w : World) (h : w.ShapedOpen Tryz.prog) (hs : s.size < 4294967281) :
    Calls Tryz.prog 110 #[.string s, .string sub] w fun e w' => e = .returned (.int .i64 (Lib.index s.data.toList sub.data.toList)) ∧ w' = w := Any.strings_Index_shaped Tryz.laysM143 s sub w h hs
def Tryz.laysM144_ren : Go.Shelf.Ren := ⟨fun | 144 => 95 | 143 => 110 | 219 => 124 | 217 => 119 | 225 => 133 | 224 => 132 | 267 => 137 | 266 => 134 | 314 => 141 | n => n, fun | 9 => 9 | 4 => 4 | 3 => 3 | 5 => 5 | 46 => 61 | 146 => 160 | 51 => 23 | n => n, fun | 1 => 5 | n => n⟩
theorem Tryz.laysM144 : Go.Proofs.LaysM.n144 Tryz.prog Tryz.laysM144_ren := {
  mixed := by kernel_rfl
  f143 := Tryz.func110.trans (congrArg some (by kernel_rfl))
  f144 := Tryz.func95.trans (congrArg some (by kernel_rfl))
  f217 := Tryz.func119.trans (congrArg some (by kernel_rfl))
  f219 := Tryz.func124.trans (congrArg some (by kernel_rfl))
  f224 := Tryz.func132.trans (congrArg some (by kernel_rfl))
  f225 := Tryz.func133.trans (congrArg some (by kernel_rfl))
  f266 := Tryz.func134.trans (congrArg some (by kernel_rfl))
  f267 := Tryz.func137.trans (congrArg some (by kernel_rfl))
  f314 := Tryz.func141.trans (congrArg some (by kernel_rfl))
  t3 := Tryz.underlying3
  a3 := Tryz.isAgg3
  z3 := Tryz.sizeOf3
  v3 := Tryz.zeroValue3
  t4 := Tryz.underlying4
  a4 := Tryz.isAgg4
  z4 := Tryz.sizeOf4
  v4 := Tryz.zeroValue4
  t5 := Tryz.underlying5
  a5 := Tryz.isAgg5
  z5 := Tryz.sizeOf5
  v5 := Tryz.zeroValue5
  t9 := Tryz.underlying9
  a9 := Tryz.isAgg9
  z9 := Tryz.sizeOf9
  v9 := Tryz.zeroValue9
  t46 := Tryz.underlying61
  a46 := Tryz.isAgg61
  z46 := Tryz.sizeOf61
  v46 := Tryz.zeroValue61
  t51 := Tryz.underlying23
  a51 := Tryz.isAgg23
  z51 := Tryz.sizeOf23
  v51 := Tryz.zeroValue23
  t146 := Tryz.underlying160
  a146 := Tryz.isAgg160
  z146 := Tryz.sizeOf160
  v146 := Tryz.zeroValue160
  g1 := by kernel_rfl
  i3 := by kernel_rfl
  i4 := by kernel_rfl
  i5 := by kernel_rfl
  i9 := by kernel_rfl
  i46 := by kernel_rfl
  i51 := by kernel_rfl
  i146 := by kernel_rfl
  m1 := by kernel_rfl
  s1_3 := fun w h => Go.Proofs.cell_of_shapedOpen_int (zero := #[.int .i64 0]) (t := 3) h (of_decide_eq_true (by kernel_rfl)) (by kernel_rfl) rfl (by kernel_rfl) (by kernel_rfl) Tryz.underlying3 }
open Go.RowKit Go.Lib in
theorem Tryz.strings_Contains_shaped (s sub : ByteArray) (w : World) (h : w.ShapedOpen Tryz.prog) (hs : s.size < 4294967281) :
    Calls Tryz.prog 95 #[.string s, .string sub] w fun e w' => e = .returned (.bool (Lib.contains s.data.toList sub.data.toList)) ∧ w' = w := Any.strings_Contains_shaped Tryz.laysM144 s sub w h hs
def Tryz.lays206_ren : Go.Shelf.Ren := ⟨fun | 206 => 94 | n => n, fun | 9 => 9 | 4 => 4 | 3 => 3 | n => n, fun | n => n⟩
theorem Tryz.lays206 : Go.Proofs.Lays.n206 Tryz.prog Tryz.lays206_ren := {
  mixed := by kernel_rfl
  f206 := Tryz.func94.trans (congrArg some (by kernel_rfl))
  t3 := Tryz.underlying3
  a3 := Tryz.isAgg3
  z3 := Tryz.sizeOf3
  v3 := Tryz.zeroValue3
  t4 := Tryz.underlying4
  a4 := Tryz.isAgg4
  z4 := Tryz.sizeOf4
  v4 := Tryz.zeroValue4
  t9 := Tryz.underlying9
  a9 := Tryz.isAgg9
  z9 := Tryz.sizeOf9
  v9 := Tryz.zeroValue9 }
open Go.RowKit Go.Lib in
/-- internal/stringslite.HasPrefix (what strings.HasPrefix calls). (LAID: no walk: one application.) -/
theorem Tryz.stringslite_HasPrefix (s p : ByteArray) (w : World) :
    Calls Tryz.prog 94 #[.string s, .string p] w fun e w' => e = .returned (.bool (Lib.hasPrefix s.data.toList p.data.toList)) ∧ w' = w := Any.stringslite_HasPrefix Tryz.lays206 s p w
def Tryz.lays99_ren : Go.Shelf.Ren := ⟨fun | 99 => 63 | 206 => 94 | n => n, fun | 9 => 9 | 4 => 4 | 3 => 3 | n => n, fun | n => n⟩
theorem Tryz.lays99 : Go.Proofs.Lays.n99 Tryz.prog Tryz.lays99_ren := {
  mixed := by kernel_rfl
  f99 := Tryz.func63.trans (congrArg some (by kernel_rfl))
  f206 := Tryz.func94.trans (congrArg some (by kernel_rfl))
  t3 := Tryz.underlying3
  a3 := Tryz.isAgg3
  z3 := Tryz.sizeOf3
  v3 := Tryz.zeroValue3
  t4 := Tryz.underlying4
  a4 := Tryz.isAgg4
  z4 := Tryz.sizeOf4
  v4 := Tryz.zeroValue4
  t9 := Tryz.underlying9
  a9 := Tryz.isAgg9
  z9 := Tryz.sizeOf9
  v9 := Tryz.zeroValue9 }
open Go.RowKit Go.Lib in
/-- strings.HasPrefix: "HasPrefix reports whether the string s begins with prefix.": IT RETURNS 'Lib.hasPrefix s prefix'; the world is as it was. (LAID: no walk: one application.) -/
theorem Tryz.strings_HasPrefix (s p : ByteArray) (w : World) :
    Calls Tryz.prog 63 #[.string s, .string p] w fun e w' => e = .returned (.bool (Lib.hasPrefix s.data.toList p.data.toList)) ∧ w' = w := Any.strings_HasPrefix Tryz.lays99 s p w
def Tryz.lays152_ren : Go.Shelf.Ren := ⟨fun | 152 => 118 | 137 => 105 | 119 => 131 | 224 => 132 | 225 => 133 | 217 => 119 | 266 => 134 | n => n, fun | 9 => 9 | 21 => 21 | 3 => 3 | 4 => 4 | 5 => 5 | 0 => 0 | 46 => 61 | n => n, fun | n => n⟩
theorem Tryz.lays152 : Go.Proofs.Lays.n152 Tryz.prog Tryz.lays152_ren := {
  mixed := by kernel_rfl
  f119 := Tryz.func131.trans (congrArg some (by kernel_rfl))
  f137 := Tryz.func105.trans (congrArg some (by kernel_rfl))
  f152 := Tryz.func118.trans (congrArg some (by kernel_rfl))
  f217 := Tryz.func119.trans (congrArg some (by kernel_rfl))
  f224 := Tryz.func132.trans (congrArg some (by kernel_rfl))
  f225 := Tryz.func133.trans (congrArg some (by kernel_rfl))
  f266 := Tryz.func134.trans (congrArg some (by kernel_rfl))
  t0 := Tryz.underlying0
  a0 := Tryz.isAgg0
  z0 := Tryz.sizeOf0
  v0 := Tryz.zeroValue0
  t3 := Tryz.underlying3
  a3 := Tryz.isAgg3
  z3 := Tryz.sizeOf3
  v3 := Tryz.zeroValue3
  t4 := Tryz.underlying4
  a4 := Tryz.isAgg4
  z4 := Tryz.sizeOf4
  v4 := Tryz.zeroValue4
  t5 := Tryz.underlying5
  a5 := Tryz.isAgg5
  z5 := Tryz.sizeOf5
  v5 := Tryz.zeroValue5
  t9 := Tryz.underlying9
  a9 := Tryz.isAgg9
  z9 := Tryz.sizeOf9
  v9 := Tryz.zeroValue9
  t21 := Tryz.underlying21
  a21 := Tryz.isAgg21
  z21 := Tryz.sizeOf21
  v21 := Tryz.zeroValue21
  t46 := Tryz.underlying61
  a46 := Tryz.isAgg61
  z46 := Tryz.sizeOf61
  v46 := Tryz.zeroValue61 }
open Go.RowKit Go.Lib in
theorem Tryz.strings_IndexRune_ascii (s : ByteArray) (r : Int) (w : World) (h0 : 0 ≤ r) (h1 : r < 128) :
    Calls Tryz.prog 118 #[.string s, .int .i32 r] w fun e w' => e = .returned (.int .i64 (Lib.indexByte s.data.toList r.toNat.toUInt8)) ∧ w' = w := Any.strings_IndexRune_ascii Tryz.lays152 s r w h0 h1
def Tryz.lays151_ren : Go.Shelf.Ren := ⟨fun | 151 => 104 | 152 => 118 | 137 => 105 | 119 => 131 | 224 => 132 | 225 => 133 | 217 => 119 | 266 => 134 | n => n, fun | 9 => 9 | 21 => 21 | 4 => 4 | 3 => 3 | 5 => 5 | 0 => 0 | 46 => 61 | n => n, fun | n => n⟩
theorem Tryz.lays151 : Go.Proofs.Lays.n151 Tryz.prog Tryz.lays151_ren := {
  mixed := by kernel_rfl
  f119 := Tryz.func131.trans (congrArg some (by kernel_rfl))
  f137 := Tryz.func105.trans (congrArg some (by kernel_rfl))
  f151 := Tryz.func104.trans (congrArg some (by kernel_rfl))
  f152 := Tryz.func118.trans (congrArg some (by kernel_rfl))
  f217 := Tryz.func119.trans (congrArg some (by kernel_rfl))
  f224 := Tryz.func132.trans (congrArg some (by kernel_rfl))
  f225 := Tryz.func133.trans (congrArg some (by kernel_rfl))
  f266 := Tryz.func134.trans (congrArg some (by kernel_rfl))
  t0 := Tryz.underlying0
  a0 := Tryz.isAgg0
  z0 := Tryz.sizeOf0
  v0 := Tryz.zeroValue0
  t3 := Tryz.underlying3
  a3 := Tryz.isAgg3
  z3 := Tryz.sizeOf3
  v3 := Tryz.zeroValue3
  t4 := Tryz.underlying4
  a4 := Tryz.isAgg4
  z4 := Tryz.sizeOf4
  v4 := Tryz.zeroValue4
  t5 := Tryz.underlying5
  a5 := Tryz.isAgg5
  z5 := Tryz.sizeOf5
  v5 := Tryz.zeroValue5
  t9 := Tryz.underlying9
  a9 := Tryz.isAgg9
  z9 := Tryz.sizeOf9
  v9 := Tryz.zeroValue9
  t21 := Tryz.underlying21
  a21 := Tryz.isAgg21
  z21 := Tryz.sizeOf21
  v21 := Tryz.zeroValue21
  t46 := Tryz.underlying61
  a46 := Tryz.isAgg61
  z46 := Tryz.sizeOf61
  v46 := Tryz.zeroValue61 }
open Go.RowKit Go.Lib in
theorem Tryz.strings_ContainsRune_ascii (s : ByteArray) (r : Int) (w : World) (h0 : 0 ≤ r) (h1 : r < 128) :
    Calls Tryz.prog 104 #[.string s, .int .i32 r] w fun e w' => e = .returned (.bool (decide (0 ≤ Lib.indexByte s.data.toList r.toNat.toUInt8))) ∧ w' = w := Any.strings_ContainsRune_ascii Tryz.lays151 s r w h0 h1
def Tryz.lays227_ren : Go.Shelf.Ren := ⟨fun | 227 => 88 | n => n, fun | 9 => 9 | 116 => 115 | 4 => 4 | 0 => 0 | 3 => 3 | 5 => 5 | n => n, fun | n => n⟩
theorem Tryz.lays227 : Go.Proofs.Lays.n227 Tryz.prog Tryz.lays227_ren := {
  mixed := by kernel_rfl
  f227 := Tryz.func88.trans (congrArg some (by kernel_rfl))
  t0 := Tryz.underlying0
  a0 := Tryz.isAgg0
  z0 := Tryz.sizeOf0
  v0 := Tryz.zeroValue0
  t3 := Tryz.underlying3
  a3 := Tryz.isAgg3
  z3 := Tryz.sizeOf3
  v3 := Tryz.zeroValue3
  t4 := Tryz.underlying4
  a4 := Tryz.isAgg4
  z4 := Tryz.sizeOf4
  v4 := Tryz.zeroValue4
  t5 := Tryz.underlying5
  a5 := Tryz.isAgg5
  z5 := Tryz.sizeOf5
  v5 := Tryz.zeroValue5
  t9 := Tryz.underlying9
  a9 := Tryz.isAgg9
  z9 := Tryz.sizeOf9
  v9 := Tryz.zeroValue9
  t116 := Tryz.underlying115
  a116 := Tryz.isAgg115
  z116 := Tryz.sizeOf115 }
open Go.RowKit Go.Lib in
theorem Tryz.strings_makeASCIISet (hv116 : ∀ w, (zeroValue 115).run Tryz.prog w = .ok (.agg (Array.replicate 256 (.bool false))) w) (chars : ByteArray) (w : World) (hs : chars.size < 4294967281) (hascii : ∀ (j : Nat) b, chars.data.toList[j]? = some b → b.toNat < 128) :
    Calls Tryz.prog 88 #[.string chars] w fun e w' => e = .returned (.tuple #[.agg (Lib.setCells chars.data.toList), .bool true]) ∧ w' = w.alloc (.cells (Lib.setCells chars.data.toList) 115) := Any.strings_makeASCIISet Tryz.lays227 hv116 (by kernel_rfl) chars w hs hascii
def Tryz.lays228_ren : Go.Shelf.Ren := ⟨fun | 228 => 102 | n => n, fun | 124 => 119 | 5 => 5 | 4 => 4 | 0 => 0 | 116 => 115 | n => n, fun | n => n⟩
theorem Tryz.lays228 : Go.Proofs.Lays.n228 Tryz.prog Tryz.lays228_ren := {
  mixed := by kernel_rfl
  f228 := Tryz.func102.trans (congrArg some (by kernel_rfl))
  t0 := Tryz.underlying0
  a0 := Tryz.isAgg0
  z0 := Tryz.sizeOf0
  v0 := Tryz.zeroValue0
  t4 := Tryz.underlying4
  a4 := Tryz.isAgg4
  z4 := Tryz.sizeOf4
  v4 := Tryz.zeroValue4
  t5 := Tryz.underlying5
  a5 := Tryz.isAgg5
  z5 := Tryz.sizeOf5
  v5 := Tryz.zeroValue5
  t116 := Tryz.underlying115
  a116 := Tryz.isAgg115
  z116 := Tryz.sizeOf115
  t124 := Tryz.underlying119
  a124 := Tryz.isAgg119
  z124 := Tryz.sizeOf119
  v124 := Tryz.zeroValue119 }
open Go.RowKit Go.Lib in
/-- '(as *asciiSet) contains(c)': 'as[c]': the set lies at block b, whole. (LAID: no walk: one application.) -/
theorem Tryz.asciiSet_contains (b : Nat) (x : UInt8) (v : Bool) (w : World) (hc : w.cell? ⟨b, x.toNat, none⟩ = some (.bool v)) :
    Calls Tryz.prog 102 #[.pointer (some ⟨b, 0, none⟩), .int .u8 x.toNat] w fun e w' => e = .returned (.bool v) ∧ w' = w := Any.asciiSet_contains Tryz.lays228 b x v w hc
def Tryz.lays264_ren : Go.Shelf.Ren := ⟨fun | 264 => 71 | n => n, fun | 53 => 22 | 46 => 61 | n => n, fun | n => n⟩
theorem Tryz.lays264 : Go.Proofs.Lays.n264 Tryz.prog Tryz.lays264_ren := {
  mixed := by kernel_rfl
  f264 := Tryz.func71.trans (congrArg some (by kernel_rfl))
  t46 := Tryz.underlying61
  a46 := Tryz.isAgg61
  z46 := Tryz.sizeOf61
  v46 := Tryz.zeroValue61
  t53 := Tryz.underlying22
  a53 := Tryz.isAgg22
  z53 := Tryz.sizeOf22
  v53 := Tryz.zeroValue22 }
open Go.RowKit Go.Lib in
theorem Tryz.bits_Mul64 (x y : Nat) (hx : x < 18446744073709551616) (hy : y < 18446744073709551616) (w : World) :
    Calls Tryz.prog 71 #[.int .u64 x, .int .u64 y] w fun e w' => e = .returned (.tuple #[.int .u64 ((x * y / 18446744073709551616 : Nat) : Int), .int .u64 ((x * y % 18446744073709551616 : Nat) : Int)]) ∧ w' = w := Any.bits_Mul64 Tryz.lays264 x y hx hy w
def Tryz.lays260_ren : Go.Shelf.Ren := ⟨fun | 260 => 99 | n => n, fun | 9 => 9 | 21 => 21 | 3 => 3 | 4 => 4 | 5 => 5 | 119 => 136 | 0 => 0 | 46 => 61 | 139 => 139 | 138 => 138 | n => n, fun | 3 => 2 | 4 => 3 | n => n⟩
theorem Tryz.lays260 : Go.Proofs.Lays.n260 Tryz.prog Tryz.lays260_ren := {
  mixed := by kernel_rfl
  f260 := Tryz.func99.trans (congrArg some (by kernel_rfl))
  t0 := Tryz.underlying0
  a0 := Tryz.isAgg0
  z0 := Tryz.sizeOf0
  v0 := Tryz.zeroValue0
  t3 := Tryz.underlying3
  a3 := Tryz.isAgg3
  z3 := Tryz.sizeOf3
  v3 := Tryz.zeroValue3
  t4 := Tryz.underlying4
  a4 := Tryz.isAgg4
  z4 := Tryz.sizeOf4
  v4 := Tryz.zeroValue4
  t5 := Tryz.underlying5
  a5 := Tryz.isAgg5
  z5 := Tryz.sizeOf5
  v5 := Tryz.zeroValue5
  t9 := Tryz.underlying9
  a9 := Tryz.isAgg9
  z9 := Tryz.sizeOf9
  v9 := Tryz.zeroValue9
  t21 := Tryz.underlying21
  a21 := Tryz.isAgg21
  z21 := Tryz.sizeOf21
  v21 := Tryz.zeroValue21
  t46 := Tryz.underlying61
  a46 := Tryz.isAgg61
  z46 := Tryz.sizeOf61
  v46 := Tryz.zeroValue61
  t119 := Tryz.underlying136
  a119 := Tryz.isAgg136
  z119 := Tryz.sizeOf136
  t138 := Tryz.underlying138
  a138 := Tryz.isAgg138
  z138 := Tryz.sizeOf138
  v138 := Tryz.zeroValue138
  t139 := Tryz.underlying139
  a139 := Tryz.isAgg139
  z139 := Tryz.sizeOf139
  v139 := Tryz.zeroValue139
  g3 := by kernel_rfl
  g4 := by kernel_rfl }
open Go.RowKit Go.Lib in
theorem Tryz.utf8_decodeRuneInStringSlow (s : ByteArray) (w : World) (hT : Lib.Utf8Tabs 2 3 w) :
    Calls Tryz.prog 99 #[.string s] w fun e w' => e = .returned (.tuple #[.int .i32 (Lib.decodeGo s).1, .int .i64 (Lib.decodeGo s).2]) ∧ Below w.heap.size w w' := Any.utf8_decodeRuneInStringSlow Tryz.lays260 s w hT
end Go.Proofs

/- The contracts of package fix and of the reference's numbers by halves. -/
namespace Go.Proofs.YtjlnbahanghhcaaGreatDoor
open Go.RowKit
set_option linter.unusedVariables false
set_option linter.unusedSimpArgs false

theorem mul64 (x y h l : Nat) (hx : x < 18446744073709551616) (hy : y < 18446744073709551616) (e1 : x * y / 18446744073709551616 = h) (e2 : x * y % 18446744073709551616 = l) (w : World) :
    Calls Tryz.prog 71 #[.int .u64 x, .int .u64 y] w fun e w' => e = .returned (.tuple #[.int .u64 h, .int .u64 l]) ∧ w = w' :=
  (Tryz.bits_Mul64 x y hx hy w).mono fun e w' ⟨a, b⟩ => ⟨by rw [a, e1, e2], b.symm⟩
theorem lead64 (y : Nat) (hy : y < 18446744073709551616) (w : World) :
    Calls Tryz.prog 100 #[.int .u64 y] w fun e w' => e = .returned (.int .i64 (64 - (Lib.bitLen y : Int))) ∧ w' = w :=
  (Tryz.bits_LeadingZeros64 y w (by omega) (by omega)).mono fun e w' ⟨a, b⟩ => ⟨by rw [a, Int.toNat_natCast], b⟩
theorem two_halves (x h l : Nat) (e1 : x / 18446744073709551616 = h) (e2 : x % 18446744073709551616 = l) : x = h * 18446744073709551616 + l := by omega
/-- which of two numbers of two halves is the greater one. -/
theorem le_halves (a b c d : Nat) (hb : b < 18446744073709551616) (hd : d < 18446744073709551616) : (a * 18446744073709551616 + b ≤ c * 18446744073709551616 + d) ↔ (a < c ∨ a = c ∧ b ≤ d) := by omega

set_option maxHeartbeats 1000000 in
set_option maxRecDepth 1000000 in
theorem fix_SqrtMul (a b : Nat) (w : World) (ha : a < 18446744073709551616) (hb : b < 18446744073709551616) :
    Calls Tryz.prog 73 #[.int .u64 a, .int .u64 b] w fun e w' => e = .returned (.int .u64 (Fix.root (a * b) : Nat)) ∧ w = w' := by
  obtain ⟨H, hH⟩ : ∃ H, a * b / 18446744073709551616 = H := ⟨_, rfl⟩
  obtain ⟨L, hL⟩ : ∃ L, a * b % 18446744073709551616 = L := ⟨_, rfl⟩
  have c0 := mul64 a b H L ha hb hH hL
  have hN := two_halves _ _ _ hH hL
  have hL' : L < 18446744073709551616 := by rw [← hL]; exact Nat.mod_lt _ (by omega)
  obtain ⟨N, eN⟩ : ∃ N, a * b = N := ⟨_, rfl⟩
  rw [eN] at hN ⊢
  have HN := hide_ hN; have HL := hide_ hL'
  clear hH hL hN eN ha hb hL'
  go_enter Tryz.func73, Tryz.ntmps73
  go_wp2_with (go_at_call 71; refine (c0 _).mono ?_; rintro e w' ⟨rfl, rfl⟩)
  go_loop [7, 8] (fun u v => ∃ r B : Nat, u = .int .u64 r ∧ v = .int .u64 B ∧ Hid (∃ i, i ≤ 64 ∧ B = 2 ^ i / 2 ∧ r % 2 ^ i = 0 ∧ r + 2 ^ i ≤ 18446744073709551616 ∧ Fix.sqrtFrom N i r = Fix.root N)) (fun _ v => (intOf v).toNat)
  case atStart => exact ⟨0, 9223372036854775808, rfl, rfl, hide_ ⟨64, by omega, by decide, by decide, by decide, rfl⟩⟩
  case round =>
    obtain ⟨r, B, rfl, rfl, H1⟩ := hrel
    obtain ⟨i, hi, hB, hr, hlt, hs⟩ := H1.out
    clear H1
    cases i with
    | zero =>
      have : B = 0 := by simpa using hB
      subst this
      have hs' := hide_ hs
      clear hs hB hr hlt
      go_wp2
      go_ret
      exact ⟨by rw [← hs'.out]; rfl, rfl⟩
    | succ i =>
      have hp := Nat.two_pow_pos i
      have hB' : B = 2 ^ i := by rw [hB, Nat.pow_succ]; omega
      have hn : r + B < 18446744073709551616 := by rw [Nat.pow_succ] at hlt; omega
      have hor : bits .or .u64 (r : Int) (B : Int) = ((r + B : Nat) : Int) := by
        rw [bits_or_u64_nat _ _ (by omega) (by omega)]
        congr 1
        obtain ⟨k, hk⟩ : ∃ k, r = 2 ^ (i + 1) * k := ⟨r / 2 ^ (i + 1), by have := Nat.div_add_mod r (2 ^ (i + 1)); omega⟩
        rw [hB', hk]
        exact (Nat.two_pow_add_eq_or_of_lt (by rw [Nat.pow_succ]; omega) k).symm
      obtain ⟨X, hX⟩ : ∃ X, (r + B) * (r + B) / 18446744073709551616 = X := ⟨_, rfl⟩
      obtain ⟨Y, hY⟩ : ∃ Y, (r + B) * (r + B) % 18446744073709551616 = Y := ⟨_, rfl⟩
      have c1 := mul64 (r + B) (r + B) X Y hn hn hX hY
      have hXY := two_halves _ _ _ hX hY
      have hY' : Y < 18446744073709551616 := by rw [← hY]; exact Nat.mod_lt _ (by omega)
      have hB0 : 0 < B := by omega
      rw [Fix.sqrtFrom, ← hB'] at hs
      have t := le_halves X Y H L hY' HL.out
      rw [← hXY, ← HN.out] at t
      have hdiv : r % 2 ^ i = 0 := by
        have : (2 ^ i) ∣ r := Nat.dvd_trans ⟨2, by rw [Nat.pow_succ]⟩ (Nat.dvd_of_mod_eq_zero hr)
        exact Nat.mod_eq_zero_of_dvd this
      have hdiv2 : (r + B) % 2 ^ i = 0 := by rw [hB', Nat.add_mod_right]; exact hdiv
      have hb2 : r + 2 ^ i + 2 ^ i ≤ 18446744073709551616 := by rw [Nat.pow_succ] at hlt; omega
      have nx : ∀ r' : Nat, Hid (r' % 2 ^ i = 0 ∧ r' + 2 ^ i ≤ 18446744073709551616 ∧ Fix.sqrtFrom N i r' = Fix.root N) → Hid (∃ i, i ≤ 64 ∧ B / 2 = 2 ^ i / 2 ∧ r' % 2 ^ i = 0 ∧ r' + 2 ^ i ≤ 18446744073709551616 ∧ Fix.sqrtFrom N i r' = Fix.root N) :=
        fun r' h => hide_ ⟨i, by omega, by rw [hB'], h.out⟩
      have ny : (r + B) * (r + B) ≤ N → Hid ((r + B) % 2 ^ i = 0 ∧ (r + B) + 2 ^ i ≤ 18446744073709551616 ∧ Fix.sqrtFrom N i (r + B) = Fix.root N) := fun h => hide_ ⟨hdiv2, by omega, by rw [if_pos h] at hs; exact hs⟩
      have nn : ¬ (r + B) * (r + B) ≤ N → Hid (r % 2 ^ i = 0 ∧ r + 2 ^ i ≤ 18446744073709551616 ∧ Fix.sqrtFrom N i r = Fix.root N) := fun h => hide_ ⟨hdiv, by omega, by rw [if_neg h] at hs; exact hs⟩
      have T := hide_ t; have NX := hide_ nx; have NY := hide_ ny; have NN := hide_ nn
      clear t nx ny nn hs hX hY hXY hb2 hdiv hdiv2 hB' hB hr hlt hp hi
      have hw : IntKind.u64.wrap ((B : Int) / 2) = ((B / 2 : Nat) : Int) := by rw [IntKind.wrap_u64]; omega
      by_cases k1 : (X : Int) < H
      · have hc := NX.out _ (NY.out (T.out.2 (.inl (by omega))))
        have HC := hide_ hc; clear hc T NX NY NN
        go_wp2_with (go_at_call 71; refine (c1 _).mono ?_; rintro e w' ⟨rfl, rfl⟩)
        go_round
        case rel => exact ⟨r + B, B / 2, by go_num, by go_num, HC.out⟩
        case measure => simp [intOf]; omega
      · by_cases k2 : (X : Int) = H
        · by_cases k3 : (Y : Int) ≤ L
          · have hc := NX.out _ (NY.out (T.out.2 (.inr ⟨by omega, by omega⟩)))
            have HC := hide_ hc; clear hc T NX NY NN
            have k2' : ((X : Int) == H) = true := by simpa using k2
            clear k2
            go_wp2_with (go_at_call 71; refine (c1 _).mono ?_; rintro e w' ⟨rfl, rfl⟩)
            go_round
            case rel => exact ⟨r + B, B / 2, by go_num, by go_num, HC.out⟩
            case measure => simp [intOf]; omega
          · have hc := NX.out _ (NN.out (fun h => by rcases T.out.1 h with h | h <;> omega))
            have HC := hide_ hc; clear hc T NX NY NN
            have k2' : ((X : Int) == H) = true := by simpa using k2
            clear k2
            go_wp2_with (go_at_call 71; refine (c1 _).mono ?_; rintro e w' ⟨rfl, rfl⟩)
            go_round
            case rel => exact ⟨r, B / 2, by go_num, by go_num, HC.out⟩
            case measure => simp [intOf]; omega
        · have hc := NX.out _ (NN.out (fun h => by rcases T.out.1 h with h | h <;> omega))
          have HC := hide_ hc; clear hc T NX NY NN
          have k2' : ((X : Int) == H) = false := by simpa using k2
          clear k2
          go_wp2_with (go_at_call 71; refine (c1 _).mono ?_; rintro e w' ⟨rfl, rfl⟩)
          go_round
          case rel => exact ⟨r, B / 2, by go_num, by go_num, HC.out⟩
          case measure => simp [intOf]; omega
end Go.Proofs.YtjlnbahanghhcaaGreatDoor

/- The contracts of fix.MulDiv, fix.Sqrt (what begun asks of fix beside fix.SqrtMul). -/
namespace Go.Proofs.YtjlnbahanghhcaaGreatDoor
open Go.RowKit
set_option linter.unusedVariables false
set_option linter.unusedSimpArgs false

theorem fix_Sqrt (a : Nat) (w : World) (ha : a < 18446744073709551616) :
    Calls Tryz.prog 40 #[.int .u64 a] w fun e w' => e = .returned (.int .u64 (Fix.root a : Nat)) ∧ w = w' := by
  have c := fix_SqrtMul a 1
  rw [Nat.mul_one] at c
  have C := hide_ c
  clear c
  go_enter Tryz.func40, Tryz.ntmps40
  go_wp2_with (go_at_call 73; refine (C.out _ (by omega) (by omega)).mono ?_; rintro e w' ⟨rfl, rfl⟩)
  go_ret
  exact ⟨rfl, rfl⟩

set_option maxHeartbeats 1000000 in
set_option maxRecDepth 1000000 in
theorem fix_MulDiv (a b c : Nat) (w : World) (ha : a < 18446744073709551616) (hb : b < 18446744073709551616) (hc : c < 18446744073709551616) :
    Calls Tryz.prog 39 #[.int .u64 a, .int .u64 b, .int .u64 c] w fun e w' => e = .returned (.int .u64 (Fix.quot a b c : Nat)) ∧ ∃ n, w' = w.drewN n := by
  obtain ⟨H, hH⟩ : ∃ H, a * b / 18446744073709551616 = H := ⟨_, rfl⟩
  obtain ⟨L, hL⟩ : ∃ L, a * b % 18446744073709551616 = L := ⟨_, rfl⟩
  have c0 := mul64 a b H L ha hb hH hL
  have hN := two_halves _ _ _ hH hL
  have hL' : L < 18446744073709551616 := by rw [← hL]; exact Nat.mod_lt _ (by omega)
  by_cases h : H < c
  · have c1 := fun W => div64 H L c W h hc hL' (lead64 c hc)
    have ht : ¬ (c : Int) ≤ H := by omega
    have hq : (H * 18446744073709551616 + L) / c = Fix.quot a b c := by unfold Fix.quot; rw [hH, if_pos h, ← hN]
    rw [hq] at c1
    clear hq hH hL hN hL' ha hb hc
    have C0 := hide_ c0; have C1 := hide_ c1
    clear c0 c1
    go_enter Tryz.func39, Tryz.ntmps39
    go_wp2_with (first | (go_at_call 71; refine (C0.out _).mono ?_; rintro e w' ⟨rfl, rfl⟩) | (go_at_call 72; refine (C1.out _).mono ?_; rintro e w' ⟨rfl, n, rfl⟩))
    go_ret
    exact ⟨rfl, _, rfl⟩
  · have ht : (c : Int) ≤ H := by omega
    have hq : Fix.quot a b c = 18446744073709551615 := by unfold Fix.quot; rw [hH, if_neg h]
    rw [hq]
    clear hq hH hL hN hL' ha hb hc
    have C0 := hide_ c0
    clear c0
    go_enter Tryz.func39, Tryz.ntmps39
    go_wp2_with (first | (go_at_call 71; refine (C0.out _).mono ?_; rintro e w' ⟨rfl, rfl⟩))
    go_ret
    exact ⟨rfl, 0, rfl⟩
end Go.Proofs.YtjlnbahanghhcaaGreatDoor

/- The document's own numbers (fix): a product by halves, a quotient bit by bit, in plain arithmetic. No program in sight. -/
namespace Go.Proofs.YtjlnbahanghhcaaGreatDoor.Fix
set_option linter.unusedVariables false
set_option linter.unusedSimpArgs false

theorem wide_nat (a b H al ah bl bh : Nat) (hH : 0 < H) (ha : a = ah * H + al) (hb : b = bh * H + bl) :
    a * b = (ah * bh + (ah * bl + al * bl / H) / H + (al * bh + (ah * bl + al * bl / H) % H) / H) * (H * H) + ((al * bh + (ah * bl + al * bl / H) % H) % H * H + al * bl % H) := by
  have h1 := Nat.div_add_mod (al * bl) H
  have h2 := Nat.div_add_mod (ah * bl + al * bl / H) H
  have h3 := Nat.div_add_mod (al * bh + (ah * bl + al * bl / H) % H) H
  generalize (al * bh + (ah * bl + al * bl / H) % H) / H = q3 at *
  generalize (al * bh + (ah * bl + al * bl / H) % H) % H = r3 at *
  generalize (ah * bl + al * bl / H) / H = q2 at *
  generalize (ah * bl + al * bl / H) % H = r2 at *
  generalize al * bl / H = q1 at *
  generalize al * bl % H = r1 at *
  have e : a * b = ah * bh * (H * H) + (ah * bl + al * bh) * H + al * bl := by
    rw [ha, hb]
    simp only [Nat.add_mul, Nat.mul_add]
    have x1 : ah * H * (bh * H) = ah * bh * (H * H) := by simp only [Nat.mul_assoc, Nat.mul_left_comm, Nat.mul_comm]
    have x2 : ah * H * bl = ah * bl * H := by simp only [Nat.mul_assoc, Nat.mul_left_comm, Nat.mul_comm]
    have x3 : al * (bh * H) = al * bh * H := by simp only [Nat.mul_assoc]
    omega
  rw [e, ← h1]
  have e2 : ah * bl * H = (H * q2 + r2 - q1) * H := by congr 1; omega
  have e2' : (ah * bl + al * bh) * H + (H * q1 + r1) = (H * q2 + r2 + al * bh) * H + r1 := by
    rw [h2]; simp only [Nat.add_mul]; rw [Nat.mul_comm H q1]; omega
  have e3 : (H * q2 + r2 + al * bh) * H = q2 * (H * H) + (H * q3 + r3) * H := by
    rw [h3]; simp only [Nat.add_mul]
    have : H * q2 * H = q2 * (H * H) := by simp only [Nat.mul_assoc, Nat.mul_left_comm, Nat.mul_comm]
    omega
  have e4 : (H * q3 + r3) * H = q3 * (H * H) + r3 * H := by
    rw [Nat.add_mul]; congr 1; simp only [Nat.mul_assoc, Nat.mul_left_comm, Nat.mul_comm]
  simp only [Nat.add_mul (ah * bh + q2), Nat.add_mul (ah * bh)]
  omega

/-- the upper and the lower half of a product, by the document's steps. -/
theorem wide_halves (a b : Nat) (ha : a < 18446744073709551616) (hb : b < 18446744073709551616) :
    (a / 4294967296) * (b / 4294967296) + ((a / 4294967296) * (b % 4294967296) + (a % 4294967296) * (b % 4294967296) / 4294967296) / 4294967296 + ((a % 4294967296) * (b / 4294967296) + ((a / 4294967296) * (b % 4294967296) + (a % 4294967296) * (b % 4294967296) / 4294967296) % 4294967296) / 4294967296 = a * b / 18446744073709551616
    ∧ ((a % 4294967296) * (b / 4294967296) + ((a / 4294967296) * (b % 4294967296) + (a % 4294967296) * (b % 4294967296) / 4294967296) % 4294967296) % 4294967296 * 4294967296 + (a % 4294967296) * (b % 4294967296) % 4294967296 = a * b % 18446744073709551616 := by
  have e := wide_nat a b 4294967296 (a % 4294967296) (a / 4294967296) (b % 4294967296) (b / 4294967296) (by omega) (by omega) (by omega)
  generalize (a / 4294967296) * (b / 4294967296) + ((a / 4294967296) * (b % 4294967296) + (a % 4294967296) * (b % 4294967296) / 4294967296) / 4294967296 + ((a % 4294967296) * (b / 4294967296) + ((a / 4294967296) * (b % 4294967296) + (a % 4294967296) * (b % 4294967296) / 4294967296) % 4294967296) / 4294967296 = hi at *
  have hr3 : ((a % 4294967296) * (b / 4294967296) + ((a / 4294967296) * (b % 4294967296) + (a % 4294967296) * (b % 4294967296) / 4294967296) % 4294967296) % 4294967296 < 4294967296 := Nat.mod_lt _ (by omega)
  have hr1 : (a % 4294967296) * (b % 4294967296) % 4294967296 < 4294967296 := Nat.mod_lt _ (by omega)
  generalize ((a % 4294967296) * (b / 4294967296) + ((a / 4294967296) * (b % 4294967296) + (a % 4294967296) * (b % 4294967296) / 4294967296) % 4294967296) % 4294967296 = r3 at *
  generalize (a % 4294967296) * (b % 4294967296) % 4294967296 = r1 at *
  rw [e]
  omega

/-- no part of it wraps. -/
theorem wide_small (x y c : Nat) (hx : x < 4294967296) (hy : y < 4294967296) (hc : c < 4294967296) : x * y + c < 18446744073709551616 := by
  have : x * y ≤ 4294967295 * 4294967295 := Nat.mul_le_mul (by omega) (by omega)
  omega

/-- is the pair above the other one? -/
def over (a b c d : Nat) : Bool := decide (c * 18446744073709551616 + d < a * 18446744073709551616 + b)
theorem over_halves (M N : Nat) : over (M / 18446744073709551616) (M % 18446744073709551616) (N / 18446744073709551616) (N % 18446744073709551616) = decide (N < M) := by
  unfold over; congr 1; rw [eq_iff_iff]; omega

/-- a quotient bit by bit: what is left, the quotient so far; i bits to come of N. -/
def divFrom (N c : Nat) : Nat → Nat → Nat → Nat
  | 0, r, q => q
  | i + 1, r, q => if r * 2 + N / 2 ^ i % 2 ≥ c then divFrom N c i (r * 2 + N / 2 ^ i % 2 - c) (q * 2 + 1) else divFrom N c i (r * 2 + N / 2 ^ i % 2) (q * 2)
theorem divFrom_eq (N c : Nat) : ∀ (i r q : Nat), r < c → q * c + r = N / 2 ^ i → divFrom N c i r q = N / c
  | 0, r, q, h0, h1 => by
    simp only [divFrom]
    rw [Nat.pow_zero, Nat.div_one] at h1
    rw [← h1, Nat.add_comm, Nat.add_mul_div_right _ _ (by omega), Nat.div_eq_of_lt h0, Nat.zero_add]
  | i + 1, r, q, h0, h1 => by
    have hp : N / 2 ^ i = (q * c + r) * 2 + N / 2 ^ i % 2 := by
      have : N / 2 ^ (i + 1) = N / 2 ^ i / 2 := by rw [Nat.pow_succ, Nat.div_div_eq_div_mul]
      omega
    have hb : N / 2 ^ i % 2 < 2 := Nat.mod_lt _ (by omega)
    have eq2 : q * 2 * c = q * c * 2 := by rw [Nat.mul_right_comm]
    have eq3 : (q * 2 + 1) * c = q * c * 2 + c := by rw [Nat.add_mul, eq2, Nat.one_mul]
    simp only [divFrom]
    split
    · exact divFrom_eq N c i _ _ (by omega) (by omega)
    · exact divFrom_eq N c i _ _ (by omega) (by omega)
theorem quot_top (a b c : Nat) (h : ¬ a * b / 18446744073709551616 < c) : quot a b c = 18446744073709551615 := by unfold quot; rw [if_neg h]
theorem quot_in (a b c : Nat) (h : a * b / 18446744073709551616 < c) : quot a b c = a * b / c := by unfold quot; rw [if_pos h]
theorem quot_mono (a x b c : Nat) (h : a ≤ x) (hx : x < 18446744073709551616) (hb : b < 18446744073709551616) : quot a b c ≤ quot x b c := by
  have hm : a * b ≤ x * b := Nat.mul_le_mul_right b h
  have hd : a * b / 18446744073709551616 ≤ x * b / 18446744073709551616 := Nat.div_le_div_right hm
  by_cases hc : x * b / 18446744073709551616 < c
  · rw [quot_in _ _ _ hc, quot_in _ _ _ (by omega)]; exact Nat.div_le_div_right hm
  · rw [quot_top _ _ _ hc]; have := quot_lt a b c; omega
theorem quot_anti (a b c d : Nat) (h : c ≤ d) (hc0 : 0 < c) : quot a b d ≤ quot a b c := by
  by_cases hc : a * b / 18446744073709551616 < c
  · rw [quot_in _ _ _ hc, quot_in _ _ _ (by omega)]; exact Nat.div_le_div_left h hc0
  · rw [quot_top _ _ _ hc]; have := quot_lt a b d; omega
theorem sum_mono (a x b : Nat) (h : a ≤ x) : sum a b ≤ sum x b := by unfold sum; split <;> split <;> omega
theorem prod_mono (a x b : Nat) (h : a ≤ x) : prod a b ≤ prod x b := by
  have hm : a * b ≤ x * b := Nat.mul_le_mul_right b h
  unfold prod; split <;> split <;> omega
theorem prod_bound (a b : Nat) (ha : a < 18446744073709551616) (hb : b < 18446744073709551616) : a * b < 18446744073709551616 * 18446744073709551616 := by
  have : a * b ≤ 18446744073709551615 * 18446744073709551615 := Nat.mul_le_mul (by omega) (by omega)
  omega
theorem root_sq (a : Nat) (ha : a < 18446744073709551616) : root (a * a) = a := root_of _ _ (Nat.le_refl _) (Nat.mul_self_lt_mul_self (by omega)) (prod_bound a a ha ha)
/-- by itself it is no more than the product; one more of it is. -/
theorem quot_mul_le (a b c : Nat) : quot a b c * c ≤ a * b := by
  by_cases hc : a * b / 18446744073709551616 < c
  · rw [quot_in _ _ _ hc]; exact Nat.div_mul_le_self _ _
  · rw [quot_top _ _ _ hc]
    have : c * 18446744073709551616 ≤ a * b := by
      rw [Nat.not_lt] at hc
      exact Nat.le_trans (Nat.mul_le_mul_right _ hc) (Nat.div_mul_le_self _ _)
    omega
theorem quot_next (a b c : Nat) (hc : a * b / 18446744073709551616 < c) : a * b < (quot a b c + 1) * c := by
  rw [quot_in _ _ _ hc, Nat.add_mul, Nat.one_mul]
  have := Nat.div_add_mod (a * b) c
  have := Nat.mod_lt (a * b) (by omega : c > 0)
  rw [Nat.mul_comm (a * b / c) c]
  omega
theorem quot_self (a c : Nat) (ha : a < 18446744073709551616) (hc : 0 < c) : quot a c c = a := by
  have h : a * c / 18446744073709551616 < c := by
    rw [Nat.div_lt_iff_lt_mul (by omega), Nat.mul_comm]
    exact Nat.mul_lt_mul_of_pos_left ha hc
  rw [quot_in _ _ _ h, Nat.mul_div_cancel _ hc]
end Go.Proofs.YtjlnbahanghhcaaGreatDoor.Fix

/- Words for memory that the proofs of this seat share: cells that lie one behind the other. -/
namespace Go.Proofs.YtjlnbahanghhcaaGreatDoor
open Go.RowKit
set_option linter.unusedVariables false
set_option linter.unusedSimpArgs false

theorem hide {p : Prop} (h : p) : Hid p := h
theorem add_add (a : Addr) (i j : Nat) : (a.add i).add j = a.add (i + j) := by
  unfold Addr.add
  by_cases hi : i = 0 <;> by_cases hj : j = 0 <;> simp [hi, hj, Nat.add_assoc]
theorem add_block (a : Addr) (n : Nat) : (a.add n).block = a.block := by unfold Addr.add; split <;> rfl

/-- from A on the cells xs lie one behind the other, in blocks below B. -/
def CellsAt (w : World) (B : Nat) (A : Option Addr) (xs : List Value) : Prop :=
  ∀ k u, xs[k]? = some u → ∃ ad : Addr, A = some ad ∧ ad.block < B ∧ w.cell? (ad.add k) = some u
section
variable {w w' : World} {B B' : Nat} {A : Option Addr} {xs : List Value}
theorem CellsAt.nil (w : World) (B : Nat) (A : Option Addr) : CellsAt w B A [] := fun k u h => by simp at h
theorem CellsAt.keep (h : CellsAt w B A xs) (hk : ∀ p : Addr, p.block < B → w'.cell? p = w.cell? p) : CellsAt w' B A xs := fun k u hu => by
  obtain ⟨ad, e, hb, hc⟩ := h k u hu
  exact ⟨ad, e, hb, (hk _ (by rw [add_block]; exact hb)).trans hc⟩
theorem CellsAt.more (h : CellsAt w B A xs) (hB : B ≤ B') : CellsAt w B' A xs := fun k u hu => by
  obtain ⟨ad, e, hb, hc⟩ := h k u hu
  exact ⟨ad, e, by omega, hc⟩
theorem CellsAt.below (h : CellsAt w B A xs) (hb : Below B w w') : CellsAt w' B A xs := h.keep fun _ hp => hb.cell hp
theorem CellsAt.drewN (h : CellsAt w B A xs) (n : Nat) : CellsAt (w.drewN n) B A xs := h
theorem CellsAt.alloc (h : CellsAt w B A xs) (hB : B ≤ w.heap.size) (o : Obj) : CellsAt (w.alloc o) B A xs := h.keep fun p hp => World.cell?_alloc_lt w o p (by omega)
end
/-- cells of a block that the call has just made. -/
theorem cells_new (w : World) (cs : List Value) (t : TypeId) : CellsAt (w.alloc (.cells cs.toArray t)) (w.heap.size + 1) (some ⟨w.heap.size, 0, none⟩) cs := fun k u hu =>
  ⟨_, rfl, by simp, by
    have e : (Addr.add ⟨w.heap.size, 0, none⟩ k) = ⟨w.heap.size, k, none⟩ := by unfold Addr.add; split <;> simp_all
    rw [e, World.cell?_alloc_at _ _ _ _ rfl]
    simpa using hu⟩
end Go.Proofs.YtjlnbahanghhcaaGreatDoor

/- What a sum of bytes comes to, in plain arithmetic. No program in sight. -/
namespace Go.Proofs.YtjlnbahanghhcaaGreatDoor.Sum
set_option linter.unusedVariables false

/-- bytes by twos, the first of each the upper one; how many bytes are ahead: i. -/
def wt : Nat → List UInt8 → Nat
  | _, [] => 0
  | i, c :: r => c.toNat * (if i % 2 = 0 then 256 else 1) + wt (i + 1) r
/-- a number by the rest by 65535, nought alone as nought. -/
def fold (n : Nat) : Nat := if n = 0 then 0 else (n - 1) % 65535 + 1
def sum (l : List UInt8) : Nat := 65535 - fold (wt 0 l)

theorem wt_append (l m : List UInt8) : ∀ i, wt i (l ++ m) = wt i l + wt (i + l.length) m := by
  induction l with
  | nil => intro i; simp [wt]
  | cons c r ih =>
    intro i
    simp only [List.cons_append, wt, ih, List.length_cons]
    rw [show i + 1 + r.length = i + (r.length + 1) from by omega]
    omega
theorem wt_snoc (l : List UInt8) (c : UInt8) : wt 0 (l ++ [c]) = wt 0 l + c.toNat * (if l.length % 2 = 0 then 256 else 1) := by
  rw [wt_append]; simp [wt]
theorem wt_two (l : List UInt8) : ∀ i j, i % 2 = j % 2 → wt i l = wt j l := by
  induction l with
  | nil => intro i j _; rfl
  | cons c r ih =>
    intro i j h
    simp only [wt]
    rw [h, ih (i + 1) (j + 1) (by omega)]
theorem wt_le (l : List UInt8) : ∀ i, wt i l ≤ 65280 * l.length := by
  induction l with
  | nil => intro i; simp [wt]
  | cons c r ih =>
    intro i
    have hc := c.toNat_lt
    have := ih (i + 1)
    simp only [wt, List.length_cons]
    split <;> omega
theorem fold_small (n : Nat) (h : n ≤ 65535) : fold n = n := by unfold fold; split <;> omega
theorem fold_step (n : Nat) : fold (n / 65536 + n % 65536) = fold n := by
  unfold fold
  by_cases h : n = 0
  · subst h; rfl
  · rw [if_neg h, if_neg (by omega)]
    have : n - 1 = (n / 65536 + n % 65536 - 1) + 65535 * (n / 65536) := by omega
    rw [this, Nat.add_mul_mod_self_left]
theorem fold_le (n : Nat) : fold n ≤ 65535 := by unfold fold; split <;> omega
theorem sum_le (l : List UInt8) : sum l ≤ 65535 := by unfold sum; omega
theorem fold_mod (n : Nat) : fold n % 65535 = n % 65535 := by unfold fold; split <;> omega
theorem fold_zero (n : Nat) : fold n = 0 ↔ n = 0 := by unfold fold; split <;> omega
/-- two folds are one just where the numbers are alike by 65535, and both or none nought. -/
theorem fold_eq (m n : Nat) : fold m = fold n ↔ (m % 65535 = n % 65535 ∧ (m = 0 ↔ n = 0)) := by
  unfold fold; split <;> split <;> omega
end Go.Proofs.YtjlnbahanghhcaaGreatDoor.Sum

/- The contract of sum.Of: parts that lie in memory as strings. -/
namespace Go.Proofs.YtjlnbahanghhcaaGreatDoor
open Go.RowKit
set_option linter.unusedVariables false
set_option linter.unusedSimpArgs false

/-- the bytes of strings, one behind the other. -/
def joined (ps : List ByteArray) : List UInt8 := (ps.map fun p => p.data.toList).flatten
theorem size_bytes (s : ByteArray) : s.data.toList.length = s.size := by rw [Array.length_toList]; rfl
theorem joined_take (ps : List ByteArray) (k : Nat) (h : k < ps.length) : joined (ps.take (k + 1)) = joined (ps.take k) ++ ps[k].data.toList := by
  unfold joined
  rw [List.take_succ_eq_append_getElem h, List.map_append, List.flatten_append]; simp
theorem joined_take_len (ps : List ByteArray) (k : Nat) (h : k < ps.length) : (joined (ps.take k)).length + ps[k].size ≤ (joined ps).length := by
  have e : joined ps = joined (ps.take (k + 1)) ++ joined (ps.drop (k + 1)) := by
    unfold joined; rw [← List.flatten_append, ← List.map_append, List.take_append_drop]
  have := congrArg List.length e
  rw [joined_take ps k h] at this
  simp only [List.length_append] at this
  have := size_bytes ps[k]
  omega
theorem take_bytes (s : ByteArray) (k : Nat) (h : k < s.size) : s.data.toList.take (k + 1) = s.data.toList.take k ++ [s[k]] := by
  rw [List.take_succ_eq_append_getElem (by rw [size_bytes]; exact h)]; rfl

set_option maxHeartbeats 1000000 in
set_option maxRecDepth 1000000 in
theorem sum_Of (A : Option Addr) (cap B : Nat) (ps : List ByteArray) (w : World) (hA : CellsAt w B A (ps.map .string)) (hl : (joined ps).length ≤ 140737488355328) (hn : ps.length ≤ 140737488355328) :
    Calls Tryz.prog 26 #[.slice A ps.length cap] w fun e w' => e = .returned (.int .i64 (Sum.sum (joined ps) : Nat)) ∧ w = w' := by
  have HA := hide hA
  clear hA
  go_enter Tryz.func26, Tryz.ntmps26
  go_wp2
  go_loop [3, 4, 10] (fun u v x => ∃ k m a : Nat, k ≤ ps.length ∧ x = .int .i64 k ∧ u = .int .u64 m ∧ v = .int .i64 a ∧ Hid (a = (joined (ps.take k)).length ∧ m = Sum.wt 0 (joined (ps.take k)))) (fun _ _ x => ps.length - (intOf x).toNat)
  case atStart => exact ⟨0, 0, 0, by omega, rfl, rfl, rfl, hide ⟨by simp [joined], by simp [joined, Sum.wt]⟩⟩
  case round =>
    obtain ⟨k, m, a, hk, rfl, rfl, rfl, H⟩ := hrel
    by_cases hlt : k < ps.length
    · obtain ⟨ad, e, -, hc⟩ := HA.out k (.string ps[k]) (by simp [hlt])
      subst e
      have hlen := joined_take_len ps k hlt
      have hjt := joined_take ps k hlt
      obtain ⟨p, hp⟩ : ∃ p, ps[k] = p := ⟨_, rfl⟩
      rw [hp] at hc hlen hjt
      have HJ := hide hjt; have HL := hide hlen
      clear hjt hlen hp
      have hps : p.size ≤ 140737488355328 := by have := HL.out; omega
      go_wp2
      go_loop [3, 4, 16] (fun u v x => ∃ i m a : Nat, i ≤ p.size ∧ x = .int .i64 i ∧ u = .int .u64 m ∧ v = .int .i64 a ∧ Hid (a = (joined (ps.take k) ++ p.data.toList.take i).length ∧ m = Sum.wt 0 (joined (ps.take k) ++ p.data.toList.take i))) (fun _ _ x => p.size - (intOf x).toNat)
      case atStart => exact ⟨0, m, a, by omega, rfl, rfl, rfl, hide (by simpa using H.out)⟩
      case round =>
        obtain ⟨i, m, a, hi, rfl, rfl, rfl, H2⟩ := hrel
        clear H
        by_cases hil : i < p.size
        · have hsn := take_bytes p i hil
          have hw := Sum.wt_snoc (joined (ps.take k) ++ p.data.toList.take i) p[i]
          rw [List.append_assoc, ← hsn, ← H2.out.2, ← H2.out.1] at hw
          have hal : a = (joined (ps.take k)).length + i := by rw [H2.out.1, List.length_append, List.length_take, size_bytes, Nat.min_eq_left hi]
          have hm := Sum.wt_le (joined (ps.take k) ++ p.data.toList.take i) 0
          rw [← H2.out.2, ← H2.out.1] at hm
          have hab : a ≤ 140737488355328 := by have := HL.out; omega
          have hl1 : a + 1 = (joined (ps.take k) ++ p.data.toList.take (i + 1)).length := by rw [hal, List.length_append, List.length_take, size_bytes, Nat.min_eq_left hil]; omega
          have h256 := p[i].toNat_lt
          have HW := hide hw; have HL1 := hide hl1
          clear hw hl1 hal hsn H2
          rcases Nat.mod_two_eq_zero_or_one a with ha | ha
          · have ha2 : (a : Int) % 2 = 0 := by omega
            have HW2 := HW.out
            rw [if_pos ha] at HW2
            have HW3 := hide HW2
            clear HW HW2 ha
            go_wp2
            go_round
            case rel => exact ⟨i + 1, m + p[i].toNat * 256, a + 1, by omega, by go_num, by go_num, by go_num, hide ⟨HL1.out, HW3.out.symm⟩⟩
            case measure => simp [intOf]; omega
          · have ha2 : (a : Int) % 2 = 1 := by omega
            have HW2 := HW.out
            rw [if_neg (by omega)] at HW2
            have HW3 := hide HW2
            clear HW HW2 ha
            go_wp2
            go_round
            case rel => exact ⟨i + 1, m + p[i].toNat * 1, a + 1, by omega, by go_num, by go_num, by go_num, hide ⟨HL1.out, HW3.out.symm⟩⟩
            case measure => simp [intOf]; omega
        · have : i = p.size := by omega
          subst this
          have hfin : joined (ps.take k) ++ p.data.toList.take p.size = joined (ps.take (k + 1)) := by
            rw [HJ.out, List.take_of_length_le (Nat.le_of_eq (size_bytes p))]
          have HF := hide hfin
          clear hfin
          go_wp2
          go_round
          case rel => exact ⟨k + 1, m, a, by omega, by go_num, rfl, rfl, by rw [← HF.out]; exact H2⟩
          case measure => simp [intOf]; omega
    · have : k = ps.length := by omega
      subst this
      rw [List.take_length] at H
      have hm := Sum.wt_le (joined ps) 0
      rw [← H.out.2] at hm
      have hm2 : m ≤ 9187343239835811840 := by omega
      have HM := hide H.out.2
      clear hm H HA
      go_wp2
      go_loop [3] (fun u => ∃ n : Nat, u = .int .u64 n ∧ n ≤ 9187343239835811840 ∧ Hid (Sum.fold n = Sum.fold (Sum.wt 0 (joined ps)))) (fun u => (intOf u).toNat)
      case atStart => exact ⟨m, rfl, hm2, hide (by rw [← HM.out])⟩
      case round =>
        obtain ⟨n, rfl, hn2, HN⟩ := hrel
        have hand : bits .and .u64 (n : Int) 65535 = ((n % 65536 : Nat) : Int) := by
          have h := bits_and_u64_nat n 65535 (by omega) (by omega)
          rw [show n &&& 65535 = n % 65536 from Nat.and_two_pow_sub_one_eq_mod n 16] at h
          exact h
        have hst := Sum.fold_step n
        rw [HN.out] at hst
        have HS := hide hst
        clear hst
        by_cases hgt : 65535 < n
        · go_wp2
          go_round
          case rel => exact ⟨n / 65536 + n % 65536, by go_num, by omega, HS⟩
          case measure => simp [intOf]; omega
        · have hres : (65535 : Int) - n = (Sum.sum (joined ps) : Nat) := by
            unfold Sum.sum
            rw [← HN.out, Sum.fold_small n (by omega)]; omega
          have HR := hide hres
          clear hres HS HN
          go_wp2
          go_ret
          exact ⟨by rw [HR.out]; rfl, rfl⟩
end Go.Proofs.YtjlnbahanghhcaaGreatDoor

/- Heads as plain data, and what the document's bounds say of them. No walk. -/
namespace Go.Proofs.YtjlnbahanghhcaaGreatDoor
open Go.RowKit
set_option linter.unusedVariables false

structure Hd where
  src : Int
  dst : Int
  off : Int
  cc : Int
  cs : Int
  sum : Int
  typ : Int
  x : Bool
  seq : Int
  ack : Int
  serv : Int
  code : Int
  i0 : Int
  i1 : Int
  i2 : Int
deriving DecidableEq
namespace Hd
def cells (h : Hd) : Array Value := #[.int .i64 h.src, .int .i64 h.dst, .int .i64 h.off, .int .i64 h.cc, .int .i64 h.cs, .int .i64 h.sum, .int .i64 h.typ, .bool h.x, .int .u64 h.seq, .int .u64 h.ack, .int .u32 h.serv, .int .i64 h.code, .int .u8 h.i0, .int .u8 h.i1, .int .u8 h.i2]
def val (h : Hd) : Value := .agg #[.int .i64 h.src, .int .i64 h.dst, .int .i64 h.off, .int .i64 h.cc, .int .i64 h.cs, .int .i64 h.sum, .int .i64 h.typ, .bool h.x, .int .u64 h.seq, .int .u64 h.ack, .int .u32 h.serv, .int .i64 h.code, .int .u8 h.i0, .int .u8 h.i1, .int .u8 h.i2]
theorem val_mk (src dst off cc cs sum typ : Int) (x : Bool) (seq ack serv code i0 i1 i2 : Int) : Hd.val ⟨src, dst, off, cc, cs, sum, typ, x, seq, ack, serv, code, i0, i1, i2⟩ = .agg #[.int .i64 src, .int .i64 dst, .int .i64 off, .int .i64 cc, .int .i64 cs, .int .i64 sum, .int .i64 typ, .bool x, .int .u64 seq, .int .u64 ack, .int .u32 serv, .int .i64 code, .int .u8 i0, .int .u8 i1, .int .u8 i2] := rfl
end Hd

def isB (t : Int) : Bool := decide (0 ≤ t ∧ t ≤ 9)
def ackB (t : Int) : Bool := decide (0 ≤ t ∧ t ≤ 9 ∧ t ≠ 0 ∧ t ≠ 2)
def shortB (t : Int) : Bool := decide (t = 2 ∨ t = 3 ∨ t = 4)
def servB (t : Int) : Bool := decide (t = 0 ∨ t = 1)
def sizeB (t : Int) (x : Bool) : Int :=
  if isB t = false ∨ (x = false ∧ shortB t = false) then 0
  else (if x then 16 else 12) + (if ackB t then (if x then 8 else 4) else 0) + (if servB t ∨ t = 7 then 4 else 0)
def inB (n m : Int) : Bool := decide (0 ≤ n ∧ n ≤ m)
def mostB (x : Bool) : Int := if x then 281474976710656 else 16777216
def numbersB (h : Hd) : Bool := decide (h.seq < mostB h.x ∧ h.ack < mostB h.x ∧ (h.ack = 0 ∨ ackB h.typ = true))
def infoB (h : Hd) : Bool := h.i0 == 0 && (h.i1 == 0 && h.i2 == 0)
def mayB (h : Hd) : Bool :=
  !(sizeB h.typ h.x == 0) && (inB h.src 65535 && (inB h.dst 65535 && (decide (sizeB h.typ h.x / 4 ≤ h.off) && (decide (h.off ≤ 255) && (inB h.cc 15 && (inB h.cs 15 && (inB h.sum 65535 &&
    ((h.serv == 0 || servB h.typ) && (inB h.code 255 && ((h.typ == 7 || (h.code == 0 && infoB h)) && numbersB h))))))))))
theorem sizeB_le (t : Int) (x : Bool) : 0 ≤ sizeB t x ∧ sizeB t x ≤ 28 := by
  unfold sizeB; split
  · omega
  · cases x <;> simp <;> split <;> split <;> omega
end Go.Proofs.YtjlnbahanghhcaaGreatDoor

/- The contracts of head's small functions. -/
namespace Go.Proofs.YtjlnbahanghhcaaGreatDoor
open Go.RowKit
set_option linter.unusedVariables false
set_option linter.unusedSimpArgs false

theorem ret_bool {a b : Bool} (h : a = b) : Ending.returned (.bool a) = .returned (.bool b) := by rw [h]
theorem ret_int {k : IntKind} {a b : Int} (h : a = b) : Ending.returned (.int k a) = .returned (.int k b) := by rw [h]

theorem head_is (t : Int) (w : World) : Calls Tryz.prog 75 #[.int .i64 t] w fun e w' => e = .returned (.bool (isB t)) ∧ w = w' := by
  go_enter Tryz.func75, Tryz.ntmps75
  go_wp2
  all_goals go_ret
  all_goals exact ⟨ret_bool (by unfold isB; rw [Bool.eq_iff_iff]; simp only [Bool.or_eq_true, Bool.and_eq_true, Bool.not_eq_true', Bool.false_eq_true, false_iff, true_iff, decide_eq_true_eq, decide_eq_false_iff_not, beq_iff_eq, bne_iff_ne, ne_eq] <;> omega), rfl⟩
theorem head_short (t : Int) (w : World) : Calls Tryz.prog 76 #[.int .i64 t] w fun e w' => e = .returned (.bool (shortB t)) ∧ w = w' := by
  go_enter Tryz.func76, Tryz.ntmps76
  go_wp2
  all_goals go_ret
  all_goals exact ⟨ret_bool (by unfold shortB; rw [Bool.eq_iff_iff]; simp only [Bool.or_eq_true, Bool.and_eq_true, Bool.not_eq_true', Bool.false_eq_true, false_iff, true_iff, decide_eq_true_eq, decide_eq_false_iff_not, beq_iff_eq, bne_iff_ne, ne_eq] <;> omega), rfl⟩
theorem head_service (t : Int) (w : World) : Calls Tryz.prog 78 #[.int .i64 t] w fun e w' => e = .returned (.bool (servB t)) ∧ w = w' := by
  go_enter Tryz.func78, Tryz.ntmps78
  go_wp2
  all_goals go_ret
  all_goals exact ⟨ret_bool (by unfold servB; rw [Bool.eq_iff_iff]; simp only [Bool.or_eq_true, Bool.and_eq_true, Bool.not_eq_true', Bool.false_eq_true, false_iff, true_iff, decide_eq_true_eq, decide_eq_false_iff_not, beq_iff_eq, bne_iff_ne, ne_eq] <;> omega), rfl⟩
theorem head_in (n m : Int) (w : World) : Calls Tryz.prog 79 #[.int .i64 n, .int .i64 m] w fun e w' => e = .returned (.bool (inB n m)) ∧ w = w' := by
  go_enter Tryz.func79, Tryz.ntmps79
  go_wp2
  all_goals go_ret
  all_goals exact ⟨ret_bool (by unfold inB; rw [Bool.eq_iff_iff]; simp only [Bool.or_eq_true, Bool.and_eq_true, Bool.not_eq_true', Bool.false_eq_true, false_iff, true_iff, decide_eq_true_eq, decide_eq_false_iff_not, beq_iff_eq, bne_iff_ne, ne_eq] <;> omega), rfl⟩

theorem head_HasAck (t : Int) (w : World) : Calls Tryz.prog 77 #[.int .i64 t] w fun e w' => e = .returned (.bool (ackB t)) ∧ w = w' := by
  rcases hb : isB t with _ | _
  · have hr : ackB t = false := by unfold isB at hb; unfold ackB; simp at hb ⊢; omega
    rw [hr]; clear hr
    go_enter Tryz.func77, Tryz.ntmps77
    go_wp2_with (go_at_call 75; refine (head_is _ _).mono ?_; rintro e w' ⟨rfl, rfl⟩)
    all_goals go_ret
    all_goals exact ⟨rfl, rfl⟩
  · have hr : ackB t = (!(t == 0) && !(t == 2)) := by unfold isB at hb; unfold ackB; rw [Bool.eq_iff_iff]; simp at hb ⊢; omega
    rw [hr]; clear hr
    by_cases h0 : t = 0
    · subst h0
      go_enter Tryz.func77, Tryz.ntmps77
      go_wp2_with (go_at_call 75; refine (head_is _ _).mono ?_; rintro e w' ⟨rfl, rfl⟩)
      go_ret
      exact ⟨rfl, rfl⟩
    · have h0' : (t == 0) = false := by simpa using h0
      have h0'' : (t != 0) = true := by simpa using h0
      go_enter Tryz.func77, Tryz.ntmps77
      go_wp2_with (go_at_call 75; refine (head_is _ _).mono ?_; rintro e w' ⟨rfl, rfl⟩)
      go_ret
      exact ⟨ret_bool (by simp [h0', bne]), rfl⟩

theorem head_Size (t : Int) (x : Bool) (w : World) : Calls Tryz.prog 43 #[.int .i64 t, .bool x] w fun e w' => e = .returned (.int .i64 (sizeB t x)) ∧ w = w' := by
  have H := fun b1 b2 b3 b4 (h1 : isB t = b1) (h2 : shortB t = b2) (h3 : ackB t = b3) (h4 : servB t = b4) => (show sizeB t x = if b1 = false ∨ (x = false ∧ b2 = false) then 0 else (if x then 16 else 12) + (if b3 then (if x then 8 else 4) else 0) + (if b4 ∨ t = 7 then 4 else 0) by unfold sizeB; rw [h1, h2, h3, h4])
  have c1 := head_is t; have c2 := head_short t; have c3 := head_HasAck t; have c4 := head_service t
  by_cases h7 : t = 7
  · subst h7
    have e := H _ _ _ _ rfl rfl rfl rfl
    cases x
    all_goals
      rw [e]; clear H e
      have C1 := hide c1; have C2 := hide c2; have C3 := hide c3; have C4 := hide c4
      clear c1 c2 c3 c4
      go_enter Tryz.func43, Tryz.ntmps43
      go_wp2_with (first | (go_at_call 75; refine (C1.out _).mono ?_; rintro e w' ⟨rfl, rfl⟩) | (go_at_call 76; refine (C2.out _).mono ?_; rintro e w' ⟨rfl, rfl⟩) | (go_at_call 77; refine (C3.out _).mono ?_; rintro e w' ⟨rfl, rfl⟩) | (go_at_call 78; refine (C4.out _).mono ?_; rintro e w' ⟨rfl, rfl⟩))
      all_goals go_ret
      all_goals exact ⟨rfl, rfl⟩
  · have h7' : (t == 7) = false := by simpa using h7
    rcases h1 : isB t with _ | _ <;> rcases h2 : shortB t with _ | _ <;> rcases h3 : ackB t with _ | _ <;> rcases h4 : servB t with _ | _ <;> cases x
    all_goals
      have e := H _ _ _ _ h1 h2 h3 h4
      rw [e]; clear H e
      rw [h1] at c1; rw [h2] at c2; rw [h3] at c3; rw [h4] at c4
      have C1 := hide c1; have C2 := hide c2; have C3 := hide c3; have C4 := hide c4
      clear c1 c2 c3 c4 h1 h2 h3 h4
      simp only [h7, or_false, false_or, and_true, true_and, and_false, false_and, or_true, if_true, if_false, Bool.false_eq_true, reduceCtorEq, ite_true, ite_false]
      go_enter Tryz.func43, Tryz.ntmps43
      go_wp2_with (first | (go_at_call 75; refine (C1.out _).mono ?_; rintro e w' ⟨rfl, rfl⟩) | (go_at_call 76; refine (C2.out _).mono ?_; rintro e w' ⟨rfl, rfl⟩) | (go_at_call 77; refine (C3.out _).mono ?_; rintro e w' ⟨rfl, rfl⟩) | (go_at_call 78; refine (C4.out _).mono ?_; rintro e w' ⟨rfl, rfl⟩))
      all_goals go_ret
      all_goals exact ⟨rfl, rfl⟩
end Go.Proofs.YtjlnbahanghhcaaGreatDoor

/- The contracts of head.numbers and head.May. -/
namespace Go.Proofs.YtjlnbahanghhcaaGreatDoor
open Go.RowKit
set_option linter.unusedVariables false
set_option linter.unusedSimpArgs false

theorem head_numbers (h : Hd) (w : World) : Calls Tryz.prog 80 #[h.val] w fun e w' => e = .returned (.bool (numbersB h)) ∧ Below w.heap.size w w' := by
  obtain ⟨src, dst, off, cc, cs, sum, typ, x, seq, ack, serv, code, i0, i1, i2⟩ := h
  have c3 := head_HasAck typ
  have H : numbersB ⟨src, dst, off, cc, cs, sum, typ, x, seq, ack, serv, code, i0, i1, i2⟩ = (decide (seq < mostB x) && (decide (ack < mostB x) && (decide (ack = 0) || ackB typ))) := by unfold numbersB; simp [Bool.decide_and, Bool.decide_or]
  rw [H]; clear H
  unfold Hd.val
  dsimp only
  cases x
  all_goals
    simp only [mostB, if_true, Bool.false_eq_true, if_false, reduceCtorEq]
  · by_cases h1 : seq < 16777216 <;> by_cases h2 : ack < 16777216 <;> by_cases h3 : ack = 0
    all_goals first | (exfalso; omega) | skip
    all_goals
      simp only [h1, h2, h3, decide_true, decide_false, Bool.true_and, Bool.false_and, Bool.true_or, Bool.false_or]
      have C3 := hide c3; clear c3
      try subst h3
      go_enter Tryz.func80, Tryz.ntmps80
      go_wp2_with (first | (go_at_call 77; refine (C3.out _).mono ?_; rintro e w' ⟨rfl, rfl⟩))
      go_ret
      first | exact ⟨rfl, (Below.refl _ _).alloc (Nat.le_refl _) _⟩ | exact ⟨ret_bool (by simp [h3]), (Below.refl _ _).alloc (Nat.le_refl _) _⟩
  · by_cases h1 : seq < 281474976710656 <;> by_cases h2 : ack < 281474976710656 <;> by_cases h3 : ack = 0
    all_goals first | (exfalso; omega) | skip
    all_goals
      simp only [h1, h2, h3, decide_true, decide_false, Bool.true_and, Bool.false_and, Bool.true_or, Bool.false_or]
      have C3 := hide c3; clear c3
      try subst h3
      go_enter Tryz.func80, Tryz.ntmps80
      go_wp2_with (first | (go_at_call 77; refine (C3.out _).mono ?_; rintro e w' ⟨rfl, rfl⟩))
      go_ret
      first | exact ⟨rfl, (Below.refl _ _).alloc (Nat.le_refl _) _⟩ | exact ⟨ret_bool (by simp [h3]), (Below.refl _ _).alloc (Nat.le_refl _) _⟩
end Go.Proofs.YtjlnbahanghhcaaGreatDoor

/- '==' on arrays of three bytes. -/
namespace Go.Proofs.YtjlnbahanghhcaaGreatDoor
open Go.RowKit
set_option linter.unusedVariables false
set_option linter.unusedSimpArgs false

theorem run_equalIn_three {P : Program} (w : World) (d : Nat) {t e : TypeId} {i : TypeInfo} (ht : P.underlying t = some (.array 3 e)) (he : P.underlying e = some (.int .u8)) (hi : P.info? e = some i) (hs : i.size = 1) (a0 a1 a2 b0 b1 b2 : Int) :
    (Op.equalIn (d + 2) t (.agg #[.int .u8 a0, .int .u8 a1, .int .u8 a2]) (.agg #[.int .u8 b0, .int .u8 b1, .int .u8 b2])).run P w = .ok (a0 == b0 && a1 == b1 && a2 == b2) w := by
  simp only [Op.equalIn, Sem.run_bind, run_underlying ht, Result.andThen_ok]
  simp [sizeOf, typeInfo, hi, hs, run_underlying he, Std.Legacy.Range.forIn_eq_forIn_range', Std.Legacy.Range.size, List.range', part, Op.equalIn, isAgg]
  by_cases h0 : a0 = b0 <;> by_cases h1 : a1 = b1 <;> by_cases h2 : a2 = b2 <;> simp [h0, h1, h2]
/-- the type's facts, off the program. -/
theorem arr3 : Tryz.prog.underlying 24 = some (.array 3 5) := by kernel_rfl
theorem u8_under : Tryz.prog.underlying 5 = some (.int .u8) := by kernel_rfl
theorem u8_size : (Tryz.prog.info? 5).map (·.size) = some 1 := by kernel_rfl
theorem neq_three (w : World) (a0 a1 a2 b0 b1 b2 : Int) : (binOp .neq 24 (.agg #[.int .u8 a0, .int .u8 a1, .int .u8 a2]) (.agg #[.int .u8 b0, .int .u8 b1, .int .u8 b2])).run Tryz.prog w = .ok (.bool (!(a0 == b0 && a1 == b1 && a2 == b2))) w := by
  obtain ⟨i, hi, hs⟩ : ∃ i, Tryz.prog.info? 5 = some i ∧ i.size = 1 := by
    have := u8_size
    cases h : Tryz.prog.info? 5 with
    | none => rw [h] at this; simp at this
    | some i => rw [h] at this; exact ⟨i, rfl, by simpa using this⟩
  rw [run_neq_struct, run_equalIn_three w 9998 arr3 u8_under hi hs]
  rfl
theorem eq_three (w : World) (d : Nat) (a0 a1 a2 b0 b1 b2 : Int) : (Op.equalIn (d + 2) 24 (.agg #[.int .u8 a0, .int .u8 a1, .int .u8 a2]) (.agg #[.int .u8 b0, .int .u8 b1, .int .u8 b2])).run Tryz.prog w = .ok (a0 == b0 && a1 == b1 && a2 == b2) w := by
  obtain ⟨i, hi, hs⟩ : ∃ i, Tryz.prog.info? 5 = some i ∧ i.size = 1 := by
    have := u8_size
    cases h : Tryz.prog.info? 5 with
    | none => rw [h] at this; simp at this
    | some i => rw [h] at this; exact ⟨i, rfl, by simpa using this⟩
  exact run_equalIn_three w d arr3 u8_under hi hs a0 a1 a2 b0 b1 b2
end Go.Proofs.YtjlnbahanghhcaaGreatDoor

/- head.May, way by way (printed by wip/gen_may.py). -/
namespace Go.Proofs.YtjlnbahanghhcaaGreatDoor
open Go.RowKit
set_option linter.unusedVariables false
set_option linter.unusedSimpArgs false

set_option maxHeartbeats 4000000 in
set_option maxRecDepth 100000 in
theorem may_way0 (src dst off cc cs sum typ : Int) (x : Bool) (seq ack serv code i0 i1 i2 n : Int) (nb : Bool) (w : World) (n0 : 0 ≤ n) (n28 : n ≤ 28)
    (c1 : ∀ w : World, Calls Tryz.prog 43 #[.int .i64 typ, .bool x] w fun e w' => e = .returned (.int .i64 n) ∧ w = w')
    (c4 : ∀ w : World, Calls Tryz.prog 80 #[.agg #[.int .i64 src, .int .i64 dst, .int .i64 off, .int .i64 cc, .int .i64 cs, .int .i64 sum, .int .i64 typ, .bool x, .int .u64 seq, .int .u64 ack, .int .u32 serv, .int .i64 code, .int .u8 i0, .int .u8 i1, .int .u8 i2]] w fun e w' => e = .returned (.bool nb) ∧ Below w.heap.size w w')
    (a1 : (n == 0) = true) :
    Calls Tryz.prog 46 #[.agg #[.int .i64 src, .int .i64 dst, .int .i64 off, .int .i64 cc, .int .i64 cs, .int .i64 sum, .int .i64 typ, .bool x, .int .u64 seq, .int .u64 ack, .int .u32 serv, .int .i64 code, .int .u8 i0, .int .u8 i1, .int .u8 i2]] w fun e w' => e = .returned (.bool false) ∧ Below w.heap.size w w' := by
  have C1 := hide c1; have C4 := hide c4
  clear c1 c4
  have hz : ∀ W : World, (binOp .neq 24 (.agg #[.int .u8 i0, .int .u8 i1, .int .u8 i2]) (.agg #[.int .u8 0, .int .u8 0, .int .u8 0])).run Tryz.prog W = .ok (.bool (!(i0 == 0 && i1 == 0 && i2 == 0))) W := fun W => by rw [neq_three] <;> simp
  go_enter Tryz.func46, Tryz.ntmps46
  go_wp2_with (first | (go_at_call 43; refine (C1.out _).mono ?_; rintro e w' ⟨rfl, rfl⟩) | (go_at_call 79; refine (head_in _ _ _).mono ?_; rintro e w' ⟨rfl, rfl⟩) | (go_at_call 78; refine (head_service _ _).mono ?_; rintro e w' ⟨rfl, rfl⟩) | (go_at_call 80; refine (C4.out _).mono ?_; rintro e w' ⟨rfl, hb⟩))
  go_ret
  exact ⟨rfl, (Below.refl _ _).alloc (Nat.le_refl _) _⟩

set_option maxHeartbeats 4000000 in
set_option maxRecDepth 100000 in
theorem may_way1 (src dst off cc cs sum typ : Int) (x : Bool) (seq ack serv code i0 i1 i2 n : Int) (nb : Bool) (w : World) (n0 : 0 ≤ n) (n28 : n ≤ 28)
    (c1 : ∀ w : World, Calls Tryz.prog 43 #[.int .i64 typ, .bool x] w fun e w' => e = .returned (.int .i64 n) ∧ w = w')
    (c4 : ∀ w : World, Calls Tryz.prog 80 #[.agg #[.int .i64 src, .int .i64 dst, .int .i64 off, .int .i64 cc, .int .i64 cs, .int .i64 sum, .int .i64 typ, .bool x, .int .u64 seq, .int .u64 ack, .int .u32 serv, .int .i64 code, .int .u8 i0, .int .u8 i1, .int .u8 i2]] w fun e w' => e = .returned (.bool nb) ∧ Below w.heap.size w w')
    (a1 : (n == 0) = false) (a2 : inB src 65535 = false) :
    Calls Tryz.prog 46 #[.agg #[.int .i64 src, .int .i64 dst, .int .i64 off, .int .i64 cc, .int .i64 cs, .int .i64 sum, .int .i64 typ, .bool x, .int .u64 seq, .int .u64 ack, .int .u32 serv, .int .i64 code, .int .u8 i0, .int .u8 i1, .int .u8 i2]] w fun e w' => e = .returned (.bool false) ∧ Below w.heap.size w w' := by
  have C1 := hide c1; have C4 := hide c4
  clear c1 c4
  have hz : ∀ W : World, (binOp .neq 24 (.agg #[.int .u8 i0, .int .u8 i1, .int .u8 i2]) (.agg #[.int .u8 0, .int .u8 0, .int .u8 0])).run Tryz.prog W = .ok (.bool (!(i0 == 0 && i1 == 0 && i2 == 0))) W := fun W => by rw [neq_three] <;> simp
  go_enter Tryz.func46, Tryz.ntmps46
  go_wp2_with (first | (go_at_call 43; refine (C1.out _).mono ?_; rintro e w' ⟨rfl, rfl⟩) | (go_at_call 79; refine (head_in _ _ _).mono ?_; rintro e w' ⟨rfl, rfl⟩) | (go_at_call 78; refine (head_service _ _).mono ?_; rintro e w' ⟨rfl, rfl⟩) | (go_at_call 80; refine (C4.out _).mono ?_; rintro e w' ⟨rfl, hb⟩))
  go_ret
  exact ⟨rfl, (Below.refl _ _).alloc (Nat.le_refl _) _⟩

set_option maxHeartbeats 4000000 in
set_option maxRecDepth 100000 in
theorem may_way2 (src dst off cc cs sum typ : Int) (x : Bool) (seq ack serv code i0 i1 i2 n : Int) (nb : Bool) (w : World) (n0 : 0 ≤ n) (n28 : n ≤ 28)
    (c1 : ∀ w : World, Calls Tryz.prog 43 #[.int .i64 typ, .bool x] w fun e w' => e = .returned (.int .i64 n) ∧ w = w')
    (c4 : ∀ w : World, Calls Tryz.prog 80 #[.agg #[.int .i64 src, .int .i64 dst, .int .i64 off, .int .i64 cc, .int .i64 cs, .int .i64 sum, .int .i64 typ, .bool x, .int .u64 seq, .int .u64 ack, .int .u32 serv, .int .i64 code, .int .u8 i0, .int .u8 i1, .int .u8 i2]] w fun e w' => e = .returned (.bool nb) ∧ Below w.heap.size w w')
    (a1 : (n == 0) = false) (a2 : inB src 65535 = true) (a3 : inB dst 65535 = false) :
    Calls Tryz.prog 46 #[.agg #[.int .i64 src, .int .i64 dst, .int .i64 off, .int .i64 cc, .int .i64 cs, .int .i64 sum, .int .i64 typ, .bool x, .int .u64 seq, .int .u64 ack, .int .u32 serv, .int .i64 code, .int .u8 i0, .int .u8 i1, .int .u8 i2]] w fun e w' => e = .returned (.bool false) ∧ Below w.heap.size w w' := by
  have C1 := hide c1; have C4 := hide c4
  clear c1 c4
  have hz : ∀ W : World, (binOp .neq 24 (.agg #[.int .u8 i0, .int .u8 i1, .int .u8 i2]) (.agg #[.int .u8 0, .int .u8 0, .int .u8 0])).run Tryz.prog W = .ok (.bool (!(i0 == 0 && i1 == 0 && i2 == 0))) W := fun W => by rw [neq_three] <;> simp
  go_enter Tryz.func46, Tryz.ntmps46
  go_wp2_with (first | (go_at_call 43; refine (C1.out _).mono ?_; rintro e w' ⟨rfl, rfl⟩) | (go_at_call 79; refine (head_in _ _ _).mono ?_; rintro e w' ⟨rfl, rfl⟩) | (go_at_call 78; refine (head_service _ _).mono ?_; rintro e w' ⟨rfl, rfl⟩) | (go_at_call 80; refine (C4.out _).mono ?_; rintro e w' ⟨rfl, hb⟩))
  go_ret
  exact ⟨rfl, (Below.refl _ _).alloc (Nat.le_refl _) _⟩

set_option maxHeartbeats 4000000 in
set_option maxRecDepth 100000 in
theorem may_way3 (src dst off cc cs sum typ : Int) (x : Bool) (seq ack serv code i0 i1 i2 n : Int) (nb : Bool) (w : World) (n0 : 0 ≤ n) (n28 : n ≤ 28)
    (c1 : ∀ w : World, Calls Tryz.prog 43 #[.int .i64 typ, .bool x] w fun e w' => e = .returned (.int .i64 n) ∧ w = w')
    (c4 : ∀ w : World, Calls Tryz.prog 80 #[.agg #[.int .i64 src, .int .i64 dst, .int .i64 off, .int .i64 cc, .int .i64 cs, .int .i64 sum, .int .i64 typ, .bool x, .int .u64 seq, .int .u64 ack, .int .u32 serv, .int .i64 code, .int .u8 i0, .int .u8 i1, .int .u8 i2]] w fun e w' => e = .returned (.bool nb) ∧ Below w.heap.size w w')
    (a1 : (n == 0) = false) (a2 : inB src 65535 = true) (a3 : inB dst 65535 = true) (a4 : decide (off < n / 4) = true) :
    Calls Tryz.prog 46 #[.agg #[.int .i64 src, .int .i64 dst, .int .i64 off, .int .i64 cc, .int .i64 cs, .int .i64 sum, .int .i64 typ, .bool x, .int .u64 seq, .int .u64 ack, .int .u32 serv, .int .i64 code, .int .u8 i0, .int .u8 i1, .int .u8 i2]] w fun e w' => e = .returned (.bool false) ∧ Below w.heap.size w w' := by
  have C1 := hide c1; have C4 := hide c4
  clear c1 c4
  have hz : ∀ W : World, (binOp .neq 24 (.agg #[.int .u8 i0, .int .u8 i1, .int .u8 i2]) (.agg #[.int .u8 0, .int .u8 0, .int .u8 0])).run Tryz.prog W = .ok (.bool (!(i0 == 0 && i1 == 0 && i2 == 0))) W := fun W => by rw [neq_three] <;> simp
  go_enter Tryz.func46, Tryz.ntmps46
  go_wp2_with (first | (go_at_call 43; refine (C1.out _).mono ?_; rintro e w' ⟨rfl, rfl⟩) | (go_at_call 79; refine (head_in _ _ _).mono ?_; rintro e w' ⟨rfl, rfl⟩) | (go_at_call 78; refine (head_service _ _).mono ?_; rintro e w' ⟨rfl, rfl⟩) | (go_at_call 80; refine (C4.out _).mono ?_; rintro e w' ⟨rfl, hb⟩))
  go_ret
  exact ⟨rfl, (Below.refl _ _).alloc (Nat.le_refl _) _⟩

set_option maxHeartbeats 4000000 in
set_option maxRecDepth 100000 in
theorem may_way4 (src dst off cc cs sum typ : Int) (x : Bool) (seq ack serv code i0 i1 i2 n : Int) (nb : Bool) (w : World) (n0 : 0 ≤ n) (n28 : n ≤ 28)
    (c1 : ∀ w : World, Calls Tryz.prog 43 #[.int .i64 typ, .bool x] w fun e w' => e = .returned (.int .i64 n) ∧ w = w')
    (c4 : ∀ w : World, Calls Tryz.prog 80 #[.agg #[.int .i64 src, .int .i64 dst, .int .i64 off, .int .i64 cc, .int .i64 cs, .int .i64 sum, .int .i64 typ, .bool x, .int .u64 seq, .int .u64 ack, .int .u32 serv, .int .i64 code, .int .u8 i0, .int .u8 i1, .int .u8 i2]] w fun e w' => e = .returned (.bool nb) ∧ Below w.heap.size w w')
    (a1 : (n == 0) = false) (a2 : inB src 65535 = true) (a3 : inB dst 65535 = true) (a4 : decide (off < n / 4) = false) (a5 : decide (255 < off) = true) :
    Calls Tryz.prog 46 #[.agg #[.int .i64 src, .int .i64 dst, .int .i64 off, .int .i64 cc, .int .i64 cs, .int .i64 sum, .int .i64 typ, .bool x, .int .u64 seq, .int .u64 ack, .int .u32 serv, .int .i64 code, .int .u8 i0, .int .u8 i1, .int .u8 i2]] w fun e w' => e = .returned (.bool false) ∧ Below w.heap.size w w' := by
  have C1 := hide c1; have C4 := hide c4
  clear c1 c4
  have hz : ∀ W : World, (binOp .neq 24 (.agg #[.int .u8 i0, .int .u8 i1, .int .u8 i2]) (.agg #[.int .u8 0, .int .u8 0, .int .u8 0])).run Tryz.prog W = .ok (.bool (!(i0 == 0 && i1 == 0 && i2 == 0))) W := fun W => by rw [neq_three] <;> simp
  go_enter Tryz.func46, Tryz.ntmps46
  go_wp2_with (first | (go_at_call 43; refine (C1.out _).mono ?_; rintro e w' ⟨rfl, rfl⟩) | (go_at_call 79; refine (head_in _ _ _).mono ?_; rintro e w' ⟨rfl, rfl⟩) | (go_at_call 78; refine (head_service _ _).mono ?_; rintro e w' ⟨rfl, rfl⟩) | (go_at_call 80; refine (C4.out _).mono ?_; rintro e w' ⟨rfl, hb⟩))
  go_ret
  exact ⟨rfl, (Below.refl _ _).alloc (Nat.le_refl _) _⟩
end Go.Proofs.YtjlnbahanghhcaaGreatDoor

/- head.May, way by way (printed by wip/gen_may.py). -/
namespace Go.Proofs.YtjlnbahanghhcaaGreatDoor
open Go.RowKit
set_option linter.unusedVariables false
set_option linter.unusedSimpArgs false

set_option maxHeartbeats 4000000 in
set_option maxRecDepth 100000 in
theorem may_way5 (src dst off cc cs sum typ : Int) (x : Bool) (seq ack serv code i0 i1 i2 n : Int) (nb : Bool) (w : World) (n0 : 0 ≤ n) (n28 : n ≤ 28)
    (c1 : ∀ w : World, Calls Tryz.prog 43 #[.int .i64 typ, .bool x] w fun e w' => e = .returned (.int .i64 n) ∧ w = w')
    (c4 : ∀ w : World, Calls Tryz.prog 80 #[.agg #[.int .i64 src, .int .i64 dst, .int .i64 off, .int .i64 cc, .int .i64 cs, .int .i64 sum, .int .i64 typ, .bool x, .int .u64 seq, .int .u64 ack, .int .u32 serv, .int .i64 code, .int .u8 i0, .int .u8 i1, .int .u8 i2]] w fun e w' => e = .returned (.bool nb) ∧ Below w.heap.size w w')
    (a1 : (n == 0) = false) (a2 : inB src 65535 = true) (a3 : inB dst 65535 = true) (a4 : decide (off < n / 4) = false) (a5 : decide (255 < off) = false) (a6 : inB cc 15 = false) :
    Calls Tryz.prog 46 #[.agg #[.int .i64 src, .int .i64 dst, .int .i64 off, .int .i64 cc, .int .i64 cs, .int .i64 sum, .int .i64 typ, .bool x, .int .u64 seq, .int .u64 ack, .int .u32 serv, .int .i64 code, .int .u8 i0, .int .u8 i1, .int .u8 i2]] w fun e w' => e = .returned (.bool false) ∧ Below w.heap.size w w' := by
  have C1 := hide c1; have C4 := hide c4
  clear c1 c4
  have hz : ∀ W : World, (binOp .neq 24 (.agg #[.int .u8 i0, .int .u8 i1, .int .u8 i2]) (.agg #[.int .u8 0, .int .u8 0, .int .u8 0])).run Tryz.prog W = .ok (.bool (!(i0 == 0 && i1 == 0 && i2 == 0))) W := fun W => by rw [neq_three] <;> simp
  go_enter Tryz.func46, Tryz.ntmps46
  go_wp2_with (first | (go_at_call 43; refine (C1.out _).mono ?_; rintro e w' ⟨rfl, rfl⟩) | (go_at_call 79; refine (head_in _ _ _).mono ?_; rintro e w' ⟨rfl, rfl⟩) | (go_at_call 78; refine (head_service _ _).mono ?_; rintro e w' ⟨rfl, rfl⟩) | (go_at_call 80; refine (C4.out _).mono ?_; rintro e w' ⟨rfl, hb⟩))
  go_ret
  exact ⟨rfl, (Below.refl _ _).alloc (Nat.le_refl _) _⟩

set_option maxHeartbeats 4000000 in
set_option maxRecDepth 100000 in
theorem may_way6 (src dst off cc cs sum typ : Int) (x : Bool) (seq ack serv code i0 i1 i2 n : Int) (nb : Bool) (w : World) (n0 : 0 ≤ n) (n28 : n ≤ 28)
    (c1 : ∀ w : World, Calls Tryz.prog 43 #[.int .i64 typ, .bool x] w fun e w' => e = .returned (.int .i64 n) ∧ w = w')
    (c4 : ∀ w : World, Calls Tryz.prog 80 #[.agg #[.int .i64 src, .int .i64 dst, .int .i64 off, .int .i64 cc, .int .i64 cs, .int .i64 sum, .int .i64 typ, .bool x, .int .u64 seq, .int .u64 ack, .int .u32 serv, .int .i64 code, .int .u8 i0, .int .u8 i1, .int .u8 i2]] w fun e w' => e = .returned (.bool nb) ∧ Below w.heap.size w w')
    (a1 : (n == 0) = false) (a2 : inB src 65535 = true) (a3 : inB dst 65535 = true) (a4 : decide (off < n / 4) = false) (a5 : decide (255 < off) = false) (a6 : inB cc 15 = true) (a7 : inB cs 15 = false) :
    Calls Tryz.prog 46 #[.agg #[.int .i64 src, .int .i64 dst, .int .i64 off, .int .i64 cc, .int .i64 cs, .int .i64 sum, .int .i64 typ, .bool x, .int .u64 seq, .int .u64 ack, .int .u32 serv, .int .i64 code, .int .u8 i0, .int .u8 i1, .int .u8 i2]] w fun e w' => e = .returned (.bool false) ∧ Below w.heap.size w w' := by
  have C1 := hide c1; have C4 := hide c4
  clear c1 c4
  have hz : ∀ W : World, (binOp .neq 24 (.agg #[.int .u8 i0, .int .u8 i1, .int .u8 i2]) (.agg #[.int .u8 0, .int .u8 0, .int .u8 0])).run Tryz.prog W = .ok (.bool (!(i0 == 0 && i1 == 0 && i2 == 0))) W := fun W => by rw [neq_three] <;> simp
  go_enter Tryz.func46, Tryz.ntmps46
  go_wp2_with (first | (go_at_call 43; refine (C1.out _).mono ?_; rintro e w' ⟨rfl, rfl⟩) | (go_at_call 79; refine (head_in _ _ _).mono ?_; rintro e w' ⟨rfl, rfl⟩) | (go_at_call 78; refine (head_service _ _).mono ?_; rintro e w' ⟨rfl, rfl⟩) | (go_at_call 80; refine (C4.out _).mono ?_; rintro e w' ⟨rfl, hb⟩))
  go_ret
  exact ⟨rfl, (Below.refl _ _).alloc (Nat.le_refl _) _⟩

set_option maxHeartbeats 4000000 in
set_option maxRecDepth 100000 in
theorem may_way7 (src dst off cc cs sum typ : Int) (x : Bool) (seq ack serv code i0 i1 i2 n : Int) (nb : Bool) (w : World) (n0 : 0 ≤ n) (n28 : n ≤ 28)
    (c1 : ∀ w : World, Calls Tryz.prog 43 #[.int .i64 typ, .bool x] w fun e w' => e = .returned (.int .i64 n) ∧ w = w')
    (c4 : ∀ w : World, Calls Tryz.prog 80 #[.agg #[.int .i64 src, .int .i64 dst, .int .i64 off, .int .i64 cc, .int .i64 cs, .int .i64 sum, .int .i64 typ, .bool x, .int .u64 seq, .int .u64 ack, .int .u32 serv, .int .i64 code, .int .u8 i0, .int .u8 i1, .int .u8 i2]] w fun e w' => e = .returned (.bool nb) ∧ Below w.heap.size w w')
    (a1 : (n == 0) = false) (a2 : inB src 65535 = true) (a3 : inB dst 65535 = true) (a4 : decide (off < n / 4) = false) (a5 : decide (255 < off) = false) (a6 : inB cc 15 = true) (a7 : inB cs 15 = true) (a8 : inB sum 65535 = false) :
    Calls Tryz.prog 46 #[.agg #[.int .i64 src, .int .i64 dst, .int .i64 off, .int .i64 cc, .int .i64 cs, .int .i64 sum, .int .i64 typ, .bool x, .int .u64 seq, .int .u64 ack, .int .u32 serv, .int .i64 code, .int .u8 i0, .int .u8 i1, .int .u8 i2]] w fun e w' => e = .returned (.bool false) ∧ Below w.heap.size w w' := by
  have C1 := hide c1; have C4 := hide c4
  clear c1 c4
  have hz : ∀ W : World, (binOp .neq 24 (.agg #[.int .u8 i0, .int .u8 i1, .int .u8 i2]) (.agg #[.int .u8 0, .int .u8 0, .int .u8 0])).run Tryz.prog W = .ok (.bool (!(i0 == 0 && i1 == 0 && i2 == 0))) W := fun W => by rw [neq_three] <;> simp
  go_enter Tryz.func46, Tryz.ntmps46
  go_wp2_with (first | (go_at_call 43; refine (C1.out _).mono ?_; rintro e w' ⟨rfl, rfl⟩) | (go_at_call 79; refine (head_in _ _ _).mono ?_; rintro e w' ⟨rfl, rfl⟩) | (go_at_call 78; refine (head_service _ _).mono ?_; rintro e w' ⟨rfl, rfl⟩) | (go_at_call 80; refine (C4.out _).mono ?_; rintro e w' ⟨rfl, hb⟩))
  go_ret
  exact ⟨rfl, (Below.refl _ _).alloc (Nat.le_refl _) _⟩

set_option maxHeartbeats 4000000 in
set_option maxRecDepth 100000 in
theorem may_way8 (src dst off cc cs sum typ : Int) (x : Bool) (seq ack serv code i0 i1 i2 n : Int) (nb : Bool) (w : World) (n0 : 0 ≤ n) (n28 : n ≤ 28)
    (c1 : ∀ w : World, Calls Tryz.prog 43 #[.int .i64 typ, .bool x] w fun e w' => e = .returned (.int .i64 n) ∧ w = w')
    (c4 : ∀ w : World, Calls Tryz.prog 80 #[.agg #[.int .i64 src, .int .i64 dst, .int .i64 off, .int .i64 cc, .int .i64 cs, .int .i64 sum, .int .i64 typ, .bool x, .int .u64 seq, .int .u64 ack, .int .u32 serv, .int .i64 code, .int .u8 i0, .int .u8 i1, .int .u8 i2]] w fun e w' => e = .returned (.bool nb) ∧ Below w.heap.size w w')
    (a1 : (n == 0) = false) (a2 : inB src 65535 = true) (a3 : inB dst 65535 = true) (a4 : decide (off < n / 4) = false) (a5 : decide (255 < off) = false) (a6 : inB cc 15 = true) (a7 : inB cs 15 = true) (a8 : inB sum 65535 = true) (b1 : (serv != 0) = true) (b2 : servB typ = false) :
    Calls Tryz.prog 46 #[.agg #[.int .i64 src, .int .i64 dst, .int .i64 off, .int .i64 cc, .int .i64 cs, .int .i64 sum, .int .i64 typ, .bool x, .int .u64 seq, .int .u64 ack, .int .u32 serv, .int .i64 code, .int .u8 i0, .int .u8 i1, .int .u8 i2]] w fun e w' => e = .returned (.bool false) ∧ Below w.heap.size w w' := by
  have C1 := hide c1; have C4 := hide c4
  clear c1 c4
  have hz : ∀ W : World, (binOp .neq 24 (.agg #[.int .u8 i0, .int .u8 i1, .int .u8 i2]) (.agg #[.int .u8 0, .int .u8 0, .int .u8 0])).run Tryz.prog W = .ok (.bool (!(i0 == 0 && i1 == 0 && i2 == 0))) W := fun W => by rw [neq_three] <;> simp
  go_enter Tryz.func46, Tryz.ntmps46
  go_wp2_with (first | (go_at_call 43; refine (C1.out _).mono ?_; rintro e w' ⟨rfl, rfl⟩) | (go_at_call 79; refine (head_in _ _ _).mono ?_; rintro e w' ⟨rfl, rfl⟩) | (go_at_call 78; refine (head_service _ _).mono ?_; rintro e w' ⟨rfl, rfl⟩) | (go_at_call 80; refine (C4.out _).mono ?_; rintro e w' ⟨rfl, hb⟩))
  go_ret
  exact ⟨rfl, (Below.refl _ _).alloc (Nat.le_refl _) _⟩

set_option maxHeartbeats 4000000 in
set_option maxRecDepth 100000 in
theorem may_way9 (src dst off cc cs sum typ : Int) (x : Bool) (seq ack serv code i0 i1 i2 n : Int) (nb : Bool) (w : World) (n0 : 0 ≤ n) (n28 : n ≤ 28)
    (c1 : ∀ w : World, Calls Tryz.prog 43 #[.int .i64 typ, .bool x] w fun e w' => e = .returned (.int .i64 n) ∧ w = w')
    (c4 : ∀ w : World, Calls Tryz.prog 80 #[.agg #[.int .i64 src, .int .i64 dst, .int .i64 off, .int .i64 cc, .int .i64 cs, .int .i64 sum, .int .i64 typ, .bool x, .int .u64 seq, .int .u64 ack, .int .u32 serv, .int .i64 code, .int .u8 i0, .int .u8 i1, .int .u8 i2]] w fun e w' => e = .returned (.bool nb) ∧ Below w.heap.size w w')
    (a1 : (n == 0) = false) (a2 : inB src 65535 = true) (a3 : inB dst 65535 = true) (a4 : decide (off < n / 4) = false) (a5 : decide (255 < off) = false) (a6 : inB cc 15 = true) (a7 : inB cs 15 = true) (a8 : inB sum 65535 = true) (b1 : serv = 0) (b3 : inB code 255 = false) :
    Calls Tryz.prog 46 #[.agg #[.int .i64 src, .int .i64 dst, .int .i64 off, .int .i64 cc, .int .i64 cs, .int .i64 sum, .int .i64 typ, .bool x, .int .u64 seq, .int .u64 ack, .int .u32 serv, .int .i64 code, .int .u8 i0, .int .u8 i1, .int .u8 i2]] w fun e w' => e = .returned (.bool false) ∧ Below w.heap.size w w' := by
  have C1 := hide c1; have C4 := hide c4
  clear c1 c4
  subst b1
  have hz : ∀ W : World, (binOp .neq 24 (.agg #[.int .u8 i0, .int .u8 i1, .int .u8 i2]) (.agg #[.int .u8 0, .int .u8 0, .int .u8 0])).run Tryz.prog W = .ok (.bool (!(i0 == 0 && i1 == 0 && i2 == 0))) W := fun W => by rw [neq_three] <;> simp
  go_enter Tryz.func46, Tryz.ntmps46
  go_wp2_with (first | (go_at_call 43; refine (C1.out _).mono ?_; rintro e w' ⟨rfl, rfl⟩) | (go_at_call 79; refine (head_in _ _ _).mono ?_; rintro e w' ⟨rfl, rfl⟩) | (go_at_call 78; refine (head_service _ _).mono ?_; rintro e w' ⟨rfl, rfl⟩) | (go_at_call 80; refine (C4.out _).mono ?_; rintro e w' ⟨rfl, hb⟩))
  go_ret
  exact ⟨rfl, (Below.refl _ _).alloc (Nat.le_refl _) _⟩
end Go.Proofs.YtjlnbahanghhcaaGreatDoor

/- head.May, way by way (printed by wip/gen_may.py). -/
namespace Go.Proofs.YtjlnbahanghhcaaGreatDoor
open Go.RowKit
set_option linter.unusedVariables false
set_option linter.unusedSimpArgs false

set_option maxHeartbeats 4000000 in
set_option maxRecDepth 100000 in
theorem may_way10 (src dst off cc cs sum typ : Int) (x : Bool) (seq ack serv code i0 i1 i2 n : Int) (nb : Bool) (w : World) (n0 : 0 ≤ n) (n28 : n ≤ 28)
    (c1 : ∀ w : World, Calls Tryz.prog 43 #[.int .i64 typ, .bool x] w fun e w' => e = .returned (.int .i64 n) ∧ w = w')
    (c4 : ∀ w : World, Calls Tryz.prog 80 #[.agg #[.int .i64 src, .int .i64 dst, .int .i64 off, .int .i64 cc, .int .i64 cs, .int .i64 sum, .int .i64 typ, .bool x, .int .u64 seq, .int .u64 ack, .int .u32 serv, .int .i64 code, .int .u8 i0, .int .u8 i1, .int .u8 i2]] w fun e w' => e = .returned (.bool nb) ∧ Below w.heap.size w w')
    (a1 : (n == 0) = false) (a2 : inB src 65535 = true) (a3 : inB dst 65535 = true) (a4 : decide (off < n / 4) = false) (a5 : decide (255 < off) = false) (a6 : inB cc 15 = true) (a7 : inB cs 15 = true) (a8 : inB sum 65535 = true) (b1 : serv = 0) (b3 : inB code 255 = true) (d1 : typ = 7) :
    Calls Tryz.prog 46 #[.agg #[.int .i64 src, .int .i64 dst, .int .i64 off, .int .i64 cc, .int .i64 cs, .int .i64 sum, .int .i64 typ, .bool x, .int .u64 seq, .int .u64 ack, .int .u32 serv, .int .i64 code, .int .u8 i0, .int .u8 i1, .int .u8 i2]] w fun e w' => e = .returned (.bool nb) ∧ Below w.heap.size w w' := by
  have C1 := hide c1; have C4 := hide c4
  clear c1 c4
  subst b1
  subst d1
  have hz : ∀ W : World, (binOp .neq 24 (.agg #[.int .u8 i0, .int .u8 i1, .int .u8 i2]) (.agg #[.int .u8 0, .int .u8 0, .int .u8 0])).run Tryz.prog W = .ok (.bool (!(i0 == 0 && i1 == 0 && i2 == 0))) W := fun W => by rw [neq_three] <;> simp
  go_enter Tryz.func46, Tryz.ntmps46
  go_wp2_with (first | (go_at_call 43; refine (C1.out _).mono ?_; rintro e w' ⟨rfl, rfl⟩) | (go_at_call 79; refine (head_in _ _ _).mono ?_; rintro e w' ⟨rfl, rfl⟩) | (go_at_call 78; refine (head_service _ _).mono ?_; rintro e w' ⟨rfl, rfl⟩) | (go_at_call 80; refine (C4.out _).mono ?_; rintro e w' ⟨rfl, hb⟩))
  go_ret
  exact ⟨rfl, ((Below.refl _ _).alloc (Nat.le_refl _) _).trans (Below.mono (by assumption) (by simp))⟩

set_option maxHeartbeats 4000000 in
set_option maxRecDepth 100000 in
theorem may_way11 (src dst off cc cs sum typ : Int) (x : Bool) (seq ack serv code i0 i1 i2 n : Int) (nb : Bool) (w : World) (n0 : 0 ≤ n) (n28 : n ≤ 28)
    (c1 : ∀ w : World, Calls Tryz.prog 43 #[.int .i64 typ, .bool x] w fun e w' => e = .returned (.int .i64 n) ∧ w = w')
    (c4 : ∀ w : World, Calls Tryz.prog 80 #[.agg #[.int .i64 src, .int .i64 dst, .int .i64 off, .int .i64 cc, .int .i64 cs, .int .i64 sum, .int .i64 typ, .bool x, .int .u64 seq, .int .u64 ack, .int .u32 serv, .int .i64 code, .int .u8 i0, .int .u8 i1, .int .u8 i2]] w fun e w' => e = .returned (.bool nb) ∧ Below w.heap.size w w')
    (a1 : (n == 0) = false) (a2 : inB src 65535 = true) (a3 : inB dst 65535 = true) (a4 : decide (off < n / 4) = false) (a5 : decide (255 < off) = false) (a6 : inB cc 15 = true) (a7 : inB cs 15 = true) (a8 : inB sum 65535 = true) (b1 : serv = 0) (b3 : inB code 255 = true) (d1 : (typ != 7) = true) (d2 : (code != 0) = true) :
    Calls Tryz.prog 46 #[.agg #[.int .i64 src, .int .i64 dst, .int .i64 off, .int .i64 cc, .int .i64 cs, .int .i64 sum, .int .i64 typ, .bool x, .int .u64 seq, .int .u64 ack, .int .u32 serv, .int .i64 code, .int .u8 i0, .int .u8 i1, .int .u8 i2]] w fun e w' => e = .returned (.bool false) ∧ Below w.heap.size w w' := by
  have C1 := hide c1; have C4 := hide c4
  clear c1 c4
  subst b1
  have hz : ∀ W : World, (binOp .neq 24 (.agg #[.int .u8 i0, .int .u8 i1, .int .u8 i2]) (.agg #[.int .u8 0, .int .u8 0, .int .u8 0])).run Tryz.prog W = .ok (.bool (!(i0 == 0 && i1 == 0 && i2 == 0))) W := fun W => by rw [neq_three] <;> simp
  go_enter Tryz.func46, Tryz.ntmps46
  go_wp2_with (first | (go_at_call 43; refine (C1.out _).mono ?_; rintro e w' ⟨rfl, rfl⟩) | (go_at_call 79; refine (head_in _ _ _).mono ?_; rintro e w' ⟨rfl, rfl⟩) | (go_at_call 78; refine (head_service _ _).mono ?_; rintro e w' ⟨rfl, rfl⟩) | (go_at_call 80; refine (C4.out _).mono ?_; rintro e w' ⟨rfl, hb⟩))
  go_ret
  exact ⟨rfl, (Below.refl _ _).alloc (Nat.le_refl _) _⟩

set_option maxHeartbeats 4000000 in
set_option maxRecDepth 100000 in
theorem may_way12 (src dst off cc cs sum typ : Int) (x : Bool) (seq ack serv code i0 i1 i2 n : Int) (nb : Bool) (w : World) (n0 : 0 ≤ n) (n28 : n ≤ 28)
    (c1 : ∀ w : World, Calls Tryz.prog 43 #[.int .i64 typ, .bool x] w fun e w' => e = .returned (.int .i64 n) ∧ w = w')
    (c4 : ∀ w : World, Calls Tryz.prog 80 #[.agg #[.int .i64 src, .int .i64 dst, .int .i64 off, .int .i64 cc, .int .i64 cs, .int .i64 sum, .int .i64 typ, .bool x, .int .u64 seq, .int .u64 ack, .int .u32 serv, .int .i64 code, .int .u8 i0, .int .u8 i1, .int .u8 i2]] w fun e w' => e = .returned (.bool nb) ∧ Below w.heap.size w w')
    (a1 : (n == 0) = false) (a2 : inB src 65535 = true) (a3 : inB dst 65535 = true) (a4 : decide (off < n / 4) = false) (a5 : decide (255 < off) = false) (a6 : inB cc 15 = true) (a7 : inB cs 15 = true) (a8 : inB sum 65535 = true) (b1 : serv = 0) (b3 : inB code 255 = true) (d1 : (typ != 7) = true) (d2 : code = 0) (d3 : (i0 == 0) = false) :
    Calls Tryz.prog 46 #[.agg #[.int .i64 src, .int .i64 dst, .int .i64 off, .int .i64 cc, .int .i64 cs, .int .i64 sum, .int .i64 typ, .bool x, .int .u64 seq, .int .u64 ack, .int .u32 serv, .int .i64 code, .int .u8 i0, .int .u8 i1, .int .u8 i2]] w fun e w' => e = .returned (.bool false) ∧ Below w.heap.size w w' := by
  have C1 := hide c1; have C4 := hide c4
  clear c1 c4
  subst b1
  subst d2
  have hz : ∀ W : World, (binOp .neq 24 (.agg #[.int .u8 i0, .int .u8 i1, .int .u8 i2]) (.agg #[.int .u8 0, .int .u8 0, .int .u8 0])).run Tryz.prog W = .ok (.bool true) W := fun W => by rw [neq_three] <;> simp [d3]
  go_enter Tryz.func46, Tryz.ntmps46
  go_wp2_with (first | (go_at_call 43; refine (C1.out _).mono ?_; rintro e w' ⟨rfl, rfl⟩) | (go_at_call 79; refine (head_in _ _ _).mono ?_; rintro e w' ⟨rfl, rfl⟩) | (go_at_call 78; refine (head_service _ _).mono ?_; rintro e w' ⟨rfl, rfl⟩) | (go_at_call 80; refine (C4.out _).mono ?_; rintro e w' ⟨rfl, hb⟩))
  go_ret
  exact ⟨rfl, (Below.refl _ _).alloc (Nat.le_refl _) _⟩

set_option maxHeartbeats 4000000 in
set_option maxRecDepth 100000 in
theorem may_way13 (src dst off cc cs sum typ : Int) (x : Bool) (seq ack serv code i0 i1 i2 n : Int) (nb : Bool) (w : World) (n0 : 0 ≤ n) (n28 : n ≤ 28)
    (c1 : ∀ w : World, Calls Tryz.prog 43 #[.int .i64 typ, .bool x] w fun e w' => e = .returned (.int .i64 n) ∧ w = w')
    (c4 : ∀ w : World, Calls Tryz.prog 80 #[.agg #[.int .i64 src, .int .i64 dst, .int .i64 off, .int .i64 cc, .int .i64 cs, .int .i64 sum, .int .i64 typ, .bool x, .int .u64 seq, .int .u64 ack, .int .u32 serv, .int .i64 code, .int .u8 i0, .int .u8 i1, .int .u8 i2]] w fun e w' => e = .returned (.bool nb) ∧ Below w.heap.size w w')
    (a1 : (n == 0) = false) (a2 : inB src 65535 = true) (a3 : inB dst 65535 = true) (a4 : decide (off < n / 4) = false) (a5 : decide (255 < off) = false) (a6 : inB cc 15 = true) (a7 : inB cs 15 = true) (a8 : inB sum 65535 = true) (b1 : serv = 0) (b3 : inB code 255 = true) (d1 : (typ != 7) = true) (d2 : code = 0) (d3 : i0 = 0) (d4 : (i1 == 0) = false) :
    Calls Tryz.prog 46 #[.agg #[.int .i64 src, .int .i64 dst, .int .i64 off, .int .i64 cc, .int .i64 cs, .int .i64 sum, .int .i64 typ, .bool x, .int .u64 seq, .int .u64 ack, .int .u32 serv, .int .i64 code, .int .u8 i0, .int .u8 i1, .int .u8 i2]] w fun e w' => e = .returned (.bool false) ∧ Below w.heap.size w w' := by
  have C1 := hide c1; have C4 := hide c4
  clear c1 c4
  subst b1
  subst d2
  subst d3
  have hz : ∀ W : World, (binOp .neq 24 (.agg #[.int .u8 0, .int .u8 i1, .int .u8 i2]) (.agg #[.int .u8 0, .int .u8 0, .int .u8 0])).run Tryz.prog W = .ok (.bool true) W := fun W => by rw [neq_three] <;> simp [d4]
  go_enter Tryz.func46, Tryz.ntmps46
  go_wp2_with (first | (go_at_call 43; refine (C1.out _).mono ?_; rintro e w' ⟨rfl, rfl⟩) | (go_at_call 79; refine (head_in _ _ _).mono ?_; rintro e w' ⟨rfl, rfl⟩) | (go_at_call 78; refine (head_service _ _).mono ?_; rintro e w' ⟨rfl, rfl⟩) | (go_at_call 80; refine (C4.out _).mono ?_; rintro e w' ⟨rfl, hb⟩))
  go_ret
  exact ⟨rfl, (Below.refl _ _).alloc (Nat.le_refl _) _⟩

set_option maxHeartbeats 4000000 in
set_option maxRecDepth 100000 in
theorem may_way14 (src dst off cc cs sum typ : Int) (x : Bool) (seq ack serv code i0 i1 i2 n : Int) (nb : Bool) (w : World) (n0 : 0 ≤ n) (n28 : n ≤ 28)
    (c1 : ∀ w : World, Calls Tryz.prog 43 #[.int .i64 typ, .bool x] w fun e w' => e = .returned (.int .i64 n) ∧ w = w')
    (c4 : ∀ w : World, Calls Tryz.prog 80 #[.agg #[.int .i64 src, .int .i64 dst, .int .i64 off, .int .i64 cc, .int .i64 cs, .int .i64 sum, .int .i64 typ, .bool x, .int .u64 seq, .int .u64 ack, .int .u32 serv, .int .i64 code, .int .u8 i0, .int .u8 i1, .int .u8 i2]] w fun e w' => e = .returned (.bool nb) ∧ Below w.heap.size w w')
    (a1 : (n == 0) = false) (a2 : inB src 65535 = true) (a3 : inB dst 65535 = true) (a4 : decide (off < n / 4) = false) (a5 : decide (255 < off) = false) (a6 : inB cc 15 = true) (a7 : inB cs 15 = true) (a8 : inB sum 65535 = true) (b1 : serv = 0) (b3 : inB code 255 = true) (d1 : (typ != 7) = true) (d2 : code = 0) (d3 : i0 = 0) (d4 : i1 = 0) (d5 : (i2 == 0) = false) :
    Calls Tryz.prog 46 #[.agg #[.int .i64 src, .int .i64 dst, .int .i64 off, .int .i64 cc, .int .i64 cs, .int .i64 sum, .int .i64 typ, .bool x, .int .u64 seq, .int .u64 ack, .int .u32 serv, .int .i64 code, .int .u8 i0, .int .u8 i1, .int .u8 i2]] w fun e w' => e = .returned (.bool false) ∧ Below w.heap.size w w' := by
  have C1 := hide c1; have C4 := hide c4
  clear c1 c4
  subst b1
  subst d2
  subst d3
  subst d4
  have hz : ∀ W : World, (binOp .neq 24 (.agg #[.int .u8 0, .int .u8 0, .int .u8 i2]) (.agg #[.int .u8 0, .int .u8 0, .int .u8 0])).run Tryz.prog W = .ok (.bool true) W := fun W => by rw [neq_three] <;> simp [d5]
  go_enter Tryz.func46, Tryz.ntmps46
  go_wp2_with (first | (go_at_call 43; refine (C1.out _).mono ?_; rintro e w' ⟨rfl, rfl⟩) | (go_at_call 79; refine (head_in _ _ _).mono ?_; rintro e w' ⟨rfl, rfl⟩) | (go_at_call 78; refine (head_service _ _).mono ?_; rintro e w' ⟨rfl, rfl⟩) | (go_at_call 80; refine (C4.out _).mono ?_; rintro e w' ⟨rfl, hb⟩))
  go_ret
  exact ⟨rfl, (Below.refl _ _).alloc (Nat.le_refl _) _⟩
end Go.Proofs.YtjlnbahanghhcaaGreatDoor

/- head.May, way by way (printed by wip/gen_may.py). -/
namespace Go.Proofs.YtjlnbahanghhcaaGreatDoor
open Go.RowKit
set_option linter.unusedVariables false
set_option linter.unusedSimpArgs false

set_option maxHeartbeats 4000000 in
set_option maxRecDepth 100000 in
theorem may_way15 (src dst off cc cs sum typ : Int) (x : Bool) (seq ack serv code i0 i1 i2 n : Int) (nb : Bool) (w : World) (n0 : 0 ≤ n) (n28 : n ≤ 28)
    (c1 : ∀ w : World, Calls Tryz.prog 43 #[.int .i64 typ, .bool x] w fun e w' => e = .returned (.int .i64 n) ∧ w = w')
    (c4 : ∀ w : World, Calls Tryz.prog 80 #[.agg #[.int .i64 src, .int .i64 dst, .int .i64 off, .int .i64 cc, .int .i64 cs, .int .i64 sum, .int .i64 typ, .bool x, .int .u64 seq, .int .u64 ack, .int .u32 serv, .int .i64 code, .int .u8 i0, .int .u8 i1, .int .u8 i2]] w fun e w' => e = .returned (.bool nb) ∧ Below w.heap.size w w')
    (a1 : (n == 0) = false) (a2 : inB src 65535 = true) (a3 : inB dst 65535 = true) (a4 : decide (off < n / 4) = false) (a5 : decide (255 < off) = false) (a6 : inB cc 15 = true) (a7 : inB cs 15 = true) (a8 : inB sum 65535 = true) (b1 : serv = 0) (b3 : inB code 255 = true) (d1 : (typ != 7) = true) (d2 : code = 0) (d3 : i0 = 0) (d4 : i1 = 0) (d5 : i2 = 0) :
    Calls Tryz.prog 46 #[.agg #[.int .i64 src, .int .i64 dst, .int .i64 off, .int .i64 cc, .int .i64 cs, .int .i64 sum, .int .i64 typ, .bool x, .int .u64 seq, .int .u64 ack, .int .u32 serv, .int .i64 code, .int .u8 i0, .int .u8 i1, .int .u8 i2]] w fun e w' => e = .returned (.bool nb) ∧ Below w.heap.size w w' := by
  have C1 := hide c1; have C4 := hide c4
  clear c1 c4
  subst b1
  subst d2
  subst d3
  subst d4
  subst d5
  have hz : ∀ W : World, (binOp .neq 24 (.agg #[.int .u8 0, .int .u8 0, .int .u8 0]) (.agg #[.int .u8 0, .int .u8 0, .int .u8 0])).run Tryz.prog W = .ok (.bool false) W := fun W => by rw [neq_three] <;> simp
  go_enter Tryz.func46, Tryz.ntmps46
  go_wp2_with (first | (go_at_call 43; refine (C1.out _).mono ?_; rintro e w' ⟨rfl, rfl⟩) | (go_at_call 79; refine (head_in _ _ _).mono ?_; rintro e w' ⟨rfl, rfl⟩) | (go_at_call 78; refine (head_service _ _).mono ?_; rintro e w' ⟨rfl, rfl⟩) | (go_at_call 80; refine (C4.out _).mono ?_; rintro e w' ⟨rfl, hb⟩))
  go_ret
  exact ⟨rfl, ((Below.refl _ _).alloc (Nat.le_refl _) _).trans (Below.mono (by assumption) (by simp))⟩

set_option maxHeartbeats 4000000 in
set_option maxRecDepth 100000 in
theorem may_way16 (src dst off cc cs sum typ : Int) (x : Bool) (seq ack serv code i0 i1 i2 n : Int) (nb : Bool) (w : World) (n0 : 0 ≤ n) (n28 : n ≤ 28)
    (c1 : ∀ w : World, Calls Tryz.prog 43 #[.int .i64 typ, .bool x] w fun e w' => e = .returned (.int .i64 n) ∧ w = w')
    (c4 : ∀ w : World, Calls Tryz.prog 80 #[.agg #[.int .i64 src, .int .i64 dst, .int .i64 off, .int .i64 cc, .int .i64 cs, .int .i64 sum, .int .i64 typ, .bool x, .int .u64 seq, .int .u64 ack, .int .u32 serv, .int .i64 code, .int .u8 i0, .int .u8 i1, .int .u8 i2]] w fun e w' => e = .returned (.bool nb) ∧ Below w.heap.size w w')
    (a1 : (n == 0) = false) (a2 : inB src 65535 = true) (a3 : inB dst 65535 = true) (a4 : decide (off < n / 4) = false) (a5 : decide (255 < off) = false) (a6 : inB cc 15 = true) (a7 : inB cs 15 = true) (a8 : inB sum 65535 = true) (b1 : (serv != 0) = true) (b2 : servB typ = true) (b3 : inB code 255 = false) :
    Calls Tryz.prog 46 #[.agg #[.int .i64 src, .int .i64 dst, .int .i64 off, .int .i64 cc, .int .i64 cs, .int .i64 sum, .int .i64 typ, .bool x, .int .u64 seq, .int .u64 ack, .int .u32 serv, .int .i64 code, .int .u8 i0, .int .u8 i1, .int .u8 i2]] w fun e w' => e = .returned (.bool false) ∧ Below w.heap.size w w' := by
  have C1 := hide c1; have C4 := hide c4
  clear c1 c4
  have hz : ∀ W : World, (binOp .neq 24 (.agg #[.int .u8 i0, .int .u8 i1, .int .u8 i2]) (.agg #[.int .u8 0, .int .u8 0, .int .u8 0])).run Tryz.prog W = .ok (.bool (!(i0 == 0 && i1 == 0 && i2 == 0))) W := fun W => by rw [neq_three] <;> simp
  go_enter Tryz.func46, Tryz.ntmps46
  go_wp2_with (first | (go_at_call 43; refine (C1.out _).mono ?_; rintro e w' ⟨rfl, rfl⟩) | (go_at_call 79; refine (head_in _ _ _).mono ?_; rintro e w' ⟨rfl, rfl⟩) | (go_at_call 78; refine (head_service _ _).mono ?_; rintro e w' ⟨rfl, rfl⟩) | (go_at_call 80; refine (C4.out _).mono ?_; rintro e w' ⟨rfl, hb⟩))
  go_ret
  exact ⟨rfl, (Below.refl _ _).alloc (Nat.le_refl _) _⟩

set_option maxHeartbeats 4000000 in
set_option maxRecDepth 100000 in
theorem may_way17 (src dst off cc cs sum typ : Int) (x : Bool) (seq ack serv code i0 i1 i2 n : Int) (nb : Bool) (w : World) (n0 : 0 ≤ n) (n28 : n ≤ 28)
    (c1 : ∀ w : World, Calls Tryz.prog 43 #[.int .i64 typ, .bool x] w fun e w' => e = .returned (.int .i64 n) ∧ w = w')
    (c4 : ∀ w : World, Calls Tryz.prog 80 #[.agg #[.int .i64 src, .int .i64 dst, .int .i64 off, .int .i64 cc, .int .i64 cs, .int .i64 sum, .int .i64 typ, .bool x, .int .u64 seq, .int .u64 ack, .int .u32 serv, .int .i64 code, .int .u8 i0, .int .u8 i1, .int .u8 i2]] w fun e w' => e = .returned (.bool nb) ∧ Below w.heap.size w w')
    (a1 : (n == 0) = false) (a2 : inB src 65535 = true) (a3 : inB dst 65535 = true) (a4 : decide (off < n / 4) = false) (a5 : decide (255 < off) = false) (a6 : inB cc 15 = true) (a7 : inB cs 15 = true) (a8 : inB sum 65535 = true) (b1 : (serv != 0) = true) (b2 : servB typ = true) (b3 : inB code 255 = true) (d1 : typ = 7) :
    Calls Tryz.prog 46 #[.agg #[.int .i64 src, .int .i64 dst, .int .i64 off, .int .i64 cc, .int .i64 cs, .int .i64 sum, .int .i64 typ, .bool x, .int .u64 seq, .int .u64 ack, .int .u32 serv, .int .i64 code, .int .u8 i0, .int .u8 i1, .int .u8 i2]] w fun e w' => e = .returned (.bool nb) ∧ Below w.heap.size w w' := by
  have C1 := hide c1; have C4 := hide c4
  clear c1 c4
  subst d1
  have hz : ∀ W : World, (binOp .neq 24 (.agg #[.int .u8 i0, .int .u8 i1, .int .u8 i2]) (.agg #[.int .u8 0, .int .u8 0, .int .u8 0])).run Tryz.prog W = .ok (.bool (!(i0 == 0 && i1 == 0 && i2 == 0))) W := fun W => by rw [neq_three] <;> simp
  go_enter Tryz.func46, Tryz.ntmps46
  go_wp2_with (first | (go_at_call 43; refine (C1.out _).mono ?_; rintro e w' ⟨rfl, rfl⟩) | (go_at_call 79; refine (head_in _ _ _).mono ?_; rintro e w' ⟨rfl, rfl⟩) | (go_at_call 78; refine (head_service _ _).mono ?_; rintro e w' ⟨rfl, rfl⟩) | (go_at_call 80; refine (C4.out _).mono ?_; rintro e w' ⟨rfl, hb⟩))
  go_ret
  exact ⟨rfl, ((Below.refl _ _).alloc (Nat.le_refl _) _).trans (Below.mono (by assumption) (by simp))⟩

set_option maxHeartbeats 4000000 in
set_option maxRecDepth 100000 in
theorem may_way18 (src dst off cc cs sum typ : Int) (x : Bool) (seq ack serv code i0 i1 i2 n : Int) (nb : Bool) (w : World) (n0 : 0 ≤ n) (n28 : n ≤ 28)
    (c1 : ∀ w : World, Calls Tryz.prog 43 #[.int .i64 typ, .bool x] w fun e w' => e = .returned (.int .i64 n) ∧ w = w')
    (c4 : ∀ w : World, Calls Tryz.prog 80 #[.agg #[.int .i64 src, .int .i64 dst, .int .i64 off, .int .i64 cc, .int .i64 cs, .int .i64 sum, .int .i64 typ, .bool x, .int .u64 seq, .int .u64 ack, .int .u32 serv, .int .i64 code, .int .u8 i0, .int .u8 i1, .int .u8 i2]] w fun e w' => e = .returned (.bool nb) ∧ Below w.heap.size w w')
    (a1 : (n == 0) = false) (a2 : inB src 65535 = true) (a3 : inB dst 65535 = true) (a4 : decide (off < n / 4) = false) (a5 : decide (255 < off) = false) (a6 : inB cc 15 = true) (a7 : inB cs 15 = true) (a8 : inB sum 65535 = true) (b1 : (serv != 0) = true) (b2 : servB typ = true) (b3 : inB code 255 = true) (d1 : (typ != 7) = true) (d2 : (code != 0) = true) :
    Calls Tryz.prog 46 #[.agg #[.int .i64 src, .int .i64 dst, .int .i64 off, .int .i64 cc, .int .i64 cs, .int .i64 sum, .int .i64 typ, .bool x, .int .u64 seq, .int .u64 ack, .int .u32 serv, .int .i64 code, .int .u8 i0, .int .u8 i1, .int .u8 i2]] w fun e w' => e = .returned (.bool false) ∧ Below w.heap.size w w' := by
  have C1 := hide c1; have C4 := hide c4
  clear c1 c4
  have hz : ∀ W : World, (binOp .neq 24 (.agg #[.int .u8 i0, .int .u8 i1, .int .u8 i2]) (.agg #[.int .u8 0, .int .u8 0, .int .u8 0])).run Tryz.prog W = .ok (.bool (!(i0 == 0 && i1 == 0 && i2 == 0))) W := fun W => by rw [neq_three] <;> simp
  go_enter Tryz.func46, Tryz.ntmps46
  go_wp2_with (first | (go_at_call 43; refine (C1.out _).mono ?_; rintro e w' ⟨rfl, rfl⟩) | (go_at_call 79; refine (head_in _ _ _).mono ?_; rintro e w' ⟨rfl, rfl⟩) | (go_at_call 78; refine (head_service _ _).mono ?_; rintro e w' ⟨rfl, rfl⟩) | (go_at_call 80; refine (C4.out _).mono ?_; rintro e w' ⟨rfl, hb⟩))
  go_ret
  exact ⟨rfl, (Below.refl _ _).alloc (Nat.le_refl _) _⟩

set_option maxHeartbeats 4000000 in
set_option maxRecDepth 100000 in
theorem may_way19 (src dst off cc cs sum typ : Int) (x : Bool) (seq ack serv code i0 i1 i2 n : Int) (nb : Bool) (w : World) (n0 : 0 ≤ n) (n28 : n ≤ 28)
    (c1 : ∀ w : World, Calls Tryz.prog 43 #[.int .i64 typ, .bool x] w fun e w' => e = .returned (.int .i64 n) ∧ w = w')
    (c4 : ∀ w : World, Calls Tryz.prog 80 #[.agg #[.int .i64 src, .int .i64 dst, .int .i64 off, .int .i64 cc, .int .i64 cs, .int .i64 sum, .int .i64 typ, .bool x, .int .u64 seq, .int .u64 ack, .int .u32 serv, .int .i64 code, .int .u8 i0, .int .u8 i1, .int .u8 i2]] w fun e w' => e = .returned (.bool nb) ∧ Below w.heap.size w w')
    (a1 : (n == 0) = false) (a2 : inB src 65535 = true) (a3 : inB dst 65535 = true) (a4 : decide (off < n / 4) = false) (a5 : decide (255 < off) = false) (a6 : inB cc 15 = true) (a7 : inB cs 15 = true) (a8 : inB sum 65535 = true) (b1 : (serv != 0) = true) (b2 : servB typ = true) (b3 : inB code 255 = true) (d1 : (typ != 7) = true) (d2 : code = 0) (d3 : (i0 == 0) = false) :
    Calls Tryz.prog 46 #[.agg #[.int .i64 src, .int .i64 dst, .int .i64 off, .int .i64 cc, .int .i64 cs, .int .i64 sum, .int .i64 typ, .bool x, .int .u64 seq, .int .u64 ack, .int .u32 serv, .int .i64 code, .int .u8 i0, .int .u8 i1, .int .u8 i2]] w fun e w' => e = .returned (.bool false) ∧ Below w.heap.size w w' := by
  have C1 := hide c1; have C4 := hide c4
  clear c1 c4
  subst d2
  have hz : ∀ W : World, (binOp .neq 24 (.agg #[.int .u8 i0, .int .u8 i1, .int .u8 i2]) (.agg #[.int .u8 0, .int .u8 0, .int .u8 0])).run Tryz.prog W = .ok (.bool true) W := fun W => by rw [neq_three] <;> simp [d3]
  go_enter Tryz.func46, Tryz.ntmps46
  go_wp2_with (first | (go_at_call 43; refine (C1.out _).mono ?_; rintro e w' ⟨rfl, rfl⟩) | (go_at_call 79; refine (head_in _ _ _).mono ?_; rintro e w' ⟨rfl, rfl⟩) | (go_at_call 78; refine (head_service _ _).mono ?_; rintro e w' ⟨rfl, rfl⟩) | (go_at_call 80; refine (C4.out _).mono ?_; rintro e w' ⟨rfl, hb⟩))
  go_ret
  exact ⟨rfl, (Below.refl _ _).alloc (Nat.le_refl _) _⟩
end Go.Proofs.YtjlnbahanghhcaaGreatDoor

/- head.May, way by way (printed by wip/gen_may.py). -/
namespace Go.Proofs.YtjlnbahanghhcaaGreatDoor
open Go.RowKit
set_option linter.unusedVariables false
set_option linter.unusedSimpArgs false

set_option maxHeartbeats 4000000 in
set_option maxRecDepth 100000 in
theorem may_way20 (src dst off cc cs sum typ : Int) (x : Bool) (seq ack serv code i0 i1 i2 n : Int) (nb : Bool) (w : World) (n0 : 0 ≤ n) (n28 : n ≤ 28)
    (c1 : ∀ w : World, Calls Tryz.prog 43 #[.int .i64 typ, .bool x] w fun e w' => e = .returned (.int .i64 n) ∧ w = w')
    (c4 : ∀ w : World, Calls Tryz.prog 80 #[.agg #[.int .i64 src, .int .i64 dst, .int .i64 off, .int .i64 cc, .int .i64 cs, .int .i64 sum, .int .i64 typ, .bool x, .int .u64 seq, .int .u64 ack, .int .u32 serv, .int .i64 code, .int .u8 i0, .int .u8 i1, .int .u8 i2]] w fun e w' => e = .returned (.bool nb) ∧ Below w.heap.size w w')
    (a1 : (n == 0) = false) (a2 : inB src 65535 = true) (a3 : inB dst 65535 = true) (a4 : decide (off < n / 4) = false) (a5 : decide (255 < off) = false) (a6 : inB cc 15 = true) (a7 : inB cs 15 = true) (a8 : inB sum 65535 = true) (b1 : (serv != 0) = true) (b2 : servB typ = true) (b3 : inB code 255 = true) (d1 : (typ != 7) = true) (d2 : code = 0) (d3 : i0 = 0) (d4 : (i1 == 0) = false) :
    Calls Tryz.prog 46 #[.agg #[.int .i64 src, .int .i64 dst, .int .i64 off, .int .i64 cc, .int .i64 cs, .int .i64 sum, .int .i64 typ, .bool x, .int .u64 seq, .int .u64 ack, .int .u32 serv, .int .i64 code, .int .u8 i0, .int .u8 i1, .int .u8 i2]] w fun e w' => e = .returned (.bool false) ∧ Below w.heap.size w w' := by
  have C1 := hide c1; have C4 := hide c4
  clear c1 c4
  subst d2
  subst d3
  have hz : ∀ W : World, (binOp .neq 24 (.agg #[.int .u8 0, .int .u8 i1, .int .u8 i2]) (.agg #[.int .u8 0, .int .u8 0, .int .u8 0])).run Tryz.prog W = .ok (.bool true) W := fun W => by rw [neq_three] <;> simp [d4]
  go_enter Tryz.func46, Tryz.ntmps46
  go_wp2_with (first | (go_at_call 43; refine (C1.out _).mono ?_; rintro e w' ⟨rfl, rfl⟩) | (go_at_call 79; refine (head_in _ _ _).mono ?_; rintro e w' ⟨rfl, rfl⟩) | (go_at_call 78; refine (head_service _ _).mono ?_; rintro e w' ⟨rfl, rfl⟩) | (go_at_call 80; refine (C4.out _).mono ?_; rintro e w' ⟨rfl, hb⟩))
  go_ret
  exact ⟨rfl, (Below.refl _ _).alloc (Nat.le_refl _) _⟩

set_option maxHeartbeats 4000000 in
set_option maxRecDepth 100000 in
theorem may_way21 (src dst off cc cs sum typ : Int) (x : Bool) (seq ack serv code i0 i1 i2 n : Int) (nb : Bool) (w : World) (n0 : 0 ≤ n) (n28 : n ≤ 28)
    (c1 : ∀ w : World, Calls Tryz.prog 43 #[.int .i64 typ, .bool x] w fun e w' => e = .returned (.int .i64 n) ∧ w = w')
    (c4 : ∀ w : World, Calls Tryz.prog 80 #[.agg #[.int .i64 src, .int .i64 dst, .int .i64 off, .int .i64 cc, .int .i64 cs, .int .i64 sum, .int .i64 typ, .bool x, .int .u64 seq, .int .u64 ack, .int .u32 serv, .int .i64 code, .int .u8 i0, .int .u8 i1, .int .u8 i2]] w fun e w' => e = .returned (.bool nb) ∧ Below w.heap.size w w')
    (a1 : (n == 0) = false) (a2 : inB src 65535 = true) (a3 : inB dst 65535 = true) (a4 : decide (off < n / 4) = false) (a5 : decide (255 < off) = false) (a6 : inB cc 15 = true) (a7 : inB cs 15 = true) (a8 : inB sum 65535 = true) (b1 : (serv != 0) = true) (b2 : servB typ = true) (b3 : inB code 255 = true) (d1 : (typ != 7) = true) (d2 : code = 0) (d3 : i0 = 0) (d4 : i1 = 0) (d5 : (i2 == 0) = false) :
    Calls Tryz.prog 46 #[.agg #[.int .i64 src, .int .i64 dst, .int .i64 off, .int .i64 cc, .int .i64 cs, .int .i64 sum, .int .i64 typ, .bool x, .int .u64 seq, .int .u64 ack, .int .u32 serv, .int .i64 code, .int .u8 i0, .int .u8 i1, .int .u8 i2]] w fun e w' => e = .returned (.bool false) ∧ Below w.heap.size w w' := by
  have C1 := hide c1; have C4 := hide c4
  clear c1 c4
  subst d2
  subst d3
  subst d4
  have hz : ∀ W : World, (binOp .neq 24 (.agg #[.int .u8 0, .int .u8 0, .int .u8 i2]) (.agg #[.int .u8 0, .int .u8 0, .int .u8 0])).run Tryz.prog W = .ok (.bool true) W := fun W => by rw [neq_three] <;> simp [d5]
  go_enter Tryz.func46, Tryz.ntmps46
  go_wp2_with (first | (go_at_call 43; refine (C1.out _).mono ?_; rintro e w' ⟨rfl, rfl⟩) | (go_at_call 79; refine (head_in _ _ _).mono ?_; rintro e w' ⟨rfl, rfl⟩) | (go_at_call 78; refine (head_service _ _).mono ?_; rintro e w' ⟨rfl, rfl⟩) | (go_at_call 80; refine (C4.out _).mono ?_; rintro e w' ⟨rfl, hb⟩))
  go_ret
  exact ⟨rfl, (Below.refl _ _).alloc (Nat.le_refl _) _⟩

set_option maxHeartbeats 4000000 in
set_option maxRecDepth 100000 in
theorem may_way22 (src dst off cc cs sum typ : Int) (x : Bool) (seq ack serv code i0 i1 i2 n : Int) (nb : Bool) (w : World) (n0 : 0 ≤ n) (n28 : n ≤ 28)
    (c1 : ∀ w : World, Calls Tryz.prog 43 #[.int .i64 typ, .bool x] w fun e w' => e = .returned (.int .i64 n) ∧ w = w')
    (c4 : ∀ w : World, Calls Tryz.prog 80 #[.agg #[.int .i64 src, .int .i64 dst, .int .i64 off, .int .i64 cc, .int .i64 cs, .int .i64 sum, .int .i64 typ, .bool x, .int .u64 seq, .int .u64 ack, .int .u32 serv, .int .i64 code, .int .u8 i0, .int .u8 i1, .int .u8 i2]] w fun e w' => e = .returned (.bool nb) ∧ Below w.heap.size w w')
    (a1 : (n == 0) = false) (a2 : inB src 65535 = true) (a3 : inB dst 65535 = true) (a4 : decide (off < n / 4) = false) (a5 : decide (255 < off) = false) (a6 : inB cc 15 = true) (a7 : inB cs 15 = true) (a8 : inB sum 65535 = true) (b1 : (serv != 0) = true) (b2 : servB typ = true) (b3 : inB code 255 = true) (d1 : (typ != 7) = true) (d2 : code = 0) (d3 : i0 = 0) (d4 : i1 = 0) (d5 : i2 = 0) :
    Calls Tryz.prog 46 #[.agg #[.int .i64 src, .int .i64 dst, .int .i64 off, .int .i64 cc, .int .i64 cs, .int .i64 sum, .int .i64 typ, .bool x, .int .u64 seq, .int .u64 ack, .int .u32 serv, .int .i64 code, .int .u8 i0, .int .u8 i1, .int .u8 i2]] w fun e w' => e = .returned (.bool nb) ∧ Below w.heap.size w w' := by
  have C1 := hide c1; have C4 := hide c4
  clear c1 c4
  subst d2
  subst d3
  subst d4
  subst d5
  have hz : ∀ W : World, (binOp .neq 24 (.agg #[.int .u8 0, .int .u8 0, .int .u8 0]) (.agg #[.int .u8 0, .int .u8 0, .int .u8 0])).run Tryz.prog W = .ok (.bool false) W := fun W => by rw [neq_three] <;> simp
  go_enter Tryz.func46, Tryz.ntmps46
  go_wp2_with (first | (go_at_call 43; refine (C1.out _).mono ?_; rintro e w' ⟨rfl, rfl⟩) | (go_at_call 79; refine (head_in _ _ _).mono ?_; rintro e w' ⟨rfl, rfl⟩) | (go_at_call 78; refine (head_service _ _).mono ?_; rintro e w' ⟨rfl, rfl⟩) | (go_at_call 80; refine (C4.out _).mono ?_; rintro e w' ⟨rfl, hb⟩))
  go_ret
  exact ⟨rfl, ((Below.refl _ _).alloc (Nat.le_refl _) _).trans (Below.mono (by assumption) (by simp))⟩
end Go.Proofs.YtjlnbahanghhcaaGreatDoor

/- head.May at every head: all ways together (printed by wip/gen_may.py). -/
namespace Go.Proofs.YtjlnbahanghhcaaGreatDoor
open Go.RowKit
set_option linter.unusedVariables false
set_option linter.unusedSimpArgs false

def mayE (n src dst off cc cs sum typ serv code i0 i1 i2 : Int) (nb : Bool) : Bool :=
  !(n == 0) && (inB src 65535 && (inB dst 65535 && (decide (n / 4 ≤ off) && (decide (off ≤ 255) && (inB cc 15 && (inB cs 15 && (inB sum 65535 &&
    ((serv == 0 || servB typ) && (inB code 255 && ((typ == 7 || (code == 0 && (i0 == 0 && (i1 == 0 && i2 == 0)))) && nb))))))))))

theorem head_May (h : Hd) (w : World) : Calls Tryz.prog 46 #[h.val] w fun e w' => e = .returned (.bool (mayB h)) ∧ Below w.heap.size w w' := by
  have c4 := head_numbers h
  obtain ⟨src, dst, off, cc, cs, sum, typ, x, seq, ack, serv, code, i0, i1, i2⟩ := h
  have c1 := head_Size typ x
  have hn := sizeB_le typ x
  have hm : mayB ⟨src, dst, off, cc, cs, sum, typ, x, seq, ack, serv, code, i0, i1, i2⟩ = mayE (sizeB typ x) src dst off cc cs sum typ serv code i0 i1 i2 (numbersB ⟨src, dst, off, cc, cs, sum, typ, x, seq, ack, serv, code, i0, i1, i2⟩) := rfl
  rw [hm]; clear hm
  generalize sizeB typ x = n at *
  generalize numbersB _ = nb at *
  have hv : Hd.val ⟨src, dst, off, cc, cs, sum, typ, x, seq, ack, serv, code, i0, i1, i2⟩ = .agg #[.int .i64 src, .int .i64 dst, .int .i64 off, .int .i64 cc, .int .i64 cs, .int .i64 sum, .int .i64 typ, .bool x, .int .u64 seq, .int .u64 ack, .int .u32 serv, .int .i64 code, .int .u8 i0, .int .u8 i1, .int .u8 i2] := rfl
  rw [hv] at c4 ⊢
  clear hv
  obtain ⟨n0, n28⟩ := hn
  rcases a1 : (n == 0) with _ | _
  · rcases a2 : (inB src 65535) with _ | _
    · rw [show mayE n src dst off cc cs sum typ serv code i0 i1 i2 nb = false from by simp [mayE, a1, a2]]
      exact may_way1 src dst off cc cs sum typ x seq ack serv code i0 i1 i2 n nb w n0 n28 c1 c4 a1 a2
    · rcases a3 : (inB dst 65535) with _ | _
      · rw [show mayE n src dst off cc cs sum typ serv code i0 i1 i2 nb = false from by simp [mayE, a1, a2, a3]]
        exact may_way2 src dst off cc cs sum typ x seq ack serv code i0 i1 i2 n nb w n0 n28 c1 c4 a1 a2 a3
      · rcases a4 : (decide (off < n / 4)) with _ | _
        · have a4' : n / 4 ≤ off := by simpa using a4
          rcases a5 : (decide (255 < off)) with _ | _
          · have a5' : off ≤ 255 := by simpa using a5
            rcases a6 : (inB cc 15) with _ | _
            · rw [show mayE n src dst off cc cs sum typ serv code i0 i1 i2 nb = false from by simp [mayE, a1, a2, a3, a4', a5', a6]]
              exact may_way5 src dst off cc cs sum typ x seq ack serv code i0 i1 i2 n nb w n0 n28 c1 c4 a1 a2 a3 a4 a5 a6
            · rcases a7 : (inB cs 15) with _ | _
              · rw [show mayE n src dst off cc cs sum typ serv code i0 i1 i2 nb = false from by simp [mayE, a1, a2, a3, a4', a5', a6, a7]]
                exact may_way6 src dst off cc cs sum typ x seq ack serv code i0 i1 i2 n nb w n0 n28 c1 c4 a1 a2 a3 a4 a5 a6 a7
              · rcases a8 : (inB sum 65535) with _ | _
                · rw [show mayE n src dst off cc cs sum typ serv code i0 i1 i2 nb = false from by simp [mayE, a1, a2, a3, a4', a5', a6, a7, a8]]
                  exact may_way7 src dst off cc cs sum typ x seq ack serv code i0 i1 i2 n nb w n0 n28 c1 c4 a1 a2 a3 a4 a5 a6 a7 a8
                · rcases b1 : (serv == 0) with _ | _
                  · rcases b2 : (servB typ) with _ | _
                    · rw [show mayE n src dst off cc cs sum typ serv code i0 i1 i2 nb = false from by simp [mayE, a1, a2, a3, a4', a5', a6, a7, a8, b1, b2]]
                      exact may_way8 src dst off cc cs sum typ x seq ack serv code i0 i1 i2 n nb w n0 n28 c1 c4 a1 a2 a3 a4 a5 a6 a7 a8 (by simpa using b1) b2
                    · rcases b3 : (inB code 255) with _ | _
                      · rw [show mayE n src dst off cc cs sum typ serv code i0 i1 i2 nb = false from by simp [mayE, a1, a2, a3, a4', a5', a6, a7, a8, b1, b2, b3]]
                        exact may_way16 src dst off cc cs sum typ x seq ack serv code i0 i1 i2 n nb w n0 n28 c1 c4 a1 a2 a3 a4 a5 a6 a7 a8 (by simpa using b1) b2 b3
                      · rcases d1 : (typ == 7) with _ | _
                        · rcases d2 : (code == 0) with _ | _
                          · rw [show mayE n src dst off cc cs sum typ serv code i0 i1 i2 nb = false from by simp [mayE, a1, a2, a3, a4', a5', a6, a7, a8, b1, b2, b3, d1, d2]]
                            exact may_way18 src dst off cc cs sum typ x seq ack serv code i0 i1 i2 n nb w n0 n28 c1 c4 a1 a2 a3 a4 a5 a6 a7 a8 (by simpa using b1) b2 b3 (by simpa using d1) (by simpa using d2)
                          · rcases d3 : (i0 == 0) with _ | _
                            · rw [show mayE n src dst off cc cs sum typ serv code i0 i1 i2 nb = false from by simp [mayE, a1, a2, a3, a4', a5', a6, a7, a8, b1, b2, b3, d1, d2, d3]]
                              exact may_way19 src dst off cc cs sum typ x seq ack serv code i0 i1 i2 n nb w n0 n28 c1 c4 a1 a2 a3 a4 a5 a6 a7 a8 (by simpa using b1) b2 b3 (by simpa using d1) (by simpa using d2) d3
                            · rcases d4 : (i1 == 0) with _ | _
                              · rw [show mayE n src dst off cc cs sum typ serv code i0 i1 i2 nb = false from by simp [mayE, a1, a2, a3, a4', a5', a6, a7, a8, b1, b2, b3, d1, d2, d3, d4]]
                                exact may_way20 src dst off cc cs sum typ x seq ack serv code i0 i1 i2 n nb w n0 n28 c1 c4 a1 a2 a3 a4 a5 a6 a7 a8 (by simpa using b1) b2 b3 (by simpa using d1) (by simpa using d2) (by simpa using d3) d4
                              · rcases d5 : (i2 == 0) with _ | _
                                · rw [show mayE n src dst off cc cs sum typ serv code i0 i1 i2 nb = false from by simp [mayE, a1, a2, a3, a4', a5', a6, a7, a8, b1, b2, b3, d1, d2, d3, d4, d5]]
                                  exact may_way21 src dst off cc cs sum typ x seq ack serv code i0 i1 i2 n nb w n0 n28 c1 c4 a1 a2 a3 a4 a5 a6 a7 a8 (by simpa using b1) b2 b3 (by simpa using d1) (by simpa using d2) (by simpa using d3) (by simpa using d4) d5
                                · rw [show mayE n src dst off cc cs sum typ serv code i0 i1 i2 nb = nb from by simp [mayE, a1, a2, a3, a4', a5', a6, a7, a8, b1, b2, b3, d1, d2, d3, d4, d5]]
                                  exact may_way22 src dst off cc cs sum typ x seq ack serv code i0 i1 i2 n nb w n0 n28 c1 c4 a1 a2 a3 a4 a5 a6 a7 a8 (by simpa using b1) b2 b3 (by simpa using d1) (by simpa using d2) (by simpa using d3) (by simpa using d4) (by simpa using d5)
                        · rw [show mayE n src dst off cc cs sum typ serv code i0 i1 i2 nb = nb from by simp [mayE, a1, a2, a3, a4', a5', a6, a7, a8, b1, b2, b3, d1]]
                          exact may_way17 src dst off cc cs sum typ x seq ack serv code i0 i1 i2 n nb w n0 n28 c1 c4 a1 a2 a3 a4 a5 a6 a7 a8 (by simpa using b1) b2 b3 (by simpa using d1)
                  · rcases b3 : (inB code 255) with _ | _
                    · rw [show mayE n src dst off cc cs sum typ serv code i0 i1 i2 nb = false from by simp [mayE, a1, a2, a3, a4', a5', a6, a7, a8, b1, b3]]
                      exact may_way9 src dst off cc cs sum typ x seq ack serv code i0 i1 i2 n nb w n0 n28 c1 c4 a1 a2 a3 a4 a5 a6 a7 a8 (by simpa using b1) b3
                    · rcases d1 : (typ == 7) with _ | _
                      · rcases d2 : (code == 0) with _ | _
                        · rw [show mayE n src dst off cc cs sum typ serv code i0 i1 i2 nb = false from by simp [mayE, a1, a2, a3, a4', a5', a6, a7, a8, b1, b3, d1, d2]]
                          exact may_way11 src dst off cc cs sum typ x seq ack serv code i0 i1 i2 n nb w n0 n28 c1 c4 a1 a2 a3 a4 a5 a6 a7 a8 (by simpa using b1) b3 (by simpa using d1) (by simpa using d2)
                        · rcases d3 : (i0 == 0) with _ | _
                          · rw [show mayE n src dst off cc cs sum typ serv code i0 i1 i2 nb = false from by simp [mayE, a1, a2, a3, a4', a5', a6, a7, a8, b1, b3, d1, d2, d3]]
                            exact may_way12 src dst off cc cs sum typ x seq ack serv code i0 i1 i2 n nb w n0 n28 c1 c4 a1 a2 a3 a4 a5 a6 a7 a8 (by simpa using b1) b3 (by simpa using d1) (by simpa using d2) d3
                          · rcases d4 : (i1 == 0) with _ | _
                            · rw [show mayE n src dst off cc cs sum typ serv code i0 i1 i2 nb = false from by simp [mayE, a1, a2, a3, a4', a5', a6, a7, a8, b1, b3, d1, d2, d3, d4]]
                              exact may_way13 src dst off cc cs sum typ x seq ack serv code i0 i1 i2 n nb w n0 n28 c1 c4 a1 a2 a3 a4 a5 a6 a7 a8 (by simpa using b1) b3 (by simpa using d1) (by simpa using d2) (by simpa using d3) d4
                            · rcases d5 : (i2 == 0) with _ | _
                              · rw [show mayE n src dst off cc cs sum typ serv code i0 i1 i2 nb = false from by simp [mayE, a1, a2, a3, a4', a5', a6, a7, a8, b1, b3, d1, d2, d3, d4, d5]]
                                exact may_way14 src dst off cc cs sum typ x seq ack serv code i0 i1 i2 n nb w n0 n28 c1 c4 a1 a2 a3 a4 a5 a6 a7 a8 (by simpa using b1) b3 (by simpa using d1) (by simpa using d2) (by simpa using d3) (by simpa using d4) d5
                              · rw [show mayE n src dst off cc cs sum typ serv code i0 i1 i2 nb = nb from by simp [mayE, a1, a2, a3, a4', a5', a6, a7, a8, b1, b3, d1, d2, d3, d4, d5]]
                                exact may_way15 src dst off cc cs sum typ x seq ack serv code i0 i1 i2 n nb w n0 n28 c1 c4 a1 a2 a3 a4 a5 a6 a7 a8 (by simpa using b1) b3 (by simpa using d1) (by simpa using d2) (by simpa using d3) (by simpa using d4) (by simpa using d5)
                      · rw [show mayE n src dst off cc cs sum typ serv code i0 i1 i2 nb = nb from by simp [mayE, a1, a2, a3, a4', a5', a6, a7, a8, b1, b3, d1]]
                        exact may_way10 src dst off cc cs sum typ x seq ack serv code i0 i1 i2 n nb w n0 n28 c1 c4 a1 a2 a3 a4 a5 a6 a7 a8 (by simpa using b1) b3 (by simpa using d1)
          · have a5' : ¬ off ≤ 255 := by simpa using a5
            rw [show mayE n src dst off cc cs sum typ serv code i0 i1 i2 nb = false from by simp [mayE, a1, a2, a3, a4', a5']]
            exact may_way4 src dst off cc cs sum typ x seq ack serv code i0 i1 i2 n nb w n0 n28 c1 c4 a1 a2 a3 a4 a5
        · have a4' : ¬ n / 4 ≤ off := by simpa using a4
          rw [show mayE n src dst off cc cs sum typ serv code i0 i1 i2 nb = false from by simp [mayE, a1, a2, a3, a4']]
          exact may_way3 src dst off cc cs sum typ x seq ack serv code i0 i1 i2 n nb w n0 n28 c1 c4 a1 a2 a3 a4
  · rw [show mayE n src dst off cc cs sum typ serv code i0 i1 i2 nb = false from by simp [mayE, a1]]
    exact may_way0 src dst off cc cs sum typ x seq ack serv code i0 i1 i2 n nb w n0 n28 c1 c4 a1
end Go.Proofs.YtjlnbahanghhcaaGreatDoor

/- The contract of seq.Of: a number's rest by 2^48. -/
namespace Go.Proofs.YtjlnbahanghhcaaGreatDoor
open Go.RowKit
set_option linter.unusedVariables false

theorem and48 (a : Int) (h0 : 0 ≤ a) (h1 : a < 18446744073709551616) : bits .and .u64 a 281474976710655 = a % 281474976710656 := by
  obtain ⟨n, rfl⟩ := Int.eq_ofNat_of_zero_le h0
  have h := u64_and_nat n 281474976710655 (by omega) (by decide)
  rw [show (281474976710655 : Int) = ((281474976710655 : Nat) : Int) from rfl, h]
  have := Nat.and_two_pow_sub_one_eq_mod n 48
  rw [show (281474976710655 : Nat) = 2 ^ 48 - 1 from rfl, this]; rfl
theorem seq_Of (a : Int) (h0 : 0 ≤ a) (h1 : a < 18446744073709551616) (w : World) : Calls Tryz.prog 74 #[.int .u64 a] w fun e w' => e = .returned (.int .u64 (a % 281474976710656)) ∧ w = w' := by
  have h := and48 a h0 h1
  go_enter Tryz.func74, Tryz.ntmps74
  go_wp2
  go_ret
  exact ⟨rfl, rfl⟩
end Go.Proofs.YtjlnbahanghhcaaGreatDoor
