/- Texts by runes, as plain lists: what a text's runes are, that runes that may be are read back as they were written. Conditions: none beyond each theorem's own. -/
import Derived.Lib.MapLaws
import Derived.Lib.RuneBytes
namespace Go.Proofs.YtjlnbahanghhcaaGreatDoor.Ru
open Go.Lib
set_option linter.unusedVariables false

def good (r : Nat) : Prop := r < 55296 ∨ (57343 < r ∧ r ≤ 1114111)
theorem dec_good (l : List UInt8) : good (decodeL l).1 := by
  rw [decodeL_N]
  have k0 := (l.getD 0 0).toNat_lt
  unfold good
  rcases decodeN_shape l.length (l.getD 0 0).toNat (l.getD 1 0).toNat (l.getD 2 0).toNat (l.getD 3 0).toNat with ⟨c, e⟩ | ⟨c1, c2, c3, cv, e⟩ | ⟨c1, c2, c3, c4, cv, cs, e⟩ | ⟨c1, c2, c3, c4, c5, cv, cw, e⟩ | e
  all_goals rw [e]; dsimp only; omega
theorem enc_len (r : Int) : (encodeRune r).length = (encodeRuneZ r).length := by unfold encodeRune; rw [List.length_map]
theorem dec_enc (r : Nat) (h : good r) (t : List UInt8) : decodeL (encodeRune (r : Int) ++ t) = (r, (encodeRune (r : Int)).length) := by
  have hb := fun (x : Int) (h0 : 0 ≤ x) (h1 : x < 256) => (show (x.toNat.toUInt8).toNat = x.toNat by simp; omega)
  unfold good at h
  rw [decodeL_N, enc_len]
  unfold encodeRune
  by_cases c1 : r ≤ 127
  · rw [encodeRuneZ_one (by omega) (by omega)]
    simp only [List.map_cons, List.map_nil, List.cons_append, List.nil_append, List.getD_cons_zero, List.length_cons, List.length_nil]
    rw [decodeN_ascii _ _ _ _ _ (by rw [hb _ (by omega) (by omega)]; omega), hb _ (by omega) (by omega)]
    simp
  by_cases c2 : r ≤ 2047
  · rw [encodeRuneZ_two (by omega) (by omega)]
    simp only [List.map_cons, List.map_nil, List.cons_append, List.nil_append, List.getD_cons_zero, List.getD_cons_succ, List.length_cons, List.length_nil]
    rw [hb _ (by omega) (by omega), hb _ (by omega) (by omega)]
    unfold decodeN
    rw [if_neg (by omega), if_pos (by omega), if_pos (by omega)]
    refine Prod.ext ?_ ?_ <;> dsimp only
    omega
  by_cases c3 : r ≤ 65535
  · rw [encodeRuneZ_three (by omega)]
    simp only [List.map_cons, List.map_nil, List.cons_append, List.nil_append, List.getD_cons_zero, List.getD_cons_succ, List.length_cons, List.length_nil]
    rw [hb _ (by omega) (by omega), hb _ (by omega) (by omega), hb _ (by omega) (by omega)]
    unfold decodeN
    rw [if_neg (by omega), if_neg (by omega), if_pos (by omega), if_pos (by omega)]
    refine Prod.ext ?_ ?_ <;> dsimp only
    omega
  · rw [encodeRuneZ_four (by omega) (by omega)]
    simp only [List.map_cons, List.map_nil, List.cons_append, List.nil_append, List.getD_cons_zero, List.getD_cons_succ, List.length_cons, List.length_nil]
    rw [hb _ (by omega) (by omega), hb _ (by omega) (by omega), hb _ (by omega) (by omega), hb _ (by omega) (by omega)]
    unfold decodeN
    rw [if_neg (by omega), if_neg (by omega), if_neg (by omega), if_pos (by omega), if_pos (by omega)]
    refine Prod.ext ?_ ?_ <;> dsimp only
    omega

/-- A text's runes. -/
def runesF : Nat → List UInt8 → List Nat
  | 0, _ => []
  | f + 1, l => match l with | [] => [] | x :: t => (decodeL (x :: t)).1 :: runesF f ((x :: t).drop (decodeL (x :: t)).2)
def runes (l : List UInt8) : List Nat := runesF l.length l
theorem runesF_more : ∀ (f g : Nat) (l : List UInt8), l.length ≤ f → l.length ≤ g → runesF f l = runesF g l
  | 0, g, l, h, _ => by
    have : l = [] := List.eq_nil_of_length_eq_zero (by omega)
    subst this
    cases g <;> rfl
  | f + 1, 0, l, _, h => by
    have : l = [] := List.eq_nil_of_length_eq_zero (by omega)
    subst this
    rfl
  | f + 1, g + 1, [], _, _ => rfl
  | f + 1, g + 1, x :: t, h, h' => by
    unfold runesF
    dsimp only
    have w := decodeL_width (x :: t)
    have e : ((x :: t).drop (decodeL (x :: t)).2).length ≤ t.length := by rw [List.length_drop, List.length_cons]; omega
    rw [List.length_cons] at h h'
    rw [runesF_more f g _ (by omega) (by omega)]
theorem runes_nil : runes [] = [] := rfl
theorem runes_step (l : List UInt8) (h : l ≠ []) : runes l = (decodeL l).1 :: runes (l.drop (decodeL l).2) := by
  cases l with
  | nil => exact absurd rfl h
  | cons x t =>
    unfold runes
    rw [List.length_cons]
    conv => lhs; unfold runesF
    dsimp only
    have w := decodeL_width (x :: t)
    have e : ((x :: t).drop (decodeL (x :: t)).2).length ≤ t.length := by rw [List.length_drop, List.length_cons]; omega
    rw [runesF_more t.length _ _ e (Nat.le_refl _)]
theorem runes_le : ∀ (n : Nat) (l : List UInt8), l.length ≤ n → (runes l).length ≤ l.length
  | 0, l, h => by
    have : l = [] := List.eq_nil_of_length_eq_zero (by omega)
    subst this; exact Nat.le_refl _
  | n + 1, l, h => by
    by_cases c : l = []
    · subst c; exact Nat.le_refl _
    · rw [runes_step l c, List.length_cons]
      have w := decodeL_width l
      have := List.length_pos_iff.2 c
      have e : (l.drop (decodeL l).2).length = l.length - (decodeL l).2 := List.length_drop
      have := runes_le n (l.drop (decodeL l).2) (by omega)
      omega
theorem runes_good : ∀ (n : Nat) (l : List UInt8), l.length ≤ n → ∀ r ∈ runes l, good r
  | 0, l, h => by
    have : l = [] := List.eq_nil_of_length_eq_zero (by omega)
    subst this; intro r hr; cases hr
  | n + 1, l, h => by
    by_cases c : l = []
    · subst c; intro r hr; cases hr
    · rw [runes_step l c]
      have w := decodeL_width l
      have := List.length_pos_iff.2 c
      have e : (l.drop (decodeL l).2).length = l.length - (decodeL l).2 := List.length_drop
      intro r hr
      rcases List.mem_cons.1 hr with rfl | hr
      · exact dec_good l
      · exact runes_good n (l.drop (decodeL l).2) (by omega) r hr

/-- Runes as bytes. -/
def encs (rs : List Nat) : List UInt8 := rs.flatMap fun (r : Nat) => encodeRune (r : Int)
theorem encs_cons (r : Nat) (rs : List Nat) : encs (r :: rs) = encodeRune (r : Int) ++ encs rs := rfl
theorem encs_le : ∀ rs : List Nat, (encs rs).length ≤ 4 * rs.length
  | [] => Nat.le_refl _
  | r :: rs => by
    rw [encs_cons, List.length_append, List.length_cons, enc_len]
    have := (encodeRuneZ_length (r : Int)).2
    have := encs_le rs
    omega
theorem runes_encs : ∀ rs : List Nat, (∀ r ∈ rs, good r) → runes (encs rs) = rs
  | [], _ => rfl
  | r :: rs, h => by
    have hd := dec_enc r (h r List.mem_cons_self) (encs rs)
    have l1 : 1 ≤ (encodeRune (r : Int)).length := by rw [enc_len]; exact (encodeRuneZ_length (r : Int)).1
    have ne : encs (r :: rs) ≠ [] := by
      intro c
      have := congrArg List.length c
      rw [encs_cons, List.length_append, List.length_nil] at this
      omega
    rw [runes_step _ ne, encs_cons, hd]
    dsimp only
    rw [List.drop_left' rfl, runes_encs rs (fun x hx => h x (List.mem_cons_of_mem _ hx))]

/-- What a person may read. -/
def clean (r : Nat) : Nat := if r < 32 ∨ r = 127 then 32 else r
theorem clean_good (r : Nat) (h : good r) : good (clean r) := by
  unfold clean good at *
  split <;> omega
theorem clean_twice (r : Nat) : clean (clean r) = clean r := by
  by_cases c : r < 32 ∨ r = 127
  · rw [show clean r = 32 from if_pos c]; rfl
  · rw [show clean r = r from if_neg c, show clean r = r from if_neg c]
theorem clean_ok (r : Nat) : ¬ (clean r < 32 ∨ clean r = 127) := by
  unfold clean
  split <;> omega
/-- A reason: of so many runes at the most, cleaned. -/
def reasonL (l : List UInt8) (m : Nat) : List Nat := ((runes l).take m).map clean
def reason (l : List UInt8) (m : Nat) : List UInt8 := encs (reasonL l m)
theorem reasonL_good (l : List UInt8) (m : Nat) : ∀ r ∈ reasonL l m, good r := by
  intro r hr
  obtain ⟨x, hx, rfl⟩ := List.mem_map.1 hr
  exact clean_good x (runes_good l.length l (Nat.le_refl _) x (List.mem_of_mem_take hx))
theorem runes_reason (l : List UInt8) (m : Nat) : runes (reason l m) = reasonL l m := runes_encs _ (reasonL_good l m)
theorem reasonL_len (l : List UInt8) (m : Nat) : (reasonL l m).length = min m (runes l).length := by
  unfold reasonL
  rw [List.length_map, List.length_take]
theorem reason_twice (l : List UInt8) (m k : Nat) (h : (runes l).length ≤ k) : reason (reason l m) k = reason l m := by
  show encs (((runes (reason l m)).take k).map clean) = encs (reasonL l m)
  rw [runes_reason l m, List.take_of_length_le (by rw [reasonL_len]; omega)]
  congr 1
  unfold reasonL
  rw [List.map_map]
  refine List.map_congr_left (fun x _ => clean_twice x)
theorem reason_end (l : List UInt8) (m : Nat) (h : l = [] ∨ m = 0) : reason l m = [] := by
  rcases h with h | h
  · subst h; unfold reason reasonL; rw [runes_nil]; simp [encs]
  · subst h; unfold reason reasonL; rw [List.take_zero]; rfl
theorem reason_step (l : List UInt8) (m : Nat) (h : l ≠ []) : reason l (m + 1) = encodeRune ((clean (decodeL l).1 : Nat) : Int) ++ reason (l.drop (decodeL l).2) m := by
  unfold reason reasonL
  rw [runes_step l h, List.take_succ_cons, List.map_cons, encs_cons]

/-- How many are letters, digits, others. -/
def isL (r : Nat) : Bool := decide ((65 ≤ r ∧ r ≤ 90) ∨ (97 ≤ r ∧ r ≤ 122))
def isD (r : Nat) : Bool := decide (48 ≤ r ∧ r ≤ 57)
def nL (l : List UInt8) : Nat := (runes l).countP isL
def nD (l : List UInt8) : Nat := (runes l).countP fun r => !isL r && isD r
def nO (l : List UInt8) : Nat := (runes l).countP fun r => !isL r && !isD r
theorem counts (l : List UInt8) : nL l + nD l + nO l = (runes l).length := by
  unfold nL nD nO
  induction runes l with
  | nil => rfl
  | cons x t ih =>
    rw [List.countP_cons, List.countP_cons, List.countP_cons, List.length_cons]
    cases isL x <;> cases isD x <;> simp <;> omega
theorem n_end : nL [] = 0 ∧ nD [] = 0 ∧ nO [] = 0 := ⟨rfl, rfl, rfl⟩
theorem n_step (l : List UInt8) (h : l ≠ []) :
    nL l = (if isL (decodeL l).1 then 1 else 0) + nL (l.drop (decodeL l).2) ∧
    nD l = (if !isL (decodeL l).1 && isD (decodeL l).1 then 1 else 0) + nD (l.drop (decodeL l).2) ∧
    nO l = (if !isL (decodeL l).1 && !isD (decodeL l).1 then 1 else 0) + nO (l.drop (decodeL l).2) := by
  unfold nL nD nO
  rw [runes_step l h, List.countP_cons, List.countP_cons, List.countP_cons]
  exact ⟨Nat.add_comm _ _, Nat.add_comm _ _, Nat.add_comm _ _⟩
theorem n_le (l : List UInt8) : nL l ≤ l.length ∧ nD l ≤ l.length ∧ nO l ≤ l.length := by
  have := counts l
  have := runes_le l.length l (Nat.le_refl _)
  omega
end Go.Proofs.YtjlnbahanghhcaaGreatDoor.Ru
