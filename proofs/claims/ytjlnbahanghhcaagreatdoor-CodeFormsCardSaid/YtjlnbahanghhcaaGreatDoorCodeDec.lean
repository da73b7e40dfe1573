/- code.byNumber, code.Service at a decimal numeral. -/
import Derived.Test.YtjlnbahanghhcaaGreatDoorPureCode
import Derived.Test.YtjlnbahanghhcaaGreatDoorBaseB
import Derived.Lib.IndexLaws
import Derived.Deep.DeepCutAuto
import Derived.Deep.CutBlock
namespace Go.Proofs.YtjlnbahanghhcaaGreatDoor
open Go.RowKit
set_option linter.unusedVariables false
set_option linter.unusedSimpArgs false
theorem no_byte (l : List UInt8) (c : UInt8) (h : ∀ b, b ∈ l → b ≠ c) : decide (0 ≤ Lib.indexByte l c) = false := by
  have : Lib.indexByte l c = -1 := by
    induction l with
    | nil => rfl
    | cons b r ih =>
      have e := ih (fun x hx => h x (List.mem_cons_of_mem _ hx))
      simp only [Lib.indexByte, e]
      rw [if_neg (by have := h b (List.mem_cons_self ..); simpa using this)]
      rfl
  rw [this]; rfl
/-- what a decimal numeral is, seen byte by byte. -/
structure IsDec (c : Nat) (s : ByteArray) : Prop where
  pos : 1 ≤ s.size
  le : s.size ≤ 10
  dig : ∀ j (h : j < s.size), 48 ≤ s[j].toNat ∧ s[j].toNat ≤ 57
  one : s.size = 1 ∨ s[0]!.toNat ≠ 48
  parse : Lib.parseUintB 64 s.data.toList = .ok c
  no95 : decide (0 ≤ Lib.indexByte s.data.toList 95) = false
  no120 : Lib.hasPrefix s.data.toList [120] = false
  no88 : Lib.hasPrefix s.data.toList [88] = false
theorem dec_is (c : Nat) (hc : c < 4294967296) : IsDec c ⟨(Lib.decDigits c).toArray⟩ := by
  have hd := Cd.dec_digits c
  have hz : (⟨(Lib.decDigits c).toArray⟩ : ByteArray).size = (Lib.decDigits c).length := rfl
  have hne : ∀ (x : UInt8), (x.toNat < 48 ∨ 57 < x.toNat) → ∀ b, b ∈ Lib.decDigits c → b ≠ x := fun x hx b hb e => by
    subst e; have := hd b hb; omega
  have hpre : ∀ (x : UInt8), (x.toNat < 48 ∨ 57 < x.toNat) → Lib.hasPrefix (Lib.decDigits c) [x] = false := fun x hx => by
    cases hl : Lib.decDigits c with
    | nil => rfl
    | cons b r =>
      have := hne x hx b (by rw [hl]; exact List.mem_cons_self ..)
      unfold Lib.hasPrefix
      simp only [List.isPrefixOf]
      rw [beq_eq_false_iff_ne.2 (fun e => this e.symm)]; rfl
  refine ⟨by rw [hz]; exact List.length_pos_iff.2 (Cd.dec_ne c), by rw [hz]; exact Cd.dec_len 9 c (by omega), fun j h => hd _ (List.getElem_mem (by rw [← hz]; exact h)), ?_, Cd.dec_parse c hc, no_byte _ _ (hne 95 (by decide)), hpre 120 (by decide), hpre 88 (by decide)⟩
  by_cases h10 : c < 10
  · left; rw [hz, Cd.dec_small c h10]; rfl
  · right
    obtain ⟨b, r, e, hb⟩ := Cd.dec_head c (by omega)
    rw [e]
    exact hb
def numB (c : Nat) : Bool := decide (c ≤ 4294967294)
set_option maxHeartbeats 4000000 in
set_option maxRecDepth 100000 in
theorem byNumber_dec (c : Nat) (hc : c < 4294967296) (s : ByteArray) (hs : IsDec c s) (w : World) : Calls Tryz.prog 64 #[.string s, .int .i64 10, .int .i64 10] w fun e w' => e = .returned (.tuple #[.int .u32 (if c ≤ 4294967294 then c else 0 : Nat), .bool (decide (c ≤ 4294967294))]) ∧ Below w.heap.size w w' := by
  obtain ⟨h1, h2, h3, h4, h5, h6, h7, h8⟩ := hs
  have c1 := fun W => Tryz.strings_Contains_one s 95 W
  rw [h6] at c1
  have c2 := fun W => Tryz.strconv_ParseUint_10_at64_ok s (by omega) c h5 W
  have C1 := hide (fun W => (c1 W).mono fun _ _ h => And.intro h.1 h.2.symm); have C2 := hide c2
  have g1 : ¬ ((s.size : Int) < 1) := by omega
  have g2 : ¬ ((10 : Int) < (s.size : Int)) := by omega
  have g0 : (0 : Int) < (s.size : Int) := by omega
  have h30 := h3 0 (by omega)
  have e43 : (((s[0]'(by omega)).toNat : Int) == 43) = false := beq_eq_false_iff_ne.2 (by omega)
  have e45 : (((s[0]'(by omega)).toNat : Int) == 45) = false := beq_eq_false_iff_ne.2 (by omega)
  have hpost : ∀ b, decide (c ≤ 4294967294) = b → (if c ≤ 4294967294 then c else 0 : Nat) = if b = true then c else 0 := fun b h => by subst h; simp
  have HPO := hide hpost
  clear c1 c2 h3 h4 h5 h6 h7 h8 hpost
  go_enter Tryz.func64, Tryz.ntmps64
  go_upto_region 3 with (first | (go_at_call 95; refine (C1.out _).mono ?_; rintro e w1 ⟨rfl, rfl⟩))
  go_upto_region 4 with (go_at_call 96; refine (C2.out _).mono ?_; rintro e w2 ⟨rfl, hw⟩)
  have hb : Below w.heap.size w w2 := by
    rcases hw with rfl | rfl
    · exact Below.refl _ _
    · exact ⟨rfl, rfl, rfl, by rw [Lib.bytesWorld_size]; omega, fun k hk => Lib.bytesWorld_at_old _ _ _ k hk⟩
  have HB := hide hb
  clear hb hw C1 C2 e43 e45 g1 g2 g0 h30
  by_cases hl : c ≤ 4294967294
  · have hlt : ¬ ((4294967294 : Int) < (c : Int)) := by omega
    have hcc : (c : Int) ≤ 4294967295 := by omega
    as_aux_lemma =>
      go_wp2
      go_ret2
      exact ⟨rfl, HB.out⟩
  · have hlt : (4294967294 : Int) < (c : Int) := by omega
    as_aux_lemma =>
      go_wp2
      go_ret2
      exact ⟨rfl, HB.out⟩
end Go.Proofs.YtjlnbahanghhcaaGreatDoor
