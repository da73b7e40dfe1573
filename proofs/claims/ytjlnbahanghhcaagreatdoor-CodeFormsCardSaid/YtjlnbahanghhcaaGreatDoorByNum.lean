/- code.byNumber at whatever text. -/
import Derived.Test.YtjlnbahanghhcaaGreatDoorNumb
namespace Go.Proofs.YtjlnbahanghhcaaGreatDoor
open Go.RowKit
set_option linter.unusedVariables false
set_option linter.unusedSimpArgs false
theorem index_mem : ∀ (l : List UInt8) (c : UInt8), decide (0 ≤ Lib.indexByte l c) = true → c ∈ l
  | [], c, h => by simp [Lib.indexByte] at h
  | b :: r, c, h => by
    by_cases e : b = c
    · subst e; exact List.mem_cons_self ..
    · refine List.mem_cons_of_mem _ (index_mem r c ?_)
      replace h := of_decide_eq_true h
      simp only [Lib.indexByte] at h
      rw [if_neg (by simpa using e)] at h
      by_cases hm : (Lib.indexByte r c == -1) = true
      · rw [if_pos hm] at h; exact absurd h (by decide)
      · have := Lib.indexByte_ge r c
        have h1 : ¬ Lib.indexByte r c = -1 := fun e => hm (by rw [e]; rfl)
        exact decide_eq_true (by omega)
theorem first_mem (s : ByteArray) (h : 0 < s.size) : s[0] ∈ s.data.toList := List.getElem_mem (by rw [size_bytes]; exact h)
def Parses (b : Nat) (s : ByteArray) (w : World) : Prop := Calls Tryz.prog 96 #[.string s, .int .i64 b, .int .i64 64] w fun e w' => (∃ u v : Value, e = .returned (.tuple #[u, v]) ∧ match digP b 0 s.data.toList with | some n => u = .int .u64 (n : Nat) ∧ v = .nilIface | none => u = .int .u64 0 ∧ ∃ N, v = .iface 150 (.pointer (some ⟨N, 0, none⟩))) ∧ Below w.heap.size w w'
set_option maxHeartbeats 4000000 in
set_option maxRecDepth 100000 in
theorem byNumber_gen (b most : Nat) (hb : b ≤ 16) (hm : most ≤ 10) (s : ByteArray) (hs9 : s.size ≤ 1000000) (w : World) (HPU : 1 ≤ s.size → s.size ≤ most → Parses b s w) :
    Calls Tryz.prog 64 #[.string s, .int .i64 b, .int .i64 most] w fun e w' => e = .returned (.tuple #[.int .u32 ((numberOf b most s.data.toList).1 : Nat), .bool (numberOf b most s.data.toList).2]) ∧ Below w.heap.size w w' := by
  have hl := size_bytes s
  have c1 := fun W => Tryz.strings_Contains_one s 95 W
  have bad : ∀ x : UInt8, hexD x.toNat = 99 → x ∈ s.data.toList → numberOf b most s.data.toList = (0, false) := fun x hx h => numberOf_none _ _ _ (digP_bad b hb x hx _ _ h)
  have bad95 : decide (0 ≤ Lib.indexByte s.data.toList 95) = true → numberOf b most s.data.toList = (0, false) := fun h => bad 95 (by decide) (index_mem _ _ h)
  by_cases h1 : s.size < 1
  · have hn := numberOf_len b most s.data.toList (by omega)
    rw [hn]
    have g : (s.size : Int) < 1 := by omega
    clear bad bad95 c1 hn HPU hl
    go_enter Tryz.func64, Tryz.ntmps64
    go_wp2
    go_ret2
    exact ⟨rfl, Below.refl _ _⟩
  by_cases h2 : most < s.size
  · have hn := numberOf_len b most s.data.toList (by omega)
    rw [hn]
    have g : ¬ ((s.size : Int) < 1) := by omega
    have g2 : (most : Int) < (s.size : Int) := by omega
    clear bad bad95 c1 hn HPU hl
    go_enter Tryz.func64, Tryz.ntmps64
    go_wp2
    go_ret2
    exact ⟨rfl, Below.refl _ _⟩
  have g : ¬ ((s.size : Int) < 1) := by omega
  have g2 : ¬ ((most : Int) < (s.size : Int)) := by omega
  have g0 : (0 : Int) < (s.size : Int) := by omega
  have z0 : 0 < s.size := by omega
  have hmem := first_mem s z0
  by_cases h43 : (s[0]'z0).toNat = 43
  · rw [bad _ (by rw [h43]; decide) hmem]
    have e : ((((s[0]'z0).toNat : Nat) : Int) == 43) = true := by rw [h43]; rfl
    clear bad bad95 c1 HPU hl
    go_enter Tryz.func64, Tryz.ntmps64
    go_wp2
    go_ret2
    exact ⟨rfl, Below.refl _ _⟩
  have e43 : ((((s[0]'z0).toNat : Nat) : Int) == 43) = false := beq_eq_false_iff_ne.2 (by omega)
  by_cases h45 : (s[0]'z0).toNat = 45
  · rw [bad _ (by rw [h45]; decide) hmem]
    have e : ((((s[0]'z0).toNat : Nat) : Int) == 45) = true := by rw [h45]; rfl
    clear bad bad95 c1 HPU hl
    go_enter Tryz.func64, Tryz.ntmps64
    go_wp2
    go_ret2
    exact ⟨rfl, Below.refl _ _⟩
  have e45 : ((((s[0]'z0).toNat : Nat) : Int) == 45) = false := beq_eq_false_iff_ne.2 (by omega)
  have C1 := hide (fun W => (c1 W).mono fun _ _ h => And.intro h.1 h.2.symm)
  have HP := hide (HPU (by omega) (by omega))
  clear c1 bad h43 h45 hmem HPU
  cases h95 : decide (0 ≤ Lib.indexByte s.data.toList 95) with
  | true =>
    rw [bad95 h95]
    rw [h95] at C1
    clear bad95 h95 hl HP
    go_enter Tryz.func64, Tryz.ntmps64
    go_wp2_with (go_at_call 95; refine (C1.out _).mono ?_; rintro e w1 ⟨rfl, rfl⟩)
    go_ret2
    exact ⟨rfl, Below.refl _ _⟩
  | false =>
    rw [h95] at C1
    have hd : numberOf b most s.data.toList = (match digP b 0 s.data.toList with | some u => if u ≤ 4294967294 then (u, true) else (0, false) | none => (0, false)) := by
      exact if_pos ⟨by omega, by omega⟩
    rw [hd]
    unfold Parses at HP
    clear bad95 h95 hl hd
    cases hn : digP b 0 s.data.toList with
    | none =>
      rw [hn] at HP
      simp only at HP ⊢
      clear hn
      go_enter Tryz.func64, Tryz.ntmps64
      go_wp2_with (first | (go_at_call 95; refine (C1.out _).mono ?_; rintro e w1 ⟨rfl, rfl⟩) | (go_at_call 96; refine HP.out.mono ?_; rintro e w2 ⟨⟨_, _, rfl, rfl, M, rfl⟩, hb2⟩))
      go_ret2
      exact ⟨rfl, hb2⟩
    | some n =>
      rw [hn] at HP
      simp only at HP ⊢
      clear hn
      by_cases hle : n ≤ 4294967294
      · rw [if_pos hle]
        have hlt : ¬ ((4294967294 : Int) < (n : Int)) := by omega
        have hcc : (n : Int) ≤ 4294967295 := by omega
        go_enter Tryz.func64, Tryz.ntmps64
        go_wp2_with (first | (go_at_call 95; refine (C1.out _).mono ?_; rintro e w1 ⟨rfl, rfl⟩) | (go_at_call 96; refine HP.out.mono ?_; rintro e w2 ⟨⟨_, _, rfl, rfl, rfl⟩, hb2⟩))
        go_ret2
        exact ⟨rfl, hb2⟩
      · rw [if_neg hle]
        have hlt : (4294967294 : Int) < (n : Int) := by omega
        go_enter Tryz.func64, Tryz.ntmps64
        go_wp2_with (first | (go_at_call 95; refine (C1.out _).mono ?_; rintro e w1 ⟨rfl, rfl⟩) | (go_at_call 96; refine HP.out.mono ?_; rintro e w2 ⟨⟨_, _, rfl, rfl, rfl⟩, hb2⟩))
        go_ret2
        exact ⟨rfl, hb2⟩
end Go.Proofs.YtjlnbahanghhcaaGreatDoor
