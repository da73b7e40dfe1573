/- code.Service at a decimal numeral. -/
import Derived.Test.YtjlnbahanghhcaaGreatDoorCodeDec
namespace Go.Proofs.YtjlnbahanghhcaaGreatDoor
open Go.RowKit
set_option linter.unusedVariables false
set_option linter.unusedSimpArgs false
set_option maxHeartbeats 4000000 in
set_option maxRecDepth 100000 in
theorem code_Service_dec (c : Nat) (hc : c < 4294967296) (s : ByteArray) (hs : IsDec c s) (w : World) : Calls Tryz.prog 30 #[.string (⟨#[83, 67, 61]⟩ ++ s)] w fun e w' => e = .returned (.tuple #[.int .u32 (if c ≤ 4294967294 then c else 0 : Nat), .bool (decide (c ≤ 4294967294))]) ∧ Below w.heap.size w w' := by
  have hl : (⟨#[83, 67, 61]⟩ ++ s : ByteArray).data.toList = 83 :: 67 :: 61 :: s.data.toList := by
    rw [ByteArray.data_append, Array.toList_append]; rfl
  have hback : (⟨s.data.toList.toArray⟩ : ByteArray) = s := ByteArray.ext (by rw [Array.toArray_toList])
  have N := hide (fun W => byNumber_dec c hc s hs W)
  obtain ⟨h1, h2, h3, h4, h5, h6, h7, h8⟩ := hs
  have c1 := fun W => Tryz.strings_CutPrefix (⟨#[83, 67, 61]⟩ ++ s) ⟨#[83, 67, 58]⟩ W
  have c2 := fun W => Tryz.strings_CutPrefix (⟨#[83, 67, 61]⟩ ++ s) ⟨#[83, 67, 61]⟩ W
  have c3 := fun W => Tryz.strings_HasPrefix s ⟨#[120]⟩ W
  have c4 := fun W => Tryz.strings_HasPrefix s ⟨#[88]⟩ W
  rw [show Lib.hasPrefix s.data.toList (⟨#[120]⟩ : ByteArray).data.toList = false from h7] at c3
  rw [show Lib.hasPrefix s.data.toList (⟨#[88]⟩ : ByteArray).data.toList = false from h8] at c4
  rw [hl, show Lib.hasPrefix (83 :: 67 :: 61 :: s.data.toList) (⟨#[83, 67, 58]⟩ : ByteArray).data.toList = false from rfl] at c1
  rw [hl, show Lib.hasPrefix (83 :: 67 :: 61 :: s.data.toList) (⟨#[83, 67, 61]⟩ : ByteArray).data.toList = true from by simp [Lib.hasPrefix, List.isPrefixOf], show Lib.trimPrefix (83 :: 67 :: 61 :: s.data.toList) (⟨#[83, 67, 61]⟩ : ByteArray).data.toList = s.data.toList from by simp [Lib.trimPrefix, Lib.hasPrefix, List.isPrefixOf], hback] at c2
  have C1 := hide (fun W => (c1 W).mono fun _ _ h => And.intro h.1 h.2.symm); have C2 := hide (fun W => (c2 W).mono fun _ _ h => And.intro h.1 h.2.symm); have C3 := hide (fun W => (c3 W).mono fun _ _ h => And.intro h.1 h.2.symm); have C4 := hide (fun W => (c4 W).mono fun _ _ h => And.intro h.1 h.2.symm)
  have h00 : s.size = 1 ∨ ((((s[0]'(by omega)).toNat : Nat) : Int) == 48) = false := by
    rcases h4 with h | h
    · exact .inl h
    · refine .inr (beq_eq_false_iff_ne.2 (fun e => h ?_))
      rw [getElem!_pos s 0 (by omega)]; omega
  clear c1 c2 c3 c4 hl hback h3 h4 h5 h6 h7 h8
  generalize (⟨#[83, 67, 61]⟩ ++ s : ByteArray) = z at *
  generalize (if c ≤ 4294967294 then c else 0) = R at *
  generalize decide (c ≤ 4294967294) = K at *
  go_enter Tryz.func30, Tryz.ntmps30
  go_upto_region 10 with (first | (go_at_call 62; (refine (C1.out _).mono ?_); rintro e w' ⟨rfl, rfl⟩) | (go_at_call 62; (refine (C2.out _).mono ?_); rintro e w' ⟨rfl, rfl⟩) | (go_at_call 63; (refine (C3.out _).mono ?_); rintro e w' ⟨rfl, rfl⟩) | (go_at_call 63; (refine (C4.out _).mono ?_); rintro e w' ⟨rfl, rfl⟩))
  clear C1 C2 C3 C4
  have hall : s.size = 1 ∨ (1 < s.size ∧ ((((s[0]'(by omega)).toNat : Nat) : Int) == 48) = false) := by
    rcases h00 with h | h
    · exact .inl h
    · by_cases h' : s.size = 1
      · exact .inl h'
      · exact .inr ⟨by omega, h⟩
  clear h00
  have g0 : (0 : Int) < (s.size : Int) := by omega
  rcases hall with h00 | ⟨h01, h00⟩
  · have g : ¬ ((1 : Int) < (s.size : Int)) := by omega
    clear h00
    go_upto_region 12 with fail
    go_wp2_with (go_at_call 64; refine (N.out _).mono ?_; rintro e w2 ⟨rfl, hb⟩)
    go_ret2
    exact ⟨rfl, hb⟩
  · have g : (1 : Int) < (s.size : Int) := by omega
    go_upto_region 12 with fail
    go_wp2_with (go_at_call 64; refine (N.out _).mono ?_; rintro e w2 ⟨rfl, hb⟩)
    go_ret2
    exact ⟨rfl, hb⟩
end Go.Proofs.YtjlnbahanghhcaaGreatDoor
