/- PktTypes: what is put, and what is got. -/
import Derived.Test.YtdhnfmhbdblkjaaDoorPackBack
import Derived.Test.YtdhnfmhbdblkjaaDoorMayIff
namespace Go.Proofs.YtdhnfmhbdblkjaaDoor.PkB
open Go.RowKit Go.Proofs.YtdhnfmhbdblkjaaDoor.PoptGet Go.Proofs.YtdhnfmhbdblkjaaDoor.PkF Go.Proofs.YtdhnfmhbdblkjaaDoorW.PrintWords
set_option linter.unusedVariables false

theorem size_fin : ∀ (T : Fin 10) (X : Bool), (X = true ∨ T.val = 2 ∨ T.val = 3 ∨ T.val = 4) → sizeB (T.val : Int) X ≠ 0 := by decide
theorem types_err (T : Nat) (hT : T ≤ 9) (X : Bool) (hX : X = true ∨ T = 2 ∨ T = 3 ∨ T = 4) (S A SV C I0 I1 I2 : Nat) (hS : (S : Int) < mostB X) (hA : (A : Int) < mostB X) (hA0 : A = 0 ∨ ackB T = true) (hSV0 : SV = 0 ∨ servB T = true) (hC : C ≤ 255)
    (h7 : T = 7 ∨ C = 0 ∧ I0 = 0 ∧ I1 = 0 ∧ I2 = 0) (d : ByteArray) (hd : d.size ≤ 50) : errP ⟨(7 : Nat), (9 : Nat), 0, (0 : Nat), (0 : Nat), 0, (T : Nat), X, (S : Nat), (A : Nat), (SV : Nat), (C : Nat), (I0 : Nat), (I1 : Nat), (I2 : Nat)⟩ [] d = 0 := by
  have hz := size_fin ⟨T, by omega⟩ X hX
  dsimp only at hz
  obtain ⟨z, hz4, hz7⟩ := size_four (T : Int) X
  have hm : mayB ⟨(7 : Nat), (9 : Nat), sizeB T X / 4, (0 : Nat), (0 : Nat), 0, (T : Nat), X, (S : Nat), (A : Nat), (SV : Nat), (C : Nat), (I0 : Nat), (I1 : Nat), (I2 : Nat)⟩ = true := by
    rw [may_iff']
    dsimp only
    refine ⟨hz, by omega, by omega, Int.le_refl _, by omega, by omega, by omega, by omega, ?_, by omega, by omega, hS, hA, ?_⟩
    · rcases hSV0 with h | h
      · exact .inl (by omega)
      · exact .inr h
    · rcases hA0 with h | h
      · exact .inl (by omega)
      · exact .inr h
  have hn : nOf ⟨(7 : Nat), (9 : Nat), 0, (0 : Nat), (0 : Nat), 0, (T : Nat), X, (S : Nat), (A : Nat), (SV : Nat), (C : Nat), (I0 : Nat), (I1 : Nat), (I2 : Nat)⟩ [] = 4 * z := by
    unfold nOf; dsimp only; rw [hz4]; rfl
  unfold errP putErr
  rw [hn]
  dsimp only
  rw [hm, if_neg (by decide), if_neg (by decide), if_neg (by omega), if_neg]
  have : covB (((4 * z : Nat) : Int) + d.size) ((4 * z : Nat) : Int) ((0 : Nat) : Int) = true := by
    unfold covB covN; rw [if_neg (by omega)]; exact decide_eq_true (by omega)
  rw [this]; decide
theorem types_both (T : Nat) (hT : T ≤ 9) (X : Bool) (hX : X = true ∨ T = 2 ∨ T = 3 ∨ T = 4) (S A SV C I0 I1 I2 : Nat) (hS : (S : Int) < mostB X) (hA : (A : Int) < mostB X) (hA0 : A = 0 ∨ ackB T = true) (hSV : SV < 4294967296) (hSV0 : SV = 0 ∨ servB T = true) (hC : C ≤ 255)
    (b0 : I0 ≤ 255) (b1 : I1 ≤ 255) (b2 : I2 ≤ 255) (h7 : T = 7 ∨ C = 0 ∧ I0 = 0 ∧ I1 = 0 ∧ I2 = 0) (d : ByteArray) (hd : d.size ≤ 50) :
    ∃ (b : ByteArray) (N Sm : Nat), 4 * (N : Int) = sizeB T X ∧
      (∀ W : World, Calls Tryd.prog 9 #[.agg #[.int .i64 7, .int .i64 9, .int .i64 0, .int .i64 0, .int .i64 0, .int .i64 0, .int .i64 T, .bool X, .int .u64 S, .int .u64 A, .int .u32 SV, .int .i64 C, .int .u8 I0, .int .u8 I1, .int .u8 I2, .slice none 0 0, .string d]] W fun e w' => e = .returned (.tuple #[.string b, .int .i64 0]) ∧ Below W.heap.size W w') ∧
      (∀ W : World, Calls Tryd.prog 10 #[.string b] W fun e w' => ∃ (A' : Option Addr) (c : Nat), e = .returned (.tuple #[.agg #[.int .i64 7, .int .i64 9, .int .i64 N, .int .i64 0, .int .i64 0, .int .i64 Sm, .int .i64 T, .bool X, .int .u64 S, .int .u64 A, .int .u32 SV, .int .i64 C, .int .u8 I0, .int .u8 I1, .int .u8 I2, .slice A' 0 c, .string d], .int .i64 0]) ∧ Below W.heap.size W w') := by
  have he := types_err T hT X hX S A SV C I0 I1 I2 hS hA hA0 hSV0 hC h7 d hd
  obtain ⟨N, Sm, hN, hN2, hS2, hsz, hg⟩ := pkt_back 6000 7 9 0 0 T 0 0 X S A SV C I0 I1 I2 [] d (Nat.le_refl _) hSV b0 b1 b2 he
  have hk : okH ⟨(7 : Nat), (9 : Nat), 0, (0 : Nat), (0 : Nat), 0, (T : Nat), X, (S : Nat), (A : Nat), (SV : Nat), (C : Nat), (I0 : Nat), (I1 : Nat), (I2 : Nat)⟩ = true := by
    unfold okH; exact decide_eq_true (by dsimp only; omega)
  have hp := fun W => pkt_Put_any ⟨(7 : Nat), (9 : Nat), 0, (0 : Nat), (0 : Nat), 0, (T : Nat), X, (S : Nat), (A : Nat), (SV : Nat), (C : Nat), (I0 : Nat), (I1 : Nat), (I2 : Nat)⟩ hk none 0 0 [] d W (CellsAt.nil _ _ _) (Nat.zero_le _) (by decide) (by decide) (by omega)
  have h2 : (putP ⟨(7 : Nat), (9 : Nat), 0, (0 : Nat), (0 : Nat), 0, (T : Nat), X, (S : Nat), (A : Nat), (SV : Nat), (C : Nat), (I0 : Nat), (I1 : Nat), (I2 : Nat)⟩ [] d).2 = 0 := by
    unfold putP; rw [if_pos he]
  rw [h2] at hp
  refine ⟨(putP ⟨(7 : Nat), (9 : Nat), 0, (0 : Nat), (0 : Nat), 0, (T : Nat), X, (S : Nat), (A : Nat), (SV : Nat), (C : Nat), (I0 : Nat), (I1 : Nat), (I2 : Nat)⟩ [] d).1, N, Sm, ?_, hp, fun W => ?_⟩
  · have : (nOf ⟨(7 : Nat), (9 : Nat), 0, (0 : Nat), (0 : Nat), 0, (T : Nat), X, (S : Nat), (A : Nat), (SV : Nat), (C : Nat), (I0 : Nat), (I1 : Nat), (I2 : Nat)⟩ []) = (sizeB T X).toNat := rfl
    have hN' : nOf ⟨(7 : Nat), (9 : Nat), 0, (0 : Nat), (0 : Nat), 0, (T : Nat), X, (S : Nat), (A : Nat), (SV : Nat), (C : Nat), (I0 : Nat), (I1 : Nat), (I2 : Nat)⟩ [] = 4 * N := hN
    have := (sizeB_le T X).1
    omega
  · have hg' : pkt_Get.f 6000 (putP ⟨(7 : Nat), (9 : Nat), 0, (0 : Nat), (0 : Nat), 0, (T : Nat), X, (S : Nat), (A : Nat), (SV : Nat), (C : Nat), (I0 : Nat), (I1 : Nat), (I2 : Nat)⟩ [] d).1 = some (((7 : Nat) : Int), ((9 : Nat) : Int), ((N : Nat) : Int), ((0 : Nat) : Int), ((0 : Nat) : Int), ((Sm : Nat) : Int), ((T : Nat) : Int), X, ((S : Nat) : Int), ((A : Nat) : Int), ((SV : Nat) : Int), ((C : Nat) : Int), ((I0 : Nat) : Int), ((I1 : Nat) : Int), ((I2 : Nat) : Int), [], d, 0) := hg
    refine (pkt_Get.calls 6000 _ _ _ _ _ _ _ _ _ _ _ _ _ _ _ _ _ _ _ W hg').mono fun e w' hq => ?_
    obtain ⟨v, h1, h2, h3⟩ := hq
    obtain ⟨A', c, rfl⟩ := Kd.R_slice h2
    exact ⟨A', c, h1, h3⟩
theorem types_int (T : Nat) (hT : T ≤ 9) (X : Bool) (hX : X = true ∨ T = 2 ∨ T = 3 ∨ T = 4) (S A SV C I0 I1 I2 : Int) (p0 : 0 ≤ S) (p1 : 0 ≤ A) (p2 : 0 ≤ SV) (p3 : 0 ≤ C) (p4 : 0 ≤ I0) (p5 : 0 ≤ I1) (p6 : 0 ≤ I2) (hS : S < mostB X) (hA : A < mostB X) (hA0 : A = 0 ∨ ackB T = true) (hSV : SV < 4294967296) (hSV0 : SV = 0 ∨ servB T = true) (hC : C ≤ 255)
    (b0 : I0 ≤ 255) (b1 : I1 ≤ 255) (b2 : I2 ≤ 255) (h7 : T = 7 ∨ C = 0 ∧ I0 = 0 ∧ I1 = 0 ∧ I2 = 0) (d : ByteArray) (hd : d.size ≤ 50) :
    ∃ (b : ByteArray) (N Sm : Int), 4 * N = sizeB T X ∧
      (∀ W : World, Calls Tryd.prog 9 #[.agg #[.int .i64 7, .int .i64 9, .int .i64 0, .int .i64 0, .int .i64 0, .int .i64 0, .int .i64 T, .bool X, .int .u64 S, .int .u64 A, .int .u32 SV, .int .i64 C, .int .u8 I0, .int .u8 I1, .int .u8 I2, .slice none 0 0, .string d]] W fun e w' => e = .returned (.tuple #[.string b, .int .i64 0]) ∧ Below W.heap.size W w') ∧
      (∀ W : World, Calls Tryd.prog 10 #[.string b] W fun e w' => ∃ (A' : Option Addr) (c : Nat), e = .returned (.tuple #[.agg #[.int .i64 7, .int .i64 9, .int .i64 N, .int .i64 0, .int .i64 0, .int .i64 Sm, .int .i64 T, .bool X, .int .u64 S, .int .u64 A, .int .u32 SV, .int .i64 C, .int .u8 I0, .int .u8 I1, .int .u8 I2, .slice A' 0 c, .string d], .int .i64 0]) ∧ Below W.heap.size W w') := by
  obtain ⟨S, rfl⟩ := Int.eq_ofNat_of_zero_le p0
  obtain ⟨A, rfl⟩ := Int.eq_ofNat_of_zero_le p1
  obtain ⟨SV, rfl⟩ := Int.eq_ofNat_of_zero_le p2
  obtain ⟨C, rfl⟩ := Int.eq_ofNat_of_zero_le p3
  obtain ⟨I0, rfl⟩ := Int.eq_ofNat_of_zero_le p4
  obtain ⟨I1, rfl⟩ := Int.eq_ofNat_of_zero_le p5
  obtain ⟨I2, rfl⟩ := Int.eq_ofNat_of_zero_le p6
  obtain ⟨b, N, Sm, h1, h2, h3⟩ := types_both T hT X hX S A SV C I0 I1 I2 hS hA (hA0.imp (fun h => by omega) id) (by omega) (hSV0.imp (fun h => by omega) id) (by omega) (by omega) (by omega) (by omega) (by omega) d hd
  exact ⟨b, N, Sm, h1, h2, h3⟩
end Go.Proofs.YtdhnfmhbdblkjaaDoor.PkB
