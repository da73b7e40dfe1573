/- The contract of the document's Bytes: a number's lowest bytes. -/
import Derived.Test.YtjlnbahanghhcaaGreatDoorPmuleteerref1Bytesx1
import Derived.Test.YtjlnbahanghhcaaGreatDoorPureKit
namespace Go.Proofs.YtjlnbahanghhcaaGreatDoor.RB
open Go.RowKit Go.Proofs.YtjlnbahanghhcaaGreatDoor.Pmuleteerref1Bytes Go.Proofs.YtjlnbahanghhcaaGreatDoorW.PrintWords Go.Proofs.YtjlnbahanghhcaaGreatDoorW.PrintLast Go.Proofs.YtjlnbahanghhcaaGreatDoorW.PrintMore
set_option linter.unusedVariables false
set_option linter.unusedSimpArgs false
theorem obind {α β : Type} {x : Option α} {a : α} {f : α → Option β} {r : Option β} (h : x = some a) (k : f a = r) : x.bind f = r := by subst h; exact k
/-- a number's lowest k bytes, the highest first. -/
def bx (n : Nat) : Nat → List Int
  | 0 => []
  | k + 1 => bx (n / 256) k ++ [((n % 256 : Nat) : Int)]
theorem bx_len (k : Nat) : ∀ n, (bx n k).length = k := by
  induction k with
  | zero => intro n; rfl
  | succ k ih => intro n; simp [bx, ih]
theorem byte_nat (n : Nat) : (UInt8.ofNat (n % 256)).toNat = n % 256 := by
  rw [UInt8.toNat_ofNat']; omega
theorem bx_num (k : Nat) : ∀ n, num ((bx n k).map fun x => UInt8.ofNat x.toNat) = n % 256 ^ k := by
  induction k with
  | zero => intro n; simp [bx, num, Nat.mod_one]
  | succ k ih =>
    intro n
    simp only [bx, List.map_append, List.map_cons, List.map_nil, num_snoc, ih, Int.toNat_natCast, byte_nat]
    rw [Nat.pow_succ, Nat.mul_comm (256 ^ k) 256, Nat.mod_mul]
    omega
theorem strOfNums_append (a b : List Int) : strOfNums (a ++ b) = strOfNums a ++ strOfNums b :=
  ByteArray.ext (by rw [ByteArray.data_append]; simp [strOfNums])
theorem rbytes_loop (k : Nat) : ∀ (f n : Nat) (s : ByteArray), k < f → n < 18446744073709551616 → s.size + k ≤ 1000000 → muleteerref1_Bytes.l0 f n k s = some (strOfNums (bx n k) ++ s) := by
  induction k with
  | zero =>
    intro f n s hf _ _
    obtain ⟨f, rfl⟩ : ∃ m, f = m + 1 := ⟨f - 1, by omega⟩
    simp only [muleteerref1_Bytes.l0]
    rw [if_neg (by omega)]
    exact congrArg some ByteArray.empty_append.symm
  | succ k ih =>
    intro f n s hf hn hk
    obtain ⟨f, rfl⟩ : ∃ m, f = m + 1 := ⟨f - 1, by omega⟩
    simp only [muleteerref1_Bytes.l0]
    rw [if_pos (by omega)]
    have e1 : Int.tmod (n : Int) 256 % 256 = ((n % 256 : Nat) : Int) := by rw [Int.tmod_eq_emod_of_nonneg (by omega)]; omega
    have e2 : IntKind.u64.wrap (Int.tdiv (n : Int) 256) = ((n / 256 : Nat) : Int) := by rw [Int.tdiv_eq_ediv_of_nonneg (by omega), IntKind.wrap_u64]; omega
    have e3 : wrap64 (((k + 1 : Nat) : Int) - 1) = (k : Int) := by rw [wrap64_eq]; omega
    refine obind rfl ?_
    rw [e1, e2, e3]
    have hz : (strOfNums [((n % 256 : Nat) : Int)]).size = 1 := by rw [strOfNums_size]; rfl
    rw [if_pos (by rw [hz]; omega), ih f (n / 256) _ (by omega) (by omega) (by rw [ByteArray.size_append, hz]; omega)]
    rw [bx, strOfNums_append, ByteArray.append_assoc]
theorem rbytes_some (f n k : Nat) (hf : k < f) (hn : n < 18446744073709551616) (hk : k ≤ 100000) : muleteerref1_Bytes.f f n k = some (strOfNums (bx n k)) := by
  unfold muleteerref1_Bytes.f
  rw [rbytes_loop k f n _ hf hn (by show 0 + k ≤ _; omega)]
  congr 1
  exact ByteArray.append_empty
theorem bx_be : ∀ (k n : Nat), bx n k = Go.Proofs.YtjlnbahanghhcaaGreatDoor.be n k
  | 0, n => rfl
  | k + 1, n => by
    rw [show bx n (k + 1) = bx (n / 256) k ++ [((n % 256 : Nat) : Int)] from rfl, bx_be k (n / 256)]
    have gen : ∀ (j m : Nat), Go.Proofs.YtjlnbahanghhcaaGreatDoor.be (m / 256) j ++ [((m % 256 : Nat) : Int)] = Go.Proofs.YtjlnbahanghhcaaGreatDoor.be m (j + 1) := by
      intro j
      induction j with
      | zero => intro m; simp [Go.Proofs.YtjlnbahanghhcaaGreatDoor.be]
      | succ j ih =>
        intro m
        rw [show Go.Proofs.YtjlnbahanghhcaaGreatDoor.be (m / 256) (j + 1) = (((m / 256 : Nat) : Int) / 2 ^ (8 * j) % 256) :: Go.Proofs.YtjlnbahanghhcaaGreatDoor.be (m / 256) j from rfl, List.cons_append, ih m]
        rw [show Go.Proofs.YtjlnbahanghhcaaGreatDoor.be m (j + 1 + 1) = ((m : Int) / 2 ^ (8 * (j + 1)) % 256) :: Go.Proofs.YtjlnbahanghhcaaGreatDoor.be m (j + 1) from rfl]
        congr 1
        have e1 : (2 : Int) ^ (8 * j) = ((256 ^ j : Nat) : Int) := by rw [show (256 : Nat) = 2 ^ 8 from by decide, ← Nat.pow_mul, Int.natCast_pow]; rfl
        have e2 : (2 : Int) ^ (8 * (j + 1)) = ((256 ^ (j + 1) : Nat) : Int) := by rw [show (256 : Nat) = 2 ^ 8 from by decide, ← Nat.pow_mul, Int.natCast_pow]; rfl
        rw [e1, e2, ← Int.natCast_ediv, ← Int.natCast_ediv, Nat.div_div_eq_div_mul, Nat.pow_succ, Nat.mul_comm 256]
    exact gen k n
theorem ref_Bytes (n k : Nat) (hn : n < 18446744073709551616) (hk : k ≤ 100000) (w : World) : Calls Tryz.prog 27 #[.int .u64 n, .int .i64 k] w fun e w' => e = .returned (.string (strOfNums (Go.Proofs.YtjlnbahanghhcaaGreatDoor.be n k))) ∧ Below w.heap.size w w' := by
  have h := muleteerref1_Bytes.calls (k + 1) n k _ w (rbytes_some (k + 1) n k (Nat.lt_succ_self _) hn hk)
  rw [bx_be] at h
  exact h
theorem ref_BytesI (a j : Int) (n k : Nat) (ha : a = (n : Int)) (hj : j = (k : Int)) (hn : n < 18446744073709551616) (hk : k ≤ 100000) (B : Nat) (W : World) (hB : B ≤ W.heap.size) : Calls Tryz.prog 27 #[.int .u64 a, .int .i64 j] W fun e w' => e = .returned (.string (strOfNums (Go.Proofs.YtjlnbahanghhcaaGreatDoor.be n k))) ∧ Below B W w' := by
  subst ha; subst hj
  exact (ref_Bytes n k hn hk W).mono fun e w' h => ⟨h.1, h.2.mono hB⟩
end Go.Proofs.YtjlnbahanghhcaaGreatDoor.RB
