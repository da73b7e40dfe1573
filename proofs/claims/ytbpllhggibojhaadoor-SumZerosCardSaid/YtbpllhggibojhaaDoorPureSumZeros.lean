/- SumZeros' plain law: bytes of nought at the end turn nothing; ahead, two by two, neither. -/
import Derived.Test.YtbpllhggibojhaaDoorPSumZerosx1
import Derived.Test.YtbpllhggibojhaaDoorPureKit
namespace Go.Proofs.YtbpllhggibojhaaDoor.Pure
open Go.RowKit Go.Proofs.YtbpllhggibojhaaDoor.PSumZeros Go.Proofs.YtbpllhggibojhaaDoorW.PrintWords Go.Proofs.YtbpllhggibojhaaDoorW.PrintLast

theorem so_some (l : List ByteArray) (h : (joined l).length ≤ 140737488355328) (h2 : l.length ≤ 140737488355328) : sum_Of.f l = some ((Sum.sum (joined l) : Nat) : Int) := by unfold sum_Of.f; rw [if_pos ⟨h, h2⟩]
theorem zeros_data (n : Nat) : (strOfNums (List.replicate n 0)).data.toList = List.replicate n 0 := by rw [strOfNums_data]; simp
theorem wt_zeros (n : Nat) : ∀ i, Sum.wt i (List.replicate n 0) = 0 := by
  induction n with
  | zero => intro i; rfl
  | succ n ih => intro i; rw [List.replicate_succ]; simp [Sum.wt, ih]
theorem sum_behind (l : List UInt8) (n : Nat) : Sum.sum (l ++ List.replicate n 0) = Sum.sum l := by
  unfold Sum.sum; rw [Sum.wt_append, wt_zeros]; rfl
theorem sum_ahead (l : List UInt8) (n : Nat) : Sum.sum (List.replicate n 0 ++ (List.replicate n 0 ++ l)) = Sum.sum l := by
  unfold Sum.sum; rw [Sum.wt_append, Sum.wt_append, wt_zeros, wt_zeros, Nat.zero_add, Nat.zero_add]
  rw [Sum.wt_two l _ 0 (by simp; omega)]
theorem text_some (s : ByteArray) (n : Nat) : ∃ t, muleteerlaw1_Text.f s n = some t ∧ t.size ≤ n := by
  unfold muleteerlaw1_Text.f
  exact ⟨_, text_cut s n, by rw [ByteArray.size_extract]; omega⟩
theorem SumZeros : muleteerlaw1_SumZeros.Pure := by
  intro a0 a1 w0 w1
  have h1 := wfi64 w1
  unfold muleteerlaw1_SumZeros.f muleteerlaw1_begun.f
  simp only [Option.bind_some, if_true]
  obtain ⟨t, ht, hs⟩ := text_some a0 200
  rw [show ((200 : Int)) = ((200 : Nat) : Int) from rfl, ht]
  simp only [Option.bind_some]
  have hn := tmod_pos a1 20 (by omega) (by omega)
  generalize Int.tmod (wrap64 (Int.tmod a1 20 + 20)) 20 = m at *
  obtain ⟨n, rfl⟩ := Int.eq_ofNat_of_zero_le hn.1
  rw [if_pos hn.1, Int.toNat_natCast, if_pos (by omega)]
  have hl : t.data.toList.length = t.size := size_bytes t
  have hz := strOfNums_size (List.replicate n 0)
  rw [List.length_replicate] at hz
  have j1 : joined [t] = t.data.toList := by simp [joined]
  have j2 : joined [t, strOfNums (List.replicate n 0)] = t.data.toList ++ List.replicate n 0 := by simp only [joined, List.map_cons, List.map_nil, zeros_data]; simp
  have j3 : joined [strOfNums (List.replicate n 0), strOfNums (List.replicate n 0), t] = List.replicate n 0 ++ (List.replicate n 0 ++ t.data.toList) := by simp only [joined, List.map_cons, List.map_nil, zeros_data]; simp
  have j4 : joined [strOfNums (List.replicate n 0) ++ strOfNums (List.replicate n 0) ++ t] = List.replicate n 0 ++ (List.replicate n 0 ++ t.data.toList) := by
    simp only [joined, List.map_cons, List.map_nil, ByteArray.data_append, Array.toList_append, zeros_data]; simp [← List.append_assoc]
  have s1 := so_some [t] (by rw [j1]; omega) (by simp)
  have s2 := so_some [t, strOfNums (List.replicate n 0)] (by rw [j2]; simp; omega) (by simp)
  have s3 := so_some [strOfNums (List.replicate n 0), strOfNums (List.replicate n 0), t] (by rw [j3]; simp; omega) (by simp)
  have s4 := so_some [strOfNums (List.replicate n 0) ++ strOfNums (List.replicate n 0) ++ t] (by rw [j4]; simp; omega) (by simp)
  rw [j1] at s1; rw [j2, sum_behind] at s2; rw [j3, sum_ahead] at s3; rw [j4, sum_ahead] at s4
  simp only [Option.bind_some, s1, s2, s3, s4, if_true]
  rw [if_pos (by omega), if_pos (by rw [ByteArray.size_append]; omega)]
  simp
end Go.Proofs.YtbpllhggibojhaaDoor.Pure
