/- SeqRound's plain law: any number of steps on and back is where one was; distances turn about. -/
import Derived.Test.YtbpllhggibojhaaDoorPSeqRoundx1
import Derived.Test.YtbpllhggibojhaaDoorPureKit
namespace Go.Proofs.YtbpllhggibojhaaDoor.Pure
open Go.RowKit Go.Proofs.YtbpllhggibojhaaDoor.PSeqRound Go.Proofs.YtbpllhggibojhaaDoorW.PrintWords Go.Proofs.YtbpllhggibojhaaDoorW.PrintLast

theorem of_some (a : Int) (h0 : 0 ≤ a) (h1 : a < 18446744073709551616) : seq_Of.f a = some (a % 281474976710656) := by unfold seq_Of.f; rw [if_pos ⟨h0, h1⟩]
theorem of_wrap (a : Int) : seq_Of.f (IntKind.u64.wrap a) = some (a % 281474976710656) := by
  have := IntKind.wrap_u64 a
  rw [of_some _ (by omega) (by omega), this]
  congr 1; omega
theorem add_some (a n : Int) : seq_Add.f a n = some ((a + n) % 281474976710656) := by
  unfold seq_Add.f
  rw [of_wrap]; simp only [Option.bind_some]
  have := IntKind.wrap_u64 n
  rw [this]; congr 1; omega
theorem in_some (a s b : Int) : seq_In.f a s b = some (decide ((s - a) % 281474976710656 ≤ (b - a) % 281474976710656)) := by
  unfold seq_In.f
  rw [of_wrap, of_wrap]; rfl
def dist (a b : Int) : Int := if (a - b) % 281474976710656 ≥ 140737488355328 then (a - b) % 281474976710656 - 281474976710656 else (a - b) % 281474976710656
theorem diff_some (a b : Int) : seq_Diff.f a b = some (dist a b) := by
  unfold seq_Diff.f dist
  rw [of_wrap]
  simp only [Option.bind_some]
  have h0 : 0 ≤ (a - b) % 281474976710656 ∧ (a - b) % 281474976710656 < 281474976710656 := by omega
  generalize (a - b) % 281474976710656 = m at *
  have hw : wrap64 m = m := by rw [wrap64_eq]; omega
  rw [hw]
  split
  · congr 1; rw [wrap64_eq]; omega
  · rfl
theorem round (k : Nat) (a b n : Int) (ha : 0 ≤ a ∧ a < 18446744073709551616) (hb : 0 ≤ b ∧ b < 18446744073709551616) (hn : -9223372036854775808 < n ∧ n < 9223372036854775808) : muleteerlaw1_SeqRound.j0 (k + 1) a b n = some true := by
  simp only [muleteerlaw1_SeqRound.j0]
  have hw : wrap64 (-n) = -n := by rw [wrap64_eq]; omega
  rw [hw]
  simp only [diff_some, add_some, in_some, of_some a ha.1 ha.2, of_some b hb.1 hb.2, Option.bind_some]
  rw [if_pos (by omega)]
  have hd : dist a b = if (a - b) % 281474976710656 ≥ 140737488355328 then (a - b) % 281474976710656 - 281474976710656 else (a - b) % 281474976710656 := rfl
  have he : dist b a = if (b - a) % 281474976710656 ≥ 140737488355328 then (b - a) % 281474976710656 - 281474976710656 else (b - a) % 281474976710656 := rfl
  generalize dist a b = d at *
  generalize dist b a = e at *
  have hw2 : wrap64 (-e) = -e := by rw [wrap64_eq]; omega
  rw [hw2]
  have hz : (d == 0) = (a % 281474976710656 == b % 281474976710656) := by rw [Bool.eq_iff_iff, beq_iff_eq, beq_iff_eq]; omega
  have i1 : decide ((b - a) % 281474976710656 ≤ (b - a) % 281474976710656) = true := by simp
  have i2 : decide ((a - a) % 281474976710656 ≤ (b - a) % 281474976710656) = true := by rw [decide_eq_true_eq]; omega
  rw [i1, i2, hz]
  simp only [BEq.rfl, if_true]
  by_cases h1 : d = -e
  · rw [if_pos h1, if_pos (by omega), if_pos (by omega)]
  · rw [if_neg h1, if_pos (by omega), if_pos (by omega), if_pos (by omega), if_pos (by omega)]
theorem SeqRound : muleteerlaw1_SeqRound.Pure := by
  intro a0 a1 a2 w0 w1 w2
  have h0 := wfu64 w0; have h1 := wfu64 w1; have h2 := wfi64 w2
  refine ⟨1, ?_⟩
  unfold muleteerlaw1_SeqRound.f muleteerlaw1_begun.f
  simp only [Option.bind_some, if_true]
  split
  · exact round 0 a0 a1 _ h0 h1 (by rw [wrap64_eq]; omega)
  · exact round 0 a0 a1 _ h0 h1 (by omega)
end Go.Proofs.YtbpllhggibojhaaDoor.Pure
