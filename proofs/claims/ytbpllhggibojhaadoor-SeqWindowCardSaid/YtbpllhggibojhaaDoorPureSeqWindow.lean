/- SeqWindow's plain law: just as many numbers are within as the window is wide. -/
import Derived.Test.YtbpllhggibojhaaDoorPSeqWindowx1
import Derived.Test.YtbpllhggibojhaaDoorPureKit
namespace Go.Proofs.YtbpllhggibojhaaDoor.Pure
open Go.RowKit Go.Proofs.YtbpllhggibojhaaDoor.PSeqWindow Go.Proofs.YtbpllhggibojhaaDoorW.PrintWords Go.Proofs.YtbpllhggibojhaaDoorW.PrintLast

theorem of_some (a : Int) (h0 : 0 ≤ a) (h1 : a < 18446744073709551616) : seq_Of.f a = some (a % 281474976710656) := by unfold seq_Of.f; rw [if_pos ⟨h0, h1⟩]
theorem of_wrap (a : Int) : seq_Of.f (IntKind.u64.wrap a) = some (a % 281474976710656) := by
  have := IntKind.wrap_u64 a
  rw [of_some _ (by omega) (by omega), this]
  congr 1; omega
theorem add_some (a n : Int) : seq_Add.f a n = some ((a + n) % 281474976710656) := by
  unfold seq_Add.f
  rw [of_wrap]; simp only [Option.bind_some]
  have := IntKind.wrap_u64 n
  rw [this]; congr 1; omega
theorem in_some (a s b : Int) : seq_In.f a s b = some (decide ((s - a) % 281474976710656 ≤ (b - a) % 281474976710656)) := by
  unfold seq_In.f
  rw [of_wrap, of_wrap]; rfl
theorem SeqWindow : muleteerlaw1_SeqWindow.Pure := by
  intro a0 a1 a2 w0 w1 w2
  have h0 := wfu64 w0; have h1 := wfi64 w1; have h2 := wfi64 w2
  clear w0 w1 w2
  unfold muleteerlaw1_SeqWindow.f muleteerlaw1_begun.f
  simp only [Option.bind_some, if_true]
  have t1 := tmod_spec a1 1000000
  have t2 := tmod_spec a2 3000000
  generalize Int.tmod a1 1000000 = n at *
  generalize Int.tmod a2 3000000 = d at *
  have hn : -1000000 < n ∧ n < 1000000 := by omega
  have hd : -3000000 < d ∧ d < 3000000 := by omega
  have hm : mx 0 n = max 0 n := by unfold mx; omega
  clear t1 t2 h1 h2
  rw [hm]
  simp only [add_some, in_some, Option.bind_some]
  generalize hM : max 0 n = m
  have hm0 : 0 ≤ m ∧ m < 1000000 := by omega
  clear hM hm hn
  split
  · congr 1
    rw [beq_iff_eq]
    rw [decide_eq_decide]
    omega
  · congr 1
    rw [beq_iff_eq, decide_eq_false_iff_not]
    omega
end Go.Proofs.YtbpllhggibojhaaDoor.Pure
