/- PktTypes: the walk, all classes together (printed by wip/gen/mk_types.py). -/
import Derived.Test.YtdhnfmhbdblkjaaDoorWalkPktTypes0
import Derived.Test.YtdhnfmhbdblkjaaDoorWalkPktTypes1
import Derived.Test.YtdhnfmhbdblkjaaDoorWalkPktTypes2
import Derived.Test.YtdhnfmhbdblkjaaDoorPureKit
namespace Go.Proofs.YtdhnfmhbdblkjaaDoor
open Go.RowKit
set_option linter.unusedVariables false

theorem PktTypes_walk (HB0 : ∀ W : World, Calls Tryd.prog 6 #[] W fun e w' => e = .returned (.bool true) ∧ Below W.heap.size W w')
    (a0 : Int) (x : Bool) (s a serv c : Int) (data : ByteArray) (w : World) (hd : data.size ≤ 140737488351232) (s0 : 0 ≤ s) (a1 : 0 ≤ a) (v0 : 0 ≤ serv) (v1 : serv < 4294967296) (c0 : 0 ≤ c) (c1 : c < 256) (a00 : -9223372036854775808 ≤ a0) (a01 : a0 ≤ 9223372036854775807) :
    Calls Tryd.prog 3 #[.int .i64 a0, .bool x, .int .u64 s, .int .u64 a, .int .u32 serv, .int .u8 c, .string data] w fun e w' => e = .returned (.bool true) ∧ Below w.heap.size w w' := by
  obtain ⟨h1, h2⟩ := tmod_pos a0 10 (by omega) (by omega)
  obtain ⟨T, hT⟩ : ∃ T : Nat, (wrap64 (a0.tmod 10 + 10)).tmod 10 = (T : Int) := ⟨_, (Int.toNat_of_nonneg h1).symm⟩
  rw [hT] at h2
  have hc : T = 0 ∨ T = 1 ∨ T = 7 ∨ T = 2 ∨ (T = 3 ∨ T = 4) ∨ (T = 5 ∨ T = 6 ∨ T = 8 ∨ T = 9) := by omega
  rcases hc with rfl | rfl | rfl | rfl | h | h
  · exact types_A HB0 a0 x s a serv c data w hd s0 a1 v0 v1 c0 c1 hT (by cases x <;> rfl)
  · exact types_B HB0 a0 x s a serv c data w hd s0 a1 v0 v1 c0 c1 hT (by cases x <;> rfl)
  · exact types_C HB0 a0 x s a serv c data w hd s0 a1 v0 v1 c0 c1 hT (by cases x <;> rfl)
  · cases x
    · exact types_G HB0 a0 false s a serv c data w hd s0 a1 v0 v1 c0 c1 hT (by rfl)
    · exact types_E HB0 a0 true s a serv c data w hd s0 a1 v0 v1 c0 c1 hT (by rfl)
  · cases x
    · exact types_F HB0 a0 false s a serv c data w hd s0 a1 v0 v1 c0 c1 T h hT (by rcases h with rfl | rfl <;> rfl)
    · exact types_D HB0 a0 true s a serv c data w hd s0 a1 v0 v1 c0 c1 T (by omega) hT (by rfl)
  · exact types_D HB0 a0 x s a serv c data w hd s0 a1 v0 v1 c0 c1 T (by omega) hT (by rcases h with rfl | rfl | rfl | rfl <;> cases x <;> rfl)
end Go.Proofs.YtdhnfmhbdblkjaaDoor
