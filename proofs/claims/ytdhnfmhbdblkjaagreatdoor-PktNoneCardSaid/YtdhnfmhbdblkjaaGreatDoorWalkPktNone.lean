/- PktNone: the walk. -/
import Derived.Test.YtdhnfmhbdblkjaaGreatDoorNoneReason
namespace Go.Proofs.YtdhnfmhbdblkjaaGreatDoor
open Go.RowKit Go.Proofs.YtdhnfmhbdblkjaaGreatDoorW.PrintWords
set_option linter.unusedVariables false
set_option linter.unusedSimpArgs false
theorem below_dnN {B : Nat} {a w : World} (h : Below B a w) (n : Nat) : Below B a (w.drewN n) := ⟨h.os, h.tape, h.output, h.size, h.block⟩
set_option maxHeartbeats 8000000 in
set_option maxRecDepth 100000 in
theorem PktNone_walk (HB0 : ∀ W : World, Calls Tryz.prog 12 #[] W fun e w' => e = .returned (.bool true) ∧ Below W.heap.size W w') (w : World) :
    Calls Tryz.prog 7 #[] w fun e w' => e = .returned (.bool true) ∧ Below w.heap.size w w' := by
  have HB := hide HB0
  clear HB0
  have S1 : Hid (∀ W : World, Calls Tryz.prog 18 #[.int .i64 10, .bool true] W fun e w' => e = .returned (.int .i64 0) ∧ W = w') := hide (fun W => head_Size 10 true W)
  have S2 : Hid (∀ W : World, Calls Tryz.prog 18 #[.int .i64 7, .bool false] W fun e w' => e = .returned (.int .i64 0) ∧ W = w') := hide (fun W => head_Size 7 false W)
  go_enter Tryz.func7, Tryz.ntmps7
  go_wp2_with fail
  refine (none_pkt _).mono ?_
  rintro e w1 ⟨rfl, hb1⟩
  have H1 := hide hb1
  clear hb1
  go_wp2_with fail
  refine (none_head _).mono ?_
  rintro e w2 ⟨rfl, hb2⟩
  have H2 := hide ((H1.out.alloc H1.out.size _).trans (hb2.mono (by have := H1.out.size; simp; omega)))
  clear hb2 H1
  go_wp2_with fail
  refine (none_opt _).mono ?_
  rintro e w3 ⟨A, c, rfl, hb3⟩
  have H3 := hide ((H2.out.alloc H2.out.size _).trans (hb3.mono (by have := H2.out.size; simp; omega)))
  clear hb3 H2
  go_wp2_with fail
  refine (none_signs _).mono ?_
  rintro e w4 ⟨n, rfl, rfl⟩
  go_wp2_with fail
  refine (none_code _).mono ?_
  rintro e w5 ⟨rfl, hb5⟩
  have H5 := hide (H3.out.trans (hb5.mono H3.out.size))
  clear hb5 H3
  go_wp2_with fail
  refine (HB.out _).mono ?_
  rintro e w6 ⟨rfl, hb6⟩
  have H6 := hide (H5.out.trans (hb6.mono H5.out.size))
  clear hb6 H5 HB
  go_wp2_with (first | (go_at_call 18; (with_reducible refine (S1.out _).mono ?_); rintro e w' ⟨rfl, rfl⟩) | (go_at_call 18; (with_reducible refine (S2.out _).mono ?_); rintro e w' ⟨rfl, rfl⟩))
  refine (none_opts _).mono ?_
  rintro e w8 ⟨rfl, hb8⟩
  have H8 := hide (H6.out.trans (hb8.mono H6.out.size))
  clear hb8 H6
  go_wp2_with fail
  refine (none_reason _).mono ?_
  rintro e w9 ⟨rfl, hb9⟩
  have H9 := hide (H8.out.trans (hb9.mono H8.out.size))
  clear hb9 H8
  go_wp2_with fail
  refine (none_text _).mono ?_
  rintro e w10 ⟨rfl, hb10⟩
  have H10 := hide (H9.out.trans (hb10.mono H9.out.size))
  clear hb10 H9
  go_wp2_with (first | (go_at_call 33; (with_reducible refine (none_sum _).mono ?_); rintro e w' ⟨rfl, rfl⟩) | (go_at_call 41; (with_reducible refine (none_sqrt _).mono ?_); rintro e w' ⟨rfl, rfl⟩))
  refine (none_muldiv _).mono ?_
  rintro e w11 ⟨rfl, ⟨nd, rfl⟩⟩
  go_wp2_with (go_at_call 43; (with_reducible refine (none_diff _).mono ?_); rintro e w' ⟨rfl, rfl⟩)
  go_ret
  exact ⟨rfl, below_dnN H10.out _⟩
end Go.Proofs.YtdhnfmhbdblkjaaGreatDoor
