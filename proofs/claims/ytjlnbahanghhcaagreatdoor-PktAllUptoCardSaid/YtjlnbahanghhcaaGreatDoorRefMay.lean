/- The contract of the document's MayHead (printed by wip/gen/mk_refmay.py). -/
import Derived.Test.YtjlnbahanghhcaaGreatDoorRefA
import Derived.Test.YtjlnbahanghhcaaGreatDoorMayIff
import Derived.Deep.DeepCutAuto
import Derived.Deep.CutBlock
import Derived.BigGuardPart
namespace Go.Proofs.YtjlnbahanghhcaaGreatDoor
open Go.RowKit
set_option linter.unusedVariables false
set_option linter.unusedSimpArgs false

theorem no_way {m : Bool} (h : m = true → False) : m = false := by cases m with | true => exact absurd (h rfl) id | false => rfl
theorem eq_three0 (a0 a1 a2 : Int) (w : World) : (binOp .eql 24 (.agg #[.int .u8 a0, .int .u8 a1, .int .u8 a2]) (.agg #[.int .u8 0, .int .u8 0, .int .u8 0])).run Tryz.prog w = .ok (.bool (a0 == 0 && (a1 == 0 && a2 == 0))) w := by
  rw [run_eql_struct, eq_three w 9998, Bool.and_assoc]
  rfl
set_option maxHeartbeats 40000000 in
set_option maxRecDepth 100000 in
theorem ref_MayHead (h : Hd) (w : World) : Calls Tryz.prog 56 #[h.val] w fun e w' => e = .returned (.bool (mayB h)) ∧ Below w.heap.size w w' := by
  have hi := may_iff' h
  obtain ⟨src, dst, off, cc, cs, sum, typ, x, seq, ack, serv, code, i0, i1, i2⟩ := h
  have c1 := ref_Size typ x
  have c2 := ref_HasAck typ
  have hn := sizeB_le typ x
  rw [Hd.val_mk]
  dsimp only at hi
  generalize mayB ⟨src, dst, off, cc, cs, sum, typ, x, seq, ack, serv, code, i0, i1, i2⟩ = m at *
  obtain ⟨M, hM⟩ : ∃ M, mostB x = M := ⟨_, rfl⟩
  obtain ⟨sv, hsv⟩ : ∃ sv, servB typ = sv := ⟨_, rfl⟩
  rw [hM, hsv] at hi
  generalize hz : sizeB typ x = n at *
  generalize hak : ackB typ = ak at *
  obtain ⟨n0, n28⟩ := hn
  have C1 := hide c1; have C2 := hide c2; have HM := hide hM; have HV := hide hsv; have HI := hide hi
  clear c1 c2 hM hsv hi hz hak
  go_enter Tryz.func56, Tryz.ntmps56
  go_upto_if 13 with (go_at_call 19; refine (C1.out _).mono ?_; rintro e w' ⟨rfl, rfl⟩)
  go_cut [4] (fun s4 wx => s4 = .int .u64 M ∧ wx = w.alloc (.cells #[.int .i64 src, .int .i64 dst, .int .i64 off, .int .i64 cc, .int .i64 cs, .int .i64 sum, .int .i64 typ, .bool x, .int .u64 seq, .int .u64 ack, .int .u32 serv, .int .i64 code, .int .u8 i0, .int .u8 i1, .int .u8 i2] 26))
  case first =>
    clear HI
    cases x
    all_goals
      have hM := HM.out
      unfold mostB at hM
      go_wp2
      all_goals go_meet
      all_goals exact ⟨by rw [← hM]; rfl, rfl⟩
  case rest =>
    obtain ⟨rfl, rfl⟩ := hcut
    go_upto_region 5 with fail
    go_cut [5] (fun s5 wx => s5 = .bool sv ∧ wx = w.alloc (.cells #[.int .i64 src, .int .i64 dst, .int .i64 off, .int .i64 cc, .int .i64 cs, .int .i64 sum, .int .i64 typ, .bool x, .int .u64 seq, .int .u64 ack, .int .u32 serv, .int .i64 code, .int .u8 i0, .int .u8 i1, .int .u8 i2] 26))
    case first =>
      clear HI
      by_cases t0 : typ = 0
      · have t0b : (typ == 0) = true := beq_iff_eq.2 t0
        have hsv : servB typ = true := by unfold servB; exact decide_eq_true (.inl t0)
        rw [HV.out] at hsv
        clear t0
        go_wp2
        all_goals go_meet
        all_goals exact ⟨by rw [hsv], rfl⟩
      · have t0b : (typ == 0) = false := beq_eq_false_iff_ne.2 t0
        have hsv : servB typ = (typ == 1) := by unfold servB; rw [Bool.eq_iff_iff, decide_eq_true_eq, beq_iff_eq]; omega
        rw [HV.out] at hsv
        have HS := hide hsv
        clear t0 hsv
        go_wp2
        all_goals go_meet
        all_goals exact ⟨by rw [HS.out], rfl⟩
    case rest =>
      obtain ⟨rfl, rfl⟩ := hcut
      clear HM HV C1
      go_upto_region 6 with fail
      dsimp only [List.append]
      have hi := HI.out
      have hz : ∀ W : World, (binOp .eql 24 (.agg #[.int .u8 i0, .int .u8 i1, .int .u8 i2]) (.agg #[.int .u8 0, .int .u8 0, .int .u8 0])).run Tryz.prog W = .ok (.bool (i0 == 0 && (i1 == 0 && i2 == 0))) W := fun W => eq_three0 i0 i1 i2 W
      obtain ⟨iz, hiz⟩ : ∃ iz, (i0 == 0 && (i1 == 0 && i2 == 0)) = iz := ⟨_, rfl⟩
      rw [hiz] at hz
      have hiy : iz = true ↔ (i0 = 0 ∧ i1 = 0 ∧ i2 = 0) := by rw [← hiz]; simp only [Bool.and_eq_true, beq_iff_eq]
      have HZ := hide hiy
      rcases ak with _ | _ <;> rcases sv with _ | _
      all_goals
        simp only [Bool.false_eq_true, or_false, or_true, true_and, and_true] at hi
        have HJ := hide hi
        clear hi HI hiz hiy
        as_aux_lemma =>
          go_wp2_with (go_at_call 55; refine (C2.out _).mono ?_; rintro e w' ⟨rfl, rfl⟩)
          all_goals go_ret
          all_goals
            have hi := HJ.out
            have hy := HZ.out
            clear HJ HZ C2 hz
            refine ⟨ret_bool ?_, (Below.refl _ _).alloc (Nat.le_refl _) _⟩
            rw [Bool.eq_iff_iff, hi]
            try rw [hy]
            clear hi hy
            simp only [Bool.or_eq_true, Bool.and_eq_true, Bool.not_eq_true', Bool.false_eq_true, false_iff, true_iff, decide_eq_true_eq, decide_eq_false_iff_not, beq_iff_eq, bne_iff_ne, bne_eq_false_iff_eq, beq_eq_false_iff_ne, ne_eq] at *
            omega
end Go.Proofs.YtjlnbahanghhcaaGreatDoor
