/- PktNone: what it calls, at what it hands them. -/
import Derived.Test.YtdhnfmhbdblkjaaGreatDoorPktGet
import Derived.StillTailTactics
import Derived.Deep.AppendLies
import Derived.Deep.RegionLaw
namespace Go.Proofs.YtdhnfmhbdblkjaaGreatDoor
open Go.RowKit Go.Proofs.YtdhnfmhbdblkjaaGreatDoorW.PrintWords
set_option linter.unusedVariables false
set_option linter.unusedSimpArgs false

theorem none_pkt (w : World) : Calls Tryz.prog 26 #[.string ⟨#[]⟩] w fun e w' => e = .returned (.tuple #[.agg Z39, .int .i64 1]) ∧ Below w.heap.size w w' :=
  pkt_Get_head ⟨#[]⟩ (by decide) hd0 1 (by decide) (by decide) w
theorem none_head (w : World) : Calls Tryz.prog 20 #[.string ⟨#[115, 104, 111, 114, 116]⟩] w fun e w' => e = .returned (.tuple #[.agg Z, .int .i64 1]) ∧ Below w.heap.size w w' := by
  have h := head_Get ⟨#[115, 104, 111, 114, 116]⟩ (by decide) w
  rw [show getH ⟨#[115, 104, 111, 114, 116]⟩ = (hd0, 1) from by decide +kernel] at h
  simp only [hd0_val] at h
  exact h
theorem none_opt (w : World) : Calls Tryz.prog 36 #[.string ⟨#[]⟩] w fun e w' => ∃ (A : Option Addr) (c : Nat), e = .returned (.tuple #[.slice A 0 c, .int .i64 0]) ∧ Below w.heap.size w w' :=
  (PoptGet.opt_Get.calls 3 ⟨#[]⟩ [] 0 w (by kernel_rfl)).mono fun e w' hq => by
    obtain ⟨v, h1, h2, h3⟩ := hq
    obtain ⟨A, c, rfl⟩ := Kd.R_slice h2
    exact ⟨A, c, h1, h3⟩
theorem none_signs (w : World) : Calls Tryz.prog 37 #[.string ⟨#[83, 67, 58]⟩] w fun e w' => ∃ n : Int, e = .returned (.tuple #[.int .u32 n, .bool false]) ∧ w = w' := by
  have h := code_Service_signs ⟨#[83, 67, 58]⟩ w (by decide)
  rw [show bySignsB (Lib.trimPrefix (⟨#[83, 67, 58]⟩ : ByteArray).data.toList [83, 67, 58]) = false from by decide +kernel] at h
  exact h.mono fun e w' hq => ⟨_, hq.1, hq.2⟩
theorem none_opts (w : World) : Calls Tryz.prog 38 #[.slice none 0 0] w fun e w' => e = .returned (.string ⟨#[]⟩) ∧ Below w.heap.size w w' := by
  have h := opt_Put none 0 0 [] w (CellsAt.nil _ _ _) (Nat.zero_le _) (by decide) (by decide)
  exact h
theorem none_sum (w : World) : Calls Tryz.prog 33 #[.slice none 0 0] w fun e w' => e = .returned (.int .i64 65535) ∧ w = w' :=
  sum_Of none 0 0 [] w (CellsAt.nil _ _ _) (by decide) (by decide)
theorem none_sqrt (w : World) : Calls Tryz.prog 41 #[.int .u64 0] w fun e w' => e = .returned (.int .u64 0) ∧ w = w' := by
  have h := fix_Sqrt 0 w (by decide)
  rw [show Fix.root 0 = 0 from by decide +kernel] at h
  exact h
theorem none_muldiv (w : World) : Calls Tryz.prog 42 #[.int .u64 0, .int .u64 0, .int .u64 0] w fun e w' => e = .returned (.int .u64 18446744073709551615) ∧ ∃ n, w' = w.drewN n := by
  have h := fix_MulDiv 0 0 0 w (by decide) (by decide) (by decide)
  rw [show Fix.quot 0 0 0 = 18446744073709551615 from by decide +kernel] at h
  exact h
theorem none_diff (w : World) : Calls Tryz.prog 43 #[.int .u64 140737488355328, .int .u64 0] w fun e w' => e = .returned (.int .i64 (-140737488355328)) ∧ w = w' := by
  have O := fun W => seq_Of 140737488355328 (by decide) (by decide) W
  have O := hide O
  go_enter Tryz.func43, Tryz.ntmps43
  go_wp2_with (first | (go_at_call 54; refine (O.out _).mono ?_; rintro e w' ⟨rfl, rfl⟩))
  go_ret
  exact ⟨rfl, rfl⟩
theorem none_small (w : World) : Calls Tryz.prog 71 #[.int .u64 0, .int .i64 10] w fun e w' => e = .returned (.string ⟨#[48]⟩) ∧ w = w' := by
  go_enter Tryz.func71, Tryz.ntmps71
  go_wp2
  go_ret
  exact ⟨rfl, rfl⟩
set_option maxHeartbeats 4000000 in
set_option maxRecDepth 100000 in
theorem none_number (w : World) : Calls Tryz.prog 67 #[.string ⟨#[52, 50, 57, 52, 57, 54, 55, 50, 57, 53]⟩, .int .i64 10, .int .i64 10] w fun e w' => e = .returned (.tuple #[.int .u32 0, .bool false]) ∧ Below w.heap.size w w' := by
  have c1 := fun W => (Tryz.strings_Contains_one ⟨#[52, 50, 57, 52, 57, 54, 55, 50, 57, 53]⟩ 95 W)
  rw [show decide (0 ≤ Lib.indexByte (⟨#[52, 50, 57, 52, 57, 54, 55, 50, 57, 53]⟩ : ByteArray).data.toList 95) = false from by decide +kernel] at c1
  have c2 := fun W => Tryz.strconv_ParseUint_10_at64_ok ⟨#[52, 50, 57, 52, 57, 54, 55, 50, 57, 53]⟩ (by decide) 4294967295 (by decide +kernel) W
  have C1 := hide (fun W => (c1 W).mono fun _ _ h => And.intro h.1 h.2.symm); have C2 := hide c2
  clear c1 c2
  go_enter Tryz.func67, Tryz.ntmps67
  go_wp2_with (first | (go_at_call 81; refine (C1.out _).mono ?_; rintro e w1 ⟨rfl, rfl⟩))
  refine (C2.out _).mono ?_
  rintro e w2 ⟨rfl, hw⟩
  have hb : Below w.heap.size w w2 := by
    rcases hw with rfl | rfl
    · exact Below.refl _ _
    · have h1 : Below w.heap.size w (Lib.bytesWorld w 5 ⟨#[52, 50, 57, 52, 57, 54, 55, 50, 57, 53]⟩) := ⟨rfl, rfl, rfl, by rw [Lib.bytesWorld_size]; omega, fun k hk => Lib.bytesWorld_at_old _ _ _ k hk⟩
      exact h1
  have HB := hide hb
  clear hb hw
  go_wp2
  go_ret2
  exact ⟨rfl, HB.out⟩
set_option maxHeartbeats 4000000 in
set_option maxRecDepth 100000 in
theorem none_code (w : World) : Calls Tryz.prog 37 #[.string ⟨#[83, 67, 61, 52, 50, 57, 52, 57, 54, 55, 50, 57, 53]⟩] w fun e w' => e = .returned (.tuple #[.int .u32 0, .bool false]) ∧ Below w.heap.size w w' := by
  have c1 := fun W => Tryz.strings_CutPrefix ⟨#[83, 67, 61, 52, 50, 57, 52, 57, 54, 55, 50, 57, 53]⟩ ⟨#[83, 67, 58]⟩ W
  have c2 := fun W => Tryz.strings_CutPrefix ⟨#[83, 67, 61, 52, 50, 57, 52, 57, 54, 55, 50, 57, 53]⟩ ⟨#[83, 67, 61]⟩ W
  have c3 := fun W => Tryz.strings_HasPrefix ⟨#[52, 50, 57, 52, 57, 54, 55, 50, 57, 53]⟩ ⟨#[120]⟩ W
  have c4 := fun W => Tryz.strings_HasPrefix ⟨#[52, 50, 57, 52, 57, 54, 55, 50, 57, 53]⟩ ⟨#[88]⟩ W
  rw [show Lib.hasPrefix (⟨#[52, 50, 57, 52, 57, 54, 55, 50, 57, 53]⟩ : ByteArray).data.toList (⟨#[120]⟩ : ByteArray).data.toList = false from by decide +kernel] at c3
  rw [show Lib.hasPrefix (⟨#[52, 50, 57, 52, 57, 54, 55, 50, 57, 53]⟩ : ByteArray).data.toList (⟨#[88]⟩ : ByteArray).data.toList = false from by decide +kernel] at c4
  rw [show Lib.hasPrefix (⟨#[83, 67, 61, 52, 50, 57, 52, 57, 54, 55, 50, 57, 53]⟩ : ByteArray).data.toList (⟨#[83, 67, 58]⟩ : ByteArray).data.toList = false from by decide +kernel] at c1
  rw [show Lib.hasPrefix (⟨#[83, 67, 61, 52, 50, 57, 52, 57, 54, 55, 50, 57, 53]⟩ : ByteArray).data.toList (⟨#[83, 67, 61]⟩ : ByteArray).data.toList = true from by decide +kernel, show (⟨(Lib.trimPrefix (⟨#[83, 67, 61, 52, 50, 57, 52, 57, 54, 55, 50, 57, 53]⟩ : ByteArray).data.toList (⟨#[83, 67, 61]⟩ : ByteArray).data.toList).toArray⟩ : ByteArray) = ⟨#[52, 50, 57, 52, 57, 54, 55, 50, 57, 53]⟩ from by decide +kernel] at c2
  have C1 := hide (fun W => (c1 W).mono fun _ _ h => And.intro h.1 h.2.symm); have C2 := hide (fun W => (c2 W).mono fun _ _ h => And.intro h.1 h.2.symm); have C3 := hide (fun W => (c3 W).mono fun _ _ h => And.intro h.1 h.2.symm); have C4 := hide (fun W => (c4 W).mono fun _ _ h => And.intro h.1 h.2.symm)
  clear c1 c2 c3 c4
  go_enter Tryz.func37, Tryz.ntmps37
  go_wp2_with (first | (go_at_call 64; (refine (C1.out _).mono ?_); rintro e w' ⟨rfl, rfl⟩) | (go_at_call 64; (refine (C2.out _).mono ?_); rintro e w' ⟨rfl, rfl⟩) | (go_at_call 66; (refine (C3.out _).mono ?_); rintro e w' ⟨rfl, rfl⟩) | (go_at_call 66; (refine (C4.out _).mono ?_); rintro e w' ⟨rfl, rfl⟩))
  refine (none_number _).mono ?_
  rintro e w2 ⟨rfl, hb⟩
  have HB := hide hb
  clear hb
  go_wp2
  go_ret2
  exact ⟨rfl, HB.out⟩
set_option maxHeartbeats 4000000 in
set_option maxRecDepth 100000 in
/-- code.Text where the signs do not do. -/
theorem code_Text_number (c : Nat) (hc : c < 4294967296) (t : ByteArray) (ht9 : t.size ≤ 1000) (hF : ∀ W : World, Calls Tryz.prog 71 #[.int .u64 c, .int .i64 10] W fun e w' => e = .returned (.string t) ∧ Below W.heap.size W w') (b : Bool) (hb0 : bySignsB (textOf c) = b) (h2 : b = false ∨ ((codeOf (textOf c) : Int) == (c : Int)) = false) (w : World) :
    Calls Tryz.prog 40 #[.int .u32 c] w fun e w' => e = .returned (.string (⟨#[83, 67, 61]⟩ ++ t)) ∧ Below w.heap.size w w' := by
  go_enter Tryz.func40, Tryz.ntmps40
  have h4 : textOf c = Lib.trimRightB (strOfNums (be c 4)).data.toList 32 := rfl
  have c1 := fun W hs => Tryz.strings_TrimRight_one (strOfNums (be c 4)) 32 (by decide) W hs
  have c2 := fun W => code_bySigns ⟨(textOf c).toArray⟩ W
  simp only at c1 c2
  rw [← h4] at c1
  rw [hb0] at c2
  generalize hq : (codeOf (textOf c) : Int) = q at c2 h2
  have C1 := hide (fun W hs => (c1 W hs).mono fun _ _ h => And.intro h.1 h.2.symm); have C2 := hide c2; have CF := hide hF; have H2 := hide h2
  clear c1 c2 h2 h4 hb0 hq hF
  go_wp2
  go_loopw [3, 4] (fun u x wr => ∃ (j : Nat) (i : Int) (d : List Int), j ≤ 4 ∧ d.length + j = 4 ∧ i + 1 = j ∧ x = .int .i64 i ∧ Owns wr w.heap.size u d ∧ Below w.heap.size w wr ∧ Hid (d ++ be c j = be c 4)) (fun _ x _ => (intOf x + 1).toNat)
  case atStart => exact ⟨4, 3, [], by omega, by simp, by omega, rfl, owns_nil _ _, Below.refl _ _, hide rfl⟩
  case round =>
    obtain ⟨j, i, d, hj, hd, hi, rfl, ho, hb, H⟩ := hrel
    cases j with
    | zero =>
      obtain rfl : i = -1 := by omega
      have hdk : d = be c 4 := by simpa [be] using H.out
      subst hdk
      clear H
      generalize ht : textOf c = tt at C1 C2
      replace ht := hide ht
      have hsz : (strOfNums (be c 4)).size ≤ 9223372036854775807 := by rw [strOfNums_size, be_len]; decide
      go_wp2
      rw [own_text rfl rfl rfl ho]
      generalize strOfNums (be c 4) = u at C1 hsz
      have HB := hide hb
      clear hb ho
      cases b with
      | false =>
        clear H2
        go_wp2_with (first | (go_at_call 70; (refine (C1.out _ hsz).mono ?_); rintro e w' ⟨rfl, rfl⟩) | (go_at_call 65; (refine (C2.out _).mono ?_); rintro e w' ⟨rfl, rfl⟩))
        refine (CF.out _).mono ?_
        rintro e w2 ⟨rfl, hb2⟩
        have HB2 := hide (HB.out.trans (hb2.mono HB.out.size))
        clear hb2
        go_wp2
        go_ret
        exact ⟨rfl, HB2.out⟩
      | true =>
        have hne : (q == (c : Int)) = false := by rcases H2.out with h | h; exact absurd h (by decide); exact h
        clear H2
        go_wp2_with (first | (go_at_call 70; (refine (C1.out _ hsz).mono ?_); rintro e w' ⟨rfl, rfl⟩) | (go_at_call 65; (refine (C2.out _).mono ?_); rintro e w' ⟨rfl, rfl⟩))
        refine (CF.out _).mono ?_
        rintro e w2 ⟨rfl, hb2⟩
        have HB2 := hide (HB.out.trans (hb2.mono HB.out.size))
        clear hb2
        go_wp2
        go_ret
        exact ⟨rfl, HB2.out⟩
    | succ j =>
      obtain rfl : i = (j : Int) := by omega
      have hsz := hb.size
      go_wp2_with (at_builtin; refine app_new rfl _ _ rfl w.heap.size d [(c : Int) / 2 ^ (8 * j) % 256] ho rfl 1 1 rfl rfl rfl (by omega) hsz ?_)
      intro v' w1 hown' hb'
      have hH : Hid ((d ++ [(c : Int) / 2 ^ (8 * j) % 256]) ++ be c j = be c 4) := hide (by rw [← H.out]; simp [be])
      have hb1 := hb.trans hb'
      have RR := hide hown'
      clear hown' hb' hb H ho
      go_wp2
      go_roundw
      case rel => exact ⟨j, (j : Int) - 1, d ++ [(c : Int) / 2 ^ (8 * j) % 256], by omega, by simp; omega, by omega, by go_num, RR.out, hb1, hH⟩
      case measure => first | (simp [intOf]; done) | (simp [intOf]; omega)
theorem none_text (w : World) : Calls Tryz.prog 40 #[.int .u32 0] w fun e w' => e = .returned (.string ⟨#[83, 67, 61, 48]⟩) ∧ Below w.heap.size w w' := by
  have h := code_Text_number 0 (by decide) ⟨#[48]⟩ (by decide) (fun W => (none_small W).mono fun e w' hq => ⟨hq.1, by rw [← hq.2]; exact Below.refl _ _⟩) false (by decide +kernel) (.inl rfl) w
  exact h
end Go.Proofs.YtdhnfmhbdblkjaaGreatDoor
