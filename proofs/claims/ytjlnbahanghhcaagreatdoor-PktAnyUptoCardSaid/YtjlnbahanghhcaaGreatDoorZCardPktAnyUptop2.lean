/- Contracts and laws that the claim's proof needs: RefGetHead. Conditions: each theorem's own. -/
import Derived.Test.YtjlnbahanghhcaaGreatDoorZCardPktAnyUptop1
import Derived.Test.YtjlnbahanghhcaaGreatDoorBaseD
import Derived.Deep.AppendLies
import Derived.Maps.AppendAt
import Derived.OwnWalk
import Derived.Laws.MakeOwn
import Derived.KernelRfl
import Derived.RowKit3
import Derived.Deep.LoopGhost
import Derived.Lib.LazyBuf
import Derived.StillTailTactics
import Derived.Deep.DeepCutAuto
import Derived.Deep.CutBlock

/- The contract of the document's GetHead: what bytes say of a head (printed by wip/gen/mk_refgethead.py). -/
namespace Go.Proofs.YtjlnbahanghhcaaGreatDoor.RH
open Go.RowKit Go.Proofs.YtjlnbahanghhcaaGreatDoor Go.Proofs.YtjlnbahanghhcaaGreatDoor.HG Go.Proofs.YtjlnbahanghhcaaGreatDoorW.PrintWords Go.Proofs.YtjlnbahanghhcaaGreatDoorW.PrintLast Go.Proofs.YtjlnbahanghhcaaGreatDoorW.PrintMore
set_option linter.unusedVariables false
set_option linter.unusedSimpArgs false
theorem res_ct (tmps : Array Value) (w : World) (g : Nat) (cs : Array Value) (hp : tmps.getD 2 undef = .pointer (some ⟨g, 0, none⟩)) (hg : Blk w g cs 26) (hc : cs.size = 15) :
    (results Tryz.f17 tmps).run Tryz.prog w = .ok (.tuple #[.agg cs, tmps.getD 3 undef]) w := by
  have hp' : tmps[2]?.getD undef = .pointer (some ⟨g, 0, none⟩) := by simpa using hp
  have hi : (Tryz.prog.info? 26).map (·.size) = some cs.size := by rw [hc]; kernel_rfl
  have h : Tryz.f17.results = #[.cell 2 26, .tmp 3] := rfl
  simp [results, h, hp', asAddr, run_loadVar_row w g _ 26 cs (0, 0) _ hg Tryz.underlying26 rfl hi]
theorem ret_ct {R : Ending → World → Prop} {tmps : Array Value} {w : World} (g : Nat) (cs : Array Value) (hg : Blk w g cs 26) (hc : cs.size = 15) (hp : tmps.getD 2 undef = .pointer (some ⟨g, 0, none⟩)) (v : Value) (hv : tmps.getD 3 undef = v)
    (h : R (.returned (.tuple #[.agg cs, v])) w) : bodyPost Tryz.prog Tryz.f17 R Exit.ret ⟨tmps, []⟩ w :=
  bodyPost_ret (res_ct tmps w g cs hp hg hc) rfl (by rw [hv]; exact h)
theorem numE (b : ByteArray) (i j : Nat) (h : j ≤ i + 8) : Hid (∀ W, Calls Tryz.prog 54 #[.string (b.extract i j)] W fun e w' => e = .returned (.int .u64 (numAt b i j : Nat)) ∧ W = w') :=
  hide (fun W => ref_Number (b.extract i j) (by rw [ByteArray.size_extract]; omega) W)
def muleteerref1_Number.f (k : Nat) (a0 : ByteArray) : Option Int := if a0.size ≤ 8 then some (num a0.data.toList : Nat) else none
theorem muleteerref1_Number.calls (k : Nat) (a0 : ByteArray) (r : Int) (w : World) (h : muleteerref1_Number.f k a0 = some r) :
    Calls Tryz.prog 54 #[.string a0] w fun e w' => e = .returned (.int .u64 r) ∧ Drawn0 w w' := by
  unfold muleteerref1_Number.f at h
  split at h
  · rename_i h8
    obtain rfl := Option.some.inj h
    exact (ref_Number a0 h8 w).mono fun e w' hq => ⟨hq.1, same_drawn hq.2⟩
  · cases h
theorem num_f (k : Nat) (b : ByteArray) (i j : Nat) (h : j ≤ i + 8) : muleteerref1_Number.f k (b.extract i j) = some (numAt b i j : Nat) := by
  unfold muleteerref1_Number.f
  rw [if_pos (by rw [ByteArray.size_extract]; omega)]; rfl
theorem wrp (m : Nat) (c : Int) (hm : (m : Int) ≤ 24) (h0 : 0 ≤ c) (h1 : c ≤ 10) : IntKind.i64.wrap ((m : Int) + c) = (m : Int) + c := by rw [IntKind.wrap_i64]; omega
theorem num17 (b : ByteArray) (h : 24 ≤ b.size) : numAt b 17 24 % 281474976710656 = numAt b 18 24 := by
  have h1 : numAt b 17 24 = byteAt b 17 * 281474976710656 + numAt b 18 24 := PkB.numAt_step b 17 24 (by omega) h
  have h2 : numAt b 18 24 < 281474976710656 := numAt_lt b 18 24
  rw [h1]; omega
theorem gH_type (b : ByteArray) (h12 : 12 ≤ b.size) (hi : isB (getT b) = false) : getH b = (hd0, 2) := by
  unfold getH; rw [if_neg (by omega), if_pos hi]
theorem gH_form (b : ByteArray) (h12 : 12 ≤ b.size) (hi : isB (getT b) = true) (hn : sizeB (getT b) (getX b) = 0) : getH b = (hd0, 3) := by
  unfold getH; rw [if_neg (by omega), if_neg (by rw [hi]; decide), if_pos hn]
theorem gH_short (b : ByteArray) (h12 : 12 ≤ b.size) (hi : isB (getT b) = true) (hn : sizeB (getT b) (getX b) ≠ 0) (hl : (b.size : Int) < sizeB (getT b) (getX b)) : getH b = (hd0, 1) := by
  unfold getH; rw [if_neg (by omega), if_neg (by rw [hi]; decide), if_neg hn, if_pos hl]
theorem gH_place (b : ByteArray) (h12 : 12 ≤ b.size) (hi : isB (getT b) = true) (hn : sizeB (getT b) (getX b) ≠ 0) (hl : ¬ (b.size : Int) < sizeB (getT b) (getX b)) (hp : (byteAt b 4 : Int) < sizeB (getT b) (getX b) / 4 ∨ b.size < 4 * byteAt b 4) : getH b = (hd0, 4) := by
  unfold getH; rw [if_neg (by omega), if_neg (by rw [hi]; decide), if_neg hn, if_neg hl, if_pos hp]
theorem gH_ok (b : ByteArray) (h12 : 12 ≤ b.size) (hi : isB (getT b) = true) (hn : sizeB (getT b) (getX b) ≠ 0) (hl : ¬ (b.size : Int) < sizeB (getT b) (getX b)) (hp : ¬ ((byteAt b 4 : Int) < sizeB (getT b) (getX b) / 4 ∨ b.size < 4 * byteAt b 4)) : getH b = (getHd b (getT b) (getX b), 0) := by
  unfold getH; rw [if_neg (by omega), if_neg (by rw [hi]; decide), if_neg hn, if_neg hl, if_neg hp]
set_option maxHeartbeats 1000000 in
set_option maxRecDepth 100000 in
theorem short (b : ByteArray) (hs : b.size ≤ 9223372036854775807) (h12 : b.size < 12) (w : World) :
    Calls Tryz.prog 17 #[.string b] w fun e w' => e = .returned (.tuple #[hd0.val, .int .i64 1]) ∧ Below w.heap.size w w' := by
  go_enter Tryz.func17, Tryz.ntmps17
  go_wp2_with (refine wpList_store_row rfl 26 _ _ rfl w.heap.size Z rfl rfl 26 Z (Blk.new w Z _) (by kernel_rfl) rfl Z_one ?_)
  refine ret_ct w.heap.size Z ?_ rfl rfl (.int .i64 1) rfl ?_
  · exact (Blk.new w Z _).row
  · rw [hd0_val]; exact ⟨rfl, below_row ((Below.refl _ _).alloc (Nat.le_refl _) _) (Nat.le_refl _) _⟩
def muleteerref1_GetHead.T3 : Bool × List (List Nat × List Nat) := (true, [([], []), ([0], [0]), ([1], [1]), ([2], [2]), ([], []), ([4], [4]), ([5, 2], [5]), ([6], [6]), ([], []), ([8], [8]), ([9], [9]), ([], []), ([11], [11]), ([12], [12]), ([13], [13]), ([], []), ([15], [15]), ([16], [16]), ([17], [17]), ([], []), ([19], [19]), ([20, 6], [20]), ([21], [21]), ([], []), ([23], [23]), ([24], [24]), ([25], [25]), ([26], [26]), ([], []), ([28], [28]), ([29], [29]), ([30], [30]), ([3, 7, 10, 14, 18, 22, 27, 31], [3, 7, 10, 14, 18, 22, 27, 31]), ([], []), ([33, 32, 21, 0, 1, 2, 3, 4, 5, 6, 7, 8, 9, 10, 11, 12, 13, 14, 15, 16, 17, 18, 19, 20, 21, 22, 23, 24, 25, 26, 27, 28, 29, 30, 31, 32, 33], [32, 33])])
def muleteerref1_GetHead.B3 : List Nat := [0, 1, 3, 7, 0, 16, 55, 119, 0, 256, 768, 0, 2048, 6144, 14336, 0, 32768, 98304, 229376, 0, 524288, 1572983, 3670135, 0, 8388608, 25165824, 58720256, 125829120, 0, 268435456, 805306368, 1879048192, 4294967295, 0, 17179869183]
theorem muleteerref1_GetHead.tab3 : rtab .any (opsOf Tryz.f17 3) = muleteerref1_GetHead.T3 := by kernel_rfl
theorem muleteerref1_GetHead.bits3 : waitsOk muleteerref1_GetHead.T3.2 muleteerref1_GetHead.B3 = true := by kernel_rfl
set_option maxHeartbeats 8000000 in
set_option maxRecDepth 100000 in
theorem main (a0 : ByteArray) (hs : a0.size ≤ 9223372036854775807) (h12 : 12 ≤ a0.size) (w : World) :
    Calls Tryz.prog 17 #[.string a0] w fun e w' => e = .returned (.tuple #[(getH a0).1.val, .int .i64 (getH a0).2]) ∧ Below w.heap.size w w' := by
  obtain ⟨k, hk⟩ : ∃ k : Nat, k = 100 := ⟨_, rfl⟩
  have hu := Tryz.underlying26
  have HB := Aside0.mk (Below.refl w.heap.size w)
  have c2b0 : decide ((a0.size : Int) < 12) = false := decide_eq_false (by omega)
  have c2b1 : decide (a0.size < 12) = false := decide_eq_false (by omega)
  have c5b0 := eq_true (show 0 ≤ 2 from by omega)
  have c5b1 : decide (0 ≤ 2) = true := rfl
  have c6b0 := eq_true (show 2 ≤ (a0.size : Int) from by omega)
  have c6b1 : decide (2 ≤ (a0.size : Int)) = true := decide_eq_true (by omega)
  have c8b0 := eq_true (show 2 ≤ 4 from by omega)
  have c8b1 : decide (2 ≤ 4) = true := rfl
  have c9b0 := eq_true (show 4 ≤ (a0.size : Int) from by omega)
  have c9b1 : decide (4 ≤ (a0.size : Int)) = true := decide_eq_true (by omega)
  have c11b0 : decide (4 < (a0.size : Int)) = true := decide_eq_true (by omega)
  have c11b1 : decide (4 < a0.size) = true := decide_eq_true (by omega)
  have c13b0 : decide (5 < (a0.size : Int)) = true := decide_eq_true (by omega)
  have c13b1 : decide (5 < a0.size) = true := decide_eq_true (by omega)
  have c16b0 := eq_true (show 6 ≤ 8 from by omega)
  have c16b1 : decide (6 ≤ 8) = true := rfl
  have c17b0 := eq_true (show 8 ≤ (a0.size : Int) from by omega)
  have c17b1 : decide (8 ≤ (a0.size : Int)) = true := decide_eq_true (by omega)
  have c19b0 : decide (8 < (a0.size : Int)) = true := decide_eq_true (by omega)
  have c19b1 : decide (8 < a0.size) = true := decide_eq_true (by omega)
  obtain ⟨t103, e103⟩ : ∃ z : Int, z = (numAt a0 0 2 : Nat) := ⟨_, rfl⟩
  obtain ⟨t104, e104⟩ : ∃ z : Int, z = (numAt a0 2 4 : Nat) := ⟨_, rfl⟩
  obtain ⟨t105, e105⟩ : ∃ z : Int, z = (numAt a0 6 8 : Nat) := ⟨_, rfl⟩
  have A7 : Aside0 (muleteerref1_Number.f k (a0.extract 0 2) = some t103) := ⟨by rw [e103]; exact num_f k a0 0 2 (by omega)⟩
  have A10 : Aside0 (muleteerref1_Number.f k (a0.extract 2 4) = some t104) := ⟨by rw [e104]; exact num_f k a0 2 4 (by omega)⟩
  have A18 : Aside0 (muleteerref1_Number.f k (a0.extract 6 8) = some t105) := ⟨by rw [e105]; exact num_f k a0 6 8 (by omega)⟩
  obtain ⟨y5, hy5⟩ : ∃ y : Int, IntKind.u8.wrap ((bt a0 5).tdiv 16) = y := ⟨_, rfl⟩
  obtain ⟨y6, hy6⟩ : ∃ y : Int, (bt a0 5).tmod 16 = y := ⟨_, rfl⟩
  obtain ⟨y8, hy8⟩ : ∃ y : Int, IntKind.u8.wrap ((bt a0 8).tdiv 2) = y := ⟨_, rfl⟩
  obtain ⟨y9, hy9⟩ : ∃ y : Int, y8.tmod 16 = y := ⟨_, rfl⟩
  obtain ⟨yb, hyb⟩ : ∃ y : Int, (bt a0 8).tmod 2 = y := ⟨_, rfl⟩
  have VY := Aside0.mk (And.intro hy5 (And.intro hy6 (And.intro hy8 (And.intro hy9 hyb))))
  have V := Aside0.mk (And.intro e103 (And.intro e104 e105))
  have H12 := Aside0.mk h12
  have HS := Aside0.mk hs
  clear e103 e104 e105 hk h12 hs
  go_enter Tryz.func17, Tryz.ntmps17
  try go_wp2_with (first | ((with_reducible refine gate_dst (N := 2) rfl ?_); refine box_event ?hg (N := 2) ?hd (cs := #[.int .i64 0, .int .i64 0, .int .i64 0, .int .i64 0, .int .i64 0, .int .i64 0, .int .i64 0, .bool false, .int .u64 0, .int .u64 0, .int .u32 0, .int .i64 0, .int .u8 0, .int .u8 0, .int .u8 0]) (t := 26) ?hr ?_; (case hd => rfl); (case hg => rfl); (case hr => first | (go_simp; done) | (go_simp; rfl)); intro gb102 hg w22 hbox hb; have n0_ := Aside0.mk (below_step (by repeat (first | (with_reducible first | exact HB.out | apply below_alloc | apply pw_below_drewN | apply below_drew1) | exact HB.out)) hb); have n1_ := Aside0.mk (hbox); have n2_ := Aside0.mk ((by rw [hg]; exact (below_size (by repeat (first | (with_reducible first | exact HB.out | apply below_alloc | apply pw_below_drewN | apply below_drew1) | exact HB.out))) : w.heap.size ≤ gb102)); have n3_ := Aside0.mk ((by rw [hg]; exact (below_size (by repeat (first | (with_reducible first | exact HB.out | apply below_alloc | apply pw_below_drewN | apply below_drew1) | exact HB.out))) : w.heap.size ≤ gb102)); clear HB; have HB := n0_; have BK102 := n1_; have GW102 := n2_; have GE102 := n3_; clear n0_ n1_ n2_ n3_; clear hb hbox hg))
  have n0_ := Aside0.mk (blk_drew BK102.out)
  have n1_ := Aside0.mk (below_drew1 HB.out)
  clear BK102
  clear HB
  have BK102 := n0_
  have HB := n1_
  clear n0_ n1_
  have p12 : 0 ≤ (4 : Int) := (by omega)
  have q12 : 4 < a0.size := (by have : (4 : Int) < (a0.size : Int) := of_decide_eq_true (by first | (with_reducible assumption) | assumption); omega)
  have hx12 : ∀ h : 4 < a0.size, ((a0[4]'h).toNat : Int) = bt a0 4 := bt_at a0 4
  clear p12
  have qi12 : (4 < (a0.size : Int)) = True := eq_true (of_decide_eq_true (by first | (with_reducible assumption) | assumption))
  replace q12 := eq_true q12
  have p14 : 0 ≤ (5 : Int) := (by omega)
  have q14 : 5 < a0.size := (by have : (5 : Int) < (a0.size : Int) := of_decide_eq_true (by first | (with_reducible assumption) | assumption); omega)
  have hx14 : ∀ h : 5 < a0.size, ((a0[5]'h).toNat : Int) = bt a0 5 := bt_at a0 5
  clear p14
  have qi14 : (5 < (a0.size : Int)) = True := eq_true (of_decide_eq_true (by first | (with_reducible assumption) | assumption))
  replace q14 := eq_true q14
  have p15 : 0 ≤ (5 : Int) := (by omega)
  have q15 : 5 < a0.size := (by have : (5 : Int) < (a0.size : Int) := of_decide_eq_true (by first | (with_reducible assumption) | assumption); omega)
  have hx15 : ∀ h : 5 < a0.size, ((a0[5]'h).toNat : Int) = bt a0 5 := bt_at a0 5
  clear p15
  have qi15 : (5 < (a0.size : Int)) = True := eq_true (of_decide_eq_true (by first | (with_reducible assumption) | assumption))
  replace q15 := eq_true q15
  have p20 : 0 ≤ (8 : Int) := (by omega)
  have q20 : 8 < a0.size := (by have : (8 : Int) < (a0.size : Int) := of_decide_eq_true (by first | (with_reducible assumption) | assumption); omega)
  have hx20 : ∀ h : 8 < a0.size, ((a0[8]'h).toNat : Int) = bt a0 8 := bt_at a0 8
  clear p20
  have qi20 : (8 < (a0.size : Int)) = True := eq_true (of_decide_eq_true (by first | (with_reducible assumption) | assumption))
  replace q20 := eq_true q20
  have p21 : 0 ≤ (8 : Int) := (by omega)
  have q21 : 8 < a0.size := (by have : (8 : Int) < (a0.size : Int) := of_decide_eq_true (by first | (with_reducible assumption) | assumption); omega)
  have hx21 : ∀ h : 8 < a0.size, ((a0[8]'h).toNat : Int) = bt a0 8 := bt_at a0 8
  clear p21
  have qi21 : (8 < (a0.size : Int)) = True := eq_true (of_decide_eq_true (by first | (with_reducible assumption) | assumption))
  replace q21 := eq_true q21
  refine start_ (n := 35) (S := fun w' => True) (ds := []) #[false, false, false, false, false, false, false, false, false, false, false, false, false, false, false, false, false, false, false, false, false, false, false, false, false, false, false, false, false, false, false, false, false, false, false] (by kernel_rfl) rfl rfl trivial (fun hHeld => ?_); refine with_tabW muleteerref1_GetHead.tab3 muleteerref1_GetHead.bits3 (fun HT_ HW_ => ?_)
  generalize w22.drew = w23 at BK102 HB hHeld ⊢
  refine pure_ (i := 0) (N := some 11) (v := ?_) (a' := ?_) #[true, false, false, false, false, false, false, false, false, false, false, false, false, false, false, false, false, false, false, false, false, false, false, false, false, false, false, false, false, false, false, false, false, false, false] rfl rfl (any_of HT_.out (by kernel_rfl)) (fun _ _ _ h => h) (Or.inl ⟨by rfl, ?_⟩) ?_ ?_
  rotate_left
  · intro w'
    go_simp
    with_reducible rfl
  rotate_left
  · simp only [Act.put, List.setIfInBounds_toArray, List.set_cons_zero, List.set_cons_succ, i64_w, i32_w]
    rfl
  refine pure_ (i := 1) (N := some 12) (v := ?_) (a' := ?_) #[true, true, false, false, false, false, false, false, false, false, false, false, false, false, false, false, false, false, false, false, false, false, false, false, false, false, false, false, false, false, false, false, false, false, false] rfl rfl (any_of HT_.out (by kernel_rfl)) (fun _ _ _ h => h) (Or.inl ⟨by rfl, ?_⟩) ?_ ?_
  rotate_left
  · intro w'
    go_simp
    with_reducible rfl
  rotate_left
  · simp only [Act.put, List.setIfInBounds_toArray, List.set_cons_zero, List.set_cons_succ, i64_w, i32_w]
    rfl
  refine pure_ (i := 4) (N := some 15) (v := ?_) (a' := ?_) #[true, true, false, false, true, false, false, false, false, false, false, false, false, false, false, false, false, false, false, false, false, false, false, false, false, false, false, false, false, false, false, false, false, false, false] rfl rfl (any_of HT_.out (by kernel_rfl)) (fun _ _ _ h => h) (Or.inl ⟨by rfl, ?_⟩) ?_ ?_
  rotate_left
  · intro w'
    go_simp
    with_reducible rfl
  rotate_left
  · simp only [Act.put, List.setIfInBounds_toArray, List.set_cons_zero, List.set_cons_succ, i64_w, i32_w]
    rfl
  refine pure_ (i := 5) (N := some 16) (v := ?_) (a' := ?_) #[true, true, false, false, true, true, false, false, false, false, false, false, false, false, false, false, false, false, false, false, false, false, false, false, false, false, false, false, false, false, false, false, false, false, false] rfl rfl (any_of HT_.out (by kernel_rfl)) (fun _ _ _ h => h) (Or.inl ⟨by rfl, ?_⟩) ?_ ?_
  rotate_left
  · intro w'
    go_simp
    with_reducible rfl
  rotate_left
  · simp only [Act.put, List.setIfInBounds_toArray, List.set_cons_zero, List.set_cons_succ, i64_w, i32_w]
    rfl
  refine pure_ (i := 8) (N := some 19) (v := ?_) (a' := ?_) #[true, true, false, false, true, true, false, false, true, false, false, false, false, false, false, false, false, false, false, false, false, false, false, false, false, false, false, false, false, false, false, false, false, false, false] rfl rfl (any_of HT_.out (by kernel_rfl)) (fun _ _ _ h => h) (Or.inl ⟨by rfl, ?_⟩) ?_ ?_
  rotate_left
  · intro w'
    go_simp
    with_reducible rfl
  rotate_left
  · simp only [Act.put, List.setIfInBounds_toArray, List.set_cons_zero, List.set_cons_succ, i64_w, i32_w]
    rfl
  refine pure_ (i := 11) (N := some 22) (v := ?_) (a' := ?_) #[true, true, false, false, true, true, false, false, true, false, false, true, false, false, false, false, false, false, false, false, false, false, false, false, false, false, false, false, false, false, false, false, false, false, false] rfl rfl (any_of HT_.out (by kernel_rfl)) (fun _ _ _ h => h) (Or.inl ⟨by rfl, ?_⟩) ?_ ?_
  rotate_left
  · intro w'
    go_simp
    with_reducible rfl
  rotate_left
  · simp only [Act.put, List.setIfInBounds_toArray, List.set_cons_zero, List.set_cons_succ, i64_w, i32_w]
    rfl
  refine pure_ (i := 15) (N := some 26) (v := ?_) (a' := ?_) #[true, true, false, false, true, true, false, false, true, false, false, true, false, false, false, true, false, false, false, false, false, false, false, false, false, false, false, false, false, false, false, false, false, false, false] rfl rfl (any_of HT_.out (by kernel_rfl)) (fun _ _ _ h => h) (Or.inl ⟨by rfl, ?_⟩) ?_ ?_
  rotate_left
  · intro w'
    go_simp
    with_reducible rfl
  rotate_left
  · simp only [Act.put, List.setIfInBounds_toArray, List.set_cons_zero, List.set_cons_succ, i64_w, i32_w]
    rfl
  refine pure_ (i := 19) (N := some 30) (v := ?_) (a' := ?_) #[true, true, false, false, true, true, false, false, true, false, false, true, false, false, false, true, false, false, false, true, false, false, false, false, false, false, false, false, false, false, false, false, false, false, false] rfl rfl (any_of HT_.out (by kernel_rfl)) (fun _ _ _ h => h) (Or.inl ⟨by rfl, ?_⟩) ?_ ?_
  rotate_left
  · intro w'
    go_simp
    with_reducible rfl
  rotate_left
  · simp only [Act.put, List.setIfInBounds_toArray, List.set_cons_zero, List.set_cons_succ, i64_w, i32_w]
    rfl
  refine pure_ (i := 20) (N := some 31) (v := ?_) (a' := ?_) #[true, true, false, false, true, true, false, false, true, false, false, true, false, false, false, true, false, false, false, true, true, false, false, false, false, false, false, false, false, false, false, false, false, false, false] rfl rfl (any_of HT_.out (by kernel_rfl)) (fun _ _ _ h => h) (Or.inl ⟨by rfl, ?_⟩) ?_ ?_
  rotate_left
  · intro w'
    go_simp
    with_reducible rfl
  rotate_left
  · simp only [Act.put, List.setIfInBounds_toArray, List.set_cons_zero, List.set_cons_succ, i64_w, i32_w]
    rfl
  refine pure_ (i := 23) (N := some 34) (v := ?_) (a' := ?_) #[true, true, false, false, true, true, false, false, true, false, false, true, false, false, false, true, false, false, false, true, true, false, false, true, false, false, false, false, false, false, false, false, false, false, false] rfl rfl (any_of HT_.out (by kernel_rfl)) (fun _ _ _ h => h) (Or.inl ⟨by rfl, ?_⟩) ?_ ?_
  rotate_left
  · intro w'
    go_simp
    with_reducible rfl
  rotate_left
  · simp only [Act.put, List.setIfInBounds_toArray, List.set_cons_zero, List.set_cons_succ, i64_w, i32_w]
    rfl
  refine pure_ (i := 28) (N := some 39) (v := ?_) (a' := ?_) #[true, true, false, false, true, true, false, false, true, false, false, true, false, false, false, true, false, false, false, true, true, false, false, true, false, false, false, false, true, false, false, false, false, false, false] rfl rfl (any_of HT_.out (by kernel_rfl)) (fun _ _ _ h => h) (Or.inl ⟨by rfl, ?_⟩) ?_ ?_
  rotate_left
  · intro w'
    go_simp
    with_reducible rfl
  rotate_left
  · simp only [Act.put, List.setIfInBounds_toArray, List.set_cons_zero, List.set_cons_succ, i64_w, i32_w]
    rfl
  refine take_ (i := 9) (N := some 20) (v := ?_) (a' := ?_) #[true, true, false, false, true, true, false, false, true, true, false, true, false, false, false, true, false, false, false, true, true, false, false, true, false, false, false, false, true, false, false, false, false, false, false] rfl rfl (take_ofW HT_.out HW_.out (by kernel_rfl)) (fun _ _ _ h => h) (Or.inl ⟨by rfl, ?_⟩) hHeld ?_ ?_
  rotate_left
  · intro w' _
    go_simp
    with_reducible rfl
  rotate_left
  · simp only [Act.put, List.setIfInBounds_toArray, List.set_cons_zero, List.set_cons_succ, i64_w, i32_w]
    rfl
  refine pure_ (i := 10) (N := some 21) (v := ?_) (a' := ?_) #[true, true, false, false, true, true, false, false, true, true, true, true, false, false, false, true, false, false, false, true, true, false, false, true, false, false, false, false, true, false, false, false, false, false, false] rfl rfl (any_of HT_.out (by kernel_rfl)) (fun _ _ _ h => h) (Or.inl ⟨by rfl, ?_⟩) ?_ ?_
  rotate_left
  · intro w'
    go_simp
    with_reducible rfl
  rotate_left
  · simp only [Act.put, List.setIfInBounds_toArray, List.set_cons_zero, List.set_cons_succ, i64_w, i32_w]
    rfl
  refine take_ (i := 12) (N := some 23) (v := ?_) (a' := ?_) #[true, true, false, false, true, true, false, false, true, true, true, true, true, false, false, true, false, false, false, true, true, false, false, true, false, false, false, false, true, false, false, false, false, false, false] rfl rfl (take_ofW HT_.out HW_.out (by kernel_rfl)) (fun _ _ _ h => h) (Or.inl ⟨by rfl, ?_⟩) hHeld ?_ ?_
  rotate_left
  · intro w' _
    go_simp
    with_reducible rfl
  rotate_left
  · simp only [Act.put, List.setIfInBounds_toArray, List.set_cons_zero, List.set_cons_succ, i64_w, i32_w]
    rfl
  refine pure_ (i := 13) (N := some 24) (v := ?_) (a' := ?_) #[true, true, false, false, true, true, false, false, true, true, true, true, true, true, false, true, false, false, false, true, true, false, false, true, false, false, false, false, true, false, false, false, false, false, false] rfl rfl (any_of HT_.out (by kernel_rfl)) (fun _ _ _ h => h) (Or.inl ⟨by rfl, ?_⟩) ?_ ?_
  rotate_left
  · intro w'
    go_simp
    with_reducible rfl
  rotate_left
  · simp only [Act.put, List.setIfInBounds_toArray, List.set_cons_zero, List.set_cons_succ, i64_w, i32_w]
    rfl
  refine pure_ (i := 14) (N := some 25) (v := ?_) (a' := ?_) #[true, true, false, false, true, true, false, false, true, true, true, true, true, true, true, true, false, false, false, true, true, false, false, true, false, false, false, false, true, false, false, false, false, false, false] rfl rfl (any_of HT_.out (by kernel_rfl)) (fun _ _ _ h => h) (Or.inl ⟨by rfl, ?_⟩) ?_ ?_
  rotate_left
  · intro w'
    go_simp
    with_reducible rfl
  rotate_left
  · simp only [Act.put, List.setIfInBounds_toArray, List.set_cons_zero, List.set_cons_succ, i64_w, i32_w]
    rfl
  refine take_ (i := 16) (N := some 27) (v := ?_) (a' := ?_) #[true, true, false, false, true, true, false, false, true, true, true, true, true, true, true, true, true, false, false, true, true, false, false, true, false, false, false, false, true, false, false, false, false, false, false] rfl rfl (take_ofW HT_.out HW_.out (by kernel_rfl)) (fun _ _ _ h => h) (Or.inl ⟨by rfl, ?_⟩) hHeld ?_ ?_
  rotate_left
  · intro w' _
    go_simp
    with_reducible rfl
  rotate_left
  · simp only [Act.put, List.setIfInBounds_toArray, List.set_cons_zero, List.set_cons_succ, i64_w, i32_w]
    rfl
  refine pure_ (i := 17) (N := some 28) (v := ?_) (a' := ?_) #[true, true, false, false, true, true, false, false, true, true, true, true, true, true, true, true, true, true, false, true, true, false, false, true, false, false, false, false, true, false, false, false, false, false, false] rfl rfl (any_of HT_.out (by kernel_rfl)) (fun _ _ _ h => h) (Or.inl ⟨by rfl, ?_⟩) ?_ ?_
  rotate_left
  · intro w'
    go_simp
    with_reducible rfl
  rotate_left
  · simp only [Act.put, List.setIfInBounds_toArray, List.set_cons_zero, List.set_cons_succ, i64_w, i32_w]
    rfl
  refine pure_ (i := 18) (N := some 29) (v := ?_) (a' := ?_) #[true, true, false, false, true, true, false, false, true, true, true, true, true, true, true, true, true, true, true, true, true, false, false, true, false, false, false, false, true, false, false, false, false, false, false] rfl rfl (any_of HT_.out (by kernel_rfl)) (fun _ _ _ h => h) (Or.inl ⟨by rfl, ?_⟩) ?_ ?_
  rotate_left
  · intro w'
    go_simp
    with_reducible rfl
  rotate_left
  · simp only [Act.put, List.setIfInBounds_toArray, List.set_cons_zero, List.set_cons_succ, i64_w, i32_w]
    rfl
  refine take_ (i := 24) (N := some 35) (v := ?_) (a' := ?_) #[true, true, false, false, true, true, false, false, true, true, true, true, true, true, true, true, true, true, true, true, true, false, false, true, true, false, false, false, true, false, false, false, false, false, false] rfl rfl (take_ofW HT_.out HW_.out (by kernel_rfl)) (fun _ _ _ h => h) (Or.inl ⟨by rfl, ?_⟩) hHeld ?_ ?_
  rotate_left
  · intro w' _
    go_simp
    with_reducible rfl
  rotate_left
  · simp only [Act.put, List.setIfInBounds_toArray, List.set_cons_zero, List.set_cons_succ, i64_w, i32_w]
    rfl
  refine pure_ (i := 25) (N := some 36) (v := ?_) (a' := ?_) #[true, true, false, false, true, true, false, false, true, true, true, true, true, true, true, true, true, true, true, true, true, false, false, true, true, true, false, false, true, false, false, false, false, false, false] rfl rfl (any_of HT_.out (by kernel_rfl)) (fun _ _ _ h => h) (Or.inl ⟨by rfl, ?_⟩) ?_ ?_
  rotate_left
  · intro w'
    go_simp
    with_reducible rfl
  rotate_left
  · simp only [Act.put, List.setIfInBounds_toArray, List.set_cons_zero, List.set_cons_succ, i64_w, i32_w]
    rfl
  refine pure_ (i := 26) (N := some 37) (v := ?_) (a' := ?_) #[true, true, false, false, true, true, false, false, true, true, true, true, true, true, true, true, true, true, true, true, true, false, false, true, true, true, true, false, true, false, false, false, false, false, false] rfl rfl (any_of HT_.out (by kernel_rfl)) (fun _ _ _ h => h) (Or.inl ⟨by rfl, ?_⟩) ?_ ?_
  rotate_left
  · intro w'
    go_simp
    with_reducible rfl
  rotate_left
  · simp only [Act.put, List.setIfInBounds_toArray, List.set_cons_zero, List.set_cons_succ, i64_w, i32_w]
    rfl
  refine pure_ (i := 27) (N := some 38) (v := ?_) (a' := ?_) #[true, true, false, false, true, true, false, false, true, true, true, true, true, true, true, true, true, true, true, true, true, false, false, true, true, true, true, true, true, false, false, false, false, false, false] rfl rfl (any_of HT_.out (by kernel_rfl)) (fun _ _ _ h => h) (Or.inl ⟨by rfl, ?_⟩) ?_ ?_
  rotate_left
  · intro w'
    go_simp
    with_reducible rfl
  rotate_left
  · simp only [Act.put, List.setIfInBounds_toArray, List.set_cons_zero, List.set_cons_succ, i64_w, i32_w]
    rfl
  refine take_ (i := 29) (N := some 40) (v := ?_) (a' := ?_) #[true, true, false, false, true, true, false, false, true, true, true, true, true, true, true, true, true, true, true, true, true, false, false, true, true, true, true, true, true, true, false, false, false, false, false] rfl rfl (take_ofW HT_.out HW_.out (by kernel_rfl)) (fun _ _ _ h => h) (Or.inl ⟨by rfl, ?_⟩) hHeld ?_ ?_
  rotate_left
  · intro w' _
    go_simp
    with_reducible rfl
  rotate_left
  · simp only [Act.put, List.setIfInBounds_toArray, List.set_cons_zero, List.set_cons_succ, i64_w, i32_w]
    rfl
  refine pure_ (i := 30) (N := some 41) (v := ?_) (a' := ?_) #[true, true, false, false, true, true, false, false, true, true, true, true, true, true, true, true, true, true, true, true, true, false, false, true, true, true, true, true, true, true, true, false, false, false, false] rfl rfl (any_of HT_.out (by kernel_rfl)) (fun _ _ _ h => h) (Or.inl ⟨by rfl, ?_⟩) ?_ ?_
  rotate_left
  · intro w'
    go_simp
    with_reducible rfl
  rotate_left
  · simp only [Act.put, List.setIfInBounds_toArray, List.set_cons_zero, List.set_cons_succ, i64_w, i32_w]
    rfl
  refine pure_ (i := 31) (N := some 42) (v := ?_) (a' := ?_) #[true, true, false, false, true, true, false, false, true, true, true, true, true, true, true, true, true, true, true, true, true, false, false, true, true, true, true, true, true, true, true, true, false, false, false] rfl rfl (any_of HT_.out (by kernel_rfl)) (fun _ _ _ h => h) (Or.inl ⟨by rfl, ?_⟩) ?_ ?_
  rotate_left
  · intro w'
    go_simp
    with_reducible rfl
  rotate_left
  · simp only [Act.put, List.setIfInBounds_toArray, List.set_cons_zero, List.set_cons_succ, i64_w, i32_w]
    rfl
  refine join_ (σ := Nat) 1 #[true, true, true, true, true, true, true, true, true, true, true, true, true, true, true, true, true, true, true, true, true, true, true, true, true, true, true, true, true, true, true, true, true, true, false] (fun s_ => [(13, .int .u64 t103), (17, .int .u64 t104), (32, .int .u64 t105), (4, .pointer (some ⟨s_, 0, none⟩)), (14, .int .i64 (wrap64 (t103))), (18, .int .i64 (wrap64 (t104))), (33, .int .i64 (wrap64 (t105))), (43, .agg #[.int .i64 (wrap64 (t103)), .int .i64 (wrap64 (t104)), .int .i64 (wrap64 (bt a0 4)), .int .i64 (wrap64 y5), .int .i64 (wrap64 y6), .int .i64 (wrap64 (t105)), .int .i64 (wrap64 y9), .bool (yb == 1), .int .u64 0, .int .u64 0, .int .u32 0, .int .i64 0, .int .u8 0, .int .u8 0, .int .u8 0])]) (fun s_ w' => (w'.heap[gb102]? = some (.cells #[.int .i64 0, .int .i64 0, .int .i64 0, .int .i64 0, .int .i64 0, .int .i64 0, .int .i64 0, .bool false, .int .u64 0, .int .u64 0, .int .u32 0, .int .i64 0, .int .u8 0, .int .u8 0, .int .u8 0] 26 (0, 0))) ∧ (w'.heap[s_]? = some (.cells #[.int .i64 0, .int .i64 0, .int .i64 0, .int .i64 0, .int .i64 0, .int .i64 0, .int .i64 0, .bool false, .int .u64 0, .int .u64 0, .int .u32 0, .int .i64 0, .int .u8 0, .int .u8 0, .int .u8 0] 26 (0, 0))) ∧ (w.heap.size ≤ s_) ∧ (w.heap.size ≤ s_) ∧ (gb102 ≠ s_) ∧ (s_ ≠ gb102) ∧ (Below w.heap.size w w')) ?_ ?_
  rotate_left
  · intro hCont
    refine two_ (i := 2) (j := 33) (Ni := some 13) (Nj := some 4) #[true, true, true, false, true, true, false, false, true, true, true, true, true, true, true, true, true, true, true, true, true, false, false, true, true, true, true, true, true, true, true, true, false, false, false] #[true, true, false, false, true, true, false, false, true, true, true, true, true, true, true, true, true, true, true, true, true, false, false, true, true, true, true, true, true, true, true, true, false, true, false] rfl rfl rfl rfl (two_of HT_.out (by kernel_rfl)) (by decide) (by decide) (fun K hK => ?_) (fun K hK => ?_)
    · skip
      refine goes_ Tryz.func54 (by kernel_rfl) rfl #[.string (a0.extract 0 2)] (by rfl) rfl rfl (by (try simp only [List.map_toArray, List.map_cons, List.map_nil]); first | done | rfl | (simp only [List.length_drop, List.length_take]; rfl)) ?_
      with_reducible refine (muleteerref1_Number.calls k (a0.extract 0 2) t103 _ A7.out).mono ?_
      rintro e w' ⟨rfl, ⟨nd, rfl⟩⟩
      refine ⟨_, rfl, ?_⟩
      refine hK.out _ _ trivial (fun hHeld => ?_)
      clear hK K
      refine norm_ (a' := ?_) ?_ ?_
      rotate_left
      · show Act.put _ (some 13) _ = _
        simp only [Act.put, List.setIfInBounds_toArray, List.set_cons_zero, List.set_cons_succ, i64_w, i32_w]
        rfl
      refine pure_ (i := 3) (N := some 14) (v := ?_) (a' := ?_) #[true, true, true, true, true, true, false, false, true, true, true, true, true, true, true, true, true, true, true, true, true, false, false, true, true, true, true, true, true, true, true, true, false, false, false] rfl rfl (any_of HT_.out (by kernel_rfl)) (fun _ _ _ h => h) (Or.inl ⟨by rfl, ?_⟩) ?_ ?_
      rotate_left
      · intro w'
        go_simp
        with_reducible rfl
      rotate_left
      · simp only [Act.put, List.setIfInBounds_toArray, List.set_cons_zero, List.set_cons_succ, i64_w, i32_w]
        rfl
      refine two_ (i := 6) (j := 33) (Ni := some 17) (Nj := some 4) #[true, true, true, true, true, true, true, false, true, true, true, true, true, true, true, true, true, true, true, true, true, false, false, true, true, true, true, true, true, true, true, true, false, false, false] #[true, true, true, true, true, true, false, false, true, true, true, true, true, true, true, true, true, true, true, true, true, false, false, true, true, true, true, true, true, true, true, true, false, true, false] rfl rfl rfl rfl (two_of HT_.out (by kernel_rfl)) (by decide) (by decide) (fun K hK => ?_) (fun K hK => ?_)
      · skip
        refine goes_ Tryz.func54 (by kernel_rfl) rfl #[.string (a0.extract 2 4)] (by rfl) rfl rfl (by (try simp only [List.map_toArray, List.map_cons, List.map_nil]); first | done | rfl | (simp only [List.length_drop, List.length_take]; rfl)) ?_
        with_reducible refine (muleteerref1_Number.calls k (a0.extract 2 4) t104 _ A10.out).mono ?_
        rintro e w' ⟨rfl, ⟨nd, rfl⟩⟩
        refine ⟨_, rfl, ?_⟩
        refine hK.out _ _ trivial (fun hHeld => ?_)
        clear hK K
        refine norm_ (a' := ?_) ?_ ?_
        rotate_left
        · show Act.put _ (some 17) _ = _
          simp only [Act.put, List.setIfInBounds_toArray, List.set_cons_zero, List.set_cons_succ, i64_w, i32_w]
          rfl
        refine pure_ (i := 7) (N := some 18) (v := ?_) (a' := ?_) #[true, true, true, true, true, true, true, true, true, true, true, true, true, true, true, true, true, true, true, true, true, false, false, true, true, true, true, true, true, true, true, true, false, false, false] rfl rfl (any_of HT_.out (by kernel_rfl)) (fun _ _ _ h => h) (Or.inl ⟨by rfl, ?_⟩) ?_ ?_
        rotate_left
        · intro w'
          go_simp
          with_reducible rfl
        rotate_left
        · simp only [Act.put, List.setIfInBounds_toArray, List.set_cons_zero, List.set_cons_succ, i64_w, i32_w]
          rfl
        refine two_ (i := 21) (j := 33) (Ni := some 32) (Nj := some 4) #[true, true, true, true, true, true, true, true, true, true, true, true, true, true, true, true, true, true, true, true, true, true, false, true, true, true, true, true, true, true, true, true, false, false, false] #[true, true, true, true, true, true, true, true, true, true, true, true, true, true, true, true, true, true, true, true, true, false, false, true, true, true, true, true, true, true, true, true, false, true, false] rfl rfl rfl rfl (two_of HT_.out (by kernel_rfl)) (by decide) (by decide) (fun K hK => ?_) (fun K hK => ?_)
        · skip
          refine goes_ Tryz.func54 (by kernel_rfl) rfl #[.string (a0.extract 6 8)] (by rfl) rfl rfl (by (try simp only [List.map_toArray, List.map_cons, List.map_nil]); first | done | rfl | (simp only [List.length_drop, List.length_take]; rfl)) ?_
          with_reducible refine (muleteerref1_Number.calls k (a0.extract 6 8) t105 _ A18.out).mono ?_
          rintro e w' ⟨rfl, ⟨nd, rfl⟩⟩
          refine ⟨_, rfl, ?_⟩
          refine hK.out _ _ trivial (fun hHeld => ?_)
          clear hK K
          refine norm_ (a' := ?_) ?_ ?_
          rotate_left
          · show Act.put _ (some 32) _ = _
            simp only [Act.put, List.setIfInBounds_toArray, List.set_cons_zero, List.set_cons_succ, i64_w, i32_w]
            rfl
          refine pure_ (i := 22) (N := some 33) (v := ?_) (a' := ?_) #[true, true, true, true, true, true, true, true, true, true, true, true, true, true, true, true, true, true, true, true, true, true, true, true, true, true, true, true, true, true, true, true, false, false, false] rfl rfl (any_of HT_.out (by kernel_rfl)) (fun _ _ _ h => h) (Or.inl ⟨by rfl, ?_⟩) ?_ ?_
          rotate_left
          · intro w'
            go_simp
            with_reducible rfl
          rotate_left
          · simp only [Act.put, List.setIfInBounds_toArray, List.set_cons_zero, List.set_cons_succ, i64_w, i32_w]
            rfl
          refine pure_ (i := 32) (N := some 43) (v := ?_) (a' := ?_) #[true, true, true, true, true, true, true, true, true, true, true, true, true, true, true, true, true, true, true, true, true, true, true, true, true, true, true, true, true, true, true, true, true, false, false] rfl rfl (any_of HT_.out (by kernel_rfl)) (fun _ _ _ h => h) (Or.inl ⟨by rfl, ?_⟩) ?_ ?_
          rotate_left
          · intro w'
            go_simp
            with_reducible rfl
          rotate_left
          · simp only [Act.put, List.setIfInBounds_toArray, List.set_cons_zero, List.set_cons_succ, i64_w, i32_w]
            rfl
          refine one_ (i := 33) (N := some 4) #[true, true, true, true, true, true, true, true, true, true, true, true, true, true, true, true, true, true, true, true, true, true, true, true, true, true, true, true, true, true, true, true, true, true, false] rfl rfl (one_of HT_.out (by kernel_rfl)) (by decide) (fun K hK => ?_)
          refine box_step ?hg (N := 4) ?hd (cs := #[.int .i64 0, .int .i64 0, .int .i64 0, .int .i64 0, .int .i64 0, .int .i64 0, .int .i64 0, .bool false, .int .u64 0, .int .u64 0, .int .u32 0, .int .i64 0, .int .u8 0, .int .u8 0, .int .u8 0]) (t := 26) ?hr ?_; (case hd => rfl); (case hg => rfl); (case hr => first | (go_simp; done) | (go_simp; rfl))
          intro gb106 hg w24 hbox hb
          have n0_ := Aside0.mk (blk_below (g := gb102) (o := .cells #[.int .i64 0, .int .i64 0, .int .i64 0, .int .i64 0, .int .i64 0, .int .i64 0, .int .i64 0, .bool false, .int .u64 0, .int .u64 0, .int .u32 0, .int .i64 0, .int .u8 0, .int .u8 0, .int .u8 0] 26 (0, 0)) (by (with_reducible repeat (first | refine blk_drewN ?_ _ | refine blk_drew ?_ | refine blk_alloc ?_ _)); exact BK102.out) hb)
          have n1_ := Aside0.mk (below_step (by repeat (first | (with_reducible first | exact HB.out | apply below_alloc | apply pw_below_drewN | apply below_drew1 | refine below_set ?_ GE102.out) | exact HB.out)) hb)
          have n2_ := Aside0.mk (hbox)
          have n3_ := Aside0.mk ((by rw [hg]; exact (below_size (by repeat (first | (with_reducible first | exact HB.out | apply below_alloc | apply pw_below_drewN | apply below_drew1 | refine below_set ?_ GE102.out) | exact HB.out))) : w.heap.size ≤ gb106))
          have n4_ := Aside0.mk ((by rw [hg]; exact (below_size (by repeat (first | (with_reducible first | exact HB.out | apply below_alloc | apply pw_below_drewN | apply below_drew1 | refine below_set ?_ GE102.out) | exact HB.out))) : w.heap.size ≤ gb106))
          have n5_ := Aside0.mk ((by rw [hg]; exact Nat.ne_of_lt (blk_lt (g := gb102) (o := .cells #[.int .i64 0, .int .i64 0, .int .i64 0, .int .i64 0, .int .i64 0, .int .i64 0, .int .i64 0, .bool false, .int .u64 0, .int .u64 0, .int .u32 0, .int .i64 0, .int .u8 0, .int .u8 0, .int .u8 0] 26 (0, 0)) (by (with_reducible repeat (first | refine blk_drewN ?_ _ | refine blk_drew ?_ | refine blk_alloc ?_ _)); exact BK102.out)) : gb102 ≠ gb106))
          have n6_ := Aside0.mk ((by rw [hg]; exact Nat.ne_of_gt (blk_lt (g := gb102) (o := .cells #[.int .i64 0, .int .i64 0, .int .i64 0, .int .i64 0, .int .i64 0, .int .i64 0, .int .i64 0, .bool false, .int .u64 0, .int .u64 0, .int .u32 0, .int .i64 0, .int .u8 0, .int .u8 0, .int .u8 0] 26 (0, 0)) (by (with_reducible repeat (first | refine blk_drewN ?_ _ | refine blk_drew ?_ | refine blk_alloc ?_ _)); exact BK102.out)) : gb106 ≠ gb102))
          clear BK102
          clear HB
          have BK102 := n0_
          have HB := n1_
          have BK106 := n2_
          have GW106 := n3_
          have GE106 := n4_
          have NB102_106 := n5_
          have NB106_102 := n6_
          clear n0_ n1_ n2_ n3_ n4_ n5_ n6_
          clear hb hbox hg
          refine hK.out _ _ trivial (fun hHeld => ?_)
          clear hK K
          refine norm_ (a' := ?_) ?_ ?_
          rotate_left
          · show Act.put _ (some 4) _ = _
            simp only [Act.put, List.setIfInBounds_toArray, List.set_cons_zero, List.set_cons_succ, i64_w, i32_w]
            rfl
          exact norm_ (by simp only [putAll, Act.put, List.setIfInBounds_toArray, List.set_cons_zero, List.set_cons_succ]) (hCont (gb106) _ ⟨(by (with_reducible repeat (first | refine blk_drewN ?_ _ | refine blk_drew ?_ | refine blk_alloc ?_ _)); exact BK102.out), (by (with_reducible repeat (first | refine blk_drewN ?_ _ | refine blk_drew ?_ | refine blk_alloc ?_ _)); exact BK106.out), GW106.out, GE106.out, NB102_106.out, NB106_102.out, (by repeat (first | (with_reducible first | exact HB.out | apply below_alloc | apply pw_below_drewN | apply below_drew1 | refine below_set ?_ GE102.out | refine below_set ?_ GE106.out) | exact HB.out))⟩)
        · skip
          refine box_step ?hg (N := 4) ?hd (cs := #[.int .i64 0, .int .i64 0, .int .i64 0, .int .i64 0, .int .i64 0, .int .i64 0, .int .i64 0, .bool false, .int .u64 0, .int .u64 0, .int .u32 0, .int .i64 0, .int .u8 0, .int .u8 0, .int .u8 0]) (t := 26) ?hr ?_; (case hd => rfl); (case hg => rfl); (case hr => first | (go_simp; done) | (go_simp; rfl))
          intro gb106 hg w24 hbox hb
          have n0_ := Aside0.mk (blk_below (g := gb102) (o := .cells #[.int .i64 0, .int .i64 0, .int .i64 0, .int .i64 0, .int .i64 0, .int .i64 0, .int .i64 0, .bool false, .int .u64 0, .int .u64 0, .int .u32 0, .int .i64 0, .int .u8 0, .int .u8 0, .int .u8 0] 26 (0, 0)) (by (with_reducible repeat (first | refine blk_drewN ?_ _ | refine blk_drew ?_ | refine blk_alloc ?_ _)); exact BK102.out) hb)
          have n1_ := Aside0.mk (below_step (by repeat (first | (with_reducible first | exact HB.out | apply below_alloc | apply pw_below_drewN | apply below_drew1 | refine below_set ?_ GE102.out) | exact HB.out)) hb)
          have n2_ := Aside0.mk (hbox)
          have n3_ := Aside0.mk ((by rw [hg]; exact (below_size (by repeat (first | (with_reducible first | exact HB.out | apply below_alloc | apply pw_below_drewN | apply below_drew1 | refine below_set ?_ GE102.out) | exact HB.out))) : w.heap.size ≤ gb106))
          have n4_ := Aside0.mk ((by rw [hg]; exact (below_size (by repeat (first | (with_reducible first | exact HB.out | apply below_alloc | apply pw_below_drewN | apply below_drew1 | refine below_set ?_ GE102.out) | exact HB.out))) : w.heap.size ≤ gb106))
          have n5_ := Aside0.mk ((by rw [hg]; exact Nat.ne_of_lt (blk_lt (g := gb102) (o := .cells #[.int .i64 0, .int .i64 0, .int .i64 0, .int .i64 0, .int .i64 0, .int .i64 0, .int .i64 0, .bool false, .int .u64 0, .int .u64 0, .int .u32 0, .int .i64 0, .int .u8 0, .int .u8 0, .int .u8 0] 26 (0, 0)) (by (with_reducible repeat (first | refine blk_drewN ?_ _ | refine blk_drew ?_ | refine blk_alloc ?_ _)); exact BK102.out)) : gb102 ≠ gb106))
          have n6_ := Aside0.mk ((by rw [hg]; exact Nat.ne_of_gt (blk_lt (g := gb102) (o := .cells #[.int .i64 0, .int .i64 0, .int .i64 0, .int .i64 0, .int .i64 0, .int .i64 0, .int .i64 0, .bool false, .int .u64 0, .int .u64 0, .int .u32 0, .int .i64 0, .int .u8 0, .int .u8 0, .int .u8 0] 26 (0, 0)) (by (with_reducible repeat (first | refine blk_drewN ?_ _ | refine blk_drew ?_ | refine blk_alloc ?_ _)); exact BK102.out)) : gb106 ≠ gb102))
          clear BK102
          clear HB
          have BK102 := n0_
          have HB := n1_
          have BK106 := n2_
          have GW106 := n3_
          have GE106 := n4_
          have NB102_106 := n5_
          have NB106_102 := n6_
          clear n0_ n1_ n2_ n3_ n4_ n5_ n6_
          clear hb hbox hg
          refine hK.out _ _ trivial (fun hHeld => ?_)
          clear hK K
          refine norm_ (a' := ?_) ?_ ?_
          rotate_left
          · show Act.put _ (some 4) _ = _
            simp only [Act.put, List.setIfInBounds_toArray, List.set_cons_zero, List.set_cons_succ, i64_w, i32_w]
            rfl
          refine one_ (i := 21) (N := some 32) #[true, true, true, true, true, true, true, true, true, true, true, true, true, true, true, true, true, true, true, true, true, true, false, true, true, true, true, true, true, true, true, true, false, true, false] rfl rfl (one_of HT_.out (by kernel_rfl)) (by decide) (fun K hK => ?_)
          refine goes_ Tryz.func54 (by kernel_rfl) rfl #[.string (a0.extract 6 8)] (by rfl) rfl rfl (by (try simp only [List.map_toArray, List.map_cons, List.map_nil]); first | done | rfl | (simp only [List.length_drop, List.length_take]; rfl)) ?_
          with_reducible refine (muleteerref1_Number.calls k (a0.extract 6 8) t105 _ A18.out).mono ?_
          rintro e w' ⟨rfl, ⟨nd, rfl⟩⟩
          refine ⟨_, rfl, ?_⟩
          refine hK.out _ _ trivial (fun hHeld => ?_)
          clear hK K
          refine norm_ (a' := ?_) ?_ ?_
          rotate_left
          · show Act.put _ (some 32) _ = _
            simp only [Act.put, List.setIfInBounds_toArray, List.set_cons_zero, List.set_cons_succ, i64_w, i32_w]
            rfl
          refine pure_ (i := 22) (N := some 33) (v := ?_) (a' := ?_) #[true, true, true, true, true, true, true, true, true, true, true, true, true, true, true, true, true, true, true, true, true, true, true, true, true, true, true, true, true, true, true, true, false, true, false] rfl rfl (any_of HT_.out (by kernel_rfl)) (fun _ _ _ h => h) (Or.inl ⟨by rfl, ?_⟩) ?_ ?_
          rotate_left
          · intro w'
            go_simp
            with_reducible rfl
          rotate_left
          · simp only [Act.put, List.setIfInBounds_toArray, List.set_cons_zero, List.set_cons_succ, i64_w, i32_w]
            rfl
          refine pure_ (i := 32) (N := some 43) (v := ?_) (a' := ?_) #[true, true, true, true, true, true, true, true, true, true, true, true, true, true, true, true, true, true, true, true, true, true, true, true, true, true, true, true, true, true, true, true, true, true, false] rfl rfl (any_of HT_.out (by kernel_rfl)) (fun _ _ _ h => h) (Or.inl ⟨by rfl, ?_⟩) ?_ ?_
          rotate_left
          · intro w'
            go_simp
            with_reducible rfl
          rotate_left
          · simp only [Act.put, List.setIfInBounds_toArray, List.set_cons_zero, List.set_cons_succ, i64_w, i32_w]
            rfl
          exact norm_ (by simp only [putAll, Act.put, List.setIfInBounds_toArray, List.set_cons_zero, List.set_cons_succ]) (hCont (gb106) _ ⟨(by (with_reducible repeat (first | refine blk_drewN ?_ _ | refine blk_drew ?_ | refine blk_alloc ?_ _)); exact BK102.out), (by (with_reducible repeat (first | refine blk_drewN ?_ _ | refine blk_drew ?_ | refine blk_alloc ?_ _)); exact BK106.out), GW106.out, GE106.out, NB102_106.out, NB106_102.out, (by repeat (first | (with_reducible first | exact HB.out | apply below_alloc | apply pw_below_drewN | apply below_drew1 | refine below_set ?_ GE102.out | refine below_set ?_ GE106.out) | exact HB.out))⟩)
      · skip
        refine box_step ?hg (N := 4) ?hd (cs := #[.int .i64 0, .int .i64 0, .int .i64 0, .int .i64 0, .int .i64 0, .int .i64 0, .int .i64 0, .bool false, .int .u64 0, .int .u64 0, .int .u32 0, .int .i64 0, .int .u8 0, .int .u8 0, .int .u8 0]) (t := 26) ?hr ?_; (case hd => rfl); (case hg => rfl); (case hr => first | (go_simp; done) | (go_simp; rfl))
        intro gb106 hg w24 hbox hb
        have n0_ := Aside0.mk (blk_below (g := gb102) (o := .cells #[.int .i64 0, .int .i64 0, .int .i64 0, .int .i64 0, .int .i64 0, .int .i64 0, .int .i64 0, .bool false, .int .u64 0, .int .u64 0, .int .u32 0, .int .i64 0, .int .u8 0, .int .u8 0, .int .u8 0] 26 (0, 0)) (by (with_reducible repeat (first | refine blk_drewN ?_ _ | refine blk_drew ?_ | refine blk_alloc ?_ _)); exact BK102.out) hb)
        have n1_ := Aside0.mk (below_step (by repeat (first | (with_reducible first | exact HB.out | apply below_alloc | apply pw_below_drewN | apply below_drew1 | refine below_set ?_ GE102.out) | exact HB.out)) hb)
        have n2_ := Aside0.mk (hbox)
        have n3_ := Aside0.mk ((by rw [hg]; exact (below_size (by repeat (first | (with_reducible first | exact HB.out | apply below_alloc | apply pw_below_drewN | apply below_drew1 | refine below_set ?_ GE102.out) | exact HB.out))) : w.heap.size ≤ gb106))
        have n4_ := Aside0.mk ((by rw [hg]; exact (below_size (by repeat (first | (with_reducible first | exact HB.out | apply below_alloc | apply pw_below_drewN | apply below_drew1 | refine below_set ?_ GE102.out) | exact HB.out))) : w.heap.size ≤ gb106))
        have n5_ := Aside0.mk ((by rw [hg]; exact Nat.ne_of_lt (blk_lt (g := gb102) (o := .cells #[.int .i64 0, .int .i64 0, .int .i64 0, .int .i64 0, .int .i64 0, .int .i64 0, .int .i64 0, .bool false, .int .u64 0, .int .u64 0, .int .u32 0, .int .i64 0, .int .u8 0, .int .u8 0, .int .u8 0] 26 (0, 0)) (by (with_reducible repeat (first | refine blk_drewN ?_ _ | refine blk_drew ?_ | refine blk_alloc ?_ _)); exact BK102.out)) : gb102 ≠ gb106))
        have n6_ := Aside0.mk ((by rw [hg]; exact Nat.ne_of_gt (blk_lt (g := gb102) (o := .cells #[.int .i64 0, .int .i64 0, .int .i64 0, .int .i64 0, .int .i64 0, .int .i64 0, .int .i64 0, .bool false, .int .u64 0, .int .u64 0, .int .u32 0, .int .i64 0, .int .u8 0, .int .u8 0, .int .u8 0] 26 (0, 0)) (by (with_reducible repeat (first | refine blk_drewN ?_ _ | refine blk_drew ?_ | refine blk_alloc ?_ _)); exact BK102.out)) : gb106 ≠ gb102))
        clear BK102
        clear HB
        have BK102 := n0_
        have HB := n1_
        have BK106 := n2_
        have GW106 := n3_
        have GE106 := n4_
        have NB102_106 := n5_
        have NB106_102 := n6_
        clear n0_ n1_ n2_ n3_ n4_ n5_ n6_
        clear hb hbox hg
        refine hK.out _ _ trivial (fun hHeld => ?_)
        clear hK K
        refine norm_ (a' := ?_) ?_ ?_
        rotate_left
        · show Act.put _ (some 4) _ = _
          simp only [Act.put, List.setIfInBounds_toArray, List.set_cons_zero, List.set_cons_succ, i64_w, i32_w]
          rfl
        refine one_ (i := 6) (N := some 17) #[true, true, true, true, true, true, true, false, true, true, true, true, true, true, true, true, true, true, true, true, true, false, false, true, true, true, true, true, true, true, true, true, false, true, false] rfl rfl (one_of HT_.out (by kernel_rfl)) (by decide) (fun K hK => ?_)
        refine goes_ Tryz.func54 (by kernel_rfl) rfl #[.string (a0.extract 2 4)] (by rfl) rfl rfl (by (try simp only [List.map_toArray, List.map_cons, List.map_nil]); first | done | rfl | (simp only [List.length_drop, List.length_take]; rfl)) ?_
        with_reducible refine (muleteerref1_Number.calls k (a0.extract 2 4) t104 _ A10.out).mono ?_
        rintro e w' ⟨rfl, ⟨nd, rfl⟩⟩
        refine ⟨_, rfl, ?_⟩
        refine hK.out _ _ trivial (fun hHeld => ?_)
        clear hK K
        refine norm_ (a' := ?_) ?_ ?_
        rotate_left
        · show Act.put _ (some 17) _ = _
          simp only [Act.put, List.setIfInBounds_toArray, List.set_cons_zero, List.set_cons_succ, i64_w, i32_w]
          rfl
        refine pure_ (i := 7) (N := some 18) (v := ?_) (a' := ?_) #[true, true, true, true, true, true, true, true, true, true, true, true, true, true, true, true, true, true, true, true, true, false, false, true, true, true, true, true, true, true, true, true, false, true, false] rfl rfl (any_of HT_.out (by kernel_rfl)) (fun _ _ _ h => h) (Or.inl ⟨by rfl, ?_⟩) ?_ ?_
        rotate_left
        · intro w'
          go_simp
          with_reducible rfl
        rotate_left
        · simp only [Act.put, List.setIfInBounds_toArray, List.set_cons_zero, List.set_cons_succ, i64_w, i32_w]
          rfl
        refine one_ (i := 21) (N := some 32) #[true, true, true, true, true, true, true, true, true, true, true, true, true, true, true, true, true, true, true, true, true, true, false, true, true, true, true, true, true, true, true, true, false, true, false] rfl rfl (one_of HT_.out (by kernel_rfl)) (by decide) (fun K hK => ?_)
        refine goes_ Tryz.func54 (by kernel_rfl) rfl #[.string (a0.extract 6 8)] (by rfl) rfl rfl (by (try simp only [List.map_toArray, List.map_cons, List.map_nil]); first | done | rfl | (simp only [List.length_drop, List.length_take]; rfl)) ?_
        with_reducible refine (muleteerref1_Number.calls k (a0.extract 6 8) t105 _ A18.out).mono ?_
        rintro e w' ⟨rfl, ⟨nd, rfl⟩⟩
        refine ⟨_, rfl, ?_⟩
        refine hK.out _ _ trivial (fun hHeld => ?_)
        clear hK K
        refine norm_ (a' := ?_) ?_ ?_
        rotate_left
        · show Act.put _ (some 32) _ = _
          simp only [Act.put, List.setIfInBounds_toArray, List.set_cons_zero, List.set_cons_succ, i64_w, i32_w]
          rfl
        refine pure_ (i := 22) (N := some 33) (v := ?_) (a' := ?_) #[true, true, true, true, true, true, true, true, true, true, true, true, true, true, true, true, true, true, true, true, true, true, true, true, true, true, true, true, true, true, true, true, false, true, false] rfl rfl (any_of HT_.out (by kernel_rfl)) (fun _ _ _ h => h) (Or.inl ⟨by rfl, ?_⟩) ?_ ?_
        rotate_left
        · intro w'
          go_simp
          with_reducible rfl
        rotate_left
        · simp only [Act.put, List.setIfInBounds_toArray, List.set_cons_zero, List.set_cons_succ, i64_w, i32_w]
          rfl
        refine pure_ (i := 32) (N := some 43) (v := ?_) (a' := ?_) #[true, true, true, true, true, true, true, true, true, true, true, true, true, true, true, true, true, true, true, true, true, true, true, true, true, true, true, true, true, true, true, true, true, true, false] rfl rfl (any_of HT_.out (by kernel_rfl)) (fun _ _ _ h => h) (Or.inl ⟨by rfl, ?_⟩) ?_ ?_
        rotate_left
        · intro w'
          go_simp
          with_reducible rfl
        rotate_left
        · simp only [Act.put, List.setIfInBounds_toArray, List.set_cons_zero, List.set_cons_succ, i64_w, i32_w]
          rfl
        exact norm_ (by simp only [putAll, Act.put, List.setIfInBounds_toArray, List.set_cons_zero, List.set_cons_succ]) (hCont (gb106) _ ⟨(by (with_reducible repeat (first | refine blk_drewN ?_ _ | refine blk_drew ?_ | refine blk_alloc ?_ _)); exact BK102.out), (by (with_reducible repeat (first | refine blk_drewN ?_ _ | refine blk_drew ?_ | refine blk_alloc ?_ _)); exact BK106.out), GW106.out, GE106.out, NB102_106.out, NB106_102.out, (by repeat (first | (with_reducible first | exact HB.out | apply below_alloc | apply pw_below_drewN | apply below_drew1 | refine below_set ?_ GE102.out | refine below_set ?_ GE106.out) | exact HB.out))⟩)
    · skip
      refine box_step ?hg (N := 4) ?hd (cs := #[.int .i64 0, .int .i64 0, .int .i64 0, .int .i64 0, .int .i64 0, .int .i64 0, .int .i64 0, .bool false, .int .u64 0, .int .u64 0, .int .u32 0, .int .i64 0, .int .u8 0, .int .u8 0, .int .u8 0]) (t := 26) ?hr ?_; (case hd => rfl); (case hg => rfl); (case hr => first | (go_simp; done) | (go_simp; rfl))
      intro gb106 hg w24 hbox hb
      have n0_ := Aside0.mk (blk_below (g := gb102) (o := .cells #[.int .i64 0, .int .i64 0, .int .i64 0, .int .i64 0, .int .i64 0, .int .i64 0, .int .i64 0, .bool false, .int .u64 0, .int .u64 0, .int .u32 0, .int .i64 0, .int .u8 0, .int .u8 0, .int .u8 0] 26 (0, 0)) (by (with_reducible repeat (first | refine blk_drewN ?_ _ | refine blk_drew ?_ | refine blk_alloc ?_ _)); exact BK102.out) hb)
      have n1_ := Aside0.mk (below_step (by repeat (first | (with_reducible first | exact HB.out | apply below_alloc | apply pw_below_drewN | apply below_drew1 | refine below_set ?_ GE102.out) | exact HB.out)) hb)
      have n2_ := Aside0.mk (hbox)
      have n3_ := Aside0.mk ((by rw [hg]; exact (below_size (by repeat (first | (with_reducible first | exact HB.out | apply below_alloc | apply pw_below_drewN | apply below_drew1 | refine below_set ?_ GE102.out) | exact HB.out))) : w.heap.size ≤ gb106))
      have n4_ := Aside0.mk ((by rw [hg]; exact (below_size (by repeat (first | (with_reducible first | exact HB.out | apply below_alloc | apply pw_below_drewN | apply below_drew1 | refine below_set ?_ GE102.out) | exact HB.out))) : w.heap.size ≤ gb106))
      have n5_ := Aside0.mk ((by rw [hg]; exact Nat.ne_of_lt (blk_lt (g := gb102) (o := .cells #[.int .i64 0, .int .i64 0, .int .i64 0, .int .i64 0, .int .i64 0, .int .i64 0, .int .i64 0, .bool false, .int .u64 0, .int .u64 0, .int .u32 0, .int .i64 0, .int .u8 0, .int .u8 0, .int .u8 0] 26 (0, 0)) (by (with_reducible repeat (first | refine blk_drewN ?_ _ | refine blk_drew ?_ | refine blk_alloc ?_ _)); exact BK102.out)) : gb102 ≠ gb106))
      have n6_ := Aside0.mk ((by rw [hg]; exact Nat.ne_of_gt (blk_lt (g := gb102) (o := .cells #[.int .i64 0, .int .i64 0, .int .i64 0, .int .i64 0, .int .i64 0, .int .i64 0, .int .i64 0, .bool false, .int .u64 0, .int .u64 0, .int .u32 0, .int .i64 0, .int .u8 0, .int .u8 0, .int .u8 0] 26 (0, 0)) (by (with_reducible repeat (first | refine blk_drewN ?_ _ | refine blk_drew ?_ | refine blk_alloc ?_ _)); exact BK102.out)) : gb106 ≠ gb102))
      clear BK102
      clear HB
      have BK102 := n0_
      have HB := n1_
      have BK106 := n2_
      have GW106 := n3_
      have GE106 := n4_
      have NB102_106 := n5_
      have NB106_102 := n6_
      clear n0_ n1_ n2_ n3_ n4_ n5_ n6_
      clear hb hbox hg
      refine hK.out _ _ trivial (fun hHeld => ?_)
      clear hK K
      refine norm_ (a' := ?_) ?_ ?_
      rotate_left
      · show Act.put _ (some 4) _ = _
        simp only [Act.put, List.setIfInBounds_toArray, List.set_cons_zero, List.set_cons_succ, i64_w, i32_w]
        rfl
      refine one_ (i := 2) (N := some 13) #[true, true, true, false, true, true, false, false, true, true, true, true, true, true, true, true, true, true, true, true, true, false, false, true, true, true, true, true, true, true, true, true, false, true, false] rfl rfl (one_of HT_.out (by kernel_rfl)) (by decide) (fun K hK => ?_)
      refine goes_ Tryz.func54 (by kernel_rfl) rfl #[.string (a0.extract 0 2)] (by rfl) rfl rfl (by (try simp only [List.map_toArray, List.map_cons, List.map_nil]); first | done | rfl | (simp only [List.length_drop, List.length_take]; rfl)) ?_
      with_reducible refine (muleteerref1_Number.calls k (a0.extract 0 2) t103 _ A7.out).mono ?_
      rintro e w' ⟨rfl, ⟨nd, rfl⟩⟩
      refine ⟨_, rfl, ?_⟩
      refine hK.out _ _ trivial (fun hHeld => ?_)
      clear hK K
      refine norm_ (a' := ?_) ?_ ?_
      rotate_left
      · show Act.put _ (some 13) _ = _
        simp only [Act.put, List.setIfInBounds_toArray, List.set_cons_zero, List.set_cons_succ, i64_w, i32_w]
        rfl
      refine pure_ (i := 3) (N := some 14) (v := ?_) (a' := ?_) #[true, true, true, true, true, true, false, false, true, true, true, true, true, true, true, true, true, true, true, true, true, false, false, true, true, true, true, true, true, true, true, true, false, true, false] rfl rfl (any_of HT_.out (by kernel_rfl)) (fun _ _ _ h => h) (Or.inl ⟨by rfl, ?_⟩) ?_ ?_
      rotate_left
      · intro w'
        go_simp
        with_reducible rfl
      rotate_left
      · simp only [Act.put, List.setIfInBounds_toArray, List.set_cons_zero, List.set_cons_succ, i64_w, i32_w]
        rfl
      refine one_ (i := 6) (N := some 17) #[true, true, true, true, true, true, true, false, true, true, true, true, true, true, true, true, true, true, true, true, true, false, false, true, true, true, true, true, true, true, true, true, false, true, false] rfl rfl (one_of HT_.out (by kernel_rfl)) (by decide) (fun K hK => ?_)
      refine goes_ Tryz.func54 (by kernel_rfl) rfl #[.string (a0.extract 2 4)] (by rfl) rfl rfl (by (try simp only [List.map_toArray, List.map_cons, List.map_nil]); first | done | rfl | (simp only [List.length_drop, List.length_take]; rfl)) ?_
      with_reducible refine (muleteerref1_Number.calls k (a0.extract 2 4) t104 _ A10.out).mono ?_
      rintro e w' ⟨rfl, ⟨nd, rfl⟩⟩
      refine ⟨_, rfl, ?_⟩
      refine hK.out _ _ trivial (fun hHeld => ?_)
      clear hK K
      refine norm_ (a' := ?_) ?_ ?_
      rotate_left
      · show Act.put _ (some 17) _ = _
        simp only [Act.put, List.setIfInBounds_toArray, List.set_cons_zero, List.set_cons_succ, i64_w, i32_w]
        rfl
      refine pure_ (i := 7) (N := some 18) (v := ?_) (a' := ?_) #[true, true, true, true, true, true, true, true, true, true, true, true, true, true, true, true, true, true, true, true, true, false, false, true, true, true, true, true, true, true, true, true, false, true, false] rfl rfl (any_of HT_.out (by kernel_rfl)) (fun _ _ _ h => h) (Or.inl ⟨by rfl, ?_⟩) ?_ ?_
      rotate_left
      · intro w'
        go_simp
        with_reducible rfl
      rotate_left
      · simp only [Act.put, List.setIfInBounds_toArray, List.set_cons_zero, List.set_cons_succ, i64_w, i32_w]
        rfl
      refine one_ (i := 21) (N := some 32) #[true, true, true, true, true, true, true, true, true, true, true, true, true, true, true, true, true, true, true, true, true, true, false, true, true, true, true, true, true, true, true, true, false, true, false] rfl rfl (one_of HT_.out (by kernel_rfl)) (by decide) (fun K hK => ?_)
      refine goes_ Tryz.func54 (by kernel_rfl) rfl #[.string (a0.extract 6 8)] (by rfl) rfl rfl (by (try simp only [List.map_toArray, List.map_cons, List.map_nil]); first | done | rfl | (simp only [List.length_drop, List.length_take]; rfl)) ?_
      with_reducible refine (muleteerref1_Number.calls k (a0.extract 6 8) t105 _ A18.out).mono ?_
      rintro e w' ⟨rfl, ⟨nd, rfl⟩⟩
      refine ⟨_, rfl, ?_⟩
      refine hK.out _ _ trivial (fun hHeld => ?_)
      clear hK K
      refine norm_ (a' := ?_) ?_ ?_
      rotate_left
      · show Act.put _ (some 32) _ = _
        simp only [Act.put, List.setIfInBounds_toArray, List.set_cons_zero, List.set_cons_succ, i64_w, i32_w]
        rfl
      refine pure_ (i := 22) (N := some 33) (v := ?_) (a' := ?_) #[true, true, true, true, true, true, true, true, true, true, true, true, true, true, true, true, true, true, true, true, true, true, true, true, true, true, true, true, true, true, true, true, false, true, false] rfl rfl (any_of HT_.out (by kernel_rfl)) (fun _ _ _ h => h) (Or.inl ⟨by rfl, ?_⟩) ?_ ?_
      rotate_left
      · intro w'
        go_simp
        with_reducible rfl
      rotate_left
      · simp only [Act.put, List.setIfInBounds_toArray, List.set_cons_zero, List.set_cons_succ, i64_w, i32_w]
        rfl
      refine pure_ (i := 32) (N := some 43) (v := ?_) (a' := ?_) #[true, true, true, true, true, true, true, true, true, true, true, true, true, true, true, true, true, true, true, true, true, true, true, true, true, true, true, true, true, true, true, true, true, true, false] rfl rfl (any_of HT_.out (by kernel_rfl)) (fun _ _ _ h => h) (Or.inl ⟨by rfl, ?_⟩) ?_ ?_
      rotate_left
      · intro w'
        go_simp
        with_reducible rfl
      rotate_left
      · simp only [Act.put, List.setIfInBounds_toArray, List.set_cons_zero, List.set_cons_succ, i64_w, i32_w]
        rfl
      exact norm_ (by simp only [putAll, Act.put, List.setIfInBounds_toArray, List.set_cons_zero, List.set_cons_succ]) (hCont (gb106) _ ⟨(by (with_reducible repeat (first | refine blk_drewN ?_ _ | refine blk_drew ?_ | refine blk_alloc ?_ _)); exact BK102.out), (by (with_reducible repeat (first | refine blk_drewN ?_ _ | refine blk_drew ?_ | refine blk_alloc ?_ _)); exact BK106.out), GW106.out, GE106.out, NB102_106.out, NB106_102.out, (by repeat (first | (with_reducible first | exact HB.out | apply below_alloc | apply pw_below_drewN | apply below_drew1 | refine below_set ?_ GE102.out | refine below_set ?_ GE106.out) | exact HB.out))⟩)
  rintro gb106 w25 ⟨h0_, h1_, h2_, h3_, h4_, h5_, h6_⟩
  have n0_ : Aside0 (w25.heap[gb102]? = some (.cells #[.int .i64 0, .int .i64 0, .int .i64 0, .int .i64 0, .int .i64 0, .int .i64 0, .int .i64 0, .bool false, .int .u64 0, .int .u64 0, .int .u32 0, .int .i64 0, .int .u8 0, .int .u8 0, .int .u8 0] 26 (0, 0))) := ⟨h0_⟩
  have n1_ : Aside0 (w25.heap[gb106]? = some (.cells #[.int .i64 0, .int .i64 0, .int .i64 0, .int .i64 0, .int .i64 0, .int .i64 0, .int .i64 0, .bool false, .int .u64 0, .int .u64 0, .int .u32 0, .int .i64 0, .int .u8 0, .int .u8 0, .int .u8 0] 26 (0, 0))) := ⟨h1_⟩
  have n2_ : Aside0 (w.heap.size ≤ gb106) := ⟨h2_⟩
  have n3_ : Aside0 (w.heap.size ≤ gb106) := ⟨h3_⟩
  have n4_ : Aside0 (gb102 ≠ gb106) := ⟨h4_⟩
  have n5_ : Aside0 (gb106 ≠ gb102) := ⟨h5_⟩
  have n6_ : Aside0 (Below w.heap.size w w25) := ⟨h6_⟩
  clear BK102
  clear HB
  clear h0_ h1_ h2_ h3_ h4_ h5_ h6_
  have BK102 := n0_
  have BK106 := n1_
  have GW106 := n2_
  have GE106 := n3_
  have NB102_106 := n4_
  have NB106_102 := n5_
  have HB := n6_
  clear n0_ n1_ n2_ n3_ n4_ n5_ n6_
  have hHeld := trivial
  refine norm_ (a' := ?_) ?_ ?_
  rotate_left
  · simp only [putAll, Act.put, List.setIfInBounds_toArray, List.set_cons_zero, List.set_cons_succ]
    rfl
  refine one_ (i := 34) (N := none) #[true, true, true, true, true, true, true, true, true, true, true, true, true, true, true, true, true, true, true, true, true, true, true, true, true, true, true, true, true, true, true, true, true, true, true] rfl rfl (one_of HT_.out (by kernel_rfl)) (by decide) (fun K hK => ?_)
  have hs26 : w25.cell? ⟨gb106, 0, none⟩ = some (.int .i64 0) := (blk_cell BK106.out 0).trans rfl
  have hfs26 := blk_frozen BK106.out 0
  have hns26_0 := NB102_106.out
  have hms26_0 := NB106_102.out
  have hs27 : w25.cell? ⟨gb106, 1, none⟩ = some (.int .i64 0) := (blk_cell BK106.out 1).trans rfl
  have hfs27 := blk_frozen BK106.out 1
  have hns27_0 := NB102_106.out
  have hms27_0 := NB106_102.out
  have hs28 : w25.cell? ⟨gb106, 2, none⟩ = some (.int .i64 0) := (blk_cell BK106.out 2).trans rfl
  have hfs28 := blk_frozen BK106.out 2
  have hns28_0 := NB102_106.out
  have hms28_0 := NB106_102.out
  have hs29 : w25.cell? ⟨gb106, 3, none⟩ = some (.int .i64 0) := (blk_cell BK106.out 3).trans rfl
  have hfs29 := blk_frozen BK106.out 3
  have hns29_0 := NB102_106.out
  have hms29_0 := NB106_102.out
  have hs30 : w25.cell? ⟨gb106, 4, none⟩ = some (.int .i64 0) := (blk_cell BK106.out 4).trans rfl
  have hfs30 := blk_frozen BK106.out 4
  have hns30_0 := NB102_106.out
  have hms30_0 := NB106_102.out
  have hs31 : w25.cell? ⟨gb106, 5, none⟩ = some (.int .i64 0) := (blk_cell BK106.out 5).trans rfl
  have hfs31 := blk_frozen BK106.out 5
  have hns31_0 := NB102_106.out
  have hms31_0 := NB106_102.out
  have hs32 : w25.cell? ⟨gb106, 6, none⟩ = some (.int .i64 0) := (blk_cell BK106.out 6).trans rfl
  have hfs32 := blk_frozen BK106.out 6
  have hns32_0 := NB102_106.out
  have hms32_0 := NB106_102.out
  have hs33 : w25.cell? ⟨gb106, 7, none⟩ = some (.bool false) := (blk_cell BK106.out 7).trans rfl
  have hfs33 := blk_frozen BK106.out 7
  have hns33_0 := NB102_106.out
  have hms33_0 := NB106_102.out
  have hs34 : w25.cell? ⟨gb106, 8, none⟩ = some (.int .u64 0) := (blk_cell BK106.out 8).trans rfl
  have hfs34 := blk_frozen BK106.out 8
  have hns34_0 := NB102_106.out
  have hms34_0 := NB106_102.out
  have hs35 : w25.cell? ⟨gb106, 9, none⟩ = some (.int .u64 0) := (blk_cell BK106.out 9).trans rfl
  have hfs35 := blk_frozen BK106.out 9
  have hns35_0 := NB102_106.out
  have hms35_0 := NB106_102.out
  have hs36 : w25.cell? ⟨gb106, 10, none⟩ = some (.int .u32 0) := (blk_cell BK106.out 10).trans rfl
  have hfs36 := blk_frozen BK106.out 10
  have hns36_0 := NB102_106.out
  have hms36_0 := NB106_102.out
  have hs37 : w25.cell? ⟨gb106, 11, none⟩ = some (.int .i64 0) := (blk_cell BK106.out 11).trans rfl
  have hfs37 := blk_frozen BK106.out 11
  have hns37_0 := NB102_106.out
  have hms37_0 := NB106_102.out
  have hs38 : w25.cell? ⟨gb106, 12, none⟩ = some (.int .u8 0) := (blk_cell BK106.out 12).trans rfl
  have hfs38 := blk_frozen BK106.out 12
  have hns38_0 := NB102_106.out
  have hms38_0 := NB106_102.out
  have hs39 : w25.cell? ⟨gb106, 13, none⟩ = some (.int .u8 0) := (blk_cell BK106.out 13).trans rfl
  have hfs39 := blk_frozen BK106.out 13
  have hns39_0 := NB102_106.out
  have hms39_0 := NB106_102.out
  have hs40 : w25.cell? ⟨gb106, 14, none⟩ = some (.int .u8 0) := (blk_cell BK106.out 14).trans rfl
  have hfs40 := blk_frozen BK106.out 14
  have hns40_0 := NB102_106.out
  have hms40_0 := NB106_102.out
  refine skip_ (w1 := ?_) (by rfl) rfl ?_ ?_
  rotate_left
  · go_simp
    rfl
  refine hK.out _ _ trivial (fun hHeld => ?_)
  clear hK K
  refine done_ (done_of HT_.out (by kernel_rfl)) ?_
  clear c2b0 c2b1 c5b0 c5b1 c6b0 c6b1 c8b0 c8b1 c9b0 c9b1 c11b0 c11b1 c13b0 c13b1 c16b0 c16b1 c17b0 c17b1 c19b0 c19b1 A7 A10 A18 hy5 hy6 hy8 hy9 hyb
  have hs := HS.out
  have h12 := H12.out
  obtain ⟨t, ht⟩ : ∃ t, getT a0 = t := ⟨_, rfl⟩
  obtain ⟨x, hx⟩ : ∃ x, getX a0 = x := ⟨_, rfl⟩
  have ht16 : t < 16 := by rw [← ht]; unfold getT; omega
  have TX := Aside0.mk (And.intro ht hx)
  clear ht hx
  go_upto_region 4 with fail
  go_cut [4, 46] (fun v4 v46 wc => v4 = .pointer (some ⟨gb106, 0, none⟩) ∧ v46 = .bool (decide (9 < (t : Int))) ∧ Blk wc gb106 (hcells (numAt a0 0 2) (numAt a0 2 4) (byteAt a0 4) (byteAt a0 5 / 16) (byteAt a0 5 % 16) (numAt a0 6 8) t x 0 0 0 0 0 0 0) 26 ∧ Blk wc gb102 Z 26 ∧ Below w.heap.size w wc)
  case first =>
    have b7 := fill BK106.out (.int .i64 (wrap64 t103)) (.int .i64 (wrap64 t104)) (.int .i64 (wrap64 (bt a0 4))) (.int .i64 (wrap64 y5)) (.int .i64 (wrap64 y6)) (.int .i64 (wrap64 t105)) (.int .i64 (wrap64 y9)) (.bool (yb == 1)) (.int .u64 0) (.int .u64 0) (.int .u32 0) (.int .i64 0) (.int .u8 0) (.int .u8 0) (.int .u8 0)
    have b1 := far15 BK102.out NB102_106.out (.int .i64 (wrap64 t103)) (.int .i64 (wrap64 t104)) (.int .i64 (wrap64 (bt a0 4))) (.int .i64 (wrap64 y5)) (.int .i64 (wrap64 y6)) (.int .i64 (wrap64 t105)) (.int .i64 (wrap64 y9)) (.bool (yb == 1)) (.int .u64 0) (.int .u64 0) (.int .u32 0) (.int .i64 0) (.int .u8 0) (.int .u8 0) (.int .u8 0)
    have hb := below15 HB.out GE106.out (.int .i64 (wrap64 t103)) (.int .i64 (wrap64 t104)) (.int .i64 (wrap64 (bt a0 4))) (.int .i64 (wrap64 y5)) (.int .i64 (wrap64 y6)) (.int .i64 (wrap64 t105)) (.int .i64 (wrap64 y9)) (.bool (yb == 1)) (.int .u64 0) (.int .u64 0) (.int .u32 0) (.int .i64 0) (.int .u8 0) (.int .u8 0) (.int .u8 0)
    have l1 := numAt_lt a0 0 2
    have l2 := numAt_lt a0 2 4
    have l3 := numAt_lt a0 6 8
    have m4 := byteAt_lt a0 4
    have m5 := byteAt_lt a0 5
    have m8 := byteAt_lt a0 8
    have e4 : bt a0 4 = ((byteAt a0 4 : Nat) : Int) := bt_byte a0 4 (by omega)
    have e5 : bt a0 5 = ((byteAt a0 5 : Nat) : Int) := bt_byte a0 5 (by omega)
    have e8 : bt a0 8 = ((byteAt a0 8 : Nat) : Int) := bt_byte a0 8 (by omega)
    obtain ⟨hy5, hy6, hy8, hy9, hyb⟩ := VY.out
    have f5 : y5 = ((byteAt a0 5 / 16 : Nat) : Int) := by rw [← hy5, e5, Int.tdiv_eq_ediv_of_nonneg (by omega), IntKind.wrap_u8]; omega
    have f6 : y6 = ((byteAt a0 5 % 16 : Nat) : Int) := by rw [← hy6, e5, Int.tmod_eq_emod_of_nonneg (by omega)]; omega
    have f8 : y8 = ((byteAt a0 8 / 2 : Nat) : Int) := by rw [← hy8, e8, Int.tdiv_eq_ediv_of_nonneg (by omega), IntKind.wrap_u8]; omega
    have f9 : y9 = (t : Int) := by rw [← hy9, f8, Int.tmod_eq_emod_of_nonneg (by omega), ← TX.out.1]; unfold getT; omega
    have fb : (yb == 1) = x := by
      rw [← hyb, e8, Int.tmod_eq_emod_of_nonneg (by omega), ← TX.out.2]; unfold getX
      rw [Bool.eq_iff_iff, beq_iff_eq, beq_iff_eq]; omega
    have ww : ∀ n : Nat, n ≤ 65535 → wrap64 (n : Int) = (n : Int) := fun n hn => by rw [wrap64_eq']; omega
    have hc : hcells (numAt a0 0 2) (numAt a0 2 4) (byteAt a0 4) (byteAt a0 5 / 16) (byteAt a0 5 % 16) (numAt a0 6 8) t x 0 0 0 0 0 0 0 = #[.int .i64 (wrap64 t103), .int .i64 (wrap64 t104), .int .i64 (wrap64 (bt a0 4)), .int .i64 (wrap64 y5), .int .i64 (wrap64 y6), .int .i64 (wrap64 t105), .int .i64 (wrap64 y9), .bool (yb == 1), .int .u64 0, .int .u64 0, .int .u32 0, .int .i64 0, .int .u8 0, .int .u8 0, .int .u8 0] := by
      rw [e4, f5, f6, f9, fb, V.out.1, V.out.2.1, V.out.2.2, ww _ (by omega), ww _ (by omega), ww _ (by omega), ww _ (by omega), ww _ (by omega), ww _ (by omega), ww _ (by omega)]
      rfl
    have f7 : wrap64 y9 = (t : Int) := by rw [f9]; exact ww t (by omega)
    have F7 := Aside0.mk f7
    rw [← hc] at b7
    have B7 := Aside0.mk b7
    have B1 := Aside0.mk b1
    have HBB := Aside0.mk hb
    clear b7 b1 hb hc ww f5 f6 f8 f9 fb e4 e5 e8 hy5 hy6 hy8 hy9 hyb l1 l2 l3 m4 m5 m8 f7
    go_wp2_with fail
    all_goals
      go_meet
      exact ⟨rfl, by first | (rw [F7.out]; done) | (rw [← F7.out]; done) | rfl, B7.out, B1.out, HBB.out⟩
  case rest =>
    obtain ⟨rfl, rfl, b7, b1, hb⟩ := hcut
    have HT := TX.out.1
    have HXx := TX.out.2
    clear V VY BK102 BK106 HB
    have B1 := Aside0.mk b1
    have HBB := Aside0.mk hb
    by_cases h9 : 9 < t
    · have d9 : decide (9 < (t : Int)) = true := decide_eq_true (by omega)
      have hg := Aside0.mk (gH_type a0 h12 (by rw [HT]; unfold isB; exact decide_eq_false (by omega)))
      clear b7 b1 hb HT HXx
      go_wp2_with (refine wpList_store_row rfl 26 _ _ rfl gb102 Z rfl rfl 26 Z B1.out (by kernel_rfl) rfl Z_one ?_)
      refine ret_ct gb102 Z B1.out.row rfl rfl (.int .i64 2) rfl ?_
      rw [hg.out, hd0_val]
      exact ⟨rfl, below_row HBB.out GE102.out _⟩
    · have d9 : decide (9 < (t : Int)) = false := decide_eq_false (by omega)
      have hi : isB t = true := by unfold isB; exact decide_eq_true (by omega)
      obtain ⟨n, hn⟩ : ∃ n : Nat, sizeB t x = (n : Int) := ⟨(sizeB t x).toNat, by have := (sizeB_le t x).1; omega⟩
      have hn28 : n ≤ 28 := by have := (sizeB_le t x).2; omega
      have S := fun W => ref_Size t x W
      rw [hn] at S
      have HSZ := hide S
      have Hf6 : wc.cell? ⟨gb106, 6, none⟩ = some (.int .i64 t) := b7.cell rfl
      have Hf7 : wc.cell? ⟨gb106, 7, none⟩ = some (.bool x) := b7.cell rfl
      have Hf2 : wc.cell? ⟨gb106, 2, none⟩ = some (.int .i64 (byteAt a0 4 : Nat)) := b7.cell rfl
      have m4 := byteAt_lt a0 4
      have m4i : ((byteAt a0 4 : Nat) : Int) ≤ 255 := by omega
      have HG5 := Aside0.mk (And.intro HT (And.intro HXx (And.intro hi hn)))
      have hn28i : (n : Int) ≤ 28 := by omega
      have B7 := Aside0.mk b7
      clear S b7 b1 hb HT HXx hi hn
      by_cases h0 : n = 0
      · have hg := Aside0.mk (gH_form a0 h12 (by rw [HG5.out.1]; exact HG5.out.2.2.1) (by rw [HG5.out.1, HG5.out.2.1, HG5.out.2.2.2, h0]; rfl))
        subst h0
        clear HG5
        go_wp2_with (first | (go_at_call 19; refine (HSZ.out _).mono ?_; rintro e w' ⟨rfl, rfl⟩) | (refine wpList_store_row rfl 26 _ _ rfl gb102 Z rfl rfl 26 Z B1.out (by kernel_rfl) rfl Z_one ?_))
        refine ret_ct gb102 Z B1.out.row rfl rfl (.int .i64 3) rfl ?_
        rw [hg.out, hd0_val]
        exact ⟨rfl, below_row HBB.out GE102.out _⟩
      · have d0 : ((n : Int) == 0) = false := beq_eq_false_iff_ne.2 (by omega)
        by_cases h1 : a0.size < n
        · have hg := Aside0.mk (gH_short a0 h12 (by rw [HG5.out.1]; exact HG5.out.2.2.1) (by rw [HG5.out.1, HG5.out.2.1, HG5.out.2.2.2]; omega) (by rw [HG5.out.1, HG5.out.2.1, HG5.out.2.2.2]; omega))
          have h1i : (a0.size : Int) < (n : Int) := by omega
          clear HG5
          go_wp2_with (first | (go_at_call 19; refine (HSZ.out _).mono ?_; rintro e w' ⟨rfl, rfl⟩) | (refine wpList_store_row rfl 26 _ _ rfl gb102 Z rfl rfl 26 Z B1.out (by kernel_rfl) rfl Z_one ?_))
          refine ret_ct gb102 Z B1.out.row rfl rfl (.int .i64 1) rfl ?_
          rw [hg.out, hd0_val]
          exact ⟨rfl, below_row HBB.out GE102.out _⟩
        · have h1i : (n : Int) ≤ (a0.size : Int) := by omega
          obtain ⟨z4, hz4, hz7⟩ := size_four t x
          have hz4n : n = 4 * z4 := by have := HG5.out.2.2.2; omega
          by_cases h2 : 4 * byteAt a0 4 < n ∨ a0.size < 4 * byteAt a0 4
          · have hg := Aside0.mk (gH_place a0 h12 (by rw [HG5.out.1]; exact HG5.out.2.2.1) (by rw [HG5.out.1, HG5.out.2.1, HG5.out.2.2.2]; omega) (by rw [HG5.out.1, HG5.out.2.1, HG5.out.2.2.2]; omega) (by rw [HG5.out.1, HG5.out.2.1, HG5.out.2.2.2]; omega))
            clear HG5 hz4 hz4n hz7
            have h3 : 4 * ((byteAt a0 4 : Nat) : Int) < (n : Int) ∨ ((n : Int) ≤ 4 * ((byteAt a0 4 : Nat) : Int) ∧ (a0.size : Int) < 4 * ((byteAt a0 4 : Nat) : Int)) := by omega
            clear h2
            rcases h3 with h3 | ⟨h3, h4⟩
            all_goals
              go_wp2_with (first | (go_at_call 19; refine (HSZ.out _).mono ?_; rintro e w' ⟨rfl, rfl⟩) | (refine wpList_store_row rfl 26 _ _ rfl gb102 Z rfl rfl 26 Z B1.out (by kernel_rfl) rfl Z_one ?_))
              refine ret_ct gb102 Z B1.out.row rfl rfl (.int .i64 4) rfl ?_
              rw [hg.out, hd0_val]
              exact ⟨rfl, below_row HBB.out GE102.out _⟩
          · have hg := Aside0.mk (gH_ok a0 h12 (by rw [HG5.out.1]; exact HG5.out.2.2.1) (by rw [HG5.out.1, HG5.out.2.1, HG5.out.2.2.2]; omega) (by rw [HG5.out.1, HG5.out.2.1, HG5.out.2.2.2]; omega) (by rw [HG5.out.1, HG5.out.2.1, HG5.out.2.2.2]; omega))
            have h3 : (n : Int) ≤ 4 * ((byteAt a0 4 : Nat) : Int) := by omega
            have h4 : 4 * ((byteAt a0 4 : Nat) : Int) ≤ (a0.size : Int) := by omega
            clear h2 hz4 hz4n hz7
            have M1 : moreAt t x ≤ n ∧ n ≤ 28 ∧ moreAt t x ≤ 24 ∧ 12 ≤ moreAt t x ∧ ackAt x ≤ moreAt t x := sizes t n x HG5.out.2.2.2 HG5.out.2.2.1 h0
            have M2 := Aside0.mk (sizes2 t n x HG5.out.2.2.2 HG5.out.2.2.1 h0)
            have hgT := Aside0.mk (show getH a0 = (getHd a0 t x, 0) by rw [hg.out, HG5.out.1, HG5.out.2.1])
            clear hg HG5
            have N4 := numE a0 9 12 (by omega)
            have j12 : (12 : Int) ≤ (a0.size : Int) := by omega
            have f8 : wc.cell? ⟨gb106, 8, none⟩ = some (.int .u64 0) := B7.out.cell rfl
            have r8 := B7.out.frozen 8
            go_upto_if 80 with (first | (go_at_call 19; refine (HSZ.out _).mono ?_; rintro e w' ⟨rfl, rfl⟩) | (go_at_call 54; (with_reducible refine (N4.out _).mono ?_); rintro e w' ⟨rfl, rfl⟩))
            go_cut [6] (fun v6 wx => v6 = .int .i64 (ackAt x : Nat) ∧ Blk wx gb106 (hcells (numAt a0 0 2) (numAt a0 2 4) (byteAt a0 4) (byteAt a0 5 / 16) (byteAt a0 5 % 16) (numAt a0 6 8) t x (if x then numAt a0 10 16 else numAt a0 9 12) 0 0 0 0 0 0) 26 ∧ Blk wx gb102 Z 26 ∧ Below w.heap.size w wx)
            case first =>
              cases x
              · go_wp2_with fail
                go_meet
                simp only [Bool.false_eq_true, if_false, ite_false]
                exact ⟨rfl, B7.out.set 8 (.int .u64 (numAt a0 9 12 : Nat)) rfl, B1.out.far (p := ⟨gb106, 8, none⟩) NB102_106.out _, HBB.out.setCell (p := ⟨gb106, 8, none⟩) GE106.out _⟩
              · have N5 := numE a0 10 16 (by omega)
                have j16 : (16 : Int) ≤ a0.size := by have : ackAt true = 16 := rfl; omega
                go_wp2_with (first | (go_at_call 54; (with_reducible refine (N5.out _).mono ?_); rintro e w' ⟨rfl, rfl⟩))
                go_meet
                simp only [if_true, ite_true]
                exact ⟨rfl, (B7.out.set 8 (.int .u64 (numAt a0 9 12 : Nat)) rfl).set 8 (.int .u64 (numAt a0 10 16 : Nat)) rfl, (B1.out.far (p := ⟨gb106, 8, none⟩) NB102_106.out _).far (p := ⟨gb106, 8, none⟩) NB102_106.out _, (HBB.out.setCell (p := ⟨gb106, 8, none⟩) GE106.out _).setCell (p := ⟨gb106, 8, none⟩) GE106.out _⟩
            case rest =>
              clear f8 r8 Hf2 Hf6 Hf7 B7 B1 HBB N4
              obtain ⟨rfl, b7, b1, hb⟩ := hcut
              generalize hsq : (if x = true then numAt a0 10 16 else numAt a0 9 12) = sq at b7
              have HSQ := Aside0.mk hsq
              clear hsq
              have g6 : wc.cell? ⟨gb106, 6, none⟩ = some (.int .i64 t) := b7.cell rfl
              have g7 : wc.cell? ⟨gb106, 7, none⟩ = some (.bool x) := b7.cell rfl
              have g9 : wc.cell? ⟨gb106, 9, none⟩ = some (.int .u64 0) := b7.cell rfl
              have r9 := b7.frozen 9
              have B7 := Aside0.mk b7
              have B1 := Aside0.mk b1
              have HBB := Aside0.mk hb
              have HA := hide (fun W => ref_HasAck t W)
              clear b7 b1 hb
              go_upto_region 18 with fail
              go_cut [91] (fun v91 wx => ∃ d : Bool, v91 = .bool d ∧ Hid (d = (ackB t && x)) ∧ wx = wc)
              case first =>
                go_wp2_with fail
                refine (HA.out _).mono ?_
                rintro e w5 ⟨rfl, rfl⟩
                cases hack : ackB (t : Int)
                all_goals go_wp2_with fail
                all_goals go_meet
                all_goals exact ⟨_, rfl, hide (by rw [hack]; simp), rfl⟩
              case rest =>
                obtain ⟨d, rfl, HD, rfl⟩ := hcut
                go_upto_if 91 with fail
                go_cut [6] (fun v6 wx => v6 = .int .i64 (moreAt t x : Nat) ∧ Blk wx gb106 (hcells (numAt a0 0 2) (numAt a0 2 4) (byteAt a0 4) (byteAt a0 5 / 16) (byteAt a0 5 % 16) (numAt a0 6 8) t x sq (if ackB t then (if x then numAt a0 17 24 % 281474976710656 else numAt a0 13 16) else 0) 0 0 0 0 0) 26 ∧ Blk wx gb102 Z 26 ∧ Below w.heap.size w wx)
                case first =>
                  cases d
                  · go_wp2_with fail
                    refine (HA.out _).mono ?_
                    rintro e w5 ⟨rfl, rfl⟩
                    cases hack : ackB (t : Int)
                    · have M4 := Aside0.mk (show moreAt t x = ackAt x by unfold moreAt; rw [hack]; rfl)
                      go_wp2_with fail
                      go_meet
                      simp only [hack, Bool.false_eq_true, if_false, ite_false]
                      exact ⟨by rw [M4.out], B7.out, B1.out, HBB.out⟩
                    · have hx0 : x = false := by have h2 := HD.out; rw [hack, Bool.true_and] at h2; exact h2.symm
                      subst hx0
                      have M3 : moreAt t false = 16 := by unfold moreAt; rw [hack]; rfl
                      have M4 := Aside0.mk M3
                      have N5 := numE a0 13 16 (by omega)
                      have j16 : (16 : Int) ≤ (a0.size : Int) := by omega
                      clear M3
                      have hat : ackAt false = 12 := rfl
                      rw [hat]
                      clear hat
                      go_wp2_with (first | (go_at_call 54; (with_reducible refine (N5.out _).mono ?_); rintro e w' ⟨rfl, rfl⟩))
                      go_meet
                      simp only [hack, Bool.false_eq_true, if_false, ite_false, if_true, ite_true]
                      exact ⟨by rw [M4.out]; rfl, B7.out.set 9 (.int .u64 (numAt a0 13 16 : Nat)) rfl, B1.out.far (p := ⟨gb106, 9, none⟩) NB102_106.out _, HBB.out.setCell (p := ⟨gb106, 9, none⟩) GE106.out _⟩
                  · have hax := Bool.and_eq_true_iff.1 HD.out.symm
                    obtain ⟨hack0, hx1⟩ := hax
                    subst hx1
                    have hack := Aside0.mk hack0
                    have M3 : moreAt t true = 24 := by unfold moreAt; rw [hack0]; rfl
                    have M4 := Aside0.mk M3
                    have N5 := numE a0 18 24 (by omega)
                    have j24 : (24 : Int) ≤ (a0.size : Int) := by omega
                    have j24n : 24 ≤ a0.size := by omega
                    clear M3 hack0
                    have hat : ackAt true = 16 := rfl
                    rw [hat]
                    clear hat
                    go_wp2_with (first | (go_at_call 54; (with_reducible refine (N5.out _).mono ?_); rintro e w' ⟨rfl, rfl⟩))
                    go_meet
                    simp only [hack.out, if_true, ite_true]
                    rw [num17 a0 j24n]
                    exact ⟨by rw [M4.out]; rfl, B7.out.set 9 (.int .u64 (numAt a0 18 24 : Nat)) rfl, B1.out.far (p := ⟨gb106, 9, none⟩) NB102_106.out _, HBB.out.setCell (p := ⟨gb106, 9, none⟩) GE106.out _⟩
                case rest =>
                  clear g6 g7 g9 r9 B7 B1 HBB HA HD
                  obtain ⟨rfl, b7, b1, hb⟩ := hcut
                  generalize hak : (if ackB (t : Int) = true then (if x = true then numAt a0 17 24 % 281474976710656 else numAt a0 13 16) else 0) = ak at b7
                  have HAK := Aside0.mk hak
                  clear hak
                  obtain ⟨m, hm⟩ : ∃ m, moreAt t x = m := ⟨_, rfl⟩
                  have HM := Aside0.mk hm
                  rw [hm]
                  clear hm
                  have g6 : wc.cell? ⟨gb106, 6, none⟩ = some (.int .i64 t) := b7.cell rfl
                  have B7 := Aside0.mk b7
                  have B1 := Aside0.mk b1
                  have HBB := Aside0.mk hb
                  have hm24 : (m : Int) ≤ 24 := by have := M1.2.2.1; have := HM.out; omega
                  go_upto_block 0 with fail
                  go_cut [] (fun wx => Blk wx gb106 (hcells (numAt a0 0 2) (numAt a0 2 4) (byteAt a0 4) (byteAt a0 5 / 16) (byteAt a0 5 % 16) (numAt a0 6 8) t x sq ak (if servB t then numAt a0 m (m + 4) else 0) (if t = 7 then byteAt a0 m else 0) (if t = 7 then byteAt a0 (m + 1) else 0) (if t = 7 then byteAt a0 (m + 2) else 0) (if t = 7 then byteAt a0 (m + 3) else 0)) 26 ∧ Blk wx gb102 Z 26 ∧ Below w.heap.size w wx)
                  case first =>
                    by_cases hs : servB (t : Int) = true
                    · have M4 : m + 4 ≤ n := by have := M2.out (.inl hs); have := HM.out; omega
                      have N5 := numE a0 m (m + 4) (by omega)
                      have j4 : (m : Int) + 4 ≤ (a0.size : Int) := by omega
                      have l4 : numAt a0 m (m + 4) < 4294967296 := by have h := numAt_lt a0 m (m + 4); rw [show m + 4 - m = 4 from by omega] at h; exact h
                      have l4i : (numAt a0 m (m + 4) : Int) < 4294967296 := by omega
                      have g10 : wc.cell? ⟨gb106, 10, none⟩ = some (.int .u32 0) := b7.cell rfl
                      have r10 := b7.frozen 10
                      have y4 : ((m : Int) + 4).toNat = m + 4 := by omega
                      have ht7 : t ≠ 7 := by intro h; subst h; exact absurd hs (by decide)
                      have hs2 : ((t : Int) == 0) = true ∨ (((t : Int) == 0) = false ∧ ((t : Int) == 1) = true) := by
                        unfold servB at hs
                        have h2 := of_decide_eq_true hs
                        rcases h2 with h2 | h2
                        · exact .inl (beq_iff_eq.2 h2)
                        · exact .inr ⟨beq_eq_false_iff_ne.2 (by omega), beq_iff_eq.2 h2⟩
                      have HS2 := Aside0.mk hs
                      have HT7 := Aside0.mk ht7
                      clear hs b7 b1 hb ht7 l4 M4
                      rcases hs2 with q0 | ⟨q0, q1⟩
                      all_goals
                        go_wp2_with (first | (go_at_call 54; (with_reducible refine (N5.out _).mono ?_); rintro e w' ⟨rfl, rfl⟩))
                        go_meet
                        simp only [HS2.out, if_neg HT7.out, if_true, ite_true]
                        exact ⟨B7.out.set 10 (.int .u32 (numAt a0 m (m + 4) : Nat)) rfl, B1.out.far (p := ⟨gb106, 10, none⟩) NB102_106.out _, HBB.out.setCell (p := ⟨gb106, 10, none⟩) GE106.out _⟩
                    · have hs2 : ((t : Int) == 0) = false ∧ ((t : Int) == 1) = false := by
                        unfold servB at hs
                        rw [decide_eq_true_eq] at hs
                        exact ⟨beq_eq_false_iff_ne.2 (by omega), beq_eq_false_iff_ne.2 (by omega)⟩
                      obtain ⟨q0, q1⟩ := hs2
                      have HS2 := Aside0.mk (Bool.not_eq_true _ ▸ hs : servB (t : Int) = false)
                      clear hs b1 hb
                      by_cases h7 : t = 7
                      · have M4 : m + 4 ≤ n := by have := M2.out (.inr (by omega)); have := HM.out; omega
                        have q7 : ((t : Int) == 7) = true := beq_iff_eq.2 (by omega)
                        have j4 : (m : Int) + 4 ≤ (a0.size : Int) := by omega
                        have g11 : wc.cell? ⟨gb106, 11, none⟩ = some (.int .i64 0) := b7.cell rfl
                        have r11 := b7.frozen 11
                        have k0 : (m : Int) < (a0.size : Int) := by omega
                        have k1 : (m : Int) + 1 < (a0.size : Int) := by omega
                        have k2 : (m : Int) + 2 < (a0.size : Int) := by omega
                        have k3 : (m : Int) + 3 < (a0.size : Int) := by omega
                        have y1 : ((m : Int) + 1).toNat = m + 1 := by omega
                        have y2 : ((m : Int) + 2).toNat = m + 2 := by omega
                        have y3 : ((m : Int) + 3).toNat = m + 3 := by omega
                        have em0 : ∀ h : m < a0.size, (a0[m]'h).toNat = byteAt a0 m := fun h => byteAt_get a0 m h
                        have em1 : ∀ h : m + 1 < a0.size, (a0[m + 1]'h).toNat = byteAt a0 (m + 1) := fun h => byteAt_get a0 (m + 1) h
                        have em2 : ∀ h : m + 2 < a0.size, (a0[m + 2]'h).toNat = byteAt a0 (m + 2) := fun h => byteAt_get a0 (m + 2) h
                        have em3 : ∀ h : m + 3 < a0.size, (a0[m + 3]'h).toNat = byteAt a0 (m + 3) := fun h => byteAt_get a0 (m + 3) h
                        have z1 : (0 : Int) ≤ (m : Int) + 1 := by omega
                        have z2 : (0 : Int) ≤ (m : Int) + 2 := by omega
                        have z3 : (0 : Int) ≤ (m : Int) + 3 := by omega
                        have nn1 : m + 1 < a0.size := by omega
                        have nn2 : m + 2 < a0.size := by omega
                        have nn3 : m + 3 < a0.size := by omega
                        have wz1 : IntKind.i64.wrap ((m : Int) + 1) = (m : Int) + 1 := wrp m 1 hm24 (by decide) (by decide)
                        have wz2 : IntKind.i64.wrap ((m : Int) + 2) = (m : Int) + 2 := wrp m 2 hm24 (by decide) (by decide)
                        have wz3 : IntKind.i64.wrap ((m : Int) + 3) = (m : Int) + 3 := wrp m 3 hm24 (by decide) (by decide)
                        have lb := byteAt_lt a0 m
                        have lbi : ((byteAt a0 m : Nat) : Int) ≤ 255 := by omega
                        have HT7 := Aside0.mk h7
                        clear h7 b7 M4
                        go_upto_region 30 with fail
                        have b7x := B7.out.set 11 (.int .i64 (byteAt a0 m : Nat)) (cs' := hcells (numAt a0 0 2) (numAt a0 2 4) (byteAt a0 4) (byteAt a0 5 / 16) (byteAt a0 5 % 16) (numAt a0 6 8) t x sq ak 0 (byteAt a0 m) 0 0 0) rfl
                        have b1x := B1.out.far (p := ⟨gb106, 11, none⟩) NB102_106.out (.int .i64 (byteAt a0 m : Nat))
                        have hbx := HBB.out.setCell (p := ⟨gb106, 11, none⟩) GE106.out (.int .i64 (byteAt a0 m : Nat))
                        generalize wc.setCell ⟨gb106, 11, none⟩ (.int .i64 (byteAt a0 m : Nat)) = w9 at *
                        have g12 : w9.cell? ⟨gb106, 12, none⟩ = some (.int .u8 0) := b7x.cell rfl
                        have g13 : w9.cell? ⟨gb106, 13, none⟩ = some (.int .u8 0) := b7x.cell rfl
                        have g14 : w9.cell? ⟨gb106, 14, none⟩ = some (.int .u8 0) := b7x.cell rfl
                        have r12 := b7x.frozen 12
                        have r13 := b7x.frozen 13
                        have r14 := b7x.frozen 14
                        have X7 := Aside0.mk b7x
                        have X1 := Aside0.mk b1x
                        have XB := Aside0.mk hbx
                        clear b7x b1x hbx g11 r11 k0 em0 lb
                        go_still_tail 14, (by kernel_rfl)
                        change wpList _ _ _ _ _ w9.drew
                        go_wp2_with fail
                        go_meet
                        simp only [HS2.out, if_pos HT7.out, Bool.false_eq_true, if_false, ite_false]
                        exact ⟨((X7.out.drew.set 12 (.int .u8 (byteAt a0 (m + 1) : Nat)) rfl).set 13 (.int .u8 (byteAt a0 (m + 2) : Nat)) rfl).set 14 (.int .u8 (byteAt a0 (m + 3) : Nat)) rfl, ((X1.out.drew.far (p := ⟨gb106, 12, none⟩) NB102_106.out _).far (p := ⟨gb106, 13, none⟩) NB102_106.out _).far (p := ⟨gb106, 14, none⟩) NB102_106.out _, ((XB.out.drew.setCell (p := ⟨gb106, 12, none⟩) GE106.out _).setCell (p := ⟨gb106, 13, none⟩) GE106.out _).setCell (p := ⟨gb106, 14, none⟩) GE106.out _⟩
                      · have q7 : ((t : Int) == 7) = false := beq_eq_false_iff_ne.2 (by omega)
                        have HT7 := Aside0.mk h7
                        clear h7 b7
                        go_wp2_with fail
                        go_meet
                        simp only [HS2.out, if_neg HT7.out, Bool.false_eq_true, if_false, ite_false]
                        exact ⟨B7.out, B1.out, HBB.out⟩
                  case rest =>
                    clear g6 B7 B1 HBB b7 b1 hb
                    obtain ⟨b7, b1, hb⟩ := hcut
                    have hE : (getHd a0 t x).val = .agg (hcells (numAt a0 0 2) (numAt a0 2 4) (byteAt a0 4) (byteAt a0 5 / 16) (byteAt a0 5 % 16) (numAt a0 6 8) t x sq ak (if servB t then numAt a0 m (m + 4) else 0) (if t = 7 then byteAt a0 m else 0) (if t = 7 then byteAt a0 (m + 1) else 0) (if t = 7 then byteAt a0 (m + 2) else 0) (if t = 7 then byteAt a0 (m + 3) else 0)) := by
                      have e := hd_eq a0 t x m sq ak (if servB t then numAt a0 m (m + 4) else 0) HSQ.out HAK.out (by rw [HM.out])
                      rw [HM.out] at e
                      by_cases h7 : t = 7
                      · rw [if_pos h7, if_pos h7, if_pos h7, if_pos h7]; exact e.2 h7
                      · rw [if_neg h7, if_neg h7, if_neg h7, if_neg h7]; exact e.1 h7
                    generalize (if servB (t : Int) = true then numAt a0 m (m + 4) else 0) = sv at b7 hE
                    generalize (if t = 7 then byteAt a0 m else 0) = u0 at b7 hE
                    generalize (if t = 7 then byteAt a0 (m + 1) else 0) = u1 at b7 hE
                    generalize (if t = 7 then byteAt a0 (m + 2) else 0) = u2 at b7 hE
                    generalize (if t = 7 then byteAt a0 (m + 3) else 0) = u3 at b7 hE
                    have hone := Aside0.mk (hcells_one (numAt a0 0 2) (numAt a0 2 4) (byteAt a0 4) (byteAt a0 5 / 16) (byteAt a0 5 % 16) (numAt a0 6 8) t x sq ak sv u0 u1 u2 u3)
                    have HEE := Aside0.mk hE
                    have B7 := Aside0.mk b7
                    have B1 := Aside0.mk b1
                    have HBB := Aside0.mk hb
                    clear hE b7 b1 hb
                    go_wp2_with (first | (refine wpList_load_row rfl 26 _ rfl gb106 rfl 26 _ (0, 0) _ B7.out hu rfl (by kernel_rfl) ?_) | (refine wpList_store_row rfl 26 _ _ rfl gb102 _ rfl rfl 26 Z B1.out (by kernel_rfl) rfl hone.out ?_))
                    refine ret_ct gb102 _ B1.out.row rfl rfl (.int .i64 0) rfl ?_
                    rw [hgT.out]
                    exact ⟨by rw [HEE.out], below_row HBB.out GE102.out _⟩
theorem ref_GetHead (b : ByteArray) (hs : b.size ≤ 9223372036854775807) (w : World) :
    Calls Tryz.prog 17 #[.string b] w fun e w' => e = .returned (.tuple #[(getH b).1.val, .int .i64 (getH b).2]) ∧ Below w.heap.size w w' := by
  by_cases h : b.size < 12
  · have e : getH b = (hd0, 1) := by unfold getH; rw [if_pos h]
    rw [e]; exact short b hs h w
  · exact main b hs (by omega) w
end Go.Proofs.YtjlnbahanghhcaaGreatDoor.RH
