/- The contract of pkt.Get, case by case (printed by wip/gen/mk_pktget.py). -/
import Derived.Test.YthallmapddihgaaGreatDoorBaseD
import Derived.StillTailTactics
namespace Go.Proofs.YthallmapddihgaaGreatDoor
open Go.RowKit Go.Proofs.YthallmapddihgaaGreatDoorW.PrintWords
set_option linter.unusedVariables false
set_option linter.unusedSimpArgs false

theorem getH_off (b : ByteArray) : 0 ≤ (getH b).1.off ∧ (getH b).1.off ≤ 255 := by
  have h := byteAt_lt b 4
  unfold getH
  split
  · exact ⟨by decide, by decide⟩
  split
  · exact ⟨by decide, by decide⟩
  split
  · exact ⟨by decide, by decide⟩
  split
  · exact ⟨by decide, by decide⟩
  split
  · exact ⟨by decide, by decide⟩
  · show 0 ≤ ((byteAt b 4 : Nat) : Int) ∧ ((byteAt b 4 : Nat) : Int) ≤ 255
    omega
theorem Z39_one : Z39.all (·.oneCell') = true := by kernel_rfl
def pk17 (src dst off cc cs sum typ : Int) (x : Bool) (seq ack serv code i0 i1 i2 : Int) (A : Option Addr) (n c : Nat) (d : ByteArray) : Array Value := #[.int .i64 src, .int .i64 dst, .int .i64 off, .int .i64 cc, .int .i64 cs, .int .i64 sum, .int .i64 typ, .bool x, .int .u64 seq, .int .u64 ack, .int .u32 serv, .int .i64 code, .int .u8 i0, .int .u8 i1, .int .u8 i2, .slice A n c, .string d]
theorem pk17_one (src dst off cc cs sum typ : Int) (x : Bool) (seq ack serv code i0 i1 i2 : Int) (A : Option Addr) (n c : Nat) (d : ByteArray) : (pk17 src dst off cc cs sum typ x seq ack serv code i0 i1 i2 A n c d).all (·.oneCell') = true := by kernel_rfl
set_option maxHeartbeats 1600000 in
set_option maxRecDepth 100000 in
theorem pkt_Get_large (b : ByteArray) (hs : 2500 < b.size) (w : World) : Calls Tryz.prog 38 #[.string b] w fun e w' => e = .returned (.tuple #[.agg Z39, .int .i64 13]) ∧ Below w.heap.size w w' := by
  have hi : (2500 : Int) < (b.size : Int) := by omega
  go_enter Tryz.func38, Tryz.ntmps38
  go_wp2_with (refine wpList_store_row rfl 54 _ _ rfl w.heap.size Z39 rfl rfl 54 Z39 (Blk.new w Z39 _) (by kernel_rfl) rfl Z39_one ?_)
  refine bodyPost_ret (results_ct rfl _ _ w.heap.size 54 Z39 (0, 0) _ rfl ((Blk.new w Z39 _).row) Tryz.underlying54 rfl (by kernel_rfl)) rfl ⟨rfl, below_row ((Below.refl _ _).alloc (Nat.le_refl _) _) (Nat.le_refl _) _⟩

set_option maxHeartbeats 1600000 in
set_option maxRecDepth 100000 in
theorem pkt_Get_head (b : ByteArray) (hs : b.size ≤ 2500) (h : Hd) (E : Int) (hh : getH b = (h, E)) (hE : E ≠ 0) (w : World) : Calls Tryz.prog 38 #[.string b] w fun e w' => e = .returned (.tuple #[.agg Z39, .int .i64 E]) ∧ Below w.heap.size w w' := by
  have hi : (b.size : Int) ≤ 2500 := by omega
  have G0 := fun W => head_Get b (by omega) W
  rw [hh] at G0
  have hE2 : (E != 0) = true := bne_iff_ne.2 hE
  obtain ⟨src, dst, off, cc, cs, sum, typ, x, seq, ack, serv, code, i0, i1, i2⟩ := h
  simp only [Hd.val_mk] at G0
  have G := hide G0
  clear G0 hh hE
  go_enter Tryz.func38, Tryz.ntmps38
  go_wp2_with fail
  refine (G.out _).mono ?_
  rintro e w2 ⟨rfl, hb2⟩
  have b0 := (Blk.new w Z39 54).below hb2 (by simp)
  have hw2 : Below w.heap.size w w2 := ((Below.refl _ _).alloc (Nat.le_refl _) _).trans (hb2.mono (by simp))
  have hz2 : w.heap.size + 1 ≤ w2.heap.size := by have := hb2.size; simpa using this
  have B0 := hide b0
  clear b0 hb2
  go_wp2_with (refine wpList_store_row rfl 54 _ _ rfl w.heap.size Z39 rfl rfl 54 Z39 (B0.out.alloc _) (by kernel_rfl) rfl Z39_one ?_)
  refine bodyPost_ret (results_ct rfl _ _ w.heap.size 54 Z39 (0, 0) _ rfl ((B0.out.alloc _).row) Tryz.underlying54 rfl (by kernel_rfl)) rfl ⟨rfl, below_row (hw2.alloc (by omega) _) (Nat.le_refl _) _⟩

set_option maxHeartbeats 1600000 in
set_option maxRecDepth 100000 in
theorem pkt_Get_cov (b : ByteArray) (hs : b.size ≤ 2500) (src dst off cc cs sum typ : Int) (x : Bool) (seq ack serv code i0 i1 i2 : Int) (hh : getH b = (⟨src, dst, off, cc, cs, sum, typ, x, seq, ack, serv, code, i0, i1, i2⟩, 0)) (o0 : 0 ≤ off) (o1 : off ≤ 255) (hc : covB b.size (4 * off) cs = false) (w : World) : Calls Tryz.prog 38 #[.string b] w fun e w' => e = .returned (.tuple #[.agg Z39, .int .i64 5]) ∧ Below w.heap.size w w' := by
  have hi : (b.size : Int) ≤ 2500 := by omega
  have hb0 : (0 : Int) ≤ (b.size : Int) := by omega
  have G0 := fun W => head_Get b (by omega) W
  simp only [hh, Hd.val_mk] at G0
  have G := hide G0
  clear G0 hh
  have C0 := fun W => sum_Covered (b.size : Int) (4 * off) cs W (by omega)
  rw [hc] at C0
  simp only [cond_false] at C0
  have C := hide C0
  clear C0 hc
  go_enter Tryz.func38, Tryz.ntmps38
  go_wp2_with fail
  refine (G.out _).mono ?_
  rintro e w2 ⟨rfl, hb2⟩
  have b0 := (Blk.new w Z39 54).below hb2 (by simp)
  have hw2 : Below w.heap.size w w2 := ((Below.refl _ _).alloc (Nat.le_refl _) _).trans (hb2.mono (by simp))
  have hz2 : w.heap.size + 1 ≤ w2.heap.size := by have := hb2.size; simpa using this
  have B0 := hide b0
  clear b0 hb2
  go_wp2_with (first | (go_at_call 75; refine (C.out _).mono ?_; rintro e w' ⟨rfl, rfl⟩) | (refine wpList_store_row rfl 54 _ _ rfl w.heap.size Z39 rfl rfl 54 Z39 (B0.out.alloc _) (by kernel_rfl) rfl Z39_one ?_))
  refine bodyPost_ret (results_ct rfl _ _ w.heap.size 54 Z39 (0, 0) _ rfl ((B0.out.alloc _).row) Tryz.underlying54 rfl (by kernel_rfl)) rfl ⟨rfl, below_row (hw2.alloc (by omega) _) (Nat.le_refl _) _⟩

set_option maxHeartbeats 1600000 in
set_option maxRecDepth 100000 in
theorem pkt_Get_sum (b : ByteArray) (hs : b.size ≤ 2500) (src dst off cc cs sum typ : Int) (x : Bool) (seq ack serv code i0 i1 i2 : Int) (hh : getH b = (⟨src, dst, off, cc, cs, sum, typ, x, seq, ack, serv, code, i0, i1, i2⟩, 0)) (o0 : 0 ≤ off) (o1 : off ≤ 255) (hc : covB b.size (4 * off) cs = true) (hS : Sum.sum (b.extract 0 (covN b.size (4 * off) cs).toNat).data.toList ≠ 0) (w : World) : Calls Tryz.prog 38 #[.string b] w fun e w' => e = .returned (.tuple #[.agg Z39, .int .i64 6]) ∧ Below w.heap.size w w' := by
  have hi : (b.size : Int) ≤ 2500 := by omega
  have hb0 : (0 : Int) ≤ (b.size : Int) := by omega
  have G0 := fun W => head_Get b (by omega) W
  simp only [hh, Hd.val_mk] at G0
  have G := hide G0
  clear G0 hh
  have C0 := fun W => sum_Covered (b.size : Int) (4 * off) cs W (by omega)
  rw [hc] at C0
  simp only [cond_true] at C0
  have hcl : covN b.size (4 * off) cs ≤ b.size := by unfold covB at hc; have := of_decide_eq_true hc; omega
  have hcs : 0 ≤ cs := by unfold covB at hc; have := of_decide_eq_true hc; omega
  have hcn : 0 ≤ covN b.size (4 * off) cs := by unfold covN; split <;> omega
  generalize covN b.size (4 * off) cs = n0 at *
  obtain ⟨n, rfl⟩ := Int.eq_ofNat_of_zero_le hcn
  rw [Int.toNat_natCast] at hS
  have C := hide C0
  clear C0 hc hcs
  have so0 : ∀ W : World, Calls Tryz.prog 52 #[.slice (some ⟨W.heap.size, 0, none⟩) 1 1] (W.alloc (.cells #[.string (b.extract 0 n)] 9)) fun e w' => e = .returned (.int .i64 (Sum.sum (b.extract 0 n).data.toList : Nat)) ∧ W.alloc (.cells #[.string (b.extract 0 n)] 9) = w' := fun W => by
    have h := sum_Of (some ⟨W.heap.size, 0, none⟩) 1 (W.heap.size + 1) [b.extract 0 n] (W.alloc (.cells #[.string (b.extract 0 n)] 9)) (cells_new W [.string (b.extract 0 n)] 9) (by simp [joined, size_bytes, ByteArray.size_extract]; omega) (by simp)
    rwa [show joined [b.extract 0 n] = (b.extract 0 n).data.toList from by simp [joined]] at h
  have hS2 : (((Sum.sum (b.extract 0 n).data.toList : Nat) : Int) != 0) = true := bne_iff_ne.2 (by omega)
  generalize Sum.sum (b.extract 0 n).data.toList = S at *
  have SO := hide so0
  clear so0 hS
  go_enter Tryz.func38, Tryz.ntmps38
  go_wp2_with fail
  refine (G.out _).mono ?_
  rintro e w2 ⟨rfl, hb2⟩
  have b0 := (Blk.new w Z39 54).below hb2 (by simp)
  have hw2 : Below w.heap.size w w2 := ((Below.refl _ _).alloc (Nat.le_refl _) _).trans (hb2.mono (by simp))
  have hz2 : w.heap.size + 1 ≤ w2.heap.size := by have := hb2.size; simpa using this
  have B0 := hide b0
  clear b0 hb2
  go_wp2_with (go_at_call 75; refine (C.out _).mono ?_; rintro e w' ⟨rfl, rfl⟩)
  have so := SO.out (w2.alloc (.cells #[.int .i64 src, .int .i64 dst, .int .i64 off, .int .i64 cc, .int .i64 cs, .int .i64 sum, .int .i64 typ, .bool x, .int .u64 seq, .int .u64 ack, .int .u32 serv, .int .i64 code, .int .u8 i0, .int .u8 i1, .int .u8 i2] 26))
  rw [World.size_alloc] at so
  refine so.mono ?_
  rintro e w3 ⟨rfl, rfl⟩
  have b0 := (B0.out.alloc (.cells #[.int .i64 src, .int .i64 dst, .int .i64 off, .int .i64 cc, .int .i64 cs, .int .i64 sum, .int .i64 typ, .bool x, .int .u64 seq, .int .u64 ack, .int .u32 serv, .int .i64 code, .int .u8 i0, .int .u8 i1, .int .u8 i2] 26)).alloc (.cells #[.string (b.extract 0 n)] 9)
  have hw3 := (hw2.alloc (by omega) (.cells #[.int .i64 src, .int .i64 dst, .int .i64 off, .int .i64 cc, .int .i64 cs, .int .i64 sum, .int .i64 typ, .bool x, .int .u64 seq, .int .u64 ack, .int .u32 serv, .int .i64 code, .int .u8 i0, .int .u8 i1, .int .u8 i2] 26)).alloc (by simp; omega) (.cells #[.string (b.extract 0 n)] 9)
  have hz3 : w.heap.size + 1 ≤ ((w2.alloc (.cells #[.int .i64 src, .int .i64 dst, .int .i64 off, .int .i64 cc, .int .i64 cs, .int .i64 sum, .int .i64 typ, .bool x, .int .u64 seq, .int .u64 ack, .int .u32 serv, .int .i64 code, .int .u8 i0, .int .u8 i1, .int .u8 i2] 26)).alloc (.cells #[.string (b.extract 0 n)] 9)).heap.size := by simp; omega
  generalize (w2.alloc (.cells #[.int .i64 src, .int .i64 dst, .int .i64 off, .int .i64 cc, .int .i64 cs, .int .i64 sum, .int .i64 typ, .bool x, .int .u64 seq, .int .u64 ack, .int .u32 serv, .int .i64 code, .int .u8 i0, .int .u8 i1, .int .u8 i2] 26)).alloc (.cells #[.string (b.extract 0 n)] 9) = w3 at *
  go_wp2_with (refine wpList_store_row rfl 54 _ _ rfl w.heap.size Z39 rfl rfl 54 Z39 (b0) (by kernel_rfl) rfl Z39_one ?_)
  refine bodyPost_ret (results_ct rfl _ _ w.heap.size 54 Z39 (0, 0) _ rfl (b0.row) Tryz.underlying54 rfl (by kernel_rfl)) rfl ⟨rfl, below_row hw3 (Nat.le_refl _) _⟩

set_option maxHeartbeats 1600000 in
set_option maxRecDepth 100000 in
theorem pkt_Get_opts (b : ByteArray) (hs : b.size ≤ 2500) (src dst off cc cs sum typ : Int) (x : Bool) (seq ack serv code i0 i1 i2 : Int) (hh : getH b = (⟨src, dst, off, cc, cs, sum, typ, x, seq, ack, serv, code, i0, i1, i2⟩, 0)) (o0 : 0 ≤ off) (o1 : off ≤ 255) (hc : covB b.size (4 * off) cs = true) (hS : Sum.sum (b.extract 0 (covN b.size (4 * off) cs).toNat).data.toList = 0) (h1 : sizeB typ x ≤ 4 * off) (h2 : 4 * off ≤ b.size) (E : Int) (hE : E ≠ 0)
    (OG : ∀ W, Calls Tryz.prog 32 #[.string (b.extract (sizeB typ x).toNat (4 * off).toNat)] W fun e w' => ∃ v0_ : Value, e = .returned (.tuple #[v0_, .int .i64 E]) ∧ Below W.heap.size W w') (w : World) : Calls Tryz.prog 38 #[.string b] w fun e w' => e = .returned (.tuple #[.agg Z39, .int .i64 E]) ∧ Below w.heap.size w w' := by
  have hE2 : (E != 0) = true := bne_iff_ne.2 hE
  have hi : (b.size : Int) ≤ 2500 := by omega
  have hb0 : (0 : Int) ≤ (b.size : Int) := by omega
  have G0 := fun W => head_Get b (by omega) W
  simp only [hh, Hd.val_mk] at G0
  have G := hide G0
  clear G0 hh
  have C0 := fun W => sum_Covered (b.size : Int) (4 * off) cs W (by omega)
  rw [hc] at C0
  simp only [cond_true] at C0
  have hcl : covN b.size (4 * off) cs ≤ b.size := by unfold covB at hc; have := of_decide_eq_true hc; omega
  have hcs : 0 ≤ cs := by unfold covB at hc; have := of_decide_eq_true hc; omega
  have hcn : 0 ≤ covN b.size (4 * off) cs := by unfold covN; split <;> omega
  generalize covN b.size (4 * off) cs = n0 at *
  obtain ⟨n, rfl⟩ := Int.eq_ofNat_of_zero_le hcn
  rw [Int.toNat_natCast] at hS
  have C := hide C0
  clear C0 hc hcs
  have so0 : ∀ W : World, Calls Tryz.prog 52 #[.slice (some ⟨W.heap.size, 0, none⟩) 1 1] (W.alloc (.cells #[.string (b.extract 0 n)] 9)) fun e w' => e = .returned (.int .i64 (Sum.sum (b.extract 0 n).data.toList : Nat)) ∧ W.alloc (.cells #[.string (b.extract 0 n)] 9) = w' := fun W => by
    have h := sum_Of (some ⟨W.heap.size, 0, none⟩) 1 (W.heap.size + 1) [b.extract 0 n] (W.alloc (.cells #[.string (b.extract 0 n)] 9)) (cells_new W [.string (b.extract 0 n)] 9) (by simp [joined, size_bytes, ByteArray.size_extract]; omega) (by simp)
    rwa [show joined [b.extract 0 n] = (b.extract 0 n).data.toList from by simp [joined]] at h
  rw [hS] at so0
  have SO := hide so0
  clear so0 hS hE
  have hsz := sizeB_le typ x
  have SZ0 := head_Size typ x
  obtain ⟨z, hz⟩ : ∃ z : Int, sizeB typ x = z := ⟨_, rfl⟩
  simp only [hz] at SZ0 hsz h1 OG
  obtain ⟨z0, z28⟩ := hsz
  have SZ := hide SZ0
  have hto : (4 * off).toNat ≤ b.size := by omega
  clear SZ0 hz
  have OG2 := hide OG
  clear OG
  go_enter Tryz.func38, Tryz.ntmps38
  go_wp2_with fail
  refine (G.out _).mono ?_
  rintro e w2 ⟨rfl, hb2⟩
  have b0 := (Blk.new w Z39 54).below hb2 (by simp)
  have hw2 : Below w.heap.size w w2 := ((Below.refl _ _).alloc (Nat.le_refl _) _).trans (hb2.mono (by simp))
  have hz2 : w.heap.size + 1 ≤ w2.heap.size := by have := hb2.size; simpa using this
  have B0 := hide b0
  clear b0 hb2
  go_wp2_with (go_at_call 75; refine (C.out _).mono ?_; rintro e w' ⟨rfl, rfl⟩)
  have so := SO.out (w2.alloc (.cells #[.int .i64 src, .int .i64 dst, .int .i64 off, .int .i64 cc, .int .i64 cs, .int .i64 sum, .int .i64 typ, .bool x, .int .u64 seq, .int .u64 ack, .int .u32 serv, .int .i64 code, .int .u8 i0, .int .u8 i1, .int .u8 i2] 26))
  rw [World.size_alloc] at so
  refine so.mono ?_
  rintro e w3 ⟨rfl, rfl⟩
  have b0 := (B0.out.alloc (.cells #[.int .i64 src, .int .i64 dst, .int .i64 off, .int .i64 cc, .int .i64 cs, .int .i64 sum, .int .i64 typ, .bool x, .int .u64 seq, .int .u64 ack, .int .u32 serv, .int .i64 code, .int .u8 i0, .int .u8 i1, .int .u8 i2] 26)).alloc (.cells #[.string (b.extract 0 n)] 9)
  have b4 := (Blk.new w2 #[.int .i64 src, .int .i64 dst, .int .i64 off, .int .i64 cc, .int .i64 cs, .int .i64 sum, .int .i64 typ, .bool x, .int .u64 seq, .int .u64 ack, .int .u32 serv, .int .i64 code, .int .u8 i0, .int .u8 i1, .int .u8 i2] 26).alloc (.cells #[.string (b.extract 0 n)] 9)
  have hw3 := (hw2.alloc (by omega) (.cells #[.int .i64 src, .int .i64 dst, .int .i64 off, .int .i64 cc, .int .i64 cs, .int .i64 sum, .int .i64 typ, .bool x, .int .u64 seq, .int .u64 ack, .int .u32 serv, .int .i64 code, .int .u8 i0, .int .u8 i1, .int .u8 i2] 26)).alloc (by simp; omega) (.cells #[.string (b.extract 0 n)] 9)
  have hz3 : w2.heap.size + 2 = ((w2.alloc (.cells #[.int .i64 src, .int .i64 dst, .int .i64 off, .int .i64 cc, .int .i64 cs, .int .i64 sum, .int .i64 typ, .bool x, .int .u64 seq, .int .u64 ack, .int .u32 serv, .int .i64 code, .int .u8 i0, .int .u8 i1, .int .u8 i2] 26)).alloc (.cells #[.string (b.extract 0 n)] 9)).heap.size := by simp
  generalize (w2.alloc (.cells #[.int .i64 src, .int .i64 dst, .int .i64 off, .int .i64 cc, .int .i64 cs, .int .i64 sum, .int .i64 typ, .bool x, .int .u64 seq, .int .u64 ack, .int .u32 serv, .int .i64 code, .int .u8 i0, .int .u8 i1, .int .u8 i2] 26)).alloc (.cells #[.string (b.extract 0 n)] 9) = w3 at b0 b4 hw3 hz3 ⊢
  have B0 := hide b0
  have B4 := hide b4
  have Hz3 := hide hz3
  have g6 : w3.cell? ⟨w2.heap.size, 6, none⟩ = some (.int .i64 typ) := b4.cell rfl
  have g7 : w3.cell? ⟨w2.heap.size, 7, none⟩ = some (.bool x) := b4.cell rfl
  clear b0 b4 so hz3
  go_wp2_with (first | (go_at_call 20; refine (SZ.out _).mono ?_; rintro e w' ⟨rfl, rfl⟩))
  refine (OG2.out _).mono ?_
  rintro e w4 ⟨v0, rfl, hb4⟩
  have b0 := B0.out.below hb4 (by have := Hz3.out; omega)
  replace hw3 := hw3.trans (hb4.mono hw3.size)
  clear hb4 g6 g7
  go_wp2_with (refine wpList_store_row rfl 54 _ _ rfl w.heap.size Z39 rfl rfl 54 Z39 (b0) (by kernel_rfl) rfl Z39_one ?_)
  refine bodyPost_ret (results_ct rfl _ _ w.heap.size 54 Z39 (0, 0) _ rfl (b0.row) Tryz.underlying54 rfl (by kernel_rfl)) rfl ⟨rfl, below_row hw3 (Nat.le_refl _) _⟩

set_option maxHeartbeats 1600000 in
set_option maxRecDepth 100000 in
/-- all is right: the packet; the options' row stands as opt.Get made it (R: what is known of it, of the blocks from w's end on). -/
theorem pkt_Get_ok (b : ByteArray) (hs : b.size ≤ 2500) (src dst off cc cs sum typ : Int) (x : Bool) (seq ack serv code i0 i1 i2 : Int) (hh : getH b = (⟨src, dst, off, cc, cs, sum, typ, x, seq, ack, serv, code, i0, i1, i2⟩, 0)) (o0 : 0 ≤ off) (o1 : off ≤ 255) (hc : covB b.size (4 * off) cs = true) (hS : Sum.sum (b.extract 0 (covN b.size (4 * off) cs).toNat).data.toList = 0) (h1 : sizeB typ x ≤ 4 * off) (h2 : 4 * off ≤ b.size) (m : Nat) (R : World → Nat → Value → Prop)
    (hR : ∀ B w1 w2 v, R w1 B v → w1.heap.size ≤ w2.heap.size → (∀ k, B ≤ k → k < w1.heap.size → w2.heap[k]? = w1.heap[k]?) → R w2 B v)
    (OG : ∀ W, Calls Tryz.prog 32 #[.string (b.extract (sizeB typ x).toNat (4 * off).toNat)] W fun e w' => ∃ (v0_ : Value) (A : Option Addr) (c : Nat), e = .returned (.tuple #[v0_, .int .i64 0]) ∧ v0_ = .slice A m c ∧ R w' W.heap.size v0_ ∧ Below W.heap.size W w') (w : World) :
    Calls Tryz.prog 38 #[.string b] w fun e w' => ∃ (v : Value) (A : Option Addr) (c B : Nat), e = .returned (.tuple #[.agg (pk17 src dst off cc cs sum typ x seq ack serv code i0 i1 i2 A m c (b.extract (4 * off).toNat b.size)), .int .i64 0]) ∧ v = .slice A m c ∧ w.heap.size < B ∧ R w' B v ∧ Below w.heap.size w w' := by
  have hi : (b.size : Int) ≤ 2500 := by omega
  have hb0 : (0 : Int) ≤ (b.size : Int) := by omega
  have G0 := fun W => head_Get b (by omega) W
  simp only [hh, Hd.val_mk] at G0
  have G := hide G0
  clear G0 hh
  have C0 := fun W => sum_Covered (b.size : Int) (4 * off) cs W (by omega)
  rw [hc] at C0
  simp only [cond_true] at C0
  have hcl : covN b.size (4 * off) cs ≤ b.size := by unfold covB at hc; have := of_decide_eq_true hc; omega
  have hcs : 0 ≤ cs := by unfold covB at hc; have := of_decide_eq_true hc; omega
  have hcn : 0 ≤ covN b.size (4 * off) cs := by unfold covN; split <;> omega
  generalize covN b.size (4 * off) cs = n0 at *
  obtain ⟨n, rfl⟩ := Int.eq_ofNat_of_zero_le hcn
  rw [Int.toNat_natCast] at hS
  have C := hide C0
  clear C0 hc hcs
  have so0 : ∀ W : World, Calls Tryz.prog 52 #[.slice (some ⟨W.heap.size, 0, none⟩) 1 1] (W.alloc (.cells #[.string (b.extract 0 n)] 9)) fun e w' => e = .returned (.int .i64 (Sum.sum (b.extract 0 n).data.toList : Nat)) ∧ W.alloc (.cells #[.string (b.extract 0 n)] 9) = w' := fun W => by
    have h := sum_Of (some ⟨W.heap.size, 0, none⟩) 1 (W.heap.size + 1) [b.extract 0 n] (W.alloc (.cells #[.string (b.extract 0 n)] 9)) (cells_new W [.string (b.extract 0 n)] 9) (by simp [joined, size_bytes, ByteArray.size_extract]; omega) (by simp)
    rwa [show joined [b.extract 0 n] = (b.extract 0 n).data.toList from by simp [joined]] at h
  rw [hS] at so0
  have SO := hide so0
  clear so0 hS
  have hsz := sizeB_le typ x
  have SZ0 := head_Size typ x
  obtain ⟨z, hz⟩ : ∃ z : Int, sizeB typ x = z := ⟨_, rfl⟩
  simp only [hz] at SZ0 hsz h1 OG
  obtain ⟨z0, z28⟩ := hsz
  have SZ := hide SZ0
  have hto : (4 * off).toNat ≤ b.size := by omega
  clear SZ0 hz
  have OG2 := hide OG
  clear OG
  go_enter Tryz.func38, Tryz.ntmps38
  go_wp2_with fail
  refine (G.out _).mono ?_
  rintro e w2 ⟨rfl, hb2⟩
  have b0 := (Blk.new w Z39 54).below hb2 (by simp)
  have hw2 : Below w.heap.size w w2 := ((Below.refl _ _).alloc (Nat.le_refl _) _).trans (hb2.mono (by simp))
  have hz2 : w.heap.size + 1 ≤ w2.heap.size := by have := hb2.size; simpa using this
  have B0 := hide b0
  clear b0 hb2
  go_wp2_with (go_at_call 75; refine (C.out _).mono ?_; rintro e w' ⟨rfl, rfl⟩)
  have so := SO.out (w2.alloc (.cells #[.int .i64 src, .int .i64 dst, .int .i64 off, .int .i64 cc, .int .i64 cs, .int .i64 sum, .int .i64 typ, .bool x, .int .u64 seq, .int .u64 ack, .int .u32 serv, .int .i64 code, .int .u8 i0, .int .u8 i1, .int .u8 i2] 26))
  rw [World.size_alloc] at so
  refine so.mono ?_
  rintro e w3 ⟨rfl, rfl⟩
  have b0 := (B0.out.alloc (.cells #[.int .i64 src, .int .i64 dst, .int .i64 off, .int .i64 cc, .int .i64 cs, .int .i64 sum, .int .i64 typ, .bool x, .int .u64 seq, .int .u64 ack, .int .u32 serv, .int .i64 code, .int .u8 i0, .int .u8 i1, .int .u8 i2] 26)).alloc (.cells #[.string (b.extract 0 n)] 9)
  have b4 := (Blk.new w2 #[.int .i64 src, .int .i64 dst, .int .i64 off, .int .i64 cc, .int .i64 cs, .int .i64 sum, .int .i64 typ, .bool x, .int .u64 seq, .int .u64 ack, .int .u32 serv, .int .i64 code, .int .u8 i0, .int .u8 i1, .int .u8 i2] 26).alloc (.cells #[.string (b.extract 0 n)] 9)
  have hw3 := (hw2.alloc (by omega) (.cells #[.int .i64 src, .int .i64 dst, .int .i64 off, .int .i64 cc, .int .i64 cs, .int .i64 sum, .int .i64 typ, .bool x, .int .u64 seq, .int .u64 ack, .int .u32 serv, .int .i64 code, .int .u8 i0, .int .u8 i1, .int .u8 i2] 26)).alloc (by simp; omega) (.cells #[.string (b.extract 0 n)] 9)
  have hz3 : w2.heap.size + 2 = ((w2.alloc (.cells #[.int .i64 src, .int .i64 dst, .int .i64 off, .int .i64 cc, .int .i64 cs, .int .i64 sum, .int .i64 typ, .bool x, .int .u64 seq, .int .u64 ack, .int .u32 serv, .int .i64 code, .int .u8 i0, .int .u8 i1, .int .u8 i2] 26)).alloc (.cells #[.string (b.extract 0 n)] 9)).heap.size := by simp
  generalize (w2.alloc (.cells #[.int .i64 src, .int .i64 dst, .int .i64 off, .int .i64 cc, .int .i64 cs, .int .i64 sum, .int .i64 typ, .bool x, .int .u64 seq, .int .u64 ack, .int .u32 serv, .int .i64 code, .int .u8 i0, .int .u8 i1, .int .u8 i2] 26)).alloc (.cells #[.string (b.extract 0 n)] 9) = w3 at b0 b4 hw3 hz3 ⊢
  have B0 := hide b0
  have B4 := hide b4
  have Hz3 := hide hz3
  have g6 : w3.cell? ⟨w2.heap.size, 6, none⟩ = some (.int .i64 typ) := b4.cell rfl
  have g7 : w3.cell? ⟨w2.heap.size, 7, none⟩ = some (.bool x) := b4.cell rfl
  clear b0 b4 so hz3
  go_wp2_with (first | (go_at_call 20; refine (SZ.out _).mono ?_; rintro e w' ⟨rfl, rfl⟩))
  refine (OG2.out _).mono ?_
  rintro e w4 ⟨v0, A, c, rfl, rfl, hr, hb4⟩
  have b0 := B0.out.below hb4 (by have := Hz3.out; omega)
  have b4 := B4.out.below hb4 (by have := Hz3.out; omega)
  replace hw3 := hw3.trans (hb4.mono hw3.size)
  have hB3 : w.heap.size + 1 ≤ w3.heap.size := by have := Hz3.out; omega
  have B0 := hide b0
  have B4 := hide b4
  have HR := hide hr
  have HQ := hide hR
  clear b0 b4 hb4 g6 g7 hr hR
  have k0 : w4.cell? ⟨w2.heap.size, 0, none⟩ = some (.int .i64 src) := B4.out.cell rfl
  have k1 : w4.cell? ⟨w2.heap.size, 1, none⟩ = some (.int .i64 dst) := B4.out.cell rfl
  have k2 : w4.cell? ⟨w2.heap.size, 2, none⟩ = some (.int .i64 off) := B4.out.cell rfl
  have k3 : w4.cell? ⟨w2.heap.size, 3, none⟩ = some (.int .i64 cc) := B4.out.cell rfl
  have k4 : w4.cell? ⟨w2.heap.size, 4, none⟩ = some (.int .i64 cs) := B4.out.cell rfl
  have k5 : w4.cell? ⟨w2.heap.size, 5, none⟩ = some (.int .i64 sum) := B4.out.cell rfl
  have k6 : w4.cell? ⟨w2.heap.size, 6, none⟩ = some (.int .i64 typ) := B4.out.cell rfl
  have k7 : w4.cell? ⟨w2.heap.size, 7, none⟩ = some (.bool x) := B4.out.cell rfl
  have k8 : w4.cell? ⟨w2.heap.size, 8, none⟩ = some (.int .u64 seq) := B4.out.cell rfl
  have k9 : w4.cell? ⟨w2.heap.size, 9, none⟩ = some (.int .u64 ack) := B4.out.cell rfl
  have k10 : w4.cell? ⟨w2.heap.size, 10, none⟩ = some (.int .u32 serv) := B4.out.cell rfl
  have k11 : w4.cell? ⟨w2.heap.size, 11, none⟩ = some (.int .i64 code) := B4.out.cell rfl
  have k12 : w4.cell? ⟨w2.heap.size, 12, none⟩ = some (.int .u8 i0) := B4.out.cell rfl
  have k13 : w4.cell? ⟨w2.heap.size, 13, none⟩ = some (.int .u8 i1) := B4.out.cell rfl
  have k14 : w4.cell? ⟨w2.heap.size, 14, none⟩ = some (.int .u8 i2) := B4.out.cell rfl
  have hu := Tryz.underlying26
  go_wp2_with fail
  have h04 : 0 ≤ 4 * off := by omega
  go_still_tail 6, (by kernel_rfl)
  change wpList _ _ _ _ _ w4.drew
  have hone := hide (pk17_one src dst off cc cs sum typ x seq ack serv code i0 i1 i2 A m c (b.extract (4 * off).toNat b.size))
  go_wp2_with (refine wpList_store_row rfl 54 _ _ rfl w.heap.size _ rfl rfl 54 Z39 B0.out.drew (by kernel_rfl) rfl hone.out ?_)
  refine bodyPost_ret (results_ct rfl _ _ w.heap.size 54 (pk17 src dst off cc cs sum typ x seq ack serv code i0 i1 i2 A m c (b.extract (4 * off).toNat b.size)) (0, 0) _ rfl (B0.out.drew.row) Tryz.underlying54 rfl (by kernel_rfl)) rfl ?_
  refine ⟨.slice A m c, A, c, w3.heap.size, rfl, rfl, hB3, HQ.out _ _ _ _ HR.out (by simp [World.setRow]) ?_, below_row hw3.drew (Nat.le_refl _) _⟩
  intro k hk _
  have hne : w.heap.size ≠ k := by omega
  simp [World.setRow, Array.getElem?_modify, hne]
  rfl
end Go.Proofs.YthallmapddihgaaGreatDoor
