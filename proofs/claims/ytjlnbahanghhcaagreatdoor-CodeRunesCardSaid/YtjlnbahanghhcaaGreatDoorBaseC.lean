/- The contract of head.Get; what our contracts need to be used by printed texts. Conditions: each theorem's own. -/
import Derived.Test.YtjlnbahanghhcaaGreatDoorBaseB
import Derived.Test.YtjlnbahanghhcaaGreatDoorBaseA
import Derived.Deep.RegionHeld3
import Derived.Deep.DeepCutAuto
import Derived.Deep.CutBlock
import Derived.Deep.RegionWith
import Derived.Deep.RegionLaw
import Derived.Test.YtjlnbahanghhcaaGreatDoorWWords
import Derived.Test.YtjlnbahanghhcaaGreatDoorWInvWords
import Derived.Test.YtjlnbahanghhcaaGreatDoorWMore
import Derived.Test.YtjlnbahanghhcaaGreatDoorWLast
import Derived.Deep.AppendLies
import Derived.Maps.AppendAt
import Derived.OwnWalk
import Derived.Laws.MakeOwn
import Derived.KernelRfl
import Derived.RowKit3
import Derived.Deep.LoopGhost
import Derived.Lib.LazyBuf
import Derived.StillTailTactics

/- What a head in bytes says, by the document. No walk. -/
namespace Go.Proofs.YtjlnbahanghhcaaGreatDoor
open Go.RowKit
set_option linter.unusedVariables false

def byteAt (b : ByteArray) (i : Nat) : Nat := (b.data.toList.getD i 0).toNat
def numAt (b : ByteArray) (i j : Nat) : Nat := num (b.extract i j).data.toList
def getT (b : ByteArray) : Nat := byteAt b 8 / 2 % 16
def getX (b : ByteArray) : Bool := byteAt b 8 % 2 == 1
def hd0 : Hd := ⟨0, 0, 0, 0, 0, 0, 0, false, 0, 0, 0, 0, 0, 0, 0⟩
def ackAt (x : Bool) : Nat := if x then 16 else 12
def moreAt (t : Nat) (x : Bool) : Nat := if ackB t then (if x then 24 else 16) else ackAt x
def getHd (b : ByteArray) (t : Nat) (x : Bool) : Hd :=
  ⟨numAt b 0 2, numAt b 2 4, byteAt b 4, byteAt b 5 / 16, byteAt b 5 % 16, numAt b 6 8, t, x, if x then numAt b 10 16 else numAt b 9 12,
    if ackB t then (if x then numAt b 17 24 % 281474976710656 else numAt b 13 16) else 0,
    if servB t then numAt b (moreAt t x) (moreAt t x + 4) else 0,
    if t = 7 then byteAt b (moreAt t x) else 0, if t = 7 then byteAt b (moreAt t x + 1) else 0, if t = 7 then byteAt b (moreAt t x + 2) else 0, if t = 7 then byteAt b (moreAt t x + 3) else 0⟩
def getH (b : ByteArray) : Hd × Int :=
  if b.size < 12 then (hd0, 1)
  else if isB (getT b) = false then (hd0, 2)
  else if sizeB (getT b) (getX b) = 0 then (hd0, 3)
  else if (b.size : Int) < sizeB (getT b) (getX b) then (hd0, 1)
  else if (byteAt b 4 : Int) < sizeB (getT b) (getX b) / 4 ∨ b.size < 4 * byteAt b 4 then (hd0, 4)
  else (getHd b (getT b) (getX b), 0)
theorem byteAt_lt (b : ByteArray) (i : Nat) : byteAt b i < 256 := UInt8.toNat_lt _
theorem byteAt_get (b : ByteArray) (i : Nat) (h : i < b.size) : b[i].toNat = byteAt b i := by
  unfold byteAt
  have h' : i < b.data.toList.length := by rw [Array.length_toList]; exact h
  rw [List.getD_eq_getElem?_getD, List.getElem?_eq_getElem h']; rfl
theorem numAt_lt (b : ByteArray) (i j : Nat) : numAt b i j < 256 ^ (j - i) := by
  unfold numAt
  refine Nat.lt_of_lt_of_le (num_lt _) (pow_256 _ _ ?_)
  rw [Array.length_toList]
  show (b.extract i j).size ≤ _
  rw [ByteArray.size_extract]; omega
theorem and_15 (c : Nat) (h : c < 256) : bits .and .u8 ((c : Int) / 2) 15 = ((c / 2 % 16 : Nat) : Int) := by
  have H : ∀ c : Fin 256, bits .and .u8 ((c.val : Int) / 2) 15 = ((c.val / 2 % 16 : Nat) : Int) := by decide +kernel
  exact H ⟨c, h⟩
theorem and_15' (c : Nat) (h : c < 256) : bits .and .u8 (c : Int) 15 = ((c % 16 : Nat) : Int) := by
  have H : ∀ c : Fin 256, bits .and .u8 (c.val : Int) 15 = ((c.val % 16 : Nat) : Int) := by decide +kernel
  exact H ⟨c, h⟩
theorem and_1 (c : Nat) (h : c < 256) : (bits .and .u8 (c : Int) 1 == 1) = (c % 2 == 1) := by
  have H : ∀ c : Fin 256, (bits .and .u8 (c.val : Int) 1 == 1) = (c.val % 2 == 1) := by decide +kernel
  exact H ⟨c, h⟩
end Go.Proofs.YtjlnbahanghhcaaGreatDoor

/- The contract of head.Get. -/
namespace Go.Proofs.YtjlnbahanghhcaaGreatDoor
open Go.RowKit
set_option linter.unusedVariables false
set_option linter.unusedSimpArgs false

theorem res_ct (tmps : Array Value) (w : World) (g : Nat) (cs : Array Value) (hp : tmps.getD 2 undef = .pointer (some ⟨g, 0, none⟩)) (hg : Blk w g cs 26) (hc : cs.size = 15) :
    (results Tryz.f51 tmps).run Tryz.prog w = .ok (.tuple #[.agg cs, tmps.getD 3 undef]) w := by
  have hp' : tmps[2]?.getD undef = .pointer (some ⟨g, 0, none⟩) := by simpa using hp
  have hi : (Tryz.prog.info? 26).map (·.size) = some cs.size := by rw [hc]; kernel_rfl
  have h : Tryz.f51.results = #[.cell 2 26, .tmp 3] := rfl
  simp [results, h, hp', asAddr, run_loadVar_row w g _ 26 cs (0, 0) _ hg Tryz.underlying26 rfl hi]
theorem ret_ct {R : Ending → World → Prop} {tmps : Array Value} {w : World} (g : Nat) (cs : Array Value) (hg : Blk w g cs 26) (hc : cs.size = 15) (hp : tmps.getD 2 undef = .pointer (some ⟨g, 0, none⟩)) (v : Value) (hv : tmps.getD 3 undef = v)
    (h : R (.returned (.tuple #[.agg cs, v])) w) : bodyPost Tryz.prog Tryz.f51 R Exit.ret ⟨tmps, []⟩ w :=
  bodyPost_ret (res_ct tmps w g cs hp hg hc) rfl (by rw [hv]; exact h)
abbrev Z : Array Value := #[.int .i64 0, .int .i64 0, .int .i64 0, .int .i64 0, .int .i64 0, .int .i64 0, .int .i64 0, .bool false, .int .u64 0, .int .u64 0, .int .u32 0, .int .i64 0, .int .u8 0, .int .u8 0, .int .u8 0]
theorem Blk.drewN {w : World} {g : Nat} {cs : Array Value} {t : TypeId} (h : Blk w g cs t) (n : Nat) : Blk (w.drewN n) g cs t := h
theorem Blk.row {w : World} {g : Nat} {cs cs' : Array Value} {t : TypeId} (h : Blk w g cs t) : Blk (w.setRow g cs') g cs' t := by
  unfold Blk at *
  simp [World.setRow, Array.getElem?_modify, h]
theorem Blk.rowFar {w : World} {g g' : Nat} {cs cs' : Array Value} {t : TypeId} (h : Blk w g cs t) (hg : g ≠ g') : Blk (w.setRow g' cs') g cs t := by
  unfold Blk at *
  simp [World.setRow, Array.getElem?_modify, h, Ne.symm hg]
theorem below_row {B : Nat} {w w' : World} {g : Nat} (h : Below B w w') (hg : B ≤ g) (cs : Array Value) : Below B w (w'.setRow g cs) :=
  h.trans ⟨rfl, rfl, rfl, by simp [World.setRow], fun i hi => by simp [World.setRow, Array.getElem?_modify]; intro e; omega⟩
theorem Z_one : Z.all (·.oneCell') = true := by kernel_rfl
theorem hd0_val : hd0.val = .agg Z := by unfold hd0; rw [Hd.val_mk]
theorem drewN_alloc_below (w : World) (o : Obj) (n : Nat) : Below w.heap.size w ((w.alloc o).drewN n) := ((Below.refl _ _).alloc (Nat.le_refl _) _).trans ⟨rfl, rfl, rfl, Nat.le_refl _, fun _ _ => rfl⟩

set_option maxHeartbeats 600000 in
set_option maxRecDepth 100000 in
theorem head_Get_short (b : ByteArray) (hs : b.size ≤ 9223372036854775807) (h12 : b.size < 12) (w : World) :
    Calls Tryz.prog 51 #[.string b] w fun e w' => e = .returned (.tuple #[hd0.val, .int .i64 1]) ∧ Below w.heap.size w w' := by
  go_enter Tryz.func51, Tryz.ntmps51
  go_wp2
  refine ret_ct w.heap.size Z ?_ rfl rfl (.int .i64 1) rfl ?_
  · exact Blk.new w Z _
  · rw [hd0_val]; exact ⟨rfl, (Below.refl _ _).alloc (Nat.le_refl _) _⟩
set_option maxHeartbeats 600000 in
set_option maxRecDepth 100000 in
theorem head_Get_errs (b : ByteArray) (hs : b.size ≤ 9223372036854775807) (h12 : 12 ≤ b.size) (t n : Nat) (x : Bool) (ht : getT b = t) (hx : getX b = x) (hn : sizeB t x = n) (E : Int)
    (hE : (isB t = false ∧ E = 2) ∨ (isB t = true ∧ n = 0 ∧ E = 3) ∨ (isB t = true ∧ n ≠ 0 ∧ b.size < n ∧ E = 1)) (w : World) :
    Calls Tryz.prog 51 #[.string b] w fun e w' => e = .returned (.tuple #[hd0.val, .int .i64 E]) ∧ Below w.heap.size w w' := by
  have h8i : (8 : Int) < (b.size : Int) := by omega
  have c8 := byteAt_get b 8 (by omega)
  have e1 : bits .and .u8 ((b[8].toNat : Int) / 2) 15 = (t : Int) := by rw [c8, and_15 _ (byteAt_lt _ _)]; exact congrArg _ ht
  have e2 : (bits .and .u8 (b[8].toNat : Int) 1 == 1) = x := by rw [c8, and_1 _ (byteAt_lt _ _)]; exact hx
  have ht16 : t < 16 := by rw [← ht]; unfold getT; omega
  have S := fun W => head_Size t x W
  rw [hn] at S
  have I := fun W => head_is t W
  clear c8 ht hx hn
  rcases hE with ⟨hi, rfl⟩ | ⟨hi, h0, rfl⟩ | ⟨hi, h0, h1, rfl⟩
  all_goals rw [hi] at I
  all_goals have S := hide S; have I := hide I
  · clear hi
    go_enter Tryz.func51, Tryz.ntmps51
    go_upto_region 3 with fail
    go_quiet (fail)
    go_wp2_with (first | (go_at_call 43; refine (S.out _).mono ?_; rintro e w' ⟨rfl, rfl⟩) | (go_at_call 75; refine (I.out _).mono ?_; rintro e w' ⟨rfl, rfl⟩) | (refine wpList_store_row rfl 26 _ _ rfl w.heap.size Z rfl rfl 26 Z ((Blk.new w Z _).drewN _) (by kernel_rfl) rfl Z_one ?_))
    refine ret_ct w.heap.size Z ?_ rfl rfl (.int .i64 2) rfl ?_
    · exact ((Blk.new w Z _).drewN _).row
    · rw [hd0_val]; exact ⟨rfl, below_row (drewN_alloc_below _ _ _) (Nat.le_refl _) _⟩
  · subst h0
    clear hi
    go_enter Tryz.func51, Tryz.ntmps51
    go_upto_region 3 with fail
    go_quiet (fail)
    go_wp2_with (first | (go_at_call 43; refine (S.out _).mono ?_; rintro e w' ⟨rfl, rfl⟩) | (go_at_call 75; refine (I.out _).mono ?_; rintro e w' ⟨rfl, rfl⟩) | (refine wpList_store_row rfl 26 _ _ rfl w.heap.size Z rfl rfl 26 Z ((Blk.new w Z _).drewN _) (by kernel_rfl) rfl Z_one ?_))
    refine ret_ct w.heap.size Z ?_ rfl rfl (.int .i64 3) rfl ?_
    · exact ((Blk.new w Z _).drewN _).row
    · rw [hd0_val]; exact ⟨rfl, below_row (drewN_alloc_below _ _ _) (Nat.le_refl _) _⟩
  · have h0' : ((n : Int) == 0) = false := by simpa using h0
    clear hi h0
    go_enter Tryz.func51, Tryz.ntmps51
    go_upto_region 3 with fail
    go_quiet (fail)
    go_wp2_with (first | (go_at_call 43; refine (S.out _).mono ?_; rintro e w' ⟨rfl, rfl⟩) | (go_at_call 75; refine (I.out _).mono ?_; rintro e w' ⟨rfl, rfl⟩) | (refine wpList_store_row rfl 26 _ _ rfl w.heap.size Z rfl rfl 26 Z ((Blk.new w Z _).drewN _) (by kernel_rfl) rfl Z_one ?_))
    refine ret_ct w.heap.size Z ?_ rfl rfl (.int .i64 1) rfl ?_
    · exact ((Blk.new w Z _).drewN _).row
    · rw [hd0_val]; exact ⟨rfl, below_row (drewN_alloc_below _ _ _) (Nat.le_refl _) _⟩
end Go.Proofs.YtjlnbahanghhcaaGreatDoor

/- What our contracts need to be used by texts that pr.py writes: rows that are read, as cells; numbers that are no wider than their kind. -/
namespace Go.Proofs.YtjlnbahanghhcaaGreatDoor
open Go.RowKit Go.Proofs.YtjlnbahanghhcaaGreatDoorW.PrintWords
set_option linter.unusedVariables false

def u64 (a : Int) : Bool := decide (0 ≤ a ∧ a < 18446744073709551616)
theorem u64_nat {a : Int} (h : u64 a = true) : ∃ n : Nat, a = (n : Int) ∧ n < 18446744073709551616 := by
  unfold u64 at h
  have h := of_decide_eq_true h
  exact ⟨a.toNat, by omega, by omega⟩
theorem same_drawn {w w' : World} (h : w = w') : Drawn0 w w' := h ▸ Drawn0.refl w
theorem drewN_drawn {w w' : World} (h : ∃ n, w' = w.drewN n) : Drawn0 w w' := ⟨h⟩
theorem cells_of_strings {w : World} {A : Option Addr} {l : List ByteArray} (h : Kd.C Kd.string w A l.length l) : CellsAt w w.heap.size A (l.map .string) := fun k u hu => by
  have hk : k < l.length := by
    have := (List.getElem?_eq_some_iff.1 hu).1
    simpa using this
  obtain ⟨ad, c, e, _, hK, hc⟩ := Kd.C_get h ByteArray.empty k (by omega) (by omega)
  have hl : l.getD k ByteArray.empty = l[k] := by simp [hk]
  simp only [Int.toNat_natCast] at hK hc
  rw [hl] at hK
  have hcc : c = [.string l[k]] := hK
  subst hcc
  have h0 := hc 0 _ rfl
  have e1 : u = .string l[k] := by
    rw [List.getElem?_map, List.getElem?_eq_getElem hk] at hu; exact (Option.some.inj hu).symm
  subst e1
  have h0' : w.cell? (ad.add k) = some (.string l[k]) := by
    have : k * Kd.string.sz + 0 = k := by show k * 1 + 0 = k; omega
    rw [this] at h0; exact h0
  exact ⟨ad, e, by have := block_lt_of_cell h0'; rwa [add_block] at this, h0'⟩
end Go.Proofs.YtjlnbahanghhcaaGreatDoor

/- The walk of head.Get behind its first tests, up to where data begin: the two variables in memory, what stands in the slots. -/
namespace Go.Proofs.YtjlnbahanghhcaaGreatDoor.HG
open Go.RowKit Go.Proofs.YtjlnbahanghhcaaGreatDoorW.PrintWords Go.Proofs.YtjlnbahanghhcaaGreatDoorW.PrintLast Go.Proofs.YtjlnbahanghhcaaGreatDoorW.PrintMore
set_option linter.unusedVariables false
set_option linter.unusedSimpArgs false

/-! ### head_Size: function: a contract of ours -/
def head_Size.f (a0 : Int) (a1 : Bool) : Option (Int) := some (sizeB a0 a1)
theorem head_Size.calls (a0 : Int) (a1 : Bool) (r : Int) (w : World)  (h : head_Size.f a0 a1 = some r) :
    Calls Tryz.prog 43 #[.int .i64 a0, .bool a1] w fun e w' => e = .returned (.int .i64 r) ∧ Drawn0 w w' := by
  unfold head_Size.f at h
  obtain rfl := Option.some.inj h
  exact (head_Size a0 a1 w).mono fun e w' hq => ⟨hq.1, same_drawn hq.2⟩

/-! ### head_HasAck: function: a contract of ours -/
def head_HasAck.f (a0 : Int) : Option (Bool) := some (ackB a0)
theorem head_HasAck.calls (a0 : Int) (r : Bool) (w : World)  (h : head_HasAck.f a0 = some r) :
    Calls Tryz.prog 77 #[.int .i64 a0] w fun e w' => e = .returned (.bool r) ∧ Drawn0 w w' := by
  unfold head_HasAck.f at h
  obtain rfl := Option.some.inj h
  exact (head_HasAck a0 w).mono fun e w' hq => ⟨hq.1, same_drawn hq.2⟩

/-! ### seq_Of: function -/
def seq_Of.f (a0 : Int) : Option (Int) := some (Go.bits .and .u64 a0 281474976710655)
set_option maxHeartbeats 8000000 in
set_option maxRecDepth 100000 in
theorem seq_Of.calls (a0 : Int) (r : Int) (w : World) (h : seq_Of.f a0 = some r) :
    Calls Tryz.prog 74 #[.int .u64 a0] w fun e w' => e = .returned (.int .u64 r) ∧ Drawn0 w w' := by
  have H : (some (Go.bits .and .u64 a0 281474976710655)) = some r := h
  clear h
  obtain rfl := Option.some.inj H
  go_enter Tryz.func74, Tryz.ntmps74
  go_wp2
  go_ret
  exact ⟨by first | rfl | (simp; done) | (simp [*]; done), by repeat (first | exact Drawn0.refl _ | apply Drawn0.step)⟩

/-! ### head_is: function: a contract of ours -/
def head_is.f (a0 : Int) : Option (Bool) := some (isB a0)
theorem head_is.calls (a0 : Int) (r : Bool) (w : World)  (h : head_is.f a0 = some r) :
    Calls Tryz.prog 75 #[.int .i64 a0] w fun e w' => e = .returned (.bool r) ∧ Drawn0 w w' := by
  unfold head_is.f at h
  obtain rfl := Option.some.inj h
  exact (head_is a0 w).mono fun e w' hq => ⟨hq.1, same_drawn hq.2⟩

/-! ### head_service: function: a contract of ours -/
def head_service.f (a0 : Int) : Option (Bool) := some (servB a0)
theorem head_service.calls (a0 : Int) (r : Bool) (w : World)  (h : head_service.f a0 = some r) :
    Calls Tryz.prog 78 #[.int .i64 a0] w fun e w' => e = .returned (.bool r) ∧ Drawn0 w w' := by
  unfold head_service.f at h
  obtain rfl := Option.some.inj h
  exact (head_service a0 w).mono fun e w' hq => ⟨hq.1, same_drawn hq.2⟩

/-! ### head_number: function: a contract of ours -/
def head_number.f (a0 : ByteArray) : Option (Int) := if a0.size ≤ 8 then some (num a0.data.toList : Nat) else none
theorem head_number.calls (a0 : ByteArray) (r : Int) (w : World)  (h : head_number.f a0 = some r) :
    Calls Tryz.prog 83 #[.string a0] w fun e w' => e = .returned (.int .u64 r) ∧ Drawn0 w w' := by
  unfold head_number.f at h
  split at h
  · rename_i hc
    obtain rfl := Option.some.inj h
    exact (head_number a0 hc w).mono fun e w' hq => ⟨hq.1, same_drawn hq.2⟩
  · cases h

def head_Get.T3 : Bool × List (List Nat × List Nat) := (true, [([], []), ([0], [0]), ([1], [1]), ([2], [2]), ([3], [3]), ([], []), ([5], [5]), ([6], [6]), ([7], [7]), ([4, 0, 1, 2, 3, 4], [4]), ([8, 9, 0, 1, 2, 3, 4, 5, 6, 7, 8, 9], [8])])
def head_Get.B3 : List Nat := [0, 1, 3, 7, 15, 0, 32, 96, 224, 31, 1023]
theorem head_Get.tab3 : rtab .any (opsOf Tryz.f51 3) = head_Get.T3 := by kernel_rfl
theorem head_Get.bits3 : waitsOk head_Get.T3.2 head_Get.B3 = true := by kernel_rfl
def head_Get.T11 : Bool × List (List Nat × List Nat) := (true, [([], []), ([0], [0]), ([1], [1]), ([2], [2]), ([], []), ([4], [4]), ([5, 2], [5]), ([6], [6]), ([], []), ([8], [8]), ([9], [9]), ([], []), ([11], [11]), ([12], [12]), ([13], [13]), ([], []), ([15], [15]), ([16], [16]), ([17], [17]), ([], []), ([19], [19]), ([20, 6], [20]), ([21], [21]), ([], []), ([], []), ([3, 7, 10, 14, 18, 22, 23, 24], [3, 7, 10, 14, 18, 22, 23, 24]), ([], []), ([26, 25, 21, 0, 1, 2, 3, 4, 5, 6, 7, 8, 9, 10, 11, 12, 13, 14, 15, 16, 17, 18, 19, 20, 21, 22, 23, 24, 25, 26], [25, 26])])
def head_Get.B11 : List Nat := [0, 1, 3, 7, 0, 16, 55, 119, 0, 256, 768, 0, 2048, 6144, 14336, 0, 32768, 98304, 229376, 0, 524288, 1572983, 3670135, 0, 0, 33554431, 0, 134217727]
theorem head_Get.tab11 : rtab .any (opsOf Tryz.f51 11) = head_Get.T11 := by kernel_rfl
theorem head_Get.bits11 : waitsOk head_Get.T11.2 head_Get.B11 = true := by kernel_rfl
theorem bt_byte (b : ByteArray) (i : Nat) (h : i < b.size) : bt b i = ((byteAt b i : Nat) : Int) := by rw [← byteAt_get b i h]; exact (bt_at b i (by simpa using h)).symm
theorem wrap64_eq' (a : Int) : wrap64 a = (a + 9223372036854775808) % 18446744073709551616 - 9223372036854775808 := by unfold wrap64; omega
theorem sizes_dec : ∀ (t : Fin 10) (x : Bool), sizeB (t.val : Int) x ≠ 0 → (moreAt t.val x : Int) ≤ sizeB (t.val : Int) x ∧ sizeB (t.val : Int) x ≤ 28 ∧ moreAt t.val x ≤ 24 ∧ 12 ≤ moreAt t.val x ∧ ackAt x ≤ moreAt t.val x ∧ (servB (t.val : Int) = true ∨ t.val = 7 → (moreAt t.val x : Int) + 4 ≤ sizeB (t.val : Int) x) := by decide +kernel
theorem isB_le {t : Nat} (h : isB t = true) : t ≤ 9 := by unfold isB at h; have := of_decide_eq_true h; omega
theorem sizes (t n : Nat) (x : Bool) (hn : sizeB t x = n) (hi : isB t = true) (h0 : n ≠ 0) : moreAt t x ≤ n ∧ n ≤ 28 ∧ moreAt t x ≤ 24 ∧ 12 ≤ moreAt t x ∧ ackAt x ≤ moreAt t x := by
  have h9 := isB_le hi
  have h := sizes_dec ⟨t, by omega⟩ x (by simp only [hn]; omega)
  simp only [hn] at h
  omega
theorem sizes2 (t n : Nat) (x : Bool) (hn : sizeB t x = n) (hi : isB t = true) (h0 : n ≠ 0) : servB t = true ∨ t = 7 → moreAt t x + 4 ≤ n := by
  have h9 := isB_le hi
  have h := sizes_dec ⟨t, by omega⟩ x (by simp only [hn]; omega)
  simp only [hn] at h
  intro hs
  have := h.2.2.2.2.2 hs
  omega
theorem nums_at (b : ByteArray) (i j : Nat) (h : j ≤ i + 8) : Aside0 (∀ W, Calls Tryz.prog 83 #[.string (b.extract i j)] W fun e w' => e = .returned (.int .u64 (numAt b i j : Nat)) ∧ W = w') :=
  ⟨fun W => head_number (b.extract i j) (by rw [ByteArray.size_extract]; omega) W⟩
theorem cell_facts {w : World} {g : Nat} {t : TypeId} {src dst off cc cs sum typ : Nat} {x : Bool} {seq ack serv code i0 i1 i2 : Nat} (h : Blk w g (hcells src dst off cc cs sum typ x seq ack serv code i0 i1 i2) t) :
    w.cell? ⟨g, 8, none⟩ = some (.int .u64 seq) ∧ w.cell? ⟨g, 9, none⟩ = some (.int .u64 ack) ∧ w.cell? ⟨g, 10, none⟩ = some (.int .u32 serv) ∧ w.cell? ⟨g, 11, none⟩ = some (.int .i64 code) ∧ w.cell? ⟨g, 12, none⟩ = some (.int .u8 i0) ∧ w.cell? ⟨g, 13, none⟩ = some (.int .u8 i1) ∧ w.cell? ⟨g, 14, none⟩ = some (.int .u8 i2) :=
  ⟨h.cell rfl, h.cell rfl, h.cell rfl, h.cell rfl, h.cell rfl, h.cell rfl, h.cell rfl⟩
theorem seq_mod (v : Nat) (h : v < 72057594037927936) : Aside0 (∀ W, Calls Tryz.prog 74 #[.int .u64 v] W fun e w' => e = .returned (.int .u64 (v % 281474976710656 : Nat)) ∧ W = w') :=
  ⟨fun W => seq_Of v (by omega) (by omega) W⟩
theorem seq_at (v : Nat) (h : v < 281474976710656) : Aside0 (∀ W, Calls Tryz.prog 74 #[.int .u64 v] W fun e w' => e = .returned (.int .u64 v) ∧ W = w') :=
  ⟨fun W => by
    have h2 := seq_Of v (by omega) (by omega) W
    rw [Int.emod_eq_of_lt (by omega) (by omega)] at h2
    exact h2⟩
theorem hd_eq (a0 : ByteArray) (t : Nat) (x : Bool) (m sq ak sv : Nat) (h1 : (if x = true then numAt a0 10 16 else numAt a0 9 12) = sq) (h2 : (if ackB (t : Int) = true then (if x = true then numAt a0 17 24 % 281474976710656 else numAt a0 13 16) else 0) = ak)
    (h3 : (if servB (t : Int) = true then numAt a0 (moreAt t x) (moreAt t x + 4) else 0) = sv) :
    (¬ t = 7 → (getHd a0 t x).val = .agg (hcells (numAt a0 0 2) (numAt a0 2 4) (byteAt a0 4) (byteAt a0 5 / 16) (byteAt a0 5 % 16) (numAt a0 6 8) t x sq ak sv 0 0 0 0)) ∧
    (t = 7 → (getHd a0 t x).val = .agg (hcells (numAt a0 0 2) (numAt a0 2 4) (byteAt a0 4) (byteAt a0 5 / 16) (byteAt a0 5 % 16) (numAt a0 6 8) t x sq ak sv (byteAt a0 (moreAt t x)) (byteAt a0 (moreAt t x + 1)) (byteAt a0 (moreAt t x + 2)) (byteAt a0 (moreAt t x + 3)))) := by
  subst h1 h2 h3
  refine ⟨fun h => ?_, fun h => ?_⟩
  · unfold getHd; rw [Hd.val_mk]; simp only [if_neg h]
    cases x <;> cases ackB (t : Int) <;> cases servB (t : Int) <;> rfl
  · unfold getHd; rw [Hd.val_mk]; simp only [if_pos h]
    cases x <;> cases ackB (t : Int) <;> cases servB (t : Int) <;> rfl
theorem hcells_one (src dst off cc cs sum typ : Nat) (x : Bool) (seq ack serv code i0 i1 i2 : Nat) : (hcells src dst off cc cs sum typ x seq ack serv code i0 i1 i2).all (·.oneCell') = true := by kernel_rfl
theorem z_u8 : ∀ w, (Go.sizeOf 5).run Tryz.prog w = .ok 1 w := fun w => by kernel_rfl
theorem ext3 (b : ByteArray) (m : Nat) (h : m + 4 ≤ b.size) : Aside0 (((b.extract (m + 1) (m + 4)).data.toList.map fun x => Value.int .u8 (x.toNat : Int)) = [.int .u8 (byteAt b (m + 1) : Nat), .int .u8 (byteAt b (m + 2) : Nat), .int .u8 (byteAt b (m + 3) : Nat)]) := ⟨by
  have e : (b.extract (m + 1) (m + 4)).data.toList = (b.data.toList.drop (m + 1)).take 3 := by
    rw [ByteArray.data_extract, Array.toList_extract, List.extract_eq_take_drop]; congr 1
    omega
  have hl : b.data.toList.length = b.size := by rw [Array.length_toList]; rfl
  rw [e]
  apply List.ext_getElem?
  intro i
  rw [List.getElem?_map, List.getElem?_take]
  match i with
  | 0 => simp [byteAt, List.getD_eq_getElem?_getD, List.getElem?_eq_getElem (show m + 1 < b.data.toList.length by omega)]
  | 1 => simp [byteAt, List.getD_eq_getElem?_getD, Nat.add_assoc, List.getElem?_eq_getElem (show m + 2 < b.data.toList.length by omega)]
  | 2 => simp [byteAt, List.getD_eq_getElem?_getD, Nat.add_assoc, List.getElem?_eq_getElem (show m + 3 < b.data.toList.length by omega)]
  | i + 3 => simp; omega⟩
theorem have_cell {w : World} {g : Nat} {t : TypeId} {src dst off cc cs sum typ : Nat} {x : Bool} {seq ack serv code i0 i1 i2 : Nat} (h : Blk w g (hcells src dst off cc cs sum typ x seq ack serv code i0 i1 i2) t) {j : Nat} (hj : j < 3) : (w.cell? ⟨g, 12 + j, none⟩).isSome = true := by
  match j, hj with
  | 0, _ => rw [h.cell (i := 12) rfl]; rfl
  | 1, _ => rw [h.cell (i := 13) rfl]; rfl
  | 2, _ => rw [h.cell (i := 14) rfl]; rfl
theorem copy_str {w w' : World} {ops : Array Oper} {rest : List Oper} {o : Oper} {a : Act} {Q : Exit → Act → World → Prop} (hgd : o.guard = none) (d s : Operand) (ho : o.op = .call { callee := .builtin .copy, args := #[d, s], argTypes := #[35, 9] })
    (dv sv : Value) (hd : a.eval d = dv) (hs : a.eval s = sv) (v : Value) (ty : TypeId) (hrun : (Builtin.copy_ #[35, 9] ty #[dv, sv]).run Tryz.prog w = .ok v w') (hty : o.type = ty := by rfl) (h : wpList Tryz.prog ops Q rest (a.put o.dst v) w') : wpList Tryz.prog ops Q (o :: rest) a w := by
  refine wpList_plain hgd fun K hK => ?_
  unfold Oper.wp execOp
  simp only [ho, resolve, invoke, builtin, Sem.run_bind, Sem.run_pure, Result.andThen_ok, List.map_toArray, List.map_cons, List.map_nil, hs, hd, hty, hrun]
  exact hK _ _ h
theorem reset_all {w W : World} {B g g1 : Nat} {src dst off cc cs sum typ : Nat} {x : Bool} {seq ack serv code : Nat} (X7 : Blk W g (hcells src dst off cc cs sum typ x seq ack serv code 0 0 0) 26) (X1 : Blk W g1 Z 26) (XB : Below B w W) (hne : g1 ≠ g) (hB : B ≤ g)
    (s : ByteArray) (b1 b2 b3 : Nat) (hs : s.size = 3) (hl : (s.data.toList.map fun x => Value.int .u8 (x.toNat : Int)) = [.int .u8 b1, .int .u8 b2, .int .u8 b3]) :
    ∃ w9, (Builtin.copy_ #[35, 9] 3 #[.slice (some ⟨g, 12, none⟩) 3 3, .string s]).run Tryz.prog W.drew = .ok (goInt 3) w9 ∧ Blk w9 g (hcells src dst off cc cs sum typ x seq ack serv code b1 b2 b3) 26 ∧ Blk w9 g1 Z 26 ∧ Below B w w9 := by
  have h := Go.run_copy_string (P := Tryz.prog) W.drew 35 9 3 5 g 12 3 3 s Tryz.underlying35 z_u8 (by omega) (fun j hj => have_cell X7.drew (by omega)) (fun j hj => X7.drew.frozen _)
  rw [hl, hs] at h
  refine ⟨_, h, ?_, ?_, ?_⟩
  · exact ((X7.drew.set 12 (.int .u8 b1) (cs' := hcells src dst off cc cs sum typ x seq ack serv code b1 0 0) rfl).set 13 (.int .u8 b2) (cs' := hcells src dst off cc cs sum typ x seq ack serv code b1 b2 0) rfl).set 14 (.int .u8 b3) rfl
  · exact ((X1.drew.far (p := ⟨g, 12, none⟩) hne _).far (p := ⟨g, 13, none⟩) hne _).far (p := ⟨g, 14, none⟩) hne _
  · exact ((XB.drew.setCell (p := ⟨g, 12, none⟩) hB _).setCell (p := ⟨g, 13, none⟩) hB _).setCell (p := ⟨g, 14, none⟩) hB _
theorem far15 {w : World} {g g' : Nat} {cs : Array Value} {t : TypeId} (h : Blk w g cs t) (hg : g ≠ g') (u0 u1 u2 u3 u4 u5 u6 u7 u8 u9 u10 u11 u12 u13 u14 : Value) : Blk (((((((((((((((w.setCell ⟨g', 0, none⟩ u0).setCell ⟨g', 1, none⟩ u1).setCell ⟨g', 2, none⟩ u2).setCell ⟨g', 3, none⟩ u3).setCell ⟨g', 4, none⟩ u4).setCell ⟨g', 5, none⟩ u5).setCell ⟨g', 6, none⟩ u6).setCell ⟨g', 7, none⟩ u7).setCell ⟨g', 8, none⟩ u8).setCell ⟨g', 9, none⟩ u9).setCell ⟨g', 10, none⟩ u10).setCell ⟨g', 11, none⟩ u11).setCell ⟨g', 12, none⟩ u12).setCell ⟨g', 13, none⟩ u13).setCell ⟨g', 14, none⟩ u14) g cs t :=
  (Blk.far (Blk.far (Blk.far (Blk.far (Blk.far (Blk.far (Blk.far (Blk.far (Blk.far (Blk.far (Blk.far (Blk.far (Blk.far (Blk.far (Blk.far h (p := ⟨g', 0, none⟩) hg u0) (p := ⟨g', 1, none⟩) hg u1) (p := ⟨g', 2, none⟩) hg u2) (p := ⟨g', 3, none⟩) hg u3) (p := ⟨g', 4, none⟩) hg u4) (p := ⟨g', 5, none⟩) hg u5) (p := ⟨g', 6, none⟩) hg u6) (p := ⟨g', 7, none⟩) hg u7) (p := ⟨g', 8, none⟩) hg u8) (p := ⟨g', 9, none⟩) hg u9) (p := ⟨g', 10, none⟩) hg u10) (p := ⟨g', 11, none⟩) hg u11) (p := ⟨g', 12, none⟩) hg u12) (p := ⟨g', 13, none⟩) hg u13) (p := ⟨g', 14, none⟩) hg u14)
theorem below15 {B : Nat} {w0 w : World} {g' : Nat} (h : Below B w0 w) (hg : B ≤ g') (u0 u1 u2 u3 u4 u5 u6 u7 u8 u9 u10 u11 u12 u13 u14 : Value) : Below B w0 (((((((((((((((w.setCell ⟨g', 0, none⟩ u0).setCell ⟨g', 1, none⟩ u1).setCell ⟨g', 2, none⟩ u2).setCell ⟨g', 3, none⟩ u3).setCell ⟨g', 4, none⟩ u4).setCell ⟨g', 5, none⟩ u5).setCell ⟨g', 6, none⟩ u6).setCell ⟨g', 7, none⟩ u7).setCell ⟨g', 8, none⟩ u8).setCell ⟨g', 9, none⟩ u9).setCell ⟨g', 10, none⟩ u10).setCell ⟨g', 11, none⟩ u11).setCell ⟨g', 12, none⟩ u12).setCell ⟨g', 13, none⟩ u13).setCell ⟨g', 14, none⟩ u14) :=
  (Below.setCell (Below.setCell (Below.setCell (Below.setCell (Below.setCell (Below.setCell (Below.setCell (Below.setCell (Below.setCell (Below.setCell (Below.setCell (Below.setCell (Below.setCell (Below.setCell (Below.setCell h (p := ⟨g', 0, none⟩) hg u0) (p := ⟨g', 1, none⟩) hg u1) (p := ⟨g', 2, none⟩) hg u2) (p := ⟨g', 3, none⟩) hg u3) (p := ⟨g', 4, none⟩) hg u4) (p := ⟨g', 5, none⟩) hg u5) (p := ⟨g', 6, none⟩) hg u6) (p := ⟨g', 7, none⟩) hg u7) (p := ⟨g', 8, none⟩) hg u8) (p := ⟨g', 9, none⟩) hg u9) (p := ⟨g', 10, none⟩) hg u10) (p := ⟨g', 11, none⟩) hg u11) (p := ⟨g', 12, none⟩) hg u12) (p := ⟨g', 13, none⟩) hg u13) (p := ⟨g', 14, none⟩) hg u14)
theorem fill {w : World} {g : Nat} {t : TypeId} (h : Blk w g Z t) (u0 u1 u2 u3 u4 u5 u6 u7 u8 u9 u10 u11 u12 u13 u14 : Value) :
    Blk (((((((((((((((w.setCell ⟨g, 0, none⟩ u0).setCell ⟨g, 1, none⟩ u1).setCell ⟨g, 2, none⟩ u2).setCell ⟨g, 3, none⟩ u3).setCell ⟨g, 4, none⟩ u4).setCell ⟨g, 5, none⟩ u5).setCell ⟨g, 6, none⟩ u6).setCell ⟨g, 7, none⟩ u7).setCell ⟨g, 8, none⟩ u8).setCell ⟨g, 9, none⟩ u9).setCell ⟨g, 10, none⟩ u10).setCell ⟨g, 11, none⟩ u11).setCell ⟨g, 12, none⟩ u12).setCell ⟨g, 13, none⟩ u13).setCell ⟨g, 14, none⟩ u14) g #[u0, u1, u2, u3, u4, u5, u6, u7, u8, u9, u10, u11, u12, u13, u14] t :=
  (Blk.set (Blk.set (Blk.set (Blk.set (Blk.set (Blk.set (Blk.set (Blk.set (Blk.set (Blk.set (Blk.set (Blk.set (Blk.set (Blk.set (Blk.set h 0 u0 (cs' := #[u0, Value.int .i64 0, Value.int .i64 0, Value.int .i64 0, Value.int .i64 0, Value.int .i64 0, Value.int .i64 0, Value.bool false, Value.int .u64 0, Value.int .u64 0, Value.int .u32 0, Value.int .i64 0, Value.int .u8 0, Value.int .u8 0, Value.int .u8 0]) rfl) 1 u1 (cs' := #[u0, u1, Value.int .i64 0, Value.int .i64 0, Value.int .i64 0, Value.int .i64 0, Value.int .i64 0, Value.bool false, Value.int .u64 0, Value.int .u64 0, Value.int .u32 0, Value.int .i64 0, Value.int .u8 0, Value.int .u8 0, Value.int .u8 0]) rfl) 2 u2 (cs' := #[u0, u1, u2, Value.int .i64 0, Value.int .i64 0, Value.int .i64 0, Value.int .i64 0, Value.bool false, Value.int .u64 0, Value.int .u64 0, Value.int .u32 0, Value.int .i64 0, Value.int .u8 0, Value.int .u8 0, Value.int .u8 0]) rfl) 3 u3 (cs' := #[u0, u1, u2, u3, Value.int .i64 0, Value.int .i64 0, Value.int .i64 0, Value.bool false, Value.int .u64 0, Value.int .u64 0, Value.int .u32 0, Value.int .i64 0, Value.int .u8 0, Value.int .u8 0, Value.int .u8 0]) rfl) 4 u4 (cs' := #[u0, u1, u2, u3, u4, Value.int .i64 0, Value.int .i64 0, Value.bool false, Value.int .u64 0, Value.int .u64 0, Value.int .u32 0, Value.int .i64 0, Value.int .u8 0, Value.int .u8 0, Value.int .u8 0]) rfl) 5 u5 (cs' := #[u0, u1, u2, u3, u4, u5, Value.int .i64 0, Value.bool false, Value.int .u64 0, Value.int .u64 0, Value.int .u32 0, Value.int .i64 0, Value.int .u8 0, Value.int .u8 0, Value.int .u8 0]) rfl) 6 u6 (cs' := #[u0, u1, u2, u3, u4, u5, u6, Value.bool false, Value.int .u64 0, Value.int .u64 0, Value.int .u32 0, Value.int .i64 0, Value.int .u8 0, Value.int .u8 0, Value.int .u8 0]) rfl) 7 u7 (cs' := #[u0, u1, u2, u3, u4, u5, u6, u7, Value.int .u64 0, Value.int .u64 0, Value.int .u32 0, Value.int .i64 0, Value.int .u8 0, Value.int .u8 0, Value.int .u8 0]) rfl) 8 u8 (cs' := #[u0, u1, u2, u3, u4, u5, u6, u7, u8, Value.int .u64 0, Value.int .u32 0, Value.int .i64 0, Value.int .u8 0, Value.int .u8 0, Value.int .u8 0]) rfl) 9 u9 (cs' := #[u0, u1, u2, u3, u4, u5, u6, u7, u8, u9, Value.int .u32 0, Value.int .i64 0, Value.int .u8 0, Value.int .u8 0, Value.int .u8 0]) rfl) 10 u10 (cs' := #[u0, u1, u2, u3, u4, u5, u6, u7, u8, u9, u10, Value.int .i64 0, Value.int .u8 0, Value.int .u8 0, Value.int .u8 0]) rfl) 11 u11 (cs' := #[u0, u1, u2, u3, u4, u5, u6, u7, u8, u9, u10, u11, Value.int .u8 0, Value.int .u8 0, Value.int .u8 0]) rfl) 12 u12 (cs' := #[u0, u1, u2, u3, u4, u5, u6, u7, u8, u9, u10, u11, u12, Value.int .u8 0, Value.int .u8 0]) rfl) 13 u13 (cs' := #[u0, u1, u2, u3, u4, u5, u6, u7, u8, u9, u10, u11, u12, u13, Value.int .u8 0]) rfl) 14 u14 (cs' := #[u0, u1, u2, u3, u4, u5, u6, u7, u8, u9, u10, u11, u12, u13, u14]) rfl)
set_option maxHeartbeats 3000000 in
set_option maxRecDepth 100000 in
theorem main (a0 : ByteArray) (hs : a0.size ≤ 9223372036854775807) (h12 : 12 ≤ a0.size) (t n : Nat) (x : Bool) (ht : getT a0 = t) (hx : getX a0 = x) (hn : sizeB t x = n) (hi : isB t = true) (h0 : n ≠ 0) (h1 : ¬ a0.size < n) (bad : Bool) (hbad : (decide (bt a0 4 < (n : Int) / 4) || decide ((a0.size : Int) < 4 * bt a0 4)) = bad) (w : World) :
    Calls Tryz.prog 51 #[.string a0] w fun e w' => e = .returned (.tuple #[(bif bad then hd0 else getHd a0 t x).val, .int .i64 (bif bad then 4 else 0)]) ∧ Below w.heap.size w w' := by
  have M1 : moreAt t x ≤ n ∧ n ≤ 28 ∧ moreAt t x ≤ 24 ∧ 12 ≤ moreAt t x ∧ ackAt x ≤ moreAt t x := sizes t n x hn hi h0
  have M2 := Aside0.mk (sizes2 t n x hn hi h0)
  have HB0 := Aside0.mk hbad
  clear hbad
  have hu := Tryz.underlying26
  have HB := Aside0.mk (Below.refl w.heap.size w)
  have b8 : bt a0 8 = (byteAt a0 8 : Nat) := by rw [← byteAt_get a0 8 (by omega)]; exact (bt_at a0 8 (by show 8 < a0.size; omega)).symm
  have T8 : wrap64 (Go.bits .and .u8 ((bt a0 8) / 2) 15) = (t : Int) := by
    rw [b8, and_15 _ (byteAt_lt _ _), ← ht]; unfold getT wrap64; omega
  have X8 : ((Go.bits .and .u8 (bt a0 8) 1) == 1) = x := by rw [b8, and_1 _ (byteAt_lt _ _), ← hx]; rfl
  obtain ⟨t102, ht102⟩ : ∃ z : Int, z = (n : Int) := ⟨_, rfl⟩
  have A8 : Aside0 (head_Size.f (wrap64 (Go.bits .and .u8 ((bt a0 8) / 2) 15)) ((Go.bits .and .u8 (bt a0 8) 1) == 1) = some t102) := ⟨by rw [T8, X8, ht102, ← hn]; rfl⟩
  have A9 : Aside0 (head_is.f (wrap64 (Go.bits .and .u8 ((bt a0 8) / 2) 15)) = some true) := ⟨by rw [T8]; unfold head_is.f; rw [hi]⟩
  have TX := Aside0.mk (And.intro T8 X8)
  obtain ⟨t104, ht104⟩ : ∃ z : Int, z = (numAt a0 0 2 : Nat) := ⟨_, rfl⟩
  obtain ⟨t105, ht105⟩ : ∃ z : Int, z = (numAt a0 2 4 : Nat) := ⟨_, rfl⟩
  obtain ⟨t106, ht106⟩ : ∃ z : Int, z = (numAt a0 6 8 : Nat) := ⟨_, rfl⟩
  have nf : ∀ i j, j ≤ i + 8 → head_number.f (a0.extract i j) = some ((numAt a0 i j : Nat) : Int) := fun i j h => by unfold head_number.f; rw [if_pos (by rw [ByteArray.size_extract]; omega)]; rfl
  have A21 : Aside0 (head_number.f (a0.extract 0 2) = some t104) := ⟨by rw [ht104]; exact nf 0 2 (by omega)⟩
  have A24 : Aside0 (head_number.f (a0.extract 2 4) = some t105) := ⟨by rw [ht105]; exact nf 2 4 (by omega)⟩
  have A32 : Aside0 (head_number.f (a0.extract 6 8) = some t106) := ⟨by rw [ht106]; exact nf 6 8 (by omega)⟩
  have c2b0 : decide ((a0.size : Int) < 12) = false := decide_eq_false (by omega)
  have c2b1 : decide (a0.size < 12) = false := decide_eq_false (by omega)
  have c5b0 : decide (8 < (a0.size : Int)) = true := decide_eq_true (by omega)
  have c5b1 : decide (8 < a0.size) = true := decide_eq_true (by omega)
  have c11b0 : (t102 == 0) = false := beq_eq_false_iff_ne.mpr (by omega)
  have c11b1 : (t102 != 0) = true := bne_iff_ne.mpr (by omega)
  have c15b0 : decide ((a0.size : Int) < t102) = false := decide_eq_false (by omega)
  have c19b0 := eq_true (show 0 ≤ 2 by omega)
  have c19b1 : decide (0 ≤ 2) = true := decide_eq_true (by omega)
  have c20b0 := eq_true (show 2 ≤ (a0.size : Int) by omega)
  have c20b1 : decide (2 ≤ (a0.size : Int)) = true := decide_eq_true (by omega)
  have c22b0 := eq_true (show 2 ≤ 4 by omega)
  have c22b1 : decide (2 ≤ 4) = true := decide_eq_true (by omega)
  have c23b0 := eq_true (show 4 ≤ (a0.size : Int) by omega)
  have c23b1 : decide (4 ≤ (a0.size : Int)) = true := decide_eq_true (by omega)
  have c25b0 : decide (4 < (a0.size : Int)) = true := decide_eq_true (by omega)
  have c25b1 : decide (4 < a0.size) = true := decide_eq_true (by omega)
  have c27b0 : decide (5 < (a0.size : Int)) = true := decide_eq_true (by omega)
  have c27b1 : decide (5 < a0.size) = true := decide_eq_true (by omega)
  have c30b0 := eq_true (show 6 ≤ 8 by omega)
  have c30b1 : decide (6 ≤ 8) = true := decide_eq_true (by omega)
  have c31b0 := eq_true (show 8 ≤ (a0.size : Int) by omega)
  have c31b1 : decide (8 ≤ (a0.size : Int)) = true := decide_eq_true (by omega)
  have V := Aside0.mk (And.intro ht104 (And.intro ht105 ht106))
  have HN := Aside0.mk ht102
  have H := trivial
  clear T8 X8 ht hx hi b8 ht104 ht105 ht106 ht102 nf hn
  go_enter Tryz.func51, Tryz.ntmps51
  try go_wp2_with (first | ((with_reducible refine gate_dst (N := 2) rfl ?_); refine box_event ?hg (N := 2) ?hd (cs := #[.int .i64 0, .int .i64 0, .int .i64 0, .int .i64 0, .int .i64 0, .int .i64 0, .int .i64 0, .bool false, .int .u64 0, .int .u64 0, .int .u32 0, .int .i64 0, .int .u8 0, .int .u8 0, .int .u8 0]) (t := 26) ?hr ?_; (case hd => rfl); (case hg => rfl); (case hr => first | (go_simp; done) | (go_simp; rfl)); intro gb101 hg w33 hbox hb; have n0_ := Aside0.mk (below_step (by repeat (first | (with_reducible first | exact HB.out | apply below_alloc | apply pw_below_drewN | apply below_drew1) | exact HB.out)) hb); have n1_ := Aside0.mk (hbox); have n2_ := Aside0.mk ((by rw [hg]; exact (below_size (by repeat (first | (with_reducible first | exact HB.out | apply below_alloc | apply pw_below_drewN | apply below_drew1) | exact HB.out))) : w.heap.size ≤ gb101)); have n3_ := Aside0.mk ((by rw [hg]; exact (below_size (by repeat (first | (with_reducible first | exact HB.out | apply below_alloc | apply pw_below_drewN | apply below_drew1) | exact HB.out))) : w.heap.size ≤ gb101)); clear HB; have HB := n0_; have BK101 := n1_; have GW101 := n2_; have GE101 := n3_; clear n0_ n1_ n2_ n3_; clear hb hbox hg))
  have n0_ := Aside0.mk (blk_drew BK101.out)
  have n1_ := Aside0.mk (below_drew1 HB.out)
  clear BK101
  clear HB
  have BK101 := n0_
  have HB := n1_
  clear n0_ n1_
  have p6 : 0 ≤ (8 : Int) := (by omega)
  have q6 : 8 < a0.size := (by have : (8 : Int) < (a0.size : Int) := of_decide_eq_true (by first | (with_reducible assumption) | assumption); omega)
  have hx6 : ∀ h : 8 < a0.size, ((a0[8]'h).toNat : Int) = bt a0 8 := bt_at a0 8
  clear p6
  have qi6 : (8 < (a0.size : Int)) = True := eq_true (of_decide_eq_true (by first | (with_reducible assumption) | assumption))
  replace q6 := eq_true q6
  have p7 : 0 ≤ (8 : Int) := (by omega)
  have q7 : 8 < a0.size := (by have : (8 : Int) < (a0.size : Int) := of_decide_eq_true (by first | (with_reducible assumption) | assumption); omega)
  have hx7 : ∀ h : 8 < a0.size, ((a0[8]'h).toNat : Int) = bt a0 8 := bt_at a0 8
  clear p7
  have qi7 : (8 < (a0.size : Int)) = True := eq_true (of_decide_eq_true (by first | (with_reducible assumption) | assumption))
  replace q7 := eq_true q7
  refine start_ (n := 11) (S := fun w' => True) (ds := []) #[false, false, false, false, false, false, false, false, false, false, false] (by kernel_rfl) rfl rfl trivial (fun hHeld => ?_); refine with_tabW head_Get.tab3 head_Get.bits3 (fun HT_ HW_ => ?_)
  generalize w33.drew = w34 at BK101 HB hHeld ⊢
  refine pure_ (i := 0) (N := some 14) (v := ?_) (a' := ?_) #[true, false, false, false, false, false, false, false, false, false, false] rfl rfl (any_of HT_.out (by kernel_rfl)) (fun _ _ _ h => h) (Or.inl ⟨by rfl, ?_⟩) ?_ ?_
  rotate_left
  · intro w'
    go_simp
    with_reducible rfl
  rotate_left
  · simp only [Act.put, List.setIfInBounds_toArray, List.set_cons_zero, List.set_cons_succ, i64_w, i32_w]
    rfl
  refine pure_ (i := 5) (N := some 19) (v := ?_) (a' := ?_) #[true, false, false, false, false, true, false, false, false, false, false] rfl rfl (any_of HT_.out (by kernel_rfl)) (fun _ _ _ h => h) (Or.inl ⟨by rfl, ?_⟩) ?_ ?_
  rotate_left
  · intro w'
    go_simp
    with_reducible rfl
  rotate_left
  · simp only [Act.put, List.setIfInBounds_toArray, List.set_cons_zero, List.set_cons_succ, i64_w, i32_w]
    rfl
  refine take_ (i := 1) (N := some 15) (v := ?_) (a' := ?_) #[true, true, false, false, false, true, false, false, false, false, false] rfl rfl (take_ofW HT_.out HW_.out (by kernel_rfl)) (fun _ _ _ h => h) (Or.inl ⟨by rfl, ?_⟩) hHeld ?_ ?_
  rotate_left
  · intro w' _
    go_simp
    with_reducible rfl
  rotate_left
  · simp only [Act.put, List.setIfInBounds_toArray, List.set_cons_zero, List.set_cons_succ, i64_w, i32_w]
    rfl
  refine pure_ (i := 2) (N := some 16) (v := ?_) (a' := ?_) #[true, true, true, false, false, true, false, false, false, false, false] rfl rfl (any_of HT_.out (by kernel_rfl)) (fun _ _ _ h => h) (Or.inl ⟨by rfl, ?_⟩) ?_ ?_
  rotate_left
  · intro w'
    go_simp
    with_reducible rfl
  rotate_left
  · simp only [Act.put, List.setIfInBounds_toArray, List.set_cons_zero, List.set_cons_succ, i64_w, i32_w]
    rfl
  refine pure_ (i := 3) (N := some 17) (v := ?_) (a' := ?_) #[true, true, true, true, false, true, false, false, false, false, false] rfl rfl (any_of HT_.out (by kernel_rfl)) (fun _ _ _ h => h) (Or.inl ⟨by rfl, ?_⟩) ?_ ?_
  rotate_left
  · intro w'
    go_simp
    with_reducible rfl
  rotate_left
  · simp only [Act.put, List.setIfInBounds_toArray, List.set_cons_zero, List.set_cons_succ, i64_w, i32_w]
    rfl
  refine pure_ (i := 4) (N := some 18) (v := ?_) (a' := ?_) #[true, true, true, true, true, true, false, false, false, false, false] rfl rfl (any_of HT_.out (by kernel_rfl)) (fun _ _ _ h => h) (Or.inl ⟨by rfl, ?_⟩) ?_ ?_
  rotate_left
  · intro w'
    go_simp
    with_reducible rfl
  rotate_left
  · simp only [Act.put, List.setIfInBounds_toArray, List.set_cons_zero, List.set_cons_succ, i64_w, i32_w]
    rfl
  refine pure_ (i := 9) (N := some 4) (v := ?_) (a' := ?_) #[true, true, true, true, true, true, false, false, false, true, false] rfl rfl (any_of HT_.out (by kernel_rfl)) (fun _ _ _ h => h) (Or.inl ⟨by rfl, ?_⟩) ?_ ?_
  rotate_left
  · intro w'
    go_simp
    with_reducible rfl
  rotate_left
  · simp only [Act.put, List.setIfInBounds_toArray, List.set_cons_zero, List.set_cons_succ, i64_w, i32_w]
    rfl
  refine take_ (i := 6) (N := some 20) (v := ?_) (a' := ?_) #[true, true, true, true, true, true, true, false, false, true, false] rfl rfl (take_ofW HT_.out HW_.out (by kernel_rfl)) (fun _ _ _ h => h) (Or.inl ⟨by rfl, ?_⟩) hHeld ?_ ?_
  rotate_left
  · intro w' _
    go_simp
    with_reducible rfl
  rotate_left
  · simp only [Act.put, List.setIfInBounds_toArray, List.set_cons_zero, List.set_cons_succ, i64_w, i32_w]
    rfl
  refine pure_ (i := 7) (N := some 21) (v := ?_) (a' := ?_) #[true, true, true, true, true, true, true, true, false, true, false] rfl rfl (any_of HT_.out (by kernel_rfl)) (fun _ _ _ h => h) (Or.inl ⟨by rfl, ?_⟩) ?_ ?_
  rotate_left
  · intro w'
    go_simp
    with_reducible rfl
  rotate_left
  · simp only [Act.put, List.setIfInBounds_toArray, List.set_cons_zero, List.set_cons_succ, i64_w, i32_w]
    rfl
  refine pure_ (i := 8) (N := some 22) (v := ?_) (a' := ?_) #[true, true, true, true, true, true, true, true, true, true, false] rfl rfl (any_of HT_.out (by kernel_rfl)) (fun _ _ _ h => h) (Or.inl ⟨by rfl, ?_⟩) ?_ ?_
  rotate_left
  · intro w'
    go_simp
    with_reducible rfl
  rotate_left
  · simp only [Act.put, List.setIfInBounds_toArray, List.set_cons_zero, List.set_cons_succ, i64_w, i32_w]
    rfl
  refine pure_ (i := 10) (N := some 5) (v := ?_) (a' := ?_) #[true, true, true, true, true, true, true, true, true, true, true] rfl rfl (any_of HT_.out (by kernel_rfl)) (fun _ _ _ h => h) (Or.inl ⟨by rfl, ?_⟩) ?_ ?_
  rotate_left
  · intro w'
    go_simp
    with_reducible rfl
  rotate_left
  · simp only [Act.put, List.setIfInBounds_toArray, List.set_cons_zero, List.set_cons_succ, i64_w, i32_w]
    rfl
  refine done_ (done_of HT_.out (by kernel_rfl)) ?_
  try go_wp2_with (first | ((with_reducible refine gate_callee (f := 43) rfl ?_); refine goesL_ (some 25) rfl rfl Tryz.func43 (by kernel_rfl) rfl #[.int .i64 (wrap64 (Go.bits .and .u8 ((bt a0 8) / 2) 15)), .bool ((Go.bits .and .u8 (bt a0 8) 1) == 1)] rfl (by (try simp only [List.map_toArray, List.map_cons, List.map_nil]); first | done | rfl | (simp only [List.length_drop, List.length_take]; rfl)) ?_; (with_reducible refine (head_Size.calls (wrap64 (Go.bits .and .u8 ((bt a0 8) / 2) 15)) ((Go.bits .and .u8 (bt a0 8) 1) == 1) t102 _ A8.out).mono ?_); rintro e w' ⟨rfl, ⟨nd, rfl⟩⟩; refine ⟨_, rfl, ?_⟩; (try (rw [drewN_self w34]; generalize hq_ : World.drewN w34 _ = w34; have n0_ : Aside0 (w34.heap[gb101]? = some (.cells #[.int .i64 0, .int .i64 0, .int .i64 0, .int .i64 0, .int .i64 0, .int .i64 0, .int .i64 0, .bool false, .int .u64 0, .int .u64 0, .int .u32 0, .int .i64 0, .int .u8 0, .int .u8 0, .int .u8 0] 26 (0, 0))) := ⟨by rw [← hq_]; exact (by (with_reducible repeat (first | refine blk_drewN ?_ _ | refine blk_drew ?_ | refine blk_alloc ?_ _)); exact BK101.out)⟩; have n1_ : Aside0 (Below w.heap.size w w34) := ⟨by rw [← hq_]; exact (by repeat (first | (with_reducible first | exact HB.out | apply below_alloc | apply pw_below_drewN | apply below_drew1 | refine below_set ?_ GE101.out) | exact HB.out))⟩; clear BK101 HB hq_; have BK101 := n0_; have HB := n1_; clear n0_ n1_))) | ((with_reducible refine gate_callee (f := 75) rfl ?_); refine goesL_ (some 28) rfl rfl Tryz.func75 (by kernel_rfl) rfl #[.int .i64 (wrap64 (Go.bits .and .u8 ((bt a0 8) / 2) 15))] rfl (by (try simp only [List.map_toArray, List.map_cons, List.map_nil]); first | done | rfl | (simp only [List.length_drop, List.length_take]; rfl)) ?_; (with_reducible refine (head_is.calls (wrap64 (Go.bits .and .u8 ((bt a0 8) / 2) 15)) true _ A9.out).mono ?_); rintro e w' ⟨rfl, ⟨nd, rfl⟩⟩; refine ⟨_, rfl, ?_⟩; (try (rw [drewN_self w34]; generalize hq_ : World.drewN w34 _ = w34; have n0_ : Aside0 (w34.heap[gb101]? = some (.cells #[.int .i64 0, .int .i64 0, .int .i64 0, .int .i64 0, .int .i64 0, .int .i64 0, .int .i64 0, .bool false, .int .u64 0, .int .u64 0, .int .u32 0, .int .i64 0, .int .u8 0, .int .u8 0, .int .u8 0] 26 (0, 0))) := ⟨by rw [← hq_]; exact (by (with_reducible repeat (first | refine blk_drewN ?_ _ | refine blk_drew ?_ | refine blk_alloc ?_ _)); exact BK101.out)⟩; have n1_ : Aside0 (Below w.heap.size w w34) := ⟨by rw [← hq_]; exact (by repeat (first | (with_reducible first | exact HB.out | apply below_alloc | apply pw_below_drewN | apply below_drew1 | refine below_set ?_ GE101.out) | exact HB.out))⟩; clear BK101 HB hq_; have BK101 := n0_; have HB := n1_; clear n0_ n1_))))
  have n0_ := Aside0.mk (blk_drew BK101.out)
  have n1_ := Aside0.mk (below_drew1 HB.out)
  clear BK101
  clear HB
  have BK101 := n0_
  have HB := n1_
  clear n0_ n1_
  have p26 : 0 ≤ (4 : Int) := (by omega)
  have q26 : 4 < a0.size := (by have : (4 : Int) < (a0.size : Int) := of_decide_eq_true (by first | (with_reducible assumption) | assumption); omega)
  have hx26 : ∀ h : 4 < a0.size, ((a0[4]'h).toNat : Int) = bt a0 4 := bt_at a0 4
  clear p26
  have qi26 : (4 < (a0.size : Int)) = True := eq_true (of_decide_eq_true (by first | (with_reducible assumption) | assumption))
  replace q26 := eq_true q26
  have p28 : 0 ≤ (5 : Int) := (by omega)
  have q28 : 5 < a0.size := (by have : (5 : Int) < (a0.size : Int) := of_decide_eq_true (by first | (with_reducible assumption) | assumption); omega)
  have hx28 : ∀ h : 5 < a0.size, ((a0[5]'h).toNat : Int) = bt a0 5 := bt_at a0 5
  clear p28
  have qi28 : (5 < (a0.size : Int)) = True := eq_true (of_decide_eq_true (by first | (with_reducible assumption) | assumption))
  replace q28 := eq_true q28
  have p29 : 0 ≤ (5 : Int) := (by omega)
  have q29 : 5 < a0.size := (by have : (5 : Int) < (a0.size : Int) := of_decide_eq_true (by first | (with_reducible assumption) | assumption); omega)
  have hx29 : ∀ h : 5 < a0.size, ((a0[5]'h).toNat : Int) = bt a0 5 := bt_at a0 5
  clear p29
  have qi29 : (5 < (a0.size : Int)) = True := eq_true (of_decide_eq_true (by first | (with_reducible assumption) | assumption))
  replace q29 := eq_true q29
  refine start_ (n := 28) (S := fun w' => True) (ds := []) #[false, false, false, false, false, false, false, false, false, false, false, false, false, false, false, false, false, false, false, false, false, false, false, false, false, false, false, false] (by kernel_rfl) rfl rfl trivial (fun hHeld => ?_); refine with_tabW head_Get.tab11 head_Get.bits11 (fun HT_ HW_ => ?_)
  generalize w34.drew = w35 at BK101 HB hHeld ⊢
  refine pure_ (i := 0) (N := some 41) (v := ?_) (a' := ?_) #[true, false, false, false, false, false, false, false, false, false, false, false, false, false, false, false, false, false, false, false, false, false, false, false, false, false, false, false] rfl rfl (any_of HT_.out (by kernel_rfl)) (fun _ _ _ h => h) (Or.inl ⟨by rfl, ?_⟩) ?_ ?_
  rotate_left
  · intro w'
    go_simp
    with_reducible rfl
  rotate_left
  · simp only [Act.put, List.setIfInBounds_toArray, List.set_cons_zero, List.set_cons_succ, i64_w, i32_w]
    rfl
  refine pure_ (i := 1) (N := some 42) (v := ?_) (a' := ?_) #[true, true, false, false, false, false, false, false, false, false, false, false, false, false, false, false, false, false, false, false, false, false, false, false, false, false, false, false] rfl rfl (any_of HT_.out (by kernel_rfl)) (fun _ _ _ h => h) (Or.inl ⟨by rfl, ?_⟩) ?_ ?_
  rotate_left
  · intro w'
    go_simp
    with_reducible rfl
  rotate_left
  · simp only [Act.put, List.setIfInBounds_toArray, List.set_cons_zero, List.set_cons_succ, i64_w, i32_w]
    rfl
  refine pure_ (i := 4) (N := some 45) (v := ?_) (a' := ?_) #[true, true, false, false, true, false, false, false, false, false, false, false, false, false, false, false, false, false, false, false, false, false, false, false, false, false, false, false] rfl rfl (any_of HT_.out (by kernel_rfl)) (fun _ _ _ h => h) (Or.inl ⟨by rfl, ?_⟩) ?_ ?_
  rotate_left
  · intro w'
    go_simp
    with_reducible rfl
  rotate_left
  · simp only [Act.put, List.setIfInBounds_toArray, List.set_cons_zero, List.set_cons_succ, i64_w, i32_w]
    rfl
  refine pure_ (i := 5) (N := some 46) (v := ?_) (a' := ?_) #[true, true, false, false, true, true, false, false, false, false, false, false, false, false, false, false, false, false, false, false, false, false, false, false, false, false, false, false] rfl rfl (any_of HT_.out (by kernel_rfl)) (fun _ _ _ h => h) (Or.inl ⟨by rfl, ?_⟩) ?_ ?_
  rotate_left
  · intro w'
    go_simp
    with_reducible rfl
  rotate_left
  · simp only [Act.put, List.setIfInBounds_toArray, List.set_cons_zero, List.set_cons_succ, i64_w, i32_w]
    rfl
  refine pure_ (i := 8) (N := some 49) (v := ?_) (a' := ?_) #[true, true, false, false, true, true, false, false, true, false, false, false, false, false, false, false, false, false, false, false, false, false, false, false, false, false, false, false] rfl rfl (any_of HT_.out (by kernel_rfl)) (fun _ _ _ h => h) (Or.inl ⟨by rfl, ?_⟩) ?_ ?_
  rotate_left
  · intro w'
    go_simp
    with_reducible rfl
  rotate_left
  · simp only [Act.put, List.setIfInBounds_toArray, List.set_cons_zero, List.set_cons_succ, i64_w, i32_w]
    rfl
  refine pure_ (i := 11) (N := some 52) (v := ?_) (a' := ?_) #[true, true, false, false, true, true, false, false, true, false, false, true, false, false, false, false, false, false, false, false, false, false, false, false, false, false, false, false] rfl rfl (any_of HT_.out (by kernel_rfl)) (fun _ _ _ h => h) (Or.inl ⟨by rfl, ?_⟩) ?_ ?_
  rotate_left
  · intro w'
    go_simp
    with_reducible rfl
  rotate_left
  · simp only [Act.put, List.setIfInBounds_toArray, List.set_cons_zero, List.set_cons_succ, i64_w, i32_w]
    rfl
  refine pure_ (i := 15) (N := some 56) (v := ?_) (a' := ?_) #[true, true, false, false, true, true, false, false, true, false, false, true, false, false, false, true, false, false, false, false, false, false, false, false, false, false, false, false] rfl rfl (any_of HT_.out (by kernel_rfl)) (fun _ _ _ h => h) (Or.inl ⟨by rfl, ?_⟩) ?_ ?_
  rotate_left
  · intro w'
    go_simp
    with_reducible rfl
  rotate_left
  · simp only [Act.put, List.setIfInBounds_toArray, List.set_cons_zero, List.set_cons_succ, i64_w, i32_w]
    rfl
  refine pure_ (i := 19) (N := some 60) (v := ?_) (a' := ?_) #[true, true, false, false, true, true, false, false, true, false, false, true, false, false, false, true, false, false, false, true, false, false, false, false, false, false, false, false] rfl rfl (any_of HT_.out (by kernel_rfl)) (fun _ _ _ h => h) (Or.inl ⟨by rfl, ?_⟩) ?_ ?_
  rotate_left
  · intro w'
    go_simp
    with_reducible rfl
  rotate_left
  · simp only [Act.put, List.setIfInBounds_toArray, List.set_cons_zero, List.set_cons_succ, i64_w, i32_w]
    rfl
  refine pure_ (i := 20) (N := some 61) (v := ?_) (a' := ?_) #[true, true, false, false, true, true, false, false, true, false, false, true, false, false, false, true, false, false, false, true, true, false, false, false, false, false, false, false] rfl rfl (any_of HT_.out (by kernel_rfl)) (fun _ _ _ h => h) (Or.inl ⟨by rfl, ?_⟩) ?_ ?_
  rotate_left
  · intro w'
    go_simp
    with_reducible rfl
  rotate_left
  · simp only [Act.put, List.setIfInBounds_toArray, List.set_cons_zero, List.set_cons_succ, i64_w, i32_w]
    rfl
  refine pure_ (i := 23) (N := some 64) (v := ?_) (a' := ?_) #[true, true, false, false, true, true, false, false, true, false, false, true, false, false, false, true, false, false, false, true, true, false, false, true, false, false, false, false] rfl rfl (any_of HT_.out (by kernel_rfl)) (fun _ _ _ h => h) (Or.inl ⟨by rfl, ?_⟩) ?_ ?_
  rotate_left
  · intro w'
    go_simp
    with_reducible rfl
  rotate_left
  · simp only [Act.put, List.setIfInBounds_toArray, List.set_cons_zero, List.set_cons_succ, i64_w, i32_w]
    rfl
  refine pure_ (i := 24) (N := some 65) (v := ?_) (a' := ?_) #[true, true, false, false, true, true, false, false, true, false, false, true, false, false, false, true, false, false, false, true, true, false, false, true, true, false, false, false] rfl rfl (any_of HT_.out (by kernel_rfl)) (fun _ _ _ h => h) (Or.inl ⟨by rfl, ?_⟩) ?_ ?_
  rotate_left
  · intro w'
    go_simp
    with_reducible rfl
  rotate_left
  · simp only [Act.put, List.setIfInBounds_toArray, List.set_cons_zero, List.set_cons_succ, i64_w, i32_w]
    rfl
  refine take_ (i := 9) (N := some 50) (v := ?_) (a' := ?_) #[true, true, false, false, true, true, false, false, true, true, false, true, false, false, false, true, false, false, false, true, true, false, false, true, true, false, false, false] rfl rfl (take_ofW HT_.out HW_.out (by kernel_rfl)) (fun _ _ _ h => h) (Or.inl ⟨by rfl, ?_⟩) hHeld ?_ ?_
  rotate_left
  · intro w' _
    go_simp
    with_reducible rfl
  rotate_left
  · simp only [Act.put, List.setIfInBounds_toArray, List.set_cons_zero, List.set_cons_succ, i64_w, i32_w]
    rfl
  refine pure_ (i := 10) (N := some 51) (v := ?_) (a' := ?_) #[true, true, false, false, true, true, false, false, true, true, true, true, false, false, false, true, false, false, false, true, true, false, false, true, true, false, false, false] rfl rfl (any_of HT_.out (by kernel_rfl)) (fun _ _ _ h => h) (Or.inl ⟨by rfl, ?_⟩) ?_ ?_
  rotate_left
  · intro w'
    go_simp
    with_reducible rfl
  rotate_left
  · simp only [Act.put, List.setIfInBounds_toArray, List.set_cons_zero, List.set_cons_succ, i64_w, i32_w]
    rfl
  refine take_ (i := 12) (N := some 53) (v := ?_) (a' := ?_) #[true, true, false, false, true, true, false, false, true, true, true, true, true, false, false, true, false, false, false, true, true, false, false, true, true, false, false, false] rfl rfl (take_ofW HT_.out HW_.out (by kernel_rfl)) (fun _ _ _ h => h) (Or.inl ⟨by rfl, ?_⟩) hHeld ?_ ?_
  rotate_left
  · intro w' _
    go_simp
    with_reducible rfl
  rotate_left
  · simp only [Act.put, List.setIfInBounds_toArray, List.set_cons_zero, List.set_cons_succ, i64_w, i32_w]
    rfl
  refine pure_ (i := 13) (N := some 54) (v := ?_) (a' := ?_) #[true, true, false, false, true, true, false, false, true, true, true, true, true, true, false, true, false, false, false, true, true, false, false, true, true, false, false, false] rfl rfl (any_of HT_.out (by kernel_rfl)) (fun _ _ _ h => h) (Or.inl ⟨by rfl, ?_⟩) ?_ ?_
  rotate_left
  · intro w'
    go_simp
    with_reducible rfl
  rotate_left
  · simp only [Act.put, List.setIfInBounds_toArray, List.set_cons_zero, List.set_cons_succ, i64_w, i32_w]
    rfl
  refine pure_ (i := 14) (N := some 55) (v := ?_) (a' := ?_) #[true, true, false, false, true, true, false, false, true, true, true, true, true, true, true, true, false, false, false, true, true, false, false, true, true, false, false, false] rfl rfl (any_of HT_.out (by kernel_rfl)) (fun _ _ _ h => h) (Or.inl ⟨by rfl, ?_⟩) ?_ ?_
  rotate_left
  · intro w'
    go_simp
    with_reducible rfl
  rotate_left
  · simp only [Act.put, List.setIfInBounds_toArray, List.set_cons_zero, List.set_cons_succ, i64_w, i32_w]
    rfl
  refine take_ (i := 16) (N := some 57) (v := ?_) (a' := ?_) #[true, true, false, false, true, true, false, false, true, true, true, true, true, true, true, true, true, false, false, true, true, false, false, true, true, false, false, false] rfl rfl (take_ofW HT_.out HW_.out (by kernel_rfl)) (fun _ _ _ h => h) (Or.inl ⟨by rfl, ?_⟩) hHeld ?_ ?_
  rotate_left
  · intro w' _
    go_simp
    with_reducible rfl
  rotate_left
  · simp only [Act.put, List.setIfInBounds_toArray, List.set_cons_zero, List.set_cons_succ, i64_w, i32_w]
    rfl
  refine pure_ (i := 17) (N := some 58) (v := ?_) (a' := ?_) #[true, true, false, false, true, true, false, false, true, true, true, true, true, true, true, true, true, true, false, true, true, false, false, true, true, false, false, false] rfl rfl (any_of HT_.out (by kernel_rfl)) (fun _ _ _ h => h) (Or.inl ⟨by rfl, ?_⟩) ?_ ?_
  rotate_left
  · intro w'
    go_simp
    with_reducible rfl
  rotate_left
  · simp only [Act.put, List.setIfInBounds_toArray, List.set_cons_zero, List.set_cons_succ, i64_w, i32_w]
    rfl
  refine pure_ (i := 18) (N := some 59) (v := ?_) (a' := ?_) #[true, true, false, false, true, true, false, false, true, true, true, true, true, true, true, true, true, true, true, true, true, false, false, true, true, false, false, false] rfl rfl (any_of HT_.out (by kernel_rfl)) (fun _ _ _ h => h) (Or.inl ⟨by rfl, ?_⟩) ?_ ?_
  rotate_left
  · intro w'
    go_simp
    with_reducible rfl
  rotate_left
  · simp only [Act.put, List.setIfInBounds_toArray, List.set_cons_zero, List.set_cons_succ, i64_w, i32_w]
    rfl
  refine join_ (σ := Nat) 1 #[true, true, true, true, true, true, true, true, true, true, true, true, true, true, true, true, true, true, true, true, true, true, true, true, true, true, true, false] (fun s_ => [(43, .int .u64 t104), (47, .int .u64 t105), (62, .int .u64 t106), (7, .pointer (some ⟨s_, 0, none⟩)), (44, .int .i64 (wrap64 (t104))), (48, .int .i64 (wrap64 (t105))), (63, .int .i64 (wrap64 (t106))), (66, .agg #[.int .i64 (wrap64 (t104)), .int .i64 (wrap64 (t105)), .int .i64 (wrap64 (bt a0 4)), .int .i64 (wrap64 ((bt a0 5) / 16)), .int .i64 (wrap64 (Go.bits .and .u8 (bt a0 5) 15)), .int .i64 (wrap64 (t106)), .int .i64 (wrap64 (Go.bits .and .u8 ((bt a0 8) / 2) 15)), .bool ((Go.bits .and .u8 (bt a0 8) 1) == 1), .int .u64 0, .int .u64 0, .int .u32 0, .int .i64 0, .int .u8 0, .int .u8 0, .int .u8 0])]) (fun s_ w' => (w'.heap[gb101]? = some (.cells #[.int .i64 0, .int .i64 0, .int .i64 0, .int .i64 0, .int .i64 0, .int .i64 0, .int .i64 0, .bool false, .int .u64 0, .int .u64 0, .int .u32 0, .int .i64 0, .int .u8 0, .int .u8 0, .int .u8 0] 26 (0, 0))) ∧ (w'.heap[s_]? = some (.cells #[.int .i64 0, .int .i64 0, .int .i64 0, .int .i64 0, .int .i64 0, .int .i64 0, .int .i64 0, .bool false, .int .u64 0, .int .u64 0, .int .u32 0, .int .i64 0, .int .u8 0, .int .u8 0, .int .u8 0] 26 (0, 0))) ∧ (w.heap.size ≤ s_) ∧ (w.heap.size ≤ s_) ∧ (gb101 ≠ s_) ∧ (s_ ≠ gb101) ∧ (Below w.heap.size w w')) ?_ ?_
  rotate_left
  · intro hCont
    refine two_ (i := 2) (j := 26) (Ni := some 43) (Nj := some 7) #[true, true, true, false, true, true, false, false, true, true, true, true, true, true, true, true, true, true, true, true, true, false, false, true, true, false, false, false] #[true, true, false, false, true, true, false, false, true, true, true, true, true, true, true, true, true, true, true, true, true, false, false, true, true, false, true, false] rfl rfl rfl rfl (two_of HT_.out (by kernel_rfl)) (by decide) (by decide) (fun K hK => ?_) (fun K hK => ?_)
    · skip
      refine goes_ Tryz.func83 (by kernel_rfl) rfl #[.string (a0.extract 0 2)] (by rfl) rfl rfl (by (try simp only [List.map_toArray, List.map_cons, List.map_nil]); first | done | rfl | (simp only [List.length_drop, List.length_take]; rfl)) ?_
      with_reducible refine (head_number.calls (a0.extract 0 2) t104 _ A21.out).mono ?_
      rintro e w' ⟨rfl, ⟨nd, rfl⟩⟩
      refine ⟨_, rfl, ?_⟩
      refine hK.out _ _ trivial (fun hHeld => ?_)
      clear hK K
      refine norm_ (a' := ?_) ?_ ?_
      rotate_left
      · show Act.put _ (some 43) _ = _
        simp only [Act.put, List.setIfInBounds_toArray, List.set_cons_zero, List.set_cons_succ, i64_w, i32_w]
        rfl
      refine pure_ (i := 3) (N := some 44) (v := ?_) (a' := ?_) #[true, true, true, true, true, true, false, false, true, true, true, true, true, true, true, true, true, true, true, true, true, false, false, true, true, false, false, false] rfl rfl (any_of HT_.out (by kernel_rfl)) (fun _ _ _ h => h) (Or.inl ⟨by rfl, ?_⟩) ?_ ?_
      rotate_left
      · intro w'
        go_simp
        with_reducible rfl
      rotate_left
      · simp only [Act.put, List.setIfInBounds_toArray, List.set_cons_zero, List.set_cons_succ, i64_w, i32_w]
        rfl
      refine two_ (i := 6) (j := 26) (Ni := some 47) (Nj := some 7) #[true, true, true, true, true, true, true, false, true, true, true, true, true, true, true, true, true, true, true, true, true, false, false, true, true, false, false, false] #[true, true, true, true, true, true, false, false, true, true, true, true, true, true, true, true, true, true, true, true, true, false, false, true, true, false, true, false] rfl rfl rfl rfl (two_of HT_.out (by kernel_rfl)) (by decide) (by decide) (fun K hK => ?_) (fun K hK => ?_)
      · skip
        refine goes_ Tryz.func83 (by kernel_rfl) rfl #[.string (a0.extract 2 4)] (by rfl) rfl rfl (by (try simp only [List.map_toArray, List.map_cons, List.map_nil]); first | done | rfl | (simp only [List.length_drop, List.length_take]; rfl)) ?_
        with_reducible refine (head_number.calls (a0.extract 2 4) t105 _ A24.out).mono ?_
        rintro e w' ⟨rfl, ⟨nd, rfl⟩⟩
        refine ⟨_, rfl, ?_⟩
        refine hK.out _ _ trivial (fun hHeld => ?_)
        clear hK K
        refine norm_ (a' := ?_) ?_ ?_
        rotate_left
        · show Act.put _ (some 47) _ = _
          simp only [Act.put, List.setIfInBounds_toArray, List.set_cons_zero, List.set_cons_succ, i64_w, i32_w]
          rfl
        refine pure_ (i := 7) (N := some 48) (v := ?_) (a' := ?_) #[true, true, true, true, true, true, true, true, true, true, true, true, true, true, true, true, true, true, true, true, true, false, false, true, true, false, false, false] rfl rfl (any_of HT_.out (by kernel_rfl)) (fun _ _ _ h => h) (Or.inl ⟨by rfl, ?_⟩) ?_ ?_
        rotate_left
        · intro w'
          go_simp
          with_reducible rfl
        rotate_left
        · simp only [Act.put, List.setIfInBounds_toArray, List.set_cons_zero, List.set_cons_succ, i64_w, i32_w]
          rfl
        refine two_ (i := 21) (j := 26) (Ni := some 62) (Nj := some 7) #[true, true, true, true, true, true, true, true, true, true, true, true, true, true, true, true, true, true, true, true, true, true, false, true, true, false, false, false] #[true, true, true, true, true, true, true, true, true, true, true, true, true, true, true, true, true, true, true, true, true, false, false, true, true, false, true, false] rfl rfl rfl rfl (two_of HT_.out (by kernel_rfl)) (by decide) (by decide) (fun K hK => ?_) (fun K hK => ?_)
        · skip
          refine goes_ Tryz.func83 (by kernel_rfl) rfl #[.string (a0.extract 6 8)] (by rfl) rfl rfl (by (try simp only [List.map_toArray, List.map_cons, List.map_nil]); first | done | rfl | (simp only [List.length_drop, List.length_take]; rfl)) ?_
          with_reducible refine (head_number.calls (a0.extract 6 8) t106 _ A32.out).mono ?_
          rintro e w' ⟨rfl, ⟨nd, rfl⟩⟩
          refine ⟨_, rfl, ?_⟩
          refine hK.out _ _ trivial (fun hHeld => ?_)
          clear hK K
          refine norm_ (a' := ?_) ?_ ?_
          rotate_left
          · show Act.put _ (some 62) _ = _
            simp only [Act.put, List.setIfInBounds_toArray, List.set_cons_zero, List.set_cons_succ, i64_w, i32_w]
            rfl
          refine pure_ (i := 22) (N := some 63) (v := ?_) (a' := ?_) #[true, true, true, true, true, true, true, true, true, true, true, true, true, true, true, true, true, true, true, true, true, true, true, true, true, false, false, false] rfl rfl (any_of HT_.out (by kernel_rfl)) (fun _ _ _ h => h) (Or.inl ⟨by rfl, ?_⟩) ?_ ?_
          rotate_left
          · intro w'
            go_simp
            with_reducible rfl
          rotate_left
          · simp only [Act.put, List.setIfInBounds_toArray, List.set_cons_zero, List.set_cons_succ, i64_w, i32_w]
            rfl
          refine pure_ (i := 25) (N := some 66) (v := ?_) (a' := ?_) #[true, true, true, true, true, true, true, true, true, true, true, true, true, true, true, true, true, true, true, true, true, true, true, true, true, true, false, false] rfl rfl (any_of HT_.out (by kernel_rfl)) (fun _ _ _ h => h) (Or.inl ⟨by rfl, ?_⟩) ?_ ?_
          rotate_left
          · intro w'
            go_simp
            with_reducible rfl
          rotate_left
          · simp only [Act.put, List.setIfInBounds_toArray, List.set_cons_zero, List.set_cons_succ, i64_w, i32_w]
            rfl
          refine one_ (i := 26) (N := some 7) #[true, true, true, true, true, true, true, true, true, true, true, true, true, true, true, true, true, true, true, true, true, true, true, true, true, true, true, false] rfl rfl (one_of HT_.out (by kernel_rfl)) (by decide) (fun K hK => ?_)
          refine box_step ?hg (N := 7) ?hd (cs := #[.int .i64 0, .int .i64 0, .int .i64 0, .int .i64 0, .int .i64 0, .int .i64 0, .int .i64 0, .bool false, .int .u64 0, .int .u64 0, .int .u32 0, .int .i64 0, .int .u8 0, .int .u8 0, .int .u8 0]) (t := 26) ?hr ?_; (case hd => rfl); (case hg => rfl); (case hr => first | (go_simp; done) | (go_simp; rfl))
          intro gb107 hg w36 hbox hb
          have n0_ := Aside0.mk (blk_below (g := gb101) (o := .cells #[.int .i64 0, .int .i64 0, .int .i64 0, .int .i64 0, .int .i64 0, .int .i64 0, .int .i64 0, .bool false, .int .u64 0, .int .u64 0, .int .u32 0, .int .i64 0, .int .u8 0, .int .u8 0, .int .u8 0] 26 (0, 0)) (by (with_reducible repeat (first | refine blk_drewN ?_ _ | refine blk_drew ?_ | refine blk_alloc ?_ _)); exact BK101.out) hb)
          have n1_ := Aside0.mk (below_step (by repeat (first | (with_reducible first | exact HB.out | apply below_alloc | apply pw_below_drewN | apply below_drew1 | refine below_set ?_ GE101.out) | exact HB.out)) hb)
          have n2_ := Aside0.mk (hbox)
          have n3_ := Aside0.mk ((by rw [hg]; exact (below_size (by repeat (first | (with_reducible first | exact HB.out | apply below_alloc | apply pw_below_drewN | apply below_drew1 | refine below_set ?_ GE101.out) | exact HB.out))) : w.heap.size ≤ gb107))
          have n4_ := Aside0.mk ((by rw [hg]; exact (below_size (by repeat (first | (with_reducible first | exact HB.out | apply below_alloc | apply pw_below_drewN | apply below_drew1 | refine below_set ?_ GE101.out) | exact HB.out))) : w.heap.size ≤ gb107))
          have n5_ := Aside0.mk ((by rw [hg]; exact Nat.ne_of_lt (blk_lt (g := gb101) (o := .cells #[.int .i64 0, .int .i64 0, .int .i64 0, .int .i64 0, .int .i64 0, .int .i64 0, .int .i64 0, .bool false, .int .u64 0, .int .u64 0, .int .u32 0, .int .i64 0, .int .u8 0, .int .u8 0, .int .u8 0] 26 (0, 0)) (by (with_reducible repeat (first | refine blk_drewN ?_ _ | refine blk_drew ?_ | refine blk_alloc ?_ _)); exact BK101.out)) : gb101 ≠ gb107))
          have n6_ := Aside0.mk ((by rw [hg]; exact Nat.ne_of_gt (blk_lt (g := gb101) (o := .cells #[.int .i64 0, .int .i64 0, .int .i64 0, .int .i64 0, .int .i64 0, .int .i64 0, .int .i64 0, .bool false, .int .u64 0, .int .u64 0, .int .u32 0, .int .i64 0, .int .u8 0, .int .u8 0, .int .u8 0] 26 (0, 0)) (by (with_reducible repeat (first | refine blk_drewN ?_ _ | refine blk_drew ?_ | refine blk_alloc ?_ _)); exact BK101.out)) : gb107 ≠ gb101))
          clear BK101
          clear HB
          have BK101 := n0_
          have HB := n1_
          have BK107 := n2_
          have GW107 := n3_
          have GE107 := n4_
          have NB101_107 := n5_
          have NB107_101 := n6_
          clear n0_ n1_ n2_ n3_ n4_ n5_ n6_
          clear hb hbox hg
          refine hK.out _ _ trivial (fun hHeld => ?_)
          clear hK K
          refine norm_ (a' := ?_) ?_ ?_
          rotate_left
          · show Act.put _ (some 7) _ = _
            simp only [Act.put, List.setIfInBounds_toArray, List.set_cons_zero, List.set_cons_succ, i64_w, i32_w]
            rfl
          exact norm_ (by simp only [putAll, Act.put, List.setIfInBounds_toArray, List.set_cons_zero, List.set_cons_succ]) (hCont (gb107) _ ⟨(by (with_reducible repeat (first | refine blk_drewN ?_ _ | refine blk_drew ?_ | refine blk_alloc ?_ _)); exact BK101.out), (by (with_reducible repeat (first | refine blk_drewN ?_ _ | refine blk_drew ?_ | refine blk_alloc ?_ _)); exact BK107.out), GW107.out, GE107.out, NB101_107.out, NB107_101.out, (by repeat (first | (with_reducible first | exact HB.out | apply below_alloc | apply pw_below_drewN | apply below_drew1 | refine below_set ?_ GE101.out | refine below_set ?_ GE107.out) | exact HB.out))⟩)
        · skip
          refine box_step ?hg (N := 7) ?hd (cs := #[.int .i64 0, .int .i64 0, .int .i64 0, .int .i64 0, .int .i64 0, .int .i64 0, .int .i64 0, .bool false, .int .u64 0, .int .u64 0, .int .u32 0, .int .i64 0, .int .u8 0, .int .u8 0, .int .u8 0]) (t := 26) ?hr ?_; (case hd => rfl); (case hg => rfl); (case hr => first | (go_simp; done) | (go_simp; rfl))
          intro gb107 hg w36 hbox hb
          have n0_ := Aside0.mk (blk_below (g := gb101) (o := .cells #[.int .i64 0, .int .i64 0, .int .i64 0, .int .i64 0, .int .i64 0, .int .i64 0, .int .i64 0, .bool false, .int .u64 0, .int .u64 0, .int .u32 0, .int .i64 0, .int .u8 0, .int .u8 0, .int .u8 0] 26 (0, 0)) (by (with_reducible repeat (first | refine blk_drewN ?_ _ | refine blk_drew ?_ | refine blk_alloc ?_ _)); exact BK101.out) hb)
          have n1_ := Aside0.mk (below_step (by repeat (first | (with_reducible first | exact HB.out | apply below_alloc | apply pw_below_drewN | apply below_drew1 | refine below_set ?_ GE101.out) | exact HB.out)) hb)
          have n2_ := Aside0.mk (hbox)
          have n3_ := Aside0.mk ((by rw [hg]; exact (below_size (by repeat (first | (with_reducible first | exact HB.out | apply below_alloc | apply pw_below_drewN | apply below_drew1 | refine below_set ?_ GE101.out) | exact HB.out))) : w.heap.size ≤ gb107))
          have n4_ := Aside0.mk ((by rw [hg]; exact (below_size (by repeat (first | (with_reducible first | exact HB.out | apply below_alloc | apply pw_below_drewN | apply below_drew1 | refine below_set ?_ GE101.out) | exact HB.out))) : w.heap.size ≤ gb107))
          have n5_ := Aside0.mk ((by rw [hg]; exact Nat.ne_of_lt (blk_lt (g := gb101) (o := .cells #[.int .i64 0, .int .i64 0, .int .i64 0, .int .i64 0, .int .i64 0, .int .i64 0, .int .i64 0, .bool false, .int .u64 0, .int .u64 0, .int .u32 0, .int .i64 0, .int .u8 0, .int .u8 0, .int .u8 0] 26 (0, 0)) (by (with_reducible repeat (first | refine blk_drewN ?_ _ | refine blk_drew ?_ | refine blk_alloc ?_ _)); exact BK101.out)) : gb101 ≠ gb107))
          have n6_ := Aside0.mk ((by rw [hg]; exact Nat.ne_of_gt (blk_lt (g := gb101) (o := .cells #[.int .i64 0, .int .i64 0, .int .i64 0, .int .i64 0, .int .i64 0, .int .i64 0, .int .i64 0, .bool false, .int .u64 0, .int .u64 0, .int .u32 0, .int .i64 0, .int .u8 0, .int .u8 0, .int .u8 0] 26 (0, 0)) (by (with_reducible repeat (first | refine blk_drewN ?_ _ | refine blk_drew ?_ | refine blk_alloc ?_ _)); exact BK101.out)) : gb107 ≠ gb101))
          clear BK101
          clear HB
          have BK101 := n0_
          have HB := n1_
          have BK107 := n2_
          have GW107 := n3_
          have GE107 := n4_
          have NB101_107 := n5_
          have NB107_101 := n6_
          clear n0_ n1_ n2_ n3_ n4_ n5_ n6_
          clear hb hbox hg
          refine hK.out _ _ trivial (fun hHeld => ?_)
          clear hK K
          refine norm_ (a' := ?_) ?_ ?_
          rotate_left
          · show Act.put _ (some 7) _ = _
            simp only [Act.put, List.setIfInBounds_toArray, List.set_cons_zero, List.set_cons_succ, i64_w, i32_w]
            rfl
          refine one_ (i := 21) (N := some 62) #[true, true, true, true, true, true, true, true, true, true, true, true, true, true, true, true, true, true, true, true, true, true, false, true, true, false, true, false] rfl rfl (one_of HT_.out (by kernel_rfl)) (by decide) (fun K hK => ?_)
          refine goes_ Tryz.func83 (by kernel_rfl) rfl #[.string (a0.extract 6 8)] (by rfl) rfl rfl (by (try simp only [List.map_toArray, List.map_cons, List.map_nil]); first | done | rfl | (simp only [List.length_drop, List.length_take]; rfl)) ?_
          with_reducible refine (head_number.calls (a0.extract 6 8) t106 _ A32.out).mono ?_
          rintro e w' ⟨rfl, ⟨nd, rfl⟩⟩
          refine ⟨_, rfl, ?_⟩
          refine hK.out _ _ trivial (fun hHeld => ?_)
          clear hK K
          refine norm_ (a' := ?_) ?_ ?_
          rotate_left
          · show Act.put _ (some 62) _ = _
            simp only [Act.put, List.setIfInBounds_toArray, List.set_cons_zero, List.set_cons_succ, i64_w, i32_w]
            rfl
          refine pure_ (i := 22) (N := some 63) (v := ?_) (a' := ?_) #[true, true, true, true, true, true, true, true, true, true, true, true, true, true, true, true, true, true, true, true, true, true, true, true, true, false, true, false] rfl rfl (any_of HT_.out (by kernel_rfl)) (fun _ _ _ h => h) (Or.inl ⟨by rfl, ?_⟩) ?_ ?_
          rotate_left
          · intro w'
            go_simp
            with_reducible rfl
          rotate_left
          · simp only [Act.put, List.setIfInBounds_toArray, List.set_cons_zero, List.set_cons_succ, i64_w, i32_w]
            rfl
          refine pure_ (i := 25) (N := some 66) (v := ?_) (a' := ?_) #[true, true, true, true, true, true, true, true, true, true, true, true, true, true, true, true, true, true, true, true, true, true, true, true, true, true, true, false] rfl rfl (any_of HT_.out (by kernel_rfl)) (fun _ _ _ h => h) (Or.inl ⟨by rfl, ?_⟩) ?_ ?_
          rotate_left
          · intro w'
            go_simp
            with_reducible rfl
          rotate_left
          · simp only [Act.put, List.setIfInBounds_toArray, List.set_cons_zero, List.set_cons_succ, i64_w, i32_w]
            rfl
          exact norm_ (by simp only [putAll, Act.put, List.setIfInBounds_toArray, List.set_cons_zero, List.set_cons_succ]) (hCont (gb107) _ ⟨(by (with_reducible repeat (first | refine blk_drewN ?_ _ | refine blk_drew ?_ | refine blk_alloc ?_ _)); exact BK101.out), (by (with_reducible repeat (first | refine blk_drewN ?_ _ | refine blk_drew ?_ | refine blk_alloc ?_ _)); exact BK107.out), GW107.out, GE107.out, NB101_107.out, NB107_101.out, (by repeat (first | (with_reducible first | exact HB.out | apply below_alloc | apply pw_below_drewN | apply below_drew1 | refine below_set ?_ GE101.out | refine below_set ?_ GE107.out) | exact HB.out))⟩)
      · skip
        refine box_step ?hg (N := 7) ?hd (cs := #[.int .i64 0, .int .i64 0, .int .i64 0, .int .i64 0, .int .i64 0, .int .i64 0, .int .i64 0, .bool false, .int .u64 0, .int .u64 0, .int .u32 0, .int .i64 0, .int .u8 0, .int .u8 0, .int .u8 0]) (t := 26) ?hr ?_; (case hd => rfl); (case hg => rfl); (case hr => first | (go_simp; done) | (go_simp; rfl))
        intro gb107 hg w36 hbox hb
        have n0_ := Aside0.mk (blk_below (g := gb101) (o := .cells #[.int .i64 0, .int .i64 0, .int .i64 0, .int .i64 0, .int .i64 0, .int .i64 0, .int .i64 0, .bool false, .int .u64 0, .int .u64 0, .int .u32 0, .int .i64 0, .int .u8 0, .int .u8 0, .int .u8 0] 26 (0, 0)) (by (with_reducible repeat (first | refine blk_drewN ?_ _ | refine blk_drew ?_ | refine blk_alloc ?_ _)); exact BK101.out) hb)
        have n1_ := Aside0.mk (below_step (by repeat (first | (with_reducible first | exact HB.out | apply below_alloc | apply pw_below_drewN | apply below_drew1 | refine below_set ?_ GE101.out) | exact HB.out)) hb)
        have n2_ := Aside0.mk (hbox)
        have n3_ := Aside0.mk ((by rw [hg]; exact (below_size (by repeat (first | (with_reducible first | exact HB.out | apply below_alloc | apply pw_below_drewN | apply below_drew1 | refine below_set ?_ GE101.out) | exact HB.out))) : w.heap.size ≤ gb107))
        have n4_ := Aside0.mk ((by rw [hg]; exact (below_size (by repeat (first | (with_reducible first | exact HB.out | apply below_alloc | apply pw_below_drewN | apply below_drew1 | refine below_set ?_ GE101.out) | exact HB.out))) : w.heap.size ≤ gb107))
        have n5_ := Aside0.mk ((by rw [hg]; exact Nat.ne_of_lt (blk_lt (g := gb101) (o := .cells #[.int .i64 0, .int .i64 0, .int .i64 0, .int .i64 0, .int .i64 0, .int .i64 0, .int .i64 0, .bool false, .int .u64 0, .int .u64 0, .int .u32 0, .int .i64 0, .int .u8 0, .int .u8 0, .int .u8 0] 26 (0, 0)) (by (with_reducible repeat (first | refine blk_drewN ?_ _ | refine blk_drew ?_ | refine blk_alloc ?_ _)); exact BK101.out)) : gb101 ≠ gb107))
        have n6_ := Aside0.mk ((by rw [hg]; exact Nat.ne_of_gt (blk_lt (g := gb101) (o := .cells #[.int .i64 0, .int .i64 0, .int .i64 0, .int .i64 0, .int .i64 0, .int .i64 0, .int .i64 0, .bool false, .int .u64 0, .int .u64 0, .int .u32 0, .int .i64 0, .int .u8 0, .int .u8 0, .int .u8 0] 26 (0, 0)) (by (with_reducible repeat (first | refine blk_drewN ?_ _ | refine blk_drew ?_ | refine blk_alloc ?_ _)); exact BK101.out)) : gb107 ≠ gb101))
        clear BK101
        clear HB
        have BK101 := n0_
        have HB := n1_
        have BK107 := n2_
        have GW107 := n3_
        have GE107 := n4_
        have NB101_107 := n5_
        have NB107_101 := n6_
        clear n0_ n1_ n2_ n3_ n4_ n5_ n6_
        clear hb hbox hg
        refine hK.out _ _ trivial (fun hHeld => ?_)
        clear hK K
        refine norm_ (a' := ?_) ?_ ?_
        rotate_left
        · show Act.put _ (some 7) _ = _
          simp only [Act.put, List.setIfInBounds_toArray, List.set_cons_zero, List.set_cons_succ, i64_w, i32_w]
          rfl
        refine one_ (i := 6) (N := some 47) #[true, true, true, true, true, true, true, false, true, true, true, true, true, true, true, true, true, true, true, true, true, false, false, true, true, false, true, false] rfl rfl (one_of HT_.out (by kernel_rfl)) (by decide) (fun K hK => ?_)
        refine goes_ Tryz.func83 (by kernel_rfl) rfl #[.string (a0.extract 2 4)] (by rfl) rfl rfl (by (try simp only [List.map_toArray, List.map_cons, List.map_nil]); first | done | rfl | (simp only [List.length_drop, List.length_take]; rfl)) ?_
        with_reducible refine (head_number.calls (a0.extract 2 4) t105 _ A24.out).mono ?_
        rintro e w' ⟨rfl, ⟨nd, rfl⟩⟩
        refine ⟨_, rfl, ?_⟩
        refine hK.out _ _ trivial (fun hHeld => ?_)
        clear hK K
        refine norm_ (a' := ?_) ?_ ?_
        rotate_left
        · show Act.put _ (some 47) _ = _
          simp only [Act.put, List.setIfInBounds_toArray, List.set_cons_zero, List.set_cons_succ, i64_w, i32_w]
          rfl
        refine pure_ (i := 7) (N := some 48) (v := ?_) (a' := ?_) #[true, true, true, true, true, true, true, true, true, true, true, true, true, true, true, true, true, true, true, true, true, false, false, true, true, false, true, false] rfl rfl (any_of HT_.out (by kernel_rfl)) (fun _ _ _ h => h) (Or.inl ⟨by rfl, ?_⟩) ?_ ?_
        rotate_left
        · intro w'
          go_simp
          with_reducible rfl
        rotate_left
        · simp only [Act.put, List.setIfInBounds_toArray, List.set_cons_zero, List.set_cons_succ, i64_w, i32_w]
          rfl
        refine one_ (i := 21) (N := some 62) #[true, true, true, true, true, true, true, true, true, true, true, true, true, true, true, true, true, true, true, true, true, true, false, true, true, false, true, false] rfl rfl (one_of HT_.out (by kernel_rfl)) (by decide) (fun K hK => ?_)
        refine goes_ Tryz.func83 (by kernel_rfl) rfl #[.string (a0.extract 6 8)] (by rfl) rfl rfl (by (try simp only [List.map_toArray, List.map_cons, List.map_nil]); first | done | rfl | (simp only [List.length_drop, List.length_take]; rfl)) ?_
        with_reducible refine (head_number.calls (a0.extract 6 8) t106 _ A32.out).mono ?_
        rintro e w' ⟨rfl, ⟨nd, rfl⟩⟩
        refine ⟨_, rfl, ?_⟩
        refine hK.out _ _ trivial (fun hHeld => ?_)
        clear hK K
        refine norm_ (a' := ?_) ?_ ?_
        rotate_left
        · show Act.put _ (some 62) _ = _
          simp only [Act.put, List.setIfInBounds_toArray, List.set_cons_zero, List.set_cons_succ, i64_w, i32_w]
          rfl
        refine pure_ (i := 22) (N := some 63) (v := ?_) (a' := ?_) #[true, true, true, true, true, true, true, true, true, true, true, true, true, true, true, true, true, true, true, true, true, true, true, true, true, false, true, false] rfl rfl (any_of HT_.out (by kernel_rfl)) (fun _ _ _ h => h) (Or.inl ⟨by rfl, ?_⟩) ?_ ?_
        rotate_left
        · intro w'
          go_simp
          with_reducible rfl
        rotate_left
        · simp only [Act.put, List.setIfInBounds_toArray, List.set_cons_zero, List.set_cons_succ, i64_w, i32_w]
          rfl
        refine pure_ (i := 25) (N := some 66) (v := ?_) (a' := ?_) #[true, true, true, true, true, true, true, true, true, true, true, true, true, true, true, true, true, true, true, true, true, true, true, true, true, true, true, false] rfl rfl (any_of HT_.out (by kernel_rfl)) (fun _ _ _ h => h) (Or.inl ⟨by rfl, ?_⟩) ?_ ?_
        rotate_left
        · intro w'
          go_simp
          with_reducible rfl
        rotate_left
        · simp only [Act.put, List.setIfInBounds_toArray, List.set_cons_zero, List.set_cons_succ, i64_w, i32_w]
          rfl
        exact norm_ (by simp only [putAll, Act.put, List.setIfInBounds_toArray, List.set_cons_zero, List.set_cons_succ]) (hCont (gb107) _ ⟨(by (with_reducible repeat (first | refine blk_drewN ?_ _ | refine blk_drew ?_ | refine blk_alloc ?_ _)); exact BK101.out), (by (with_reducible repeat (first | refine blk_drewN ?_ _ | refine blk_drew ?_ | refine blk_alloc ?_ _)); exact BK107.out), GW107.out, GE107.out, NB101_107.out, NB107_101.out, (by repeat (first | (with_reducible first | exact HB.out | apply below_alloc | apply pw_below_drewN | apply below_drew1 | refine below_set ?_ GE101.out | refine below_set ?_ GE107.out) | exact HB.out))⟩)
    · skip
      refine box_step ?hg (N := 7) ?hd (cs := #[.int .i64 0, .int .i64 0, .int .i64 0, .int .i64 0, .int .i64 0, .int .i64 0, .int .i64 0, .bool false, .int .u64 0, .int .u64 0, .int .u32 0, .int .i64 0, .int .u8 0, .int .u8 0, .int .u8 0]) (t := 26) ?hr ?_; (case hd => rfl); (case hg => rfl); (case hr => first | (go_simp; done) | (go_simp; rfl))
      intro gb107 hg w36 hbox hb
      have n0_ := Aside0.mk (blk_below (g := gb101) (o := .cells #[.int .i64 0, .int .i64 0, .int .i64 0, .int .i64 0, .int .i64 0, .int .i64 0, .int .i64 0, .bool false, .int .u64 0, .int .u64 0, .int .u32 0, .int .i64 0, .int .u8 0, .int .u8 0, .int .u8 0] 26 (0, 0)) (by (with_reducible repeat (first | refine blk_drewN ?_ _ | refine blk_drew ?_ | refine blk_alloc ?_ _)); exact BK101.out) hb)
      have n1_ := Aside0.mk (below_step (by repeat (first | (with_reducible first | exact HB.out | apply below_alloc | apply pw_below_drewN | apply below_drew1 | refine below_set ?_ GE101.out) | exact HB.out)) hb)
      have n2_ := Aside0.mk (hbox)
      have n3_ := Aside0.mk ((by rw [hg]; exact (below_size (by repeat (first | (with_reducible first | exact HB.out | apply below_alloc | apply pw_below_drewN | apply below_drew1 | refine below_set ?_ GE101.out) | exact HB.out))) : w.heap.size ≤ gb107))
      have n4_ := Aside0.mk ((by rw [hg]; exact (below_size (by repeat (first | (with_reducible first | exact HB.out | apply below_alloc | apply pw_below_drewN | apply below_drew1 | refine below_set ?_ GE101.out) | exact HB.out))) : w.heap.size ≤ gb107))
      have n5_ := Aside0.mk ((by rw [hg]; exact Nat.ne_of_lt (blk_lt (g := gb101) (o := .cells #[.int .i64 0, .int .i64 0, .int .i64 0, .int .i64 0, .int .i64 0, .int .i64 0, .int .i64 0, .bool false, .int .u64 0, .int .u64 0, .int .u32 0, .int .i64 0, .int .u8 0, .int .u8 0, .int .u8 0] 26 (0, 0)) (by (with_reducible repeat (first | refine blk_drewN ?_ _ | refine blk_drew ?_ | refine blk_alloc ?_ _)); exact BK101.out)) : gb101 ≠ gb107))
      have n6_ := Aside0.mk ((by rw [hg]; exact Nat.ne_of_gt (blk_lt (g := gb101) (o := .cells #[.int .i64 0, .int .i64 0, .int .i64 0, .int .i64 0, .int .i64 0, .int .i64 0, .int .i64 0, .bool false, .int .u64 0, .int .u64 0, .int .u32 0, .int .i64 0, .int .u8 0, .int .u8 0, .int .u8 0] 26 (0, 0)) (by (with_reducible repeat (first | refine blk_drewN ?_ _ | refine blk_drew ?_ | refine blk_alloc ?_ _)); exact BK101.out)) : gb107 ≠ gb101))
      clear BK101
      clear HB
      have BK101 := n0_
      have HB := n1_
      have BK107 := n2_
      have GW107 := n3_
      have GE107 := n4_
      have NB101_107 := n5_
      have NB107_101 := n6_
      clear n0_ n1_ n2_ n3_ n4_ n5_ n6_
      clear hb hbox hg
      refine hK.out _ _ trivial (fun hHeld => ?_)
      clear hK K
      refine norm_ (a' := ?_) ?_ ?_
      rotate_left
      · show Act.put _ (some 7) _ = _
        simp only [Act.put, List.setIfInBounds_toArray, List.set_cons_zero, List.set_cons_succ, i64_w, i32_w]
        rfl
      refine one_ (i := 2) (N := some 43) #[true, true, true, false, true, true, false, false, true, true, true, true, true, true, true, true, true, true, true, true, true, false, false, true, true, false, true, false] rfl rfl (one_of HT_.out (by kernel_rfl)) (by decide) (fun K hK => ?_)
      refine goes_ Tryz.func83 (by kernel_rfl) rfl #[.string (a0.extract 0 2)] (by rfl) rfl rfl (by (try simp only [List.map_toArray, List.map_cons, List.map_nil]); first | done | rfl | (simp only [List.length_drop, List.length_take]; rfl)) ?_
      with_reducible refine (head_number.calls (a0.extract 0 2) t104 _ A21.out).mono ?_
      rintro e w' ⟨rfl, ⟨nd, rfl⟩⟩
      refine ⟨_, rfl, ?_⟩
      refine hK.out _ _ trivial (fun hHeld => ?_)
      clear hK K
      refine norm_ (a' := ?_) ?_ ?_
      rotate_left
      · show Act.put _ (some 43) _ = _
        simp only [Act.put, List.setIfInBounds_toArray, List.set_cons_zero, List.set_cons_succ, i64_w, i32_w]
        rfl
      refine pure_ (i := 3) (N := some 44) (v := ?_) (a' := ?_) #[true, true, true, true, true, true, false, false, true, true, true, true, true, true, true, true, true, true, true, true, true, false, false, true, true, false, true, false] rfl rfl (any_of HT_.out (by kernel_rfl)) (fun _ _ _ h => h) (Or.inl ⟨by rfl, ?_⟩) ?_ ?_
      rotate_left
      · intro w'
        go_simp
        with_reducible rfl
      rotate_left
      · simp only [Act.put, List.setIfInBounds_toArray, List.set_cons_zero, List.set_cons_succ, i64_w, i32_w]
        rfl
      refine one_ (i := 6) (N := some 47) #[true, true, true, true, true, true, true, false, true, true, true, true, true, true, true, true, true, true, true, true, true, false, false, true, true, false, true, false] rfl rfl (one_of HT_.out (by kernel_rfl)) (by decide) (fun K hK => ?_)
      refine goes_ Tryz.func83 (by kernel_rfl) rfl #[.string (a0.extract 2 4)] (by rfl) rfl rfl (by (try simp only [List.map_toArray, List.map_cons, List.map_nil]); first | done | rfl | (simp only [List.length_drop, List.length_take]; rfl)) ?_
      with_reducible refine (head_number.calls (a0.extract 2 4) t105 _ A24.out).mono ?_
      rintro e w' ⟨rfl, ⟨nd, rfl⟩⟩
      refine ⟨_, rfl, ?_⟩
      refine hK.out _ _ trivial (fun hHeld => ?_)
      clear hK K
      refine norm_ (a' := ?_) ?_ ?_
      rotate_left
      · show Act.put _ (some 47) _ = _
        simp only [Act.put, List.setIfInBounds_toArray, List.set_cons_zero, List.set_cons_succ, i64_w, i32_w]
        rfl
      refine pure_ (i := 7) (N := some 48) (v := ?_) (a' := ?_) #[true, true, true, true, true, true, true, true, true, true, true, true, true, true, true, true, true, true, true, true, true, false, false, true, true, false, true, false] rfl rfl (any_of HT_.out (by kernel_rfl)) (fun _ _ _ h => h) (Or.inl ⟨by rfl, ?_⟩) ?_ ?_
      rotate_left
      · intro w'
        go_simp
        with_reducible rfl
      rotate_left
      · simp only [Act.put, List.setIfInBounds_toArray, List.set_cons_zero, List.set_cons_succ, i64_w, i32_w]
        rfl
      refine one_ (i := 21) (N := some 62) #[true, true, true, true, true, true, true, true, true, true, true, true, true, true, true, true, true, true, true, true, true, true, false, true, true, false, true, false] rfl rfl (one_of HT_.out (by kernel_rfl)) (by decide) (fun K hK => ?_)
      refine goes_ Tryz.func83 (by kernel_rfl) rfl #[.string (a0.extract 6 8)] (by rfl) rfl rfl (by (try simp only [List.map_toArray, List.map_cons, List.map_nil]); first | done | rfl | (simp only [List.length_drop, List.length_take]; rfl)) ?_
      with_reducible refine (head_number.calls (a0.extract 6 8) t106 _ A32.out).mono ?_
      rintro e w' ⟨rfl, ⟨nd, rfl⟩⟩
      refine ⟨_, rfl, ?_⟩
      refine hK.out _ _ trivial (fun hHeld => ?_)
      clear hK K
      refine norm_ (a' := ?_) ?_ ?_
      rotate_left
      · show Act.put _ (some 62) _ = _
        simp only [Act.put, List.setIfInBounds_toArray, List.set_cons_zero, List.set_cons_succ, i64_w, i32_w]
        rfl
      refine pure_ (i := 22) (N := some 63) (v := ?_) (a' := ?_) #[true, true, true, true, true, true, true, true, true, true, true, true, true, true, true, true, true, true, true, true, true, true, true, true, true, false, true, false] rfl rfl (any_of HT_.out (by kernel_rfl)) (fun _ _ _ h => h) (Or.inl ⟨by rfl, ?_⟩) ?_ ?_
      rotate_left
      · intro w'
        go_simp
        with_reducible rfl
      rotate_left
      · simp only [Act.put, List.setIfInBounds_toArray, List.set_cons_zero, List.set_cons_succ, i64_w, i32_w]
        rfl
      refine pure_ (i := 25) (N := some 66) (v := ?_) (a' := ?_) #[true, true, true, true, true, true, true, true, true, true, true, true, true, true, true, true, true, true, true, true, true, true, true, true, true, true, true, false] rfl rfl (any_of HT_.out (by kernel_rfl)) (fun _ _ _ h => h) (Or.inl ⟨by rfl, ?_⟩) ?_ ?_
      rotate_left
      · intro w'
        go_simp
        with_reducible rfl
      rotate_left
      · simp only [Act.put, List.setIfInBounds_toArray, List.set_cons_zero, List.set_cons_succ, i64_w, i32_w]
        rfl
      exact norm_ (by simp only [putAll, Act.put, List.setIfInBounds_toArray, List.set_cons_zero, List.set_cons_succ]) (hCont (gb107) _ ⟨(by (with_reducible repeat (first | refine blk_drewN ?_ _ | refine blk_drew ?_ | refine blk_alloc ?_ _)); exact BK101.out), (by (with_reducible repeat (first | refine blk_drewN ?_ _ | refine blk_drew ?_ | refine blk_alloc ?_ _)); exact BK107.out), GW107.out, GE107.out, NB101_107.out, NB107_101.out, (by repeat (first | (with_reducible first | exact HB.out | apply below_alloc | apply pw_below_drewN | apply below_drew1 | refine below_set ?_ GE101.out | refine below_set ?_ GE107.out) | exact HB.out))⟩)
  rintro gb107 w37 ⟨h0_, h1_, h2_, h3_, h4_, h5_, h6_⟩
  have n0_ : Aside0 (w37.heap[gb101]? = some (.cells #[.int .i64 0, .int .i64 0, .int .i64 0, .int .i64 0, .int .i64 0, .int .i64 0, .int .i64 0, .bool false, .int .u64 0, .int .u64 0, .int .u32 0, .int .i64 0, .int .u8 0, .int .u8 0, .int .u8 0] 26 (0, 0))) := ⟨h0_⟩
  have n1_ : Aside0 (w37.heap[gb107]? = some (.cells #[.int .i64 0, .int .i64 0, .int .i64 0, .int .i64 0, .int .i64 0, .int .i64 0, .int .i64 0, .bool false, .int .u64 0, .int .u64 0, .int .u32 0, .int .i64 0, .int .u8 0, .int .u8 0, .int .u8 0] 26 (0, 0))) := ⟨h1_⟩
  have n2_ : Aside0 (w.heap.size ≤ gb107) := ⟨h2_⟩
  have n3_ : Aside0 (w.heap.size ≤ gb107) := ⟨h3_⟩
  have n4_ : Aside0 (gb101 ≠ gb107) := ⟨h4_⟩
  have n5_ : Aside0 (gb107 ≠ gb101) := ⟨h5_⟩
  have n6_ : Aside0 (Below w.heap.size w w37) := ⟨h6_⟩
  clear BK101
  clear HB
  clear h0_ h1_ h2_ h3_ h4_ h5_ h6_
  have BK101 := n0_
  have BK107 := n1_
  have GW107 := n2_
  have GE107 := n3_
  have NB101_107 := n4_
  have NB107_101 := n5_
  have HB := n6_
  clear n0_ n1_ n2_ n3_ n4_ n5_ n6_
  have hHeld := trivial
  refine norm_ (a' := ?_) ?_ ?_
  rotate_left
  · simp only [putAll, Act.put, List.setIfInBounds_toArray, List.set_cons_zero, List.set_cons_succ]
    rfl
  refine one_ (i := 27) (N := none) #[true, true, true, true, true, true, true, true, true, true, true, true, true, true, true, true, true, true, true, true, true, true, true, true, true, true, true, true] rfl rfl (one_of HT_.out (by kernel_rfl)) (by decide) (fun K hK => ?_)
  have hs38 : w37.cell? ⟨gb107, 0, none⟩ = some (.int .i64 0) := (blk_cell BK107.out 0).trans rfl
  have hfs38 := blk_frozen BK107.out 0
  have hns38_0 := NB101_107.out
  have hms38_0 := NB107_101.out
  have hs39 : w37.cell? ⟨gb107, 1, none⟩ = some (.int .i64 0) := (blk_cell BK107.out 1).trans rfl
  have hfs39 := blk_frozen BK107.out 1
  have hns39_0 := NB101_107.out
  have hms39_0 := NB107_101.out
  have hs40 : w37.cell? ⟨gb107, 2, none⟩ = some (.int .i64 0) := (blk_cell BK107.out 2).trans rfl
  have hfs40 := blk_frozen BK107.out 2
  have hns40_0 := NB101_107.out
  have hms40_0 := NB107_101.out
  have hs41 : w37.cell? ⟨gb107, 3, none⟩ = some (.int .i64 0) := (blk_cell BK107.out 3).trans rfl
  have hfs41 := blk_frozen BK107.out 3
  have hns41_0 := NB101_107.out
  have hms41_0 := NB107_101.out
  have hs42 : w37.cell? ⟨gb107, 4, none⟩ = some (.int .i64 0) := (blk_cell BK107.out 4).trans rfl
  have hfs42 := blk_frozen BK107.out 4
  have hns42_0 := NB101_107.out
  have hms42_0 := NB107_101.out
  have hs43 : w37.cell? ⟨gb107, 5, none⟩ = some (.int .i64 0) := (blk_cell BK107.out 5).trans rfl
  have hfs43 := blk_frozen BK107.out 5
  have hns43_0 := NB101_107.out
  have hms43_0 := NB107_101.out
  have hs44 : w37.cell? ⟨gb107, 6, none⟩ = some (.int .i64 0) := (blk_cell BK107.out 6).trans rfl
  have hfs44 := blk_frozen BK107.out 6
  have hns44_0 := NB101_107.out
  have hms44_0 := NB107_101.out
  have hs45 : w37.cell? ⟨gb107, 7, none⟩ = some (.bool false) := (blk_cell BK107.out 7).trans rfl
  have hfs45 := blk_frozen BK107.out 7
  have hns45_0 := NB101_107.out
  have hms45_0 := NB107_101.out
  have hs46 : w37.cell? ⟨gb107, 8, none⟩ = some (.int .u64 0) := (blk_cell BK107.out 8).trans rfl
  have hfs46 := blk_frozen BK107.out 8
  have hns46_0 := NB101_107.out
  have hms46_0 := NB107_101.out
  have hs47 : w37.cell? ⟨gb107, 9, none⟩ = some (.int .u64 0) := (blk_cell BK107.out 9).trans rfl
  have hfs47 := blk_frozen BK107.out 9
  have hns47_0 := NB101_107.out
  have hms47_0 := NB107_101.out
  have hs48 : w37.cell? ⟨gb107, 10, none⟩ = some (.int .u32 0) := (blk_cell BK107.out 10).trans rfl
  have hfs48 := blk_frozen BK107.out 10
  have hns48_0 := NB101_107.out
  have hms48_0 := NB107_101.out
  have hs49 : w37.cell? ⟨gb107, 11, none⟩ = some (.int .i64 0) := (blk_cell BK107.out 11).trans rfl
  have hfs49 := blk_frozen BK107.out 11
  have hns49_0 := NB101_107.out
  have hms49_0 := NB107_101.out
  have hs50 : w37.cell? ⟨gb107, 12, none⟩ = some (.int .u8 0) := (blk_cell BK107.out 12).trans rfl
  have hfs50 := blk_frozen BK107.out 12
  have hns50_0 := NB101_107.out
  have hms50_0 := NB107_101.out
  have hs51 : w37.cell? ⟨gb107, 13, none⟩ = some (.int .u8 0) := (blk_cell BK107.out 13).trans rfl
  have hfs51 := blk_frozen BK107.out 13
  have hns51_0 := NB101_107.out
  have hms51_0 := NB107_101.out
  have hs52 : w37.cell? ⟨gb107, 14, none⟩ = some (.int .u8 0) := (blk_cell BK107.out 14).trans rfl
  have hfs52 := blk_frozen BK107.out 14
  have hns52_0 := NB101_107.out
  have hms52_0 := NB107_101.out
  refine skip_ (w1 := ?_) (by rfl) rfl ?_ ?_
  rotate_left
  · go_simp
    rfl
  refine hK.out _ _ trivial (fun hHeld => ?_)
  clear hK K
  refine done_ (done_of HT_.out (by kernel_rfl)) ?_
  clear c2b0 c2b1 c5b0 c5b1 c11b0 c11b1 c15b0 c19b0 c19b1 c20b0 c20b1 c22b0 c22b1 c23b0 c23b1 c25b0 c25b1 c27b0 c27b1 c30b0 c30b1 c31b0 c31b1 A8 A9 A21 A24 A32
  have o1 := (bt_range a0 4).1
  have o2 := (bt_range a0 4).2
  have n1 : 0 ≤ t102 := by have := HN.out; omega
  have n2 : t102 ≤ 28 := by have := HN.out; omega
  go_upto_region 12 with (fail)
  go_cut [4, 5, 6, 7, 79] (fun v4 v5 v6 v7 v79 wc => v4 = .int .i64 t ∧ v5 = .bool x ∧ v6 = .int .i64 n ∧ v7 = .pointer (some ⟨gb107, 0, none⟩) ∧ v79 = .bool bad ∧ Blk wc gb107 (hcells (numAt a0 0 2) (numAt a0 2 4) (byteAt a0 4) (byteAt a0 5 / 16) (byteAt a0 5 % 16) (numAt a0 6 8) t x 0 0 0 0 0 0 0) 26 ∧ Blk wc gb101 Z 26 ∧ Below w.heap.size w wc)
  case first =>
    have b7 := fill BK107.out (.int .i64 (wrap64 t104)) (.int .i64 (wrap64 t105)) (.int .i64 (wrap64 (bt a0 4))) (.int .i64 (wrap64 (bt a0 5 / 16))) (.int .i64 (wrap64 (bits BinOp.and IntKind.u8 (bt a0 5) 15))) (.int .i64 (wrap64 t106)) (.int .i64 (wrap64 (bits BinOp.and IntKind.u8 (bt a0 8 / 2) 15))) (.bool (bits BinOp.and IntKind.u8 (bt a0 8) 1 == 1)) (.int .u64 0) (.int .u64 0) (.int .u32 0) (.int .i64 0) (.int .u8 0) (.int .u8 0) (.int .u8 0)
    have b1 := far15 BK101.out NB101_107.out (.int .i64 (wrap64 t104)) (.int .i64 (wrap64 t105)) (.int .i64 (wrap64 (bt a0 4))) (.int .i64 (wrap64 (bt a0 5 / 16))) (.int .i64 (wrap64 (bits BinOp.and IntKind.u8 (bt a0 5) 15))) (.int .i64 (wrap64 t106)) (.int .i64 (wrap64 (bits BinOp.and IntKind.u8 (bt a0 8 / 2) 15))) (.bool (bits BinOp.and IntKind.u8 (bt a0 8) 1 == 1)) (.int .u64 0) (.int .u64 0) (.int .u32 0) (.int .i64 0) (.int .u8 0) (.int .u8 0) (.int .u8 0)
    have hb := below15 HB.out GE107.out (.int .i64 (wrap64 t104)) (.int .i64 (wrap64 t105)) (.int .i64 (wrap64 (bt a0 4))) (.int .i64 (wrap64 (bt a0 5 / 16))) (.int .i64 (wrap64 (bits BinOp.and IntKind.u8 (bt a0 5) 15))) (.int .i64 (wrap64 t106)) (.int .i64 (wrap64 (bits BinOp.and IntKind.u8 (bt a0 8 / 2) 15))) (.bool (bits BinOp.and IntKind.u8 (bt a0 8) 1 == 1)) (.int .u64 0) (.int .u64 0) (.int .u32 0) (.int .i64 0) (.int .u8 0) (.int .u8 0) (.int .u8 0)
    have B7 := Aside0.mk b7
    have B1 := Aside0.mk b1
    have HBB := Aside0.mk hb
    clear b7 b1 hb
    go_wp2_with fail
    all_goals
      go_meet
      have q := V.out
      have l1 := numAt_lt a0 0 2
      have l2 := numAt_lt a0 2 4
      have l3 := numAt_lt a0 6 8
      have e4 : bt a0 4 = ((byteAt a0 4 : Nat) : Int) := bt_byte a0 4 (by omega)
      have e5 : bt a0 5 = ((byteAt a0 5 : Nat) : Int) := bt_byte a0 5 (by omega)
      have w4 : wrap64 (bt a0 4) = bt a0 4 := by rw [wrap64_eq']; omega
      refine ⟨by rw [TX.out.1], by rw [TX.out.2], by rw [HN.out], rfl, ?_, ?_, B1.out, HBB.out⟩
      · rw [← HB0.out]
        have w5 : wrap64 (4 * bt a0 4) = 4 * bt a0 4 := by rw [wrap64_eq']; omega
        rw [HN.out] at *
        first | (rw [w4, w5]; done) | (congr 1; rw [eq_comm, Bool.or_eq_true, decide_eq_true_eq]; left; omega)
      · have hc : hcells (numAt a0 0 2) (numAt a0 2 4) (byteAt a0 4) (byteAt a0 5 / 16) (byteAt a0 5 % 16) (numAt a0 6 8) t x 0 0 0 0 0 0 0 = #[.int .i64 (wrap64 t104), .int .i64 (wrap64 t105), .int .i64 (wrap64 (bt a0 4)), .int .i64 (wrap64 (bt a0 5 / 16)), .int .i64 (wrap64 (bits BinOp.and IntKind.u8 (bt a0 5) 15)), .int .i64 (wrap64 t106), .int .i64 (wrap64 (bits BinOp.and IntKind.u8 (bt a0 8 / 2) 15)), .bool (bits BinOp.and IntKind.u8 (bt a0 8) 1 == 1), .int .u64 0, .int .u64 0, .int .u32 0, .int .i64 0, .int .u8 0, .int .u8 0, .int .u8 0] := by
          rw [TX.out.1, TX.out.2, w4, e4, e5, and_15' _ (byteAt_lt _ _), q.1, q.2.1, q.2.2]
          have b5 := byteAt_lt a0 5
          rw [show wrap64 ((numAt a0 0 2 : Nat) : Int) = ((numAt a0 0 2 : Nat) : Int) from by rw [wrap64_eq']; omega, show wrap64 ((numAt a0 2 4 : Nat) : Int) = ((numAt a0 2 4 : Nat) : Int) from by rw [wrap64_eq']; omega, show wrap64 ((numAt a0 6 8 : Nat) : Int) = ((numAt a0 6 8 : Nat) : Int) from by rw [wrap64_eq']; omega, show wrap64 (((byteAt a0 5 : Nat) : Int) / 16) = ((byteAt a0 5 / 16 : Nat) : Int) from by rw [wrap64_eq']; omega, show wrap64 ((byteAt a0 5 % 16 : Nat) : Int) = ((byteAt a0 5 % 16 : Nat) : Int) from by rw [wrap64_eq']; omega]
          rfl
        rw [hc]; exact B7.out
  case rest =>
    obtain ⟨rfl, rfl, rfl, rfl, rfl, b7, b1, hb⟩ := hcut
    clear V TX HN n1 n2 HB BK101 BK107 q26 q28 q29 qi26 qi28 qi29 hx26 hx28 hx29
    have nums := nums_at a0
    cases bad
    · have Hf := cell_facts b7
      have f8 := Hf.1
      have r8 := b7.frozen 8
      have B7 := Aside0.mk b7
      have B1 := Aside0.mk b1
      have N4 := nums 9 12 (by omega)
      have HB := Aside0.mk hb
      clear b7 b1 Hf hb
      have j12 : (12 : Int) ≤ a0.size := by omega
      go_upto_if 85 with (first | (go_at_call 83; (with_reducible refine (N4.out _).mono ?_); rintro e w' ⟨rfl, rfl⟩))
      go_cut [8] (fun v8 wx => v8 = .int .i64 (ackAt x : Nat) ∧ Blk wx gb107 (hcells (numAt a0 0 2) (numAt a0 2 4) (byteAt a0 4) (byteAt a0 5 / 16) (byteAt a0 5 % 16) (numAt a0 6 8) t x (if x then numAt a0 10 16 else numAt a0 9 12) 0 0 0 0 0 0) 26 ∧ Blk wx gb101 Z 26 ∧ Below w.heap.size w wx)
      case first =>
        cases x
        · go_wp2_with fail
          go_meet
          simp only [Bool.false_eq_true, if_false, ite_false]
          refine ⟨rfl, ?_, ?_, ?_⟩
          · exact B7.out.set 8 (.int .u64 (numAt a0 9 12 : Nat)) rfl
          · exact B1.out.far (p := ⟨gb107, 8, none⟩) NB101_107.out _
          · exact HB.out.setCell (p := ⟨gb107, 8, none⟩) GE107.out _
        · have N5 := nums 10 16 (by omega)
          have S5 := seq_at (numAt a0 10 16) (numAt_lt a0 10 16)
          have j16 : (16 : Int) ≤ a0.size := by have : ackAt true = 16 := rfl; omega
          go_wp2_with (first | (go_at_call 83; (with_reducible refine (N5.out _).mono ?_); rintro e w' ⟨rfl, rfl⟩) | (go_at_call 74; (with_reducible refine (S5.out _).mono ?_); rintro e w' ⟨rfl, rfl⟩))
          go_meet
          simp only [if_true, ite_true]
          refine ⟨rfl, ?_, ?_, ?_⟩
          · exact (B7.out.set 8 (.int .u64 (numAt a0 9 12 : Nat)) rfl).set 8 (.int .u64 (numAt a0 10 16 : Nat)) rfl
          · exact (B1.out.far (p := ⟨gb107, 8, none⟩) NB101_107.out _).far (p := ⟨gb107, 8, none⟩) NB101_107.out _
          · exact (HB.out.setCell (p := ⟨gb107, 8, none⟩) GE107.out _).setCell (p := ⟨gb107, 8, none⟩) GE107.out _
      case rest =>
        obtain ⟨rfl, b7, b1, hb⟩ := hcut
        clear f8 r8 B7 B1 N4 HB
        generalize hsq : (if x = true then numAt a0 10 16 else numAt a0 9 12) = sq at b7
        have HSQ := Aside0.mk hsq
        clear hsq
        have Hf := cell_facts b7
        have f9 := Hf.2.1
        have r9 := b7.frozen 9
        have B7 := Aside0.mk b7
        have B1 := Aside0.mk b1
        have HB := Aside0.mk hb
        have HA : Aside0 (∀ W, Calls Tryz.prog 77 #[.int .i64 t] W fun e w' => e = .returned (.bool (ackB t)) ∧ W = w') := ⟨head_HasAck t⟩
        clear b7 b1 Hf hb
        go_upto_if 92 with (first | (go_at_call 77; (with_reducible refine (HA.out _).mono ?_); rintro e w' ⟨rfl, rfl⟩))
        go_cut [8] (fun v8 wx => v8 = .int .i64 (moreAt t x : Nat) ∧ Blk wx gb107 (hcells (numAt a0 0 2) (numAt a0 2 4) (byteAt a0 4) (byteAt a0 5 / 16) (byteAt a0 5 % 16) (numAt a0 6 8) t x sq (if ackB t then (if x then numAt a0 17 24 % 281474976710656 else numAt a0 13 16) else 0) 0 0 0 0 0) 26 ∧ Blk wx gb101 Z 26 ∧ Below w.heap.size w wx)
        case first =>
          rcases hA : ackB (t : Int) with _ | _
          · have M4 := Aside0.mk (show moreAt t x = ackAt x by unfold moreAt; rw [hA]; rfl)
            go_wp2_with fail
            go_meet
            simp only [hA, Bool.false_eq_true, if_false, ite_false]
            exact ⟨by rw [M4.out], B7.out, B1.out, HB.out⟩
          · have M3 : moreAt t x = if x then 24 else 16 := by unfold moreAt; rw [hA]; rfl
            have M4 := Aside0.mk M3
            cases x
            · have N5 := nums 13 16 (by omega)
              have j16 : (16 : Int) ≤ a0.size := by have : moreAt t false = 16 := M3; omega
              clear M3
              have hat : ackAt false = 12 := rfl
              rw [hat]
              clear hat
              go_wp2_with (first | (go_at_call 83; (with_reducible refine (N5.out _).mono ?_); rintro e w' ⟨rfl, rfl⟩))
              go_meet
              simp only [hA, Bool.false_eq_true, if_false, ite_false, if_true, ite_true]
              refine ⟨by rw [M4.out]; rfl, ?_, ?_, ?_⟩
              · exact B7.out.set 9 (.int .u64 (numAt a0 13 16 : Nat)) rfl
              · exact B1.out.far (p := ⟨gb107, 9, none⟩) NB101_107.out _
              · exact HB.out.setCell (p := ⟨gb107, 9, none⟩) GE107.out _
            · have N5 := nums 17 24 (by omega)
              have S5 := seq_mod (numAt a0 17 24) (numAt_lt a0 17 24)
              have j24 : (24 : Int) ≤ a0.size := by have : moreAt t true = 24 := M3; omega
              clear M3
              have hat : ackAt true = 16 := rfl
              rw [hat]
              clear hat
              go_wp2_with (first | (go_at_call 83; (with_reducible refine (N5.out _).mono ?_); rintro e w' ⟨rfl, rfl⟩) | (go_at_call 74; (with_reducible refine (S5.out _).mono ?_); rintro e w' ⟨rfl, rfl⟩))
              go_meet
              simp only [hA, if_true, ite_true]
              refine ⟨by rw [M4.out]; rfl, ?_, ?_, ?_⟩
              · exact (B7.out.set 9 (.int .u64 (numAt a0 17 24 : Nat)) rfl).set 9 (.int .u64 (numAt a0 17 24 % 281474976710656 : Nat)) rfl
              · exact (B1.out.far (p := ⟨gb107, 9, none⟩) NB101_107.out _).far (p := ⟨gb107, 9, none⟩) NB101_107.out _
              · exact (HB.out.setCell (p := ⟨gb107, 9, none⟩) GE107.out _).setCell (p := ⟨gb107, 9, none⟩) GE107.out _
        case rest =>
          obtain ⟨rfl, b7, b1, hb⟩ := hcut
          clear f9 r9 B7 B1 HA HB
          generalize hak : (if ackB (t : Int) = true then (if x = true then numAt a0 17 24 % 281474976710656 else numAt a0 13 16) else 0) = ak at b7
          have HAK := Aside0.mk hak
          clear hak
          have Hf := cell_facts b7
          have f10 := Hf.2.2.1
          have r10 := b7.frozen 10
          have B7 := Aside0.mk b7
          have B1 := Aside0.mk b1
          have HB := Aside0.mk hb
          have HA : Aside0 (∀ W, Calls Tryz.prog 78 #[.int .i64 t] W fun e w' => e = .returned (.bool (servB t)) ∧ W = w') := ⟨head_service t⟩
          clear b7 b1 Hf hb
          obtain ⟨m, hm⟩ : ∃ m, moreAt t x = m := ⟨_, rfl⟩
          have HM := Aside0.mk hm
          rw [hm]
          clear hm
          go_upto_if 112 with (first | (go_at_call 78; (with_reducible refine (HA.out _).mono ?_); rintro e w' ⟨rfl, rfl⟩))
          go_cut [] (fun wx => Blk wx gb107 (hcells (numAt a0 0 2) (numAt a0 2 4) (byteAt a0 4) (byteAt a0 5 / 16) (byteAt a0 5 % 16) (numAt a0 6 8) t x sq ak (if servB t then numAt a0 m (m + 4) else 0) 0 0 0 0) 26 ∧ Blk wx gb101 Z 26 ∧ Below w.heap.size w wx)
          case first =>
            rcases hA : servB (t : Int) with _ | _
            · go_wp2_with fail
              go_meet
              simp only [hA, Bool.false_eq_true, if_false, ite_false]
              exact ⟨B7.out, B1.out, HB.out⟩
            · have M4 : m + 4 ≤ n := by have := M2.out (.inl hA); have := HM.out; omega
              have N5 := nums m (m + 4) (by omega)
              have j4 : (m : Int) + 4 ≤ a0.size := by omega
              have l4 : numAt a0 m (m + 4) < 4294967296 := by have h := numAt_lt a0 m (m + 4); rw [show m + 4 - m = 4 from by omega] at h; exact h
              go_wp2_with (first | (go_at_call 83; (with_reducible refine (N5.out _).mono ?_); rintro e w' ⟨rfl, rfl⟩))
              go_meet
              simp only [hA, if_true, ite_true]
              refine ⟨?_, ?_, ?_⟩
              · exact B7.out.set 10 (.int .u32 (numAt a0 m (m + 4) : Nat)) rfl
              · exact B1.out.far (p := ⟨gb107, 10, none⟩) NB101_107.out _
              · exact HB.out.setCell (p := ⟨gb107, 10, none⟩) GE107.out _
          case rest =>
            obtain ⟨b7, b1, hb⟩ := hcut
            have B1 := Aside0.mk b1
            have HBx := Aside0.mk hb
            clear f10 r10 B7 HA HB b1 hb nums
            generalize hsv : (if servB (t : Int) = true then numAt a0 m (m + 4) else 0) = sv at b7
            have HSV := Aside0.mk hsv
            clear hsv
            by_cases h7 : t = 7
            · subst h7
              have M4 : m + 4 ≤ n := by have := M2.out (.inr rfl); have := HM.out; omega
              have j0 : (m : Int) < a0.size := by omega
              have j4 : (m : Int) + 4 ≤ a0.size := by omega
              have Hf := cell_facts b7
              have f11 := Hf.2.2.2.1
              have r11 := b7.frozen 11
              have B7 := Aside0.mk b7
              clear b7 Hf
              have em : (a0[m]'(by omega)).toNat = byteAt a0 m := byteAt_get a0 m (by omega)
              have EM := Aside0.mk em
              clear em
              have jA : (m : Int) + 1 ≤ (m : Int) + 4 := by omega
              have LX := ext3 a0 m (by omega)
              have SZ : (a0.extract (m + 1) (m + 4)).size = 3 := by rw [ByteArray.size_extract]; omega
              have SZ' := Aside0.mk SZ
              clear SZ
              have b7x : Blk (wc.setCell ⟨gb107, 11, none⟩ (.int .i64 (wrap64 ((a0[m]'(by omega)).toNat : Int)))) gb107 (hcells (numAt a0 0 2) (numAt a0 2 4) (byteAt a0 4) (byteAt a0 5 / 16) (byteAt a0 5 % 16) (numAt a0 6 8) 7 x sq ak sv (byteAt a0 m) 0 0 0) 26 := by
                rw [EM.out, show wrap64 ((byteAt a0 m : Nat) : Int) = ((byteAt a0 m : Nat) : Int) from by have := byteAt_lt a0 m; rw [wrap64_eq']; omega]
                exact B7.out.set 11 (.int .i64 (byteAt a0 m : Nat)) rfl
              have b1x := B1.out.far (p := ⟨gb107, 11, none⟩) NB101_107.out (.int .i64 (wrap64 ((a0[m]'(by omega)).toNat : Int)))
              have hbx := HBx.out.setCell (p := ⟨gb107, 11, none⟩) GE107.out (.int .i64 (wrap64 ((a0[m]'(by omega)).toNat : Int)))
              have X7 := Aside0.mk b7x
              have X1 := Aside0.mk b1x
              have XB := Aside0.mk hbx
              clear b7x b1x hbx
              have y1 : IntKind.i64.wrap ((m : Int) + 1) = (m : Int) + 1 := by rw [IntKind.wrap_i64]; omega
              have y2 : IntKind.i64.wrap ((m : Int) + 4) = (m : Int) + 4 := by rw [IntKind.wrap_i64]; omega
              have y3 : (0 : Int) ≤ (m : Int) + 1 := by omega
              have y4 : (0 : Int) ≤ (m : Int) + 4 := by omega
              have y5 : ((m : Int) + 1).toNat = m + 1 := by omega
              have y6 : ((m : Int) + 4).toNat = m + 4 := by omega
              obtain ⟨w9, hrun, y7, y1, yb⟩ := reset_all X7.out X1.out XB.out NB101_107.out GE107.out (a0.extract (m + 1) (m + 4)) (byteAt a0 (m + 1)) (byteAt a0 (m + 2)) (byteAt a0 (m + 3)) SZ'.out LX.out
              have Y7 := Aside0.mk y7
              have Y1 := Aside0.mk y1
              have YB := Aside0.mk yb
              have HR := Aside0.mk hrun
              clear y7 y1 yb hrun X7 X1 XB
              have hone := Aside0.mk (hcells_one (numAt a0 0 2) (numAt a0 2 4) (byteAt a0 4) (byteAt a0 5 / 16) (byteAt a0 5 % 16) (numAt a0 6 8) 7 x sq ak sv (byteAt a0 m) (byteAt a0 (m + 1)) (byteAt a0 (m + 2)) (byteAt a0 (m + 3)))
              go_wp2_with fail
              go_still_tail 8, (by kernel_rfl)
              change wpList _ _ _ _ _ ((wc.setCell ⟨gb107, 11, none⟩ (.int .i64 (wrap64 ((a0[m]'(by omega)).toNat : Int)))).drew)
              refine copy_str rfl (.tmp 129) (.tmp 135) rfl (.slice (some ⟨gb107, 12, none⟩) 3 3) (.string (a0.extract (m + 1) (m + 4))) rfl rfl _ _ HR.out rfl ?_
              go_wp2_with (first | (refine wpList_load_row rfl 26 _ rfl gb107 rfl 26 _ (0, 0) _ Y7.out hu rfl (by kernel_rfl) ?_) | (refine wpList_store_row rfl 26 _ _ rfl gb101 _ rfl rfl 26 Z Y1.out (by kernel_rfl) rfl hone.out ?_))
              refine ret_ct gb101 _ Y1.out.row rfl rfl (.int .i64 0) rfl ?_
              refine ⟨?_, below_row YB.out GE101.out _⟩
              have e := hd_eq a0 7 x m sq ak sv HSQ.out HAK.out (by rw [HM.out]; exact HSV.out)
              rw [HM.out] at e
              show _ = Ending.returned (.tuple #[(getHd a0 7 x).val, .int .i64 0])
              rw [e.2 rfl]
            · have h7' : ((t : Int) == 7) = false := by simpa using (show ¬ (t : Int) = 7 by omega)
              have B7 := Aside0.mk b7
              clear b7
              have hone := Aside0.mk (hcells_one (numAt a0 0 2) (numAt a0 2 4) (byteAt a0 4) (byteAt a0 5 / 16) (byteAt a0 5 % 16) (numAt a0 6 8) t x sq ak sv 0 0 0 0)
              go_wp2_with (first | (refine wpList_load_row rfl 26 _ rfl gb107 rfl 26 _ (0, 0) _ B7.out hu rfl (by kernel_rfl) ?_) | (refine wpList_store_row rfl 26 _ _ rfl gb101 _ rfl rfl 26 Z B1.out (by kernel_rfl) rfl hone.out ?_))
              refine ret_ct gb101 _ B1.out.row rfl rfl (.int .i64 0) rfl ?_
              refine ⟨?_, below_row HBx.out GE101.out _⟩
              have e := hd_eq a0 t x m sq ak sv HSQ.out HAK.out (by rw [HM.out]; exact HSV.out)
              show _ = Ending.returned (.tuple #[(getHd a0 t x).val, .int .i64 0])
              rw [e.1 h7]
    · clear b7
      have B1 := Aside0.mk b1
      clear b1
      go_wp2_with (refine wpList_store_row rfl 26 _ _ rfl gb101 Z rfl rfl 26 Z B1.out (by kernel_rfl) rfl Z_one ?_)
      refine ret_ct gb101 Z ?_ rfl rfl (.int .i64 4) rfl ?_
      · exact B1.out.row
      · rw [cond_true, cond_true, hd0_val]
        exact ⟨rfl, below_row hb GE101.out _⟩
end Go.Proofs.YtjlnbahanghhcaaGreatDoor.HG

/- The contract of head.Get: what it answers of any bytes. -/
namespace Go.Proofs.YtjlnbahanghhcaaGreatDoor
open Go.RowKit
set_option linter.unusedVariables false

theorem head_Get (b : ByteArray) (hs : b.size ≤ 9223372036854775807) (w : World) :
    Calls Tryz.prog 51 #[.string b] w fun e w' => e = .returned (.tuple #[(getH b).1.val, .int .i64 (getH b).2]) ∧ Below w.heap.size w w' := by
  unfold getH
  by_cases h12 : b.size < 12
  · rw [if_pos h12]; exact head_Get_short b hs h12 w
  · rw [if_neg h12]
    have hs0 := sizeB_le (getT b) (getX b)
    obtain ⟨n, hn⟩ : ∃ n : Nat, sizeB (getT b) (getX b) = n := ⟨(sizeB (getT b) (getX b)).toNat, by omega⟩
    rcases hi : isB (getT b) with _ | _
    · rw [if_pos rfl]; exact head_Get_errs b hs (by omega) _ n _ rfl rfl hn 2 (.inl ⟨hi, rfl⟩) w
    · rw [if_neg (by simp), hn]
      by_cases h0 : n = 0
      · rw [if_pos (by omega)]; exact head_Get_errs b hs (by omega) _ n _ rfl rfl hn 3 (.inr (.inl ⟨hi, h0, rfl⟩)) w
      · rw [if_neg (by omega)]
        by_cases h1 : b.size < n
        · rw [if_pos (by omega)]; exact head_Get_errs b hs (by omega) _ n _ rfl rfl hn 1 (.inr (.inr ⟨hi, h0, h1, rfl⟩)) w
        · rw [if_neg (by omega)]
          refine (HG.main b hs (by omega) _ n _ rfl rfl hn hi h0 h1 _ rfl w).mono fun e w' hq => ⟨?_, hq.2⟩
          have hbt : Go.Proofs.YtjlnbahanghhcaaGreatDoorW.PrintWords.bt b 4 = ((byteAt b 4 : Nat) : Int) := HG.bt_byte b 4 (by omega)
          rw [hq.1, hbt]
          by_cases hb : (byteAt b 4 : Int) < (n : Int) / 4 ∨ b.size < 4 * byteAt b 4
          · rw [if_pos hb]
            have e1 : (decide (((byteAt b 4 : Nat) : Int) < (n : Int) / 4) || decide ((b.size : Int) < 4 * ((byteAt b 4 : Nat) : Int))) = true := by
              rw [Bool.or_eq_true, decide_eq_true_eq, decide_eq_true_eq]; omega
            rw [e1]; rfl
          · rw [if_neg hb]
            have e1 : (decide (((byteAt b 4 : Nat) : Int) < (n : Int) / 4) || decide ((b.size : Int) < 4 * ((byteAt b 4 : Nat) : Int))) = false := by
              rw [Bool.or_eq_false_iff, decide_eq_false_iff_not, decide_eq_false_iff_not]; omega
            rw [e1]; rfl
end Go.Proofs.YtjlnbahanghhcaaGreatDoor

/- The contract of pkt.Put at a packet that may not be: which error. -/
namespace Go.Proofs.YtjlnbahanghhcaaGreatDoor
open Go.RowKit
set_option linter.unusedVariables false
set_option linter.unusedSimpArgs false

/-- which error a packet that may not be has; n: how many bytes head and options take. -/
def putErr (m : Bool) (os : List Op) (n d cs : Int) : Int :=
  if m = false then 3 else if os.all mayO = false then 7 else if n > 1020 ∨ d > 1400 ∨ n + d > 2500 then 13 else if covB (n + d) n cs = false then 5 else 0
set_option maxHeartbeats 8000000 in
set_option maxRecDepth 1000000 in
theorem pkt_Put_err (src dst off cc cs sum typ : Int) (x : Bool) (seq ack serv code i0 i1 i2 : Int) (z : Nat) (A : Option Addr) (cap B : Nat) (os : List Op) (data : ByteArray) (w : World)
    (hA : CellsAt w B A (ocells os)) (hB : B ≤ w.heap.size) (hl : (obs os).length ≤ 140737488355000) (hn : os.length ≤ 140737488355328) (hdat : data.size ≤ 9223372036854775807)
    (hz : sizeB typ x = ((4 * z : Nat) : Int)) (hz7 : z ≤ 7) (E : Int) (h0 : E ≠ 0) (hE : putErr (mayB ⟨src, dst, (z : Nat), cc, cs, 0, typ, x, seq, ack, serv, code, i0, i1, i2⟩) os ((4 * z + (strOfNums (putO os)).size : Nat) : Int) data.size cs = E) :
    Calls Tryz.prog 13 #[.agg #[.int .i64 src, .int .i64 dst, .int .i64 off, .int .i64 cc, .int .i64 cs, .int .i64 sum, .int .i64 typ, .bool x, .int .u64 seq, .int .u64 ack, .int .u32 serv, .int .i64 code, .int .u8 i0, .int .u8 i1, .int .u8 i2, .slice A os.length cap, .string data]] w fun e w' => e = .returned (.tuple #[.string ⟨#[]⟩, .int .i64 E]) ∧ Below w.heap.size w w' := by
  have cS := fun W => head_Size typ x W
  rw [hz] at cS
  have CS := hide cS
  have HA := hide hA; have HZ := hide hz; have HL := hide hl; have HE := hide hE
  clear cS hA hz hl hE
  go_enter Tryz.func13, Tryz.ntmps13
  go_wp2_with (first | (go_at_call 43; refine (CS.out _).mono ?_; rintro e w' ⟨rfl, rfl⟩))
  have bp0 := Blk.new w #[.int .i64 src, .int .i64 dst, .int .i64 off, .int .i64 cc, .int .i64 cs, .int .i64 sum, .int .i64 typ, .bool x, .int .u64 seq, .int .u64 ack, .int .u32 serv, .int .i64 code, .int .u8 i0, .int .u8 i1, .int .u8 i2, .slice A os.length cap, .string data] 29
  have bp1 := bp0.alloc (.cells #[.int .i64 src, .int .i64 dst, .int .i64 off, .int .i64 cc, .int .i64 cs, .int .i64 sum, .int .i64 typ, .bool x, .int .u64 seq, .int .u64 ack, .int .u32 serv, .int .i64 code, .int .u8 i0, .int .u8 i1, .int .u8 i2] 26)
  have bh1 := Blk.new (w.alloc (.cells #[.int .i64 src, .int .i64 dst, .int .i64 off, .int .i64 cc, .int .i64 cs, .int .i64 sum, .int .i64 typ, .bool x, .int .u64 seq, .int .u64 ack, .int .u32 serv, .int .i64 code, .int .u8 i0, .int .u8 i1, .int .u8 i2, .slice A os.length cap, .string data] 29)) #[.int .i64 src, .int .i64 dst, .int .i64 off, .int .i64 cc, .int .i64 cs, .int .i64 sum, .int .i64 typ, .bool x, .int .u64 seq, .int .u64 ack, .int .u32 serv, .int .i64 code, .int .u8 i0, .int .u8 i1, .int .u8 i2] 26
  have hA1 := (HA.out.alloc hB (.cells #[.int .i64 src, .int .i64 dst, .int .i64 off, .int .i64 cc, .int .i64 cs, .int .i64 sum, .int .i64 typ, .bool x, .int .u64 seq, .int .u64 ack, .int .u32 serv, .int .i64 code, .int .u8 i0, .int .u8 i1, .int .u8 i2, .slice A os.length cap, .string data] 29)).alloc (by simp; omega) (.cells #[.int .i64 src, .int .i64 dst, .int .i64 off, .int .i64 cc, .int .i64 cs, .int .i64 sum, .int .i64 typ, .bool x, .int .u64 seq, .int .u64 ack, .int .u32 serv, .int .i64 code, .int .u8 i0, .int .u8 i1, .int .u8 i2] 26)
  have hw1 : Below w.heap.size w ((w.alloc (.cells #[.int .i64 src, .int .i64 dst, .int .i64 off, .int .i64 cc, .int .i64 cs, .int .i64 sum, .int .i64 typ, .bool x, .int .u64 seq, .int .u64 ack, .int .u32 serv, .int .i64 code, .int .u8 i0, .int .u8 i1, .int .u8 i2, .slice A os.length cap, .string data] 29)).alloc (.cells #[.int .i64 src, .int .i64 dst, .int .i64 off, .int .i64 cc, .int .i64 cs, .int .i64 sum, .int .i64 typ, .bool x, .int .u64 seq, .int .u64 ack, .int .u32 serv, .int .i64 code, .int .u8 i0, .int .u8 i1, .int .u8 i2] 26)) := ((Below.refl _ _).alloc (Nat.le_refl _) _).alloc (by simp) _
  have hs1 : ((w.alloc (.cells #[.int .i64 src, .int .i64 dst, .int .i64 off, .int .i64 cc, .int .i64 cs, .int .i64 sum, .int .i64 typ, .bool x, .int .u64 seq, .int .u64 ack, .int .u32 serv, .int .i64 code, .int .u8 i0, .int .u8 i1, .int .u8 i2, .slice A os.length cap, .string data] 29)).alloc (.cells #[.int .i64 src, .int .i64 dst, .int .i64 off, .int .i64 cc, .int .i64 cs, .int .i64 sum, .int .i64 typ, .bool x, .int .u64 seq, .int .u64 ack, .int .u32 serv, .int .i64 code, .int .u8 i0, .int .u8 i1, .int .u8 i2] 26)).heap.size = w.heap.size + 2 := by simp
  rw [World.size_alloc] at bh1
  generalize (w.alloc (.cells #[.int .i64 src, .int .i64 dst, .int .i64 off, .int .i64 cc, .int .i64 cs, .int .i64 sum, .int .i64 typ, .bool x, .int .u64 seq, .int .u64 ack, .int .u32 serv, .int .i64 code, .int .u8 i0, .int .u8 i1, .int .u8 i2, .slice A os.length cap, .string data] 29)).alloc (.cells #[.int .i64 src, .int .i64 dst, .int .i64 off, .int .i64 cc, .int .i64 cs, .int .i64 sum, .int .i64 typ, .bool x, .int .u64 seq, .int .u64 ack, .int .u32 serv, .int .i64 code, .int .u8 i0, .int .u8 i1, .int .u8 i2] 26) = w1 at bp1 bh1 hA1 hw1 hs1 ⊢
  clear bp0
  refine (opt_Put A cap B os w1 hA1 (by omega) HL.out hn).mono ?_
  rintro e w2 ⟨rfl, hb2⟩
  rw [hs1] at hb2
  replace bp1 := bp1.below hb2 (by omega)
  replace bh1 := bh1.below hb2 (by omega)
  replace hA1 : CellsAt w2 B A (ocells os) := hA1.keep (fun p hp => hb2.cell (by omega))
  replace hw1 := hw1.trans (hb2.mono (by omega))
  have hs2 : w.heap.size + 2 ≤ w2.heap.size := by have := hb2.size; omega
  clear hb2 hs1
  have hts : (strOfNums (putO os)).size ≤ 140737488355003 := by
    rw [strOfNums_size]; have := HL.out; unfold putO; split
    · unfold pad4; rw [List.length_append, List.length_replicate]; omega
    · simp
  generalize hT : strOfNums (putO os) = T at hts HE
  replace hT := hide hT
  have p2 : w2.cell? ⟨w.heap.size, 16, none⟩ = some (.string data) := bp1.cell rfl
  have p15 : w2.cell? ⟨w.heap.size, 15, none⟩ = some (.slice A os.length cap) := bp1.cell rfl
  have g0 : w2.cell? ⟨w.heap.size + 1, 0, none⟩ = some (.int .i64 src) := bh1.cell rfl
  have g1 : w2.cell? ⟨w.heap.size + 1, 1, none⟩ = some (.int .i64 dst) := bh1.cell rfl
  have g2 : w2.cell? ⟨w.heap.size + 1, 2, none⟩ = some (.int .i64 off) := bh1.cell rfl
  have g3 : w2.cell? ⟨w.heap.size + 1, 3, none⟩ = some (.int .i64 cc) := bh1.cell rfl
  have g4 : w2.cell? ⟨w.heap.size + 1, 4, none⟩ = some (.int .i64 cs) := bh1.cell rfl
  have g5 : w2.cell? ⟨w.heap.size + 1, 5, none⟩ = some (.int .i64 sum) := bh1.cell rfl
  have g6 : w2.cell? ⟨w.heap.size + 1, 6, none⟩ = some (.int .i64 typ) := bh1.cell rfl
  have g7 : w2.cell? ⟨w.heap.size + 1, 7, none⟩ = some (.bool x) := bh1.cell rfl
  have g8 : w2.cell? ⟨w.heap.size + 1, 8, none⟩ = some (.int .u64 seq) := bh1.cell rfl
  have g9 : w2.cell? ⟨w.heap.size + 1, 9, none⟩ = some (.int .u64 ack) := bh1.cell rfl
  have g10 : w2.cell? ⟨w.heap.size + 1, 10, none⟩ = some (.int .u32 serv) := bh1.cell rfl
  have g11 : w2.cell? ⟨w.heap.size + 1, 11, none⟩ = some (.int .i64 code) := bh1.cell rfl
  have g12 : w2.cell? ⟨w.heap.size + 1, 12, none⟩ = some (.int .u8 i0) := bh1.cell rfl
  have g13 : w2.cell? ⟨w.heap.size + 1, 13, none⟩ = some (.int .u8 i1) := bh1.cell rfl
  have g14 : w2.cell? ⟨w.heap.size + 1, 14, none⟩ = some (.int .u8 i2) := bh1.cell rfl
  have r2 := bh1.frozen 2
  have r5 := bh1.frozen 5
  have BH := hide bh1; have BP := hide bp1; have HA1 := hide hA1
  clear bh1 bp1 hA1
  go_wp2_with fail
  have cm := head_May ⟨src, dst, z, cc, cs, 0, typ, x, seq, ack, serv, code, i0, i1, i2⟩
  rw [Hd.val_mk] at cm
  have bh3 : Blk ((w2.setCell ⟨w.heap.size + 1, 2, none⟩ (.int .i64 z)).setCell ⟨w.heap.size + 1, 5, none⟩ (.int .i64 0)) (w.heap.size + 1) #[.int .i64 src, .int .i64 dst, .int .i64 z, .int .i64 cc, .int .i64 cs, .int .i64 0, .int .i64 typ, .bool x, .int .u64 seq, .int .u64 ack, .int .u32 serv, .int .i64 code, .int .u8 i0, .int .u8 i1, .int .u8 i2] 26 := (BH.out.set 2 (.int .i64 z) (cs' := #[.int .i64 src, .int .i64 dst, .int .i64 z, .int .i64 cc, .int .i64 cs, .int .i64 sum, .int .i64 typ, .bool x, .int .u64 seq, .int .u64 ack, .int .u32 serv, .int .i64 code, .int .u8 i0, .int .u8 i1, .int .u8 i2]) rfl).set 5 (.int .i64 0) rfl
  have bp3 := (BP.out.far (p := ⟨w.heap.size + 1, 2, none⟩) (by simp) (.int .i64 z)).far (p := ⟨w.heap.size + 1, 5, none⟩) (by simp) (.int .i64 0)
  have hA3 : CellsAt ((w2.setCell ⟨w.heap.size + 1, 2, none⟩ (.int .i64 z)).setCell ⟨w.heap.size + 1, 5, none⟩ (.int .i64 0)) B A (ocells os) := HA1.out.keep (fun p hp => World.cell?_of_block ((Below.heap_setCell _ _ _ _ (by simp; omega)).trans (Below.heap_setCell _ _ _ _ (by simp; omega))))
  have hw3 : Below w.heap.size w ((w2.setCell ⟨w.heap.size + 1, 2, none⟩ (.int .i64 z)).setCell ⟨w.heap.size + 1, 5, none⟩ (.int .i64 0)) := (hw1.setCell (by simp) _).setCell (by simp) _
  have hs3 : w.heap.size + 2 ≤ ((w2.setCell ⟨w.heap.size + 1, 2, none⟩ (.int .i64 z)).setCell ⟨w.heap.size + 1, 5, none⟩ (.int .i64 0)).heap.size := by simpa using hs2
  generalize (w2.setCell ⟨w.heap.size + 1, 2, none⟩ (.int .i64 z)).setCell ⟨w.heap.size + 1, 5, none⟩ (.int .i64 0) = w3 at bh3 bp3 hA3 hw3 hs3 ⊢
  clear BH BP HA1 hw1 hs2 p2 p15 g0 g1 g2 g3 g4 g5 g6 g7 g8 g9 g10 g11 g12 g13 g14 r2 r5
  refine (cm _).mono ?_
  rintro e w4 ⟨rfl, hb⟩
  clear cm
  generalize hmB : mayB ⟨src, dst, (z : Nat), cc, cs, 0, typ, x, seq, ack, serv, code, i0, i1, i2⟩ = M at HE ⊢
  replace hmB := hide hmB
  replace bp3 := bp3.below hb (by omega)
  replace bh3 := bh3.below hb (by omega)
  replace hA3 : CellsAt w4 B A (ocells os) := hA3.keep (fun p hp => hb.cell (by omega))
  replace hw3 := hw3.trans (hb.mono (by omega))
  replace hs3 : w.heap.size + 2 ≤ w4.heap.size := by have := hb.size; omega
  clear hb
  cases M
  · have e3 : E = 3 := by have := HE.out; unfold putErr at this; simpa using this.symm
    subst e3
    go_wp2_with fail
    go_ret2
    exact ⟨rfl, hw3⟩
  · have p15 : w4.cell? ⟨w.heap.size, 15, none⟩ = some (.slice A os.length cap) := bp3.cell rfl
    have cf := contains_func A cap B os w4 hA3 (by omega) hn
    unfold put1 at cf
    have BH := hide bh3; have BP := hide bp3; have HA3 := hide hA3
    clear bh3 bp3 hA3
    generalize hall : os.all mayO = L at cf
    have HALL := hide hall
    clear hall
    have CF := hide cf
    clear cf
    go_wp2_with fail
    refine CF.out.mono ?_
    rintro e w5 ⟨rfl, hb⟩
    have bp5 := BP.out.below hb (by omega)
    have bh5 := BH.out.below hb (by omega)
    replace hw3 := hw3.trans (hb.mono (by omega))
    replace hs3 : w.heap.size + 2 ≤ w5.heap.size := by have := hb.size; omega
    clear hb CF BP BH HA3 p15
    cases L
    · have e7 : E = 7 := by have := HE.out; unfold putErr at this; rw [HALL.out] at this; simpa using this.symm
      subst e7
      go_wp2_with fail
      go_ret2
      exact ⟨rfl, hw3⟩
    · have p16 : w5.cell? ⟨w.heap.size, 16, none⟩ = some (.string data) := bp5.cell rfl
      have g4 : w5.cell? ⟨w.heap.size + 1, 4, none⟩ = some (.int .i64 cs) := bh5.cell rfl
      clear bp5 bh5
      have hE := HE.out
      unfold putErr at hE
      rw [HALL.out, if_neg (by simp), if_neg (by simp)] at hE
      by_cases hL : ((4 * z + T.size : Nat) : Int) > 1020 ∨ (data.size : Int) > 1400 ∨ ((4 * z + T.size : Nat) : Int) + data.size > 2500
      · rw [if_pos hL] at hE
        subst hE
        clear HE
        by_cases c1 : (1020 : Int) < 4 * z + T.size
        · have c1' : decide ((1020 : Int) < 4 * z + T.size) = true := decide_eq_true c1
          clear hL
          go_wp2_with fail
          go_ret2
          exact ⟨rfl, hw3⟩
        · have c1' : decide ((1020 : Int) < 4 * z + T.size) = false := decide_eq_false c1
          by_cases c2 : (1400 : Int) < data.size
          · have c2' : decide ((1400 : Int) < data.size) = true := decide_eq_true c2
            clear hL
            go_wp2_with fail
            go_ret2
            exact ⟨rfl, hw3⟩
          · have c2' : decide ((1400 : Int) < data.size) = false := decide_eq_false c2
            have c3 : (2500 : Int) < 4 * z + T.size + data.size := by omega
            have c3' : decide ((2500 : Int) < 4 * z + T.size + data.size) = true := decide_eq_true c3
            have u1 : (4 * z : Int) + T.size ≤ 1020 := by omega
            have u2 : (data.size : Int) ≤ 1400 := by omega
            clear hL c1 c2 c3
            go_wp2_with fail
            go_ret2
            exact ⟨rfl, hw3⟩
      · rw [if_neg hL] at hE
        have c1 : ¬ (1020 : Int) < 4 * z + T.size := by omega
        have c2 : ¬ (1400 : Int) < data.size := by omega
        have c3 : ¬ (2500 : Int) < 4 * z + T.size + data.size := by omega
        have c1' : decide ((1020 : Int) < 4 * z + T.size) = false := decide_eq_false c1
        have c2' : decide ((1400 : Int) < data.size) = false := decide_eq_false c2
        have c3' : decide ((2500 : Int) < 4 * z + T.size + data.size) = false := decide_eq_false c3
        have cc' := fun W => sum_Covered (4 * z + T.size + data.size : Int) (4 * z + T.size : Int) cs W (by omega)
        have hcv : covB (4 * z + T.size + data.size : Int) (4 * z + T.size : Int) cs = false := by
          rcases hc : covB (4 * z + T.size + data.size : Int) (4 * z + T.size : Int) cs with _ | _
          · rfl
          · exfalso; push_cast at hE; simp only [hc, Bool.true_eq_false, if_false, ite_false] at hE; exact h0 hE.symm
        have e5 : E = 5 := by push_cast at hE; simp only [hcv, if_true, ite_true] at hE; exact hE.symm
        subst e5
        rw [hcv] at cc'
        have CC := hide cc'
        have u1 : (4 * z : Int) + T.size ≤ 1020 := by omega
        have u2 : (data.size : Int) ≤ 1400 := by omega
        clear hL hE HE hcv cc' c1 c2 c3
        go_wp2_with (go_at_call 25; refine (CC.out _).mono ?_; rintro e w' ⟨rfl, rfl⟩)
        go_ret2
        exact ⟨rfl, hw3⟩
end Go.Proofs.YtjlnbahanghhcaaGreatDoor

/- head.Put and pkt.Put at whatever head, whatever packet: what they answer. -/
namespace Go.Proofs.YtjlnbahanghhcaaGreatDoor
open Go.RowKit Go.Proofs.YtjlnbahanghhcaaGreatDoorW.PrintWords
set_option linter.unusedVariables false
set_option linter.unusedSimpArgs false

/-- what Go's kinds say of a head's numbers. -/
def okH (h : Hd) : Bool := decide (0 ≤ h.seq ∧ 0 ≤ h.ack ∧ 0 ≤ h.serv ∧ h.serv ≤ 4294967295 ∧ 0 ≤ h.i0 ∧ h.i0 ≤ 255 ∧ 0 ≤ h.i1 ∧ h.i1 ≤ 255 ∧ 0 ≤ h.i2 ∧ h.i2 ≤ 255)
def hdBytes (h : Hd) : ByteArray := strOfNums (hb1 h.src.toNat h.dst.toNat h.off.toNat h.cc.toNat h.cs.toNat h.sum.toNat ++ hb2 h.typ.toNat h.x h.seq.toNat ++ hb3 h.typ.toNat h.x h.ack.toNat ++ hb4 h.typ.toNat h.serv.toNat h.code.toNat h.i0.toNat h.i1.toNat h.i2.toNat)
def putH (h : Hd) : ByteArray := if mayB h then hdBytes h else ⟨#[]⟩
/-- the bounds of a head that may be. -/
theorem may_bounds {h : Hd} (hm : mayB h = true) : 0 ≤ h.src ∧ h.src ≤ 65535 ∧ 0 ≤ h.dst ∧ h.dst ≤ 65535 ∧ sizeB h.typ h.x / 4 ≤ h.off ∧ h.off ≤ 255 ∧ 0 ≤ h.cc ∧ h.cc ≤ 15 ∧ 0 ≤ h.cs ∧ h.cs ≤ 15 ∧ 0 ≤ h.sum ∧ h.sum ≤ 65535 ∧ 0 ≤ h.typ ∧ h.typ ≤ 9 ∧ 0 ≤ h.code ∧ h.code ≤ 255 ∧ h.seq < 281474976710656 ∧ h.ack < 281474976710656 := by
  unfold mayB inB at hm
  simp only [Bool.and_eq_true, decide_eq_true_eq, Bool.not_eq_true'] at hm
  obtain ⟨hz, ⟨s0, s1⟩, ⟨d0, d1⟩, o0, o1, ⟨c0, c1⟩, ⟨e0, e1⟩, ⟨u0, u1⟩, _, ⟨k0, k1⟩, _, hn⟩ := hm
  have ht : isB h.typ = true := by
    rcases hi : isB h.typ with _ | _
    · exfalso; unfold sizeB at hz; rw [if_pos (.inl hi)] at hz; simp at hz
    · rfl
  unfold isB at ht
  have ht := of_decide_eq_true ht
  unfold numbersB at hn
  have hn := of_decide_eq_true hn
  have hmo : mostB h.x ≤ 281474976710656 := by unfold mostB; split <;> omega
  exact ⟨s0, s1, d0, d1, o0, o1, c0, c1, e0, e1, u0, u1, ht.1, ht.2, k0, k1, by omega, by omega⟩
set_option maxHeartbeats 1600000 in
set_option maxRecDepth 100000 in
theorem head_Put_no (h : Hd) (hm : mayB h = false) (w : World) : Calls Tryz.prog 50 #[h.val] w fun e w' => e = .returned (.string ⟨#[]⟩) ∧ Below w.heap.size w w' := by
  have cm := head_May h
  rw [hm] at cm
  obtain ⟨src, dst, off, cc, cs, sum, typ, x, seq, ack, serv, code, i0, i1, i2⟩ := h
  rw [Hd.val_mk] at *
  have CM := hide cm
  clear cm hm
  go_enter Tryz.func50, Tryz.ntmps50
  go_wp2_with fail
  refine (CM.out _).mono ?_
  rintro e w2 ⟨rfl, hb⟩
  have H := hide (((Below.refl _ _).alloc (Nat.le_refl _) (Obj.cells #[.int .i64 src, .int .i64 dst, .int .i64 off, .int .i64 cc, .int .i64 cs, .int .i64 sum, .int .i64 typ, .bool x, .int .u64 seq, .int .u64 ack, .int .u32 serv, .int .i64 code, .int .u8 i0, .int .u8 i1, .int .u8 i2] 26)).trans (hb.mono (by simp)))
  clear hb
  go_wp2_with fail
  go_ret
  exact ⟨rfl, H.out⟩
theorem head_Put_any (h : Hd) (hk : okH h = true) (w : World) : Calls Tryz.prog 50 #[h.val] w fun e w' => e = .returned (.string (putH h)) ∧ Below w.heap.size w w' := by
  unfold putH
  rcases hm : mayB h with _ | _
  · rw [if_neg (by simp)]; exact head_Put_no h hm w
  · rw [if_pos rfl]
    have hb := may_bounds hm
    unfold okH at hk
    have hk := of_decide_eq_true hk
    obtain ⟨src, dst, off, cc, cs, sum, typ, x, seq, ack, serv, code, i0, i1, i2⟩ := h
    dsimp only at hb hk
    have hz0 := sizeB_le typ x
    obtain ⟨src, rfl⟩ := Int.eq_ofNat_of_zero_le hb.1
    obtain ⟨dst, rfl⟩ := Int.eq_ofNat_of_zero_le hb.2.2.1
    obtain ⟨off, rfl⟩ := Int.eq_ofNat_of_zero_le (show 0 ≤ off by omega)
    obtain ⟨cc, rfl⟩ := Int.eq_ofNat_of_zero_le (show 0 ≤ cc by omega)
    obtain ⟨cs, rfl⟩ := Int.eq_ofNat_of_zero_le (show 0 ≤ cs by omega)
    obtain ⟨sum, rfl⟩ := Int.eq_ofNat_of_zero_le (show 0 ≤ sum by omega)
    obtain ⟨typ, rfl⟩ := Int.eq_ofNat_of_zero_le (show 0 ≤ typ by omega)
    obtain ⟨seq, rfl⟩ := Int.eq_ofNat_of_zero_le (show 0 ≤ seq by omega)
    obtain ⟨ack, rfl⟩ := Int.eq_ofNat_of_zero_le (show 0 ≤ ack by omega)
    obtain ⟨serv, rfl⟩ := Int.eq_ofNat_of_zero_le (show 0 ≤ serv by omega)
    obtain ⟨code, rfl⟩ := Int.eq_ofNat_of_zero_le (show 0 ≤ code by omega)
    obtain ⟨i0, rfl⟩ := Int.eq_ofNat_of_zero_le (show 0 ≤ i0 by omega)
    obtain ⟨i1, rfl⟩ := Int.eq_ofNat_of_zero_le (show 0 ≤ i1 by omega)
    obtain ⟨i2, rfl⟩ := Int.eq_ofNat_of_zero_le (show 0 ≤ i2 by omega)
    have hq := head_Put src dst off cc cs sum typ x seq ack serv code i0 i1 i2 w hm (by omega) (by omega) (by omega) (by omega) (by omega) (by omega) (by omega) (by omega) (by omega) (by omega) (by omega) (by omega) (by omega) (by omega)
    unfold hdBytes
    simp only [Int.toNat_natCast]
    exact hq
end Go.Proofs.YtjlnbahanghhcaaGreatDoor

/- pkt.Put at whatever packet: what it answers. -/
namespace Go.Proofs.YtjlnbahanghhcaaGreatDoor
open Go.RowKit Go.Proofs.YtjlnbahanghhcaaGreatDoorW.PrintWords
set_option linter.unusedVariables false
set_option linter.unusedSimpArgs false

/-- how many bytes a packet's head and options take. -/
def nOf (h : Hd) (os : List Op) : Nat := (sizeB h.typ h.x).toNat + (strOfNums (putO os)).size
def errP (h : Hd) (os : List Op) (d : ByteArray) : Int := putErr (mayB { h with off := sizeB h.typ h.x / 4, sum := 0 }) os (nOf h os : Nat) d.size h.cs
def sumP (h : Hd) (os : List Op) (d : ByteArray) : Nat := Sum.sum (joined [(hdBytes { h with off := (nOf h os / 4 : Nat), sum := 0 } ++ strOfNums (putO os) ++ d).extract 0 (covN ((nOf h os : Nat) + d.size) (nOf h os : Nat) h.cs).toNat])
def putP (h : Hd) (os : List Op) (d : ByteArray) : ByteArray × Int :=
  if errP h os d = 0 then (hdBytes { h with off := (nOf h os / 4 : Nat), sum := (sumP h os d : Nat) } ++ strOfNums (putO os) ++ d, 0) else (⟨#[]⟩, errP h os d)
theorem size_four (t : Int) (x : Bool) : ∃ z : Nat, sizeB t x = ((4 * z : Nat) : Int) ∧ z ≤ 7 := by
  unfold sizeB
  split
  · exact ⟨0, rfl, by omega⟩
  · cases x <;> cases ackB t <;> (by_cases h : servB t = true ∨ t = 7) <;> simp only [h, if_true, if_false, Bool.false_eq_true] <;> first | exact ⟨3, rfl, by omega⟩ | exact ⟨4, rfl, by omega⟩ | exact ⟨5, rfl, by omega⟩ | exact ⟨6, rfl, by omega⟩ | exact ⟨7, rfl, by omega⟩
theorem may_turn (src dst off cc cs sum typ : Int) (x : Bool) (seq ack serv code i0 i1 i2 : Int) (o s : Int) (hm : mayB ⟨src, dst, off, cc, cs, sum, typ, x, seq, ack, serv, code, i0, i1, i2⟩ = true) (h1 : sizeB typ x / 4 ≤ o) (h2 : o ≤ 255) (h3 : 0 ≤ s) (h4 : s ≤ 65535) :
    mayB ⟨src, dst, o, cc, cs, s, typ, x, seq, ack, serv, code, i0, i1, i2⟩ = true := by
  unfold mayB at hm ⊢
  dsimp only at hm ⊢
  have a1 : decide (sizeB typ x / 4 ≤ o) = true := decide_eq_true h1
  have a2 : decide (o ≤ 255) = true := decide_eq_true h2
  have a3 : inB s 65535 = true := by unfold inB; exact decide_eq_true ⟨h3, h4⟩
  have e1 : infoB ⟨src, dst, o, cc, cs, s, typ, x, seq, ack, serv, code, i0, i1, i2⟩ = infoB ⟨src, dst, off, cc, cs, sum, typ, x, seq, ack, serv, code, i0, i1, i2⟩ := rfl
  have e2 : numbersB ⟨src, dst, o, cc, cs, s, typ, x, seq, ack, serv, code, i0, i1, i2⟩ = numbersB ⟨src, dst, off, cc, cs, sum, typ, x, seq, ack, serv, code, i0, i1, i2⟩ := rfl
  rw [a1, a2, a3, e1, e2]
  simp only [Bool.and_eq_true, Bool.true_and] at hm ⊢
  obtain ⟨b1, b2, b3, b4, b5, b6, b7, b8, b9⟩ := hm
  exact ⟨b1, b2, b3, b6, b7, b9⟩
theorem pad4_mod (l : List Int) : (pad4 l).length % 4 = 0 ∧ l.length ≤ (pad4 l).length := by
  unfold pad4; rw [List.length_append, List.length_replicate]; omega
theorem pkt_Put_any (h : Hd) (hk : okH h = true) (A : Option Addr) (cap B : Nat) (os : List Op) (data : ByteArray) (w : World)
    (hA : CellsAt w B A (ocells os)) (hB : B ≤ w.heap.size) (hl : (obs os).length ≤ 140737488355000) (hn : os.length ≤ 140737488355328) (hdat : data.size ≤ 9223372036854775807) :
    Calls Tryz.prog 13 #[.agg #[.int .i64 h.src, .int .i64 h.dst, .int .i64 h.off, .int .i64 h.cc, .int .i64 h.cs, .int .i64 h.sum, .int .i64 h.typ, .bool h.x, .int .u64 h.seq, .int .u64 h.ack, .int .u32 h.serv, .int .i64 h.code, .int .u8 h.i0, .int .u8 h.i1, .int .u8 h.i2, .slice A os.length cap, .string data]] w fun e w' => e = .returned (.tuple #[.string (putP h os data).1, .int .i64 (putP h os data).2]) ∧ Below w.heap.size w w' := by
  obtain ⟨z, hz, hz7⟩ := size_four h.typ h.x
  have hn4 : nOf h os = 4 * z + (strOfNums (putO os)).size := by unfold nOf; rw [hz]; omega
  have hz4 : sizeB h.typ h.x / 4 = (z : Int) := by rw [hz]; omega
  unfold putP
  by_cases h0 : errP h os data = 0
  · rw [if_pos h0]
    have hE := h0
    unfold errP putErr at hE
    obtain ⟨src, dst, off, cc, cs, sum, typ, x, seq, ack, serv, code, i0, i1, i2⟩ := h
    dsimp only at *
    rw [hz4, hn4] at hE
    rcases hm : mayB ⟨src, dst, (z : Int), cc, cs, 0, typ, x, seq, ack, serv, code, i0, i1, i2⟩ with _ | _
    · rw [hm, if_pos rfl] at hE; exact absurd hE (by decide)
    rw [hm, if_neg (by simp)] at hE
    rcases ho : os.all mayO with _ | _
    · rw [ho, if_pos rfl] at hE; exact absurd hE (by decide)
    rw [ho, if_neg (by simp)] at hE
    by_cases hL : ((4 * z + (strOfNums (putO os)).size : Nat) : Int) > 1020 ∨ (data.size : Int) > 1400 ∨ ((4 * z + (strOfNums (putO os)).size : Nat) : Int) + data.size > 2500
    · rw [if_pos hL] at hE; exact absurd hE (by decide)
    rw [if_neg hL] at hE
    have hp : putO os = pad4 (obs os) := by unfold putO; rw [ho]; rfl
    have hps : (strOfNums (putO os)).size = (pad4 (obs os)).length := by rw [hp, strOfNums_size]
    have hpm := pad4_mod (obs os)
    rw [hps] at hE hL hn4
    obtain ⟨q, hq⟩ : ∃ q, 4 * z + (pad4 (obs os)).length = 4 * q := ⟨(4 * z + (pad4 (obs os)).length) / 4, by omega⟩
    rw [hq] at hE hL hn4
    have hq4 : (4 * q) / 4 = q := by omega
    have hc : covB ((4 * q + data.size : Nat) : Int) ((4 * q : Nat) : Int) cs = true := by
      rcases hc : covB ((4 * q + data.size : Nat) : Int) ((4 * q : Nat) : Int) cs with _ | _
      · push_cast at hc hE; rw [if_pos hc] at hE; exact absurd hE (by decide)
      · rfl
    have hb := may_bounds hm
    unfold okH at hk
    have hk := of_decide_eq_true hk
    dsimp only at hb hk
    have hz0 : z ≠ 0 := by
      rintro rfl
      unfold mayB at hm
      dsimp only at hm
      rw [hz] at hm
      simp at hm
    have hcn : ∃ n : Nat, covN ((4 * q + data.size : Nat) : Int) ((4 * q : Nat) : Int) cs = (n : Int) := by
      refine ⟨(covN ((4 * q + data.size : Nat) : Int) ((4 * q : Nat) : Int) cs).toNat, ?_⟩
      unfold covB at hc; have := of_decide_eq_true hc
      unfold covN at *
      split <;> omega
    obtain ⟨n, hcn⟩ := hcn
    obtain ⟨src, rfl⟩ := Int.eq_ofNat_of_zero_le hb.1
    obtain ⟨dst, rfl⟩ := Int.eq_ofNat_of_zero_le hb.2.2.1
    obtain ⟨cc, rfl⟩ := Int.eq_ofNat_of_zero_le (show 0 ≤ cc by omega)
    obtain ⟨cs, rfl⟩ := Int.eq_ofNat_of_zero_le (show 0 ≤ cs by omega)
    obtain ⟨typ, rfl⟩ := Int.eq_ofNat_of_zero_le (show 0 ≤ typ by omega)
    obtain ⟨seq, rfl⟩ := Int.eq_ofNat_of_zero_le (show 0 ≤ seq by omega)
    obtain ⟨ack, rfl⟩ := Int.eq_ofNat_of_zero_le (show 0 ≤ ack by omega)
    obtain ⟨serv, rfl⟩ := Int.eq_ofNat_of_zero_le (show 0 ≤ serv by omega)
    obtain ⟨code, rfl⟩ := Int.eq_ofNat_of_zero_le (show 0 ≤ code by omega)
    obtain ⟨i0, rfl⟩ := Int.eq_ofNat_of_zero_le (show 0 ≤ i0 by omega)
    obtain ⟨i1, rfl⟩ := Int.eq_ofNat_of_zero_le (show 0 ≤ i1 by omega)
    obtain ⟨i2, rfl⟩ := Int.eq_ofNat_of_zero_le (show 0 ≤ i2 by omega)
    have e1 : nOf ⟨src, dst, off, cc, cs, sum, typ, x, seq, ack, serv, code, i0, i1, i2⟩ os / 4 = q := by rw [hn4]; exact hq4
    have e2 : sumP ⟨src, dst, off, cc, cs, sum, typ, x, seq, ack, serv, code, i0, i1, i2⟩ os data = Sum.sum (joined [(strOfNums (hb1 src dst q cc cs 0 ++ hb2 typ x seq ++ hb3 typ x ack ++ hb4 typ serv code i0 i1 i2) ++ strOfNums (putO os) ++ data).extract 0 n]) := by
      unfold sumP hdBytes
      dsimp only
      have hcn' : covN (((4 * q : Nat) : Int) + data.size) ((4 * q : Nat) : Int) cs = (n : Int) := by rw [← hcn]; push_cast; rfl
      rw [e1, hn4, hcn']
      simp only [Int.toNat_natCast, Int.toNat_zero]
    have hq' := pkt_Put src dst off cc cs sum typ x seq ack serv code i0 i1 i2 z q n _ A cap B os data w hA hB (by omega) hn hz hz0 (fun o s h1 h2 h3 => may_turn _ _ _ _ _ _ _ _ _ _ _ _ _ _ _ o s hm (by rw [hz4]; omega) (by omega) (by omega) (by omega)) ho hq (by omega) (by omega) (by omega) hc hcn rfl (by omega) (by omega) (by omega) (by omega) (by omega) (by omega) (by omega) (by omega) (by omega) (by omega) (by omega) (by omega)
    rw [← e2] at hq'
    unfold hdBytes
    dsimp only
    rw [e1]
    simp only [Int.toNat_natCast]
    exact hq'
  · rw [if_neg h0]
    refine pkt_Put_err h.src h.dst h.off h.cc h.cs h.sum h.typ h.x h.seq h.ack h.serv h.code h.i0 h.i1 h.i2 z A cap B os data w hA hB hl hn hdat hz hz7 _ h0 ?_
    unfold errP
    rw [hz4, hn4]
end Go.Proofs.YtjlnbahanghhcaaGreatDoor
