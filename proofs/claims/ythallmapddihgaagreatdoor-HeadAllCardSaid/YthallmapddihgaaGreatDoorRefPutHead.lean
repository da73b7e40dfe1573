/- The contract of the document's PutHead at a head that may be (printed by wip/gen/mk_refputhead.py). -/
import Derived.Test.YthallmapddihgaaGreatDoorRefBytes
import Derived.Test.YthallmapddihgaaGreatDoorRefA
import Derived.Test.YthallmapddihgaaGreatDoorMadeZ
import Derived.Test.YthallmapddihgaaGreatDoorBaseD
import Derived.Deep.RegionHeld3
import Derived.Deep.DeepCutAuto
import Derived.Deep.CutBlock
namespace Go.Proofs.YthallmapddihgaaGreatDoor.RP
open Go.RowKit Go.Proofs.YthallmapddihgaaGreatDoor
set_option linter.unusedVariables false
set_option linter.unusedSimpArgs false
theorem bytesK (B n k : Nat) (a j : Int) (s : ByteArray) (ha : a = (n : Int)) (hj : j = (k : Int)) (hn : n < 18446744073709551616) (hk : k ≤ 8) (hs : strOfNums (be n k) = s) : Hid (∀ W : World, B ≤ W.heap.size → Calls Tryz.prog 63 #[.int .u64 a, .int .i64 j] W fun e w' => e = .returned (.string s) ∧ Below B W w' ∧ B ≤ w'.heap.size) :=
  hide (fun W hB => (RB.ref_BytesI a j n k ha hj hn (by omega) B W hB).mono fun e w' h => ⟨by rw [← hs]; exact h.1, h.2, Nat.le_trans hB h.2.size⟩)
theorem size_be (n k : Nat) : (strOfNums (be n k)).size = k := by rw [strOfNums_size, be_len]
theorem be_one (n : Nat) (h : n ≤ 255) : be n 1 = [(n : Int)] := by
  simp only [be, Nat.mul_zero, Int.pow_zero, Int.ediv_one]
  rw [Int.emod_eq_of_lt (by omega) (by omega)]
theorem be_lead (n k : Nat) (h : n < 256 ^ k) : be n (k + 1) = 0 :: be n k := by
  simp only [be]
  congr 1
  have e : (2 : Int) ^ (8 * k) = ((256 ^ k : Nat) : Int) := by rw [show (256 : Nat) = 2 ^ 8 from by decide, ← Nat.pow_mul, Int.natCast_pow]; rfl
  rw [e, Int.ediv_eq_zero_of_lt (by omega) (by omega)]; rfl
theorem part1 (src dst off cc cs sum c5 : Nat) (h5 : cc * 16 + cs = c5) (ho : off ≤ 255) (hc : cc ≤ 15) (hs : cs ≤ 15) : strOfNums (be src 2) ++ strOfNums (be dst 2) ++ strOfNums (be off 1) ++ strOfNums (be c5 1) ++ strOfNums (be sum 2) = strOfNums (hb1 src dst off cc cs sum) := by
  rw [be_one off ho, be_one c5 (by omega), ← RB.strOfNums_append, ← RB.strOfNums_append, ← RB.strOfNums_append, ← RB.strOfNums_append, ← h5]
  unfold hb1; simp
theorem part2 (typ seq : Nat) (ht : typ ≤ 9) (hq : seq < 281474976710656) : strOfNums (be (typ * 2 + 1) 1) ++ ⟨#[0]⟩ ++ strOfNums (be seq 6) = strOfNums (hb2 typ true seq) := by
  have e0 : (⟨#[0]⟩ : ByteArray) = strOfNums [0] := rfl
  rw [be_one _ (by omega), e0, ← RB.strOfNums_append, ← RB.strOfNums_append]
  unfold hb2
  rw [if_pos rfl, be_lead seq 6 (by omega)]; simp
theorem part2' (typ seq : Nat) (ht : typ ≤ 9) : strOfNums (be (typ * 2) 1) ++ strOfNums (be seq 3) = strOfNums (hb2 typ false seq) := by
  rw [be_one _ (by omega), ← RB.strOfNums_append]
  unfold hb2
  rw [if_neg (by decide)]; simp
theorem part3 (ack : Nat) (h : ack < 281474976710656) : strOfNums (be 0 2) ++ strOfNums (be ack 6) = strOfNums (be ack 8) := by
  rw [be_lead ack 7 (by omega), be_lead ack 6 (by omega), ← RB.strOfNums_append]; rfl
theorem part3' (ack : Nat) (h : ack < 16777216) : strOfNums (be 0 1) ++ strOfNums (be ack 3) = strOfNums (be ack 4) := by
  rw [be_lead ack 3 (by omega), ← RB.strOfNums_append]; rfl
theorem part4 (code i0 i1 i2 : Nat) (h : code ≤ 255) : strOfNums (be code 1) ++ strOfNums [(i0 : Int), (i1 : Int), (i2 : Int)] = strOfNums [(code : Int), (i0 : Int), (i1 : Int), (i2 : Int)] := by
  rw [be_one code h, ← RB.strOfNums_append]; rfl
theorem info_text {w : World} {b : Nat} {u0 u1 u2 : Int} (h0 : w.cell? ⟨b, 12, none⟩ = some (.int .u8 u0)) (h1 : w.cell? ⟨b, 13, none⟩ = some (.int .u8 u1)) (h2 : w.cell? ⟨b, 14, none⟩ = some (.int .u8 u2)) :
    (convert 36 9 (.slice (some ⟨b, 12, none⟩) 3 3)).run Tryz.prog w = .ok (.string (strOfNums [u0, u1, u2])) w := by
  rw [run_convert_bytes_string w 36 9 5 (some ⟨b, 12, none⟩) 3 3 Tryz.underlying36 Tryz.underlying5 Tryz.underlying9]
  have hl := run_loadCells_list (P := Tryz.prog) w ⟨b, 12, none⟩ [.int .u8 u0, .int .u8 u1, .int .u8 u2] (fun j v hj => by
    match j, hj with
    | 0, hj => cases hj; simpa [Addr.add] using h0
    | 1, hj => cases hj; simpa [Addr.add] using h1
    | 2, hj => cases hj; simpa [Addr.add] using h2)
  have hl2 : (loadCells ⟨b, 12, none⟩ 3).run Tryz.prog w = .ok (([u0, u1, u2].map (Value.int .u8)).toArray) w := by first | exact hl | simpa using hl
  rw [run_bytesToString w _ 3 3 _ hl2, foldl_push_bytes]
  have he0 : ByteArray.empty.data = #[] := rfl
  rw [he0]
  simp [strOfNums]
theorem may_most {h : Hd} (hm : mayB h = true) : h.seq < mostB h.x ∧ h.ack < mostB h.x := by
  unfold mayB at hm
  simp only [Bool.and_eq_true] at hm
  have hn : numbersB h = true := by
    obtain ⟨_, _, _, _, _, _, _, _, _, _, _, hn⟩ := hm; exact hn
  unfold numbersB at hn
  have := of_decide_eq_true hn
  exact ⟨this.1, this.2.1⟩
set_option maxHeartbeats 4000000 in
set_option maxRecDepth 100000 in
theorem put (src dst off cc cs sum typ : Nat) (x : Bool) (seq ack serv code i0 i1 i2 : Nat) (hm : mayB ⟨src, dst, off, cc, cs, sum, typ, x, seq, ack, serv, code, i0, i1, i2⟩ = true) (hs : serv < 4294967296) (h0 : i0 ≤ 255) (h1 : i1 ≤ 255) (h2 : i2 ≤ 255) (w : World) :
    Calls Tryz.prog 25 #[.agg #[.int .i64 src, .int .i64 dst, .int .i64 off, .int .i64 cc, .int .i64 cs, .int .i64 sum, .int .i64 typ, .bool x, .int .u64 seq, .int .u64 ack, .int .u32 serv, .int .i64 code, .int .u8 i0, .int .u8 i1, .int .u8 i2]] w fun e w' => e = .returned (.string (hdBytes ⟨src, dst, off, cc, cs, sum, typ, x, seq, ack, serv, code, i0, i1, i2⟩)) ∧ Below w.heap.size w w' := by
  have hbd := may_bounds hm
  dsimp only at hbd
  obtain ⟨c5, hc5⟩ : ∃ c : Nat, cc * 16 + cs = c := ⟨_, rfl⟩
  obtain ⟨p0, q0⟩ : ∃ s, strOfNums (be src 2) = s := ⟨_, rfl⟩
  obtain ⟨p1, q1⟩ : ∃ s, strOfNums (be dst 2) = s := ⟨_, rfl⟩
  obtain ⟨p2, q2⟩ : ∃ s, strOfNums (be off 1) = s := ⟨_, rfl⟩
  obtain ⟨p3, q3⟩ : ∃ s, strOfNums (be c5 1) = s := ⟨_, rfl⟩
  obtain ⟨p4, q4⟩ : ∃ s, strOfNums (be sum 2) = s := ⟨_, rfl⟩
  have z0 : p0.size = 2 := by rw [← q0]; exact size_be _ _
  have z1 : p1.size = 2 := by rw [← q1]; exact size_be _ _
  have z2 : p2.size = 1 := by rw [← q2]; exact size_be _ _
  have z3 : p3.size = 1 := by rw [← q3]; exact size_be _ _
  have z4 : p4.size = 2 := by rw [← q4]; exact size_be _ _
  have K0 := bytesK (w.heap.size + 1) src 2 src 2 p0 rfl rfl (by omega) (by decide) q0
  have K1 := bytesK (w.heap.size + 1) dst 2 dst 2 p1 rfl rfl (by omega) (by decide) q1
  have K2 := bytesK (w.heap.size + 1) off 1 off 1 p2 rfl rfl (by omega) (by decide) q2
  have K3 := bytesK (w.heap.size + 1) c5 1 c5 1 p3 rfl rfl (by omega) (by decide) q3
  have K4 := bytesK (w.heap.size + 1) sum 2 sum 2 p4 rfl rfl (by omega) (by decide) q4
  have Q := hide (And.intro q0 (And.intro q1 (And.intro q2 (And.intro q3 q4))))
  have HM := hide hm; have HBD := hide hbd; have Z := hide (And.intro z0 (And.intro z1 (And.intro z2 (And.intro z3 z4))))
  have e0 : IntKind.u64.wrap (src : Int) = src := by rw [IntKind.wrap_u64]; omega
  have e1 : IntKind.u64.wrap (dst : Int) = dst := by rw [IntKind.wrap_u64]; omega
  have e2 : IntKind.u64.wrap (off : Int) = off := by rw [IntKind.wrap_u64]; omega
  have e3a : IntKind.i64.wrap ((cc : Int) * 16) = (cc : Int) * 16 := by rw [IntKind.wrap_i64]; omega
  have e3b : IntKind.i64.wrap ((cc : Int) * 16 + (cs : Int)) = (c5 : Int) := by rw [IntKind.wrap_i64]; omega
  have e3 : IntKind.u64.wrap (c5 : Int) = (c5 : Int) := by rw [IntKind.wrap_u64]; omega
  have HC5 := hide hc5
  have e4 : IntKind.u64.wrap (sum : Int) = sum := by rw [IntKind.wrap_u64]; omega
  have l0 : (cc : Int) ≤ 15 := by omega
  have l1 : (cs : Int) ≤ 15 := by omega
  clear q0 q1 q2 q3 q4 hm hbd hc5
  go_enter Tryz.func25, Tryz.ntmps25
  go_upto_region 1 with fail
  have hb : Below (w.heap.size + 1) (w.alloc (.cells #[.int .i64 src, .int .i64 dst, .int .i64 off, .int .i64 cc, .int .i64 cs, .int .i64 sum, .int .i64 typ, .bool x, .int .u64 seq, .int .u64 ack, .int .u32 serv, .int .i64 code, .int .u8 i0, .int .u8 i1, .int .u8 i2] 26)) (w.alloc (.cells #[.int .i64 src, .int .i64 dst, .int .i64 off, .int .i64 cc, .int .i64 cs, .int .i64 sum, .int .i64 typ, .bool x, .int .u64 seq, .int .u64 ack, .int .u32 serv, .int .i64 code, .int .u8 i0, .int .u8 i1, .int .u8 i2] 26)) := Below.refl _ _
  have hsz : w.heap.size + 1 ≤ (w.alloc (.cells #[.int .i64 src, .int .i64 dst, .int .i64 off, .int .i64 cc, .int .i64 cs, .int .i64 sum, .int .i64 typ, .bool x, .int .u64 seq, .int .u64 ack, .int .u32 serv, .int .i64 code, .int .u8 i0, .int .u8 i1, .int .u8 i2] 26)).heap.size := by simp
  go_cut [3] (fun v3 wx => v3 = .string (p0 ++ p1 ++ p2 ++ p3 ++ p4) ∧ Below (w.heap.size + 1) (w.alloc (.cells #[.int .i64 src, .int .i64 dst, .int .i64 off, .int .i64 cc, .int .i64 cs, .int .i64 sum, .int .i64 typ, .bool x, .int .u64 seq, .int .u64 ack, .int .u32 serv, .int .i64 code, .int .u8 i0, .int .u8 i1, .int .u8 i2] 26)) wx)
  case first =>
    as_aux_lemma =>
      have f0 : (w.alloc (.cells #[.int .i64 src, .int .i64 dst, .int .i64 off, .int .i64 cc, .int .i64 cs, .int .i64 sum, .int .i64 typ, .bool x, .int .u64 seq, .int .u64 ack, .int .u32 serv, .int .i64 code, .int .u8 i0, .int .u8 i1, .int .u8 i2] 26)).cell? ⟨w.heap.size, 0, none⟩ = some (.int .i64 src) := box_cell hb (Nat.lt_succ_self _) rfl
      have f1 : (w.alloc (.cells #[.int .i64 src, .int .i64 dst, .int .i64 off, .int .i64 cc, .int .i64 cs, .int .i64 sum, .int .i64 typ, .bool x, .int .u64 seq, .int .u64 ack, .int .u32 serv, .int .i64 code, .int .u8 i0, .int .u8 i1, .int .u8 i2] 26)).cell? ⟨w.heap.size, 1, none⟩ = some (.int .i64 dst) := box_cell hb (Nat.lt_succ_self _) rfl
      have f2 : (w.alloc (.cells #[.int .i64 src, .int .i64 dst, .int .i64 off, .int .i64 cc, .int .i64 cs, .int .i64 sum, .int .i64 typ, .bool x, .int .u64 seq, .int .u64 ack, .int .u32 serv, .int .i64 code, .int .u8 i0, .int .u8 i1, .int .u8 i2] 26)).cell? ⟨w.heap.size, 2, none⟩ = some (.int .i64 off) := box_cell hb (Nat.lt_succ_self _) rfl
      have f3 : (w.alloc (.cells #[.int .i64 src, .int .i64 dst, .int .i64 off, .int .i64 cc, .int .i64 cs, .int .i64 sum, .int .i64 typ, .bool x, .int .u64 seq, .int .u64 ack, .int .u32 serv, .int .i64 code, .int .u8 i0, .int .u8 i1, .int .u8 i2] 26)).cell? ⟨w.heap.size, 3, none⟩ = some (.int .i64 cc) := box_cell hb (Nat.lt_succ_self _) rfl
      have f4 : (w.alloc (.cells #[.int .i64 src, .int .i64 dst, .int .i64 off, .int .i64 cc, .int .i64 cs, .int .i64 sum, .int .i64 typ, .bool x, .int .u64 seq, .int .u64 ack, .int .u32 serv, .int .i64 code, .int .u8 i0, .int .u8 i1, .int .u8 i2] 26)).cell? ⟨w.heap.size, 4, none⟩ = some (.int .i64 cs) := box_cell hb (Nat.lt_succ_self _) rfl
      have f5 : (w.alloc (.cells #[.int .i64 src, .int .i64 dst, .int .i64 off, .int .i64 cc, .int .i64 cs, .int .i64 sum, .int .i64 typ, .bool x, .int .u64 seq, .int .u64 ack, .int .u32 serv, .int .i64 code, .int .u8 i0, .int .u8 i1, .int .u8 i2] 26)).cell? ⟨w.heap.size, 5, none⟩ = some (.int .i64 sum) := box_cell hb (Nat.lt_succ_self _) rfl
      obtain ⟨wz, hwz⟩ : ∃ z, (w.alloc (.cells #[.int .i64 src, .int .i64 dst, .int .i64 off, .int .i64 cc, .int .i64 cs, .int .i64 sum, .int .i64 typ, .bool x, .int .u64 seq, .int .u64 ack, .int .u32 serv, .int .i64 code, .int .u8 i0, .int .u8 i1, .int .u8 i2] 26)) = z := ⟨_, rfl⟩
      rw [hwz] at f0 f1 f2 f3 f4 f5 hsz ⊢
      have HWZ := hide hwz
      clear hwz hb
      go_region_held3 (fun w' => w'.cell? ⟨w.heap.size, 0, none⟩ = some (.int .i64 src) ∧ w'.cell? ⟨w.heap.size, 1, none⟩ = some (.int .i64 dst) ∧ w'.cell? ⟨w.heap.size, 2, none⟩ = some (.int .i64 off) ∧ w'.cell? ⟨w.heap.size, 3, none⟩ = some (.int .i64 cc) ∧ w'.cell? ⟨w.heap.size, 4, none⟩ = some (.int .i64 cs) ∧ w'.cell? ⟨w.heap.size, 5, none⟩ = some (.int .i64 sum))
        (first | go_keep | (go_split_ands; refine ⟨(hbE.cell (Nat.lt_succ_self _)).trans ?_, (hbE.cell (Nat.lt_succ_self _)).trans ?_, (hbE.cell (Nat.lt_succ_self _)).trans ?_, (hbE.cell (Nat.lt_succ_self _)).trans ?_, (hbE.cell (Nat.lt_succ_self _)).trans ?_, (hbE.cell (Nat.lt_succ_self _)).trans ?_⟩ <;> assumption) | (go_split_ands; refine ⟨(hbD.cell (Nat.lt_succ_self _)).trans ?_, (hbD.cell (Nat.lt_succ_self _)).trans ?_, (hbD.cell (Nat.lt_succ_self _)).trans ?_, (hbD.cell (Nat.lt_succ_self _)).trans ?_, (hbD.cell (Nat.lt_succ_self _)).trans ?_, (hbD.cell (Nat.lt_succ_self _)).trans ?_⟩ <;> assumption) | (go_split_ands; refine ⟨(hbC.cell (Nat.lt_succ_self _)).trans ?_, (hbC.cell (Nat.lt_succ_self _)).trans ?_, (hbC.cell (Nat.lt_succ_self _)).trans ?_, (hbC.cell (Nat.lt_succ_self _)).trans ?_, (hbC.cell (Nat.lt_succ_self _)).trans ?_, (hbC.cell (Nat.lt_succ_self _)).trans ?_⟩ <;> assumption) | (go_split_ands; refine ⟨(hbB.cell (Nat.lt_succ_self _)).trans ?_, (hbB.cell (Nat.lt_succ_self _)).trans ?_, (hbB.cell (Nat.lt_succ_self _)).trans ?_, (hbB.cell (Nat.lt_succ_self _)).trans ?_, (hbB.cell (Nat.lt_succ_self _)).trans ?_, (hbB.cell (Nat.lt_succ_self _)).trans ?_⟩ <;> assumption) | (go_split_ands; refine ⟨(hbA.cell (Nat.lt_succ_self _)).trans ?_, (hbA.cell (Nat.lt_succ_self _)).trans ?_, (hbA.cell (Nat.lt_succ_self _)).trans ?_, (hbA.cell (Nat.lt_succ_self _)).trans ?_, (hbA.cell (Nat.lt_succ_self _)).trans ?_, (hbA.cell (Nat.lt_succ_self _)).trans ?_⟩ <;> assumption) | (refine ⟨(hbE.cell (Nat.lt_succ_self _)).trans ?_, (hbE.cell (Nat.lt_succ_self _)).trans ?_, (hbE.cell (Nat.lt_succ_self _)).trans ?_, (hbE.cell (Nat.lt_succ_self _)).trans ?_, (hbE.cell (Nat.lt_succ_self _)).trans ?_, (hbE.cell (Nat.lt_succ_self _)).trans ?_⟩ <;> assumption) | (refine ⟨(hbD.cell (Nat.lt_succ_self _)).trans ?_, (hbD.cell (Nat.lt_succ_self _)).trans ?_, (hbD.cell (Nat.lt_succ_self _)).trans ?_, (hbD.cell (Nat.lt_succ_self _)).trans ?_, (hbD.cell (Nat.lt_succ_self _)).trans ?_, (hbD.cell (Nat.lt_succ_self _)).trans ?_⟩ <;> assumption) | (refine ⟨(hbC.cell (Nat.lt_succ_self _)).trans ?_, (hbC.cell (Nat.lt_succ_self _)).trans ?_, (hbC.cell (Nat.lt_succ_self _)).trans ?_, (hbC.cell (Nat.lt_succ_self _)).trans ?_, (hbC.cell (Nat.lt_succ_self _)).trans ?_, (hbC.cell (Nat.lt_succ_self _)).trans ?_⟩ <;> assumption) | (refine ⟨(hbB.cell (Nat.lt_succ_self _)).trans ?_, (hbB.cell (Nat.lt_succ_self _)).trans ?_, (hbB.cell (Nat.lt_succ_self _)).trans ?_, (hbB.cell (Nat.lt_succ_self _)).trans ?_, (hbB.cell (Nat.lt_succ_self _)).trans ?_, (hbB.cell (Nat.lt_succ_self _)).trans ?_⟩ <;> assumption) | (refine ⟨(hbA.cell (Nat.lt_succ_self _)).trans ?_, (hbA.cell (Nat.lt_succ_self _)).trans ?_, (hbA.cell (Nat.lt_succ_self _)).trans ?_, (hbA.cell (Nat.lt_succ_self _)).trans ?_, (hbA.cell (Nat.lt_succ_self _)).trans ?_, (hbA.cell (Nat.lt_succ_self _)).trans ?_⟩ <;> assumption))
        (first | (go_at_call 63; (with_reducible refine (K0.out _ ?_).mono ?_); (first | assumption | (simp; omega)); rintro e w' ⟨rfl, hbA, zhbA⟩) | (go_at_call 63; (with_reducible refine (K1.out _ ?_).mono ?_); (first | assumption | (simp; omega)); rintro e w' ⟨rfl, hbB, zhbB⟩) | (go_at_call 63; (with_reducible refine (K2.out _ ?_).mono ?_); (first | assumption | (simp; omega)); rintro e w' ⟨rfl, hbC, zhbC⟩) | (go_at_call 63; (with_reducible refine (K3.out _ ?_).mono ?_); (first | assumption | (simp; omega)); rintro e w' ⟨rfl, hbD, zhbD⟩) | (go_at_call 63; (with_reducible refine (K4.out _ ?_).mono ?_); (first | assumption | (simp; omega)); rintro e w' ⟨rfl, hbE, zhbE⟩))
      all_goals (go_wp2_with fail; go_meet; rw [HWZ.out]; exact ⟨rfl, (((((Below.refl _ wz).drew.trans hbA).trans hbB).trans hbC).trans hbD).trans hbE⟩)
  case rest =>
    clear hb hsz e0 e1 e2 e3a e3b e3 e4 l0 l1 K0 K1 K2 K3 K4
    obtain ⟨rfl, hb⟩ := hcut
    have hsz : w.heap.size + 1 ≤ wc.heap.size := by have hz := hb.size; simpa using hz
    have hmost := may_most HM.out
    dsimp only at hmost
    have hp1 := part1 src dst off cc cs sum c5 HC5.out (by have := HBD.out; omega) (by have := HBD.out; omega) (by have := HBD.out; omega)
    rw [Q.out.1, Q.out.2.1, Q.out.2.2.1, Q.out.2.2.2.1, Q.out.2.2.2.2] at hp1
    obtain ⟨s1, hs1⟩ : ∃ s, p0 ++ p1 ++ p2 ++ p3 ++ p4 = s := ⟨_, rfl⟩
    have zs1 : s1.size = 8 := by rw [← hs1]; simp only [ByteArray.size_append]; have := Z.out; omega
    rw [hs1] at hp1 ⊢
    have HP1 := hide hp1
    clear hp1 hs1 Q z0 z1 z2 z3 z4 Z
    have f7 : wc.cell? ⟨w.heap.size, 7, none⟩ = some (.bool x) := box_cell hb (Nat.lt_succ_self _) rfl
    obtain ⟨m2, hm2⟩ : ∃ s, strOfNums (hb2 typ x seq) = s := ⟨_, rfl⟩
    obtain ⟨k, hk⟩ : ∃ k : Int, (if x = true then (6 : Int) else 3) = k := ⟨_, rfl⟩
    have HM2 := hide hm2; have HK := hide hk; have HMO := hide hmost
    have ht9 : typ ≤ 9 := by have := HBD.out; omega
    have t9 : (typ : Int) ≤ 9 := by omega
    have zm2 : m2.size ≤ 20 := by rw [← hm2, strOfNums_size]; unfold hb2; split <;> simp [be_len]
    clear hm2 hk hmost
    go_upto_if 34 with fail
    go_cut [3, 4] (fun v3 v4 wx => v3 = .string (s1 ++ m2) ∧ v4 = .int .i64 k ∧ Below (w.heap.size + 1) (w.alloc (.cells #[.int .i64 src, .int .i64 dst, .int .i64 off, .int .i64 cc, .int .i64 cs, .int .i64 sum, .int .i64 typ, .bool x, .int .u64 seq, .int .u64 ack, .int .u32 serv, .int .i64 code, .int .u8 i0, .int .u8 i1, .int .u8 i2] 26)) wx)
    case first =>
      as_aux_lemma =>
        have f6 : wc.cell? ⟨w.heap.size, 6, none⟩ = some (.int .i64 typ) := box_cell hb (Nat.lt_succ_self _) rfl
        have f8 : wc.cell? ⟨w.heap.size, 8, none⟩ = some (.int .u64 seq) := box_cell hb (Nat.lt_succ_self _) rfl
        have HBB := hide hb
        clear hb
        cases x
        · obtain ⟨a, ha⟩ : ∃ s, strOfNums (be (typ * 2) 1) = s := ⟨_, rfl⟩
          obtain ⟨b, hb'⟩ : ∃ s, strOfNums (be seq 3) = s := ⟨_, rfl⟩
          have za : a.size = 1 := by rw [← ha]; exact size_be _ _
          have zb : b.size = 3 := by rw [← hb']; exact size_be _ _
          obtain ⟨t2, ht2⟩ : ∃ t : Nat, typ * 2 = t := ⟨_, rfl⟩
          have hab := part2' typ seq ht9
          rw [HM2.out, ha, hb'] at hab
          rw [ht2] at ha
          have K5 := bytesK (w.heap.size + 1) t2 1 t2 1 a rfl rfl (by omega) (by decide) ha
          have K6 := bytesK (w.heap.size + 1) seq 3 seq 3 b rfl rfl (by have := HBD.out; omega) (by decide) hb'
          have e5 : IntKind.i64.wrap ((typ : Int) * 2) = (t2 : Int) := by rw [IntKind.wrap_i64]; omega
          have e6 : IntKind.u64.wrap (t2 : Int) = (t2 : Int) := by rw [IntKind.wrap_u64]; omega
          have HAB := hide hab; have HKK := hide (show k = 3 from HK.out.symm)
          clear ha hb' hab ht2
          go_upto_region 6 with fail
          go_region_held3 (fun w' => w'.cell? ⟨w.heap.size, 6, none⟩ = some (.int .i64 typ) ∧ w'.cell? ⟨w.heap.size, 8, none⟩ = some (.int .u64 seq))
            (first | go_keep | (go_split_ands; refine ⟨(hbB.cell (Nat.lt_succ_self _)).trans ?_, (hbB.cell (Nat.lt_succ_self _)).trans ?_⟩ <;> assumption) | (go_split_ands; refine ⟨(hbA.cell (Nat.lt_succ_self _)).trans ?_, (hbA.cell (Nat.lt_succ_self _)).trans ?_⟩ <;> assumption) | (refine ⟨(hbB.cell (Nat.lt_succ_self _)).trans ?_, (hbB.cell (Nat.lt_succ_self _)).trans ?_⟩ <;> assumption) | (refine ⟨(hbA.cell (Nat.lt_succ_self _)).trans ?_, (hbA.cell (Nat.lt_succ_self _)).trans ?_⟩ <;> assumption))
            (first | (go_at_call 63; (with_reducible refine (K5.out _ ?_).mono ?_); (first | assumption | (simp; omega)); rintro e w' ⟨rfl, hbA, zhbA⟩) | (go_at_call 63; (with_reducible refine (K6.out _ ?_).mono ?_); (first | assumption | (simp; omega)); rintro e w' ⟨rfl, hbB, zhbB⟩))
          all_goals (go_wp2_with fail; go_meet; exact ⟨by rw [← HAB.out], by rw [HKK.out], ((HBB.out.drew.trans hbA).trans hbB)⟩)
        · obtain ⟨a, ha⟩ : ∃ s, strOfNums (be (typ * 2 + 1) 1) = s := ⟨_, rfl⟩
          obtain ⟨b, hb'⟩ : ∃ s, strOfNums (be seq 6) = s := ⟨_, rfl⟩
          have za : a.size = 1 := by rw [← ha]; exact size_be _ _
          have zb : b.size = 6 := by rw [← hb']; exact size_be _ _
          obtain ⟨t2, ht2⟩ : ∃ t : Nat, typ * 2 + 1 = t := ⟨_, rfl⟩
          have hab := part2 typ seq ht9 (by have := HBD.out; omega)
          rw [HM2.out, ha, hb'] at hab
          rw [ht2] at ha
          have K5 := bytesK (w.heap.size + 1) t2 1 t2 1 a rfl rfl (by omega) (by decide) ha
          have K6 := bytesK (w.heap.size + 1) seq 6 seq 6 b rfl rfl (by have := HBD.out; omega) (by decide) hb'
          have e4 : IntKind.i64.wrap ((typ : Int) * 2) = (typ : Int) * 2 := by rw [IntKind.wrap_i64]; omega
          have e5 : IntKind.i64.wrap ((typ : Int) * 2 + 1) = (t2 : Int) := by rw [IntKind.wrap_i64]; omega
          have e6 : IntKind.u64.wrap (t2 : Int) = (t2 : Int) := by rw [IntKind.wrap_u64]; omega
          have HAB := hide hab; have HKK := hide (show k = 6 from HK.out.symm)
          have hz1 : (⟨#[0]⟩ : ByteArray).size = 1 := rfl
          clear ha hb' hab ht2
          go_upto_region 4 with fail
          go_region_held3 (fun w' => w'.cell? ⟨w.heap.size, 6, none⟩ = some (.int .i64 typ) ∧ w'.cell? ⟨w.heap.size, 8, none⟩ = some (.int .u64 seq))
            (first | go_keep | (go_split_ands; refine ⟨(hbB.cell (Nat.lt_succ_self _)).trans ?_, (hbB.cell (Nat.lt_succ_self _)).trans ?_⟩ <;> assumption) | (go_split_ands; refine ⟨(hbA.cell (Nat.lt_succ_self _)).trans ?_, (hbA.cell (Nat.lt_succ_self _)).trans ?_⟩ <;> assumption) | (refine ⟨(hbB.cell (Nat.lt_succ_self _)).trans ?_, (hbB.cell (Nat.lt_succ_self _)).trans ?_⟩ <;> assumption) | (refine ⟨(hbA.cell (Nat.lt_succ_self _)).trans ?_, (hbA.cell (Nat.lt_succ_self _)).trans ?_⟩ <;> assumption))
            (first | (go_at_call 63; (with_reducible refine (K5.out _ ?_).mono ?_); (first | assumption | (simp; omega)); rintro e w' ⟨rfl, hbA, zhbA⟩) | (go_at_call 63; (with_reducible refine (K6.out _ ?_).mono ?_); (first | assumption | (simp; omega)); rintro e w' ⟨rfl, hbB, zhbB⟩))
          all_goals (go_wp2_with fail; go_meet; exact ⟨by rw [← HAB.out], by rw [HKK.out], ((HBB.out.drew.trans hbA).trans hbB)⟩)
    case rest =>
      clear f7 hb hsz zm2
      obtain ⟨rfl, rfl, hb⟩ := hcut
      have zm2 : m2.size ≤ 20 := by rw [← HM2.out, strOfNums_size]; unfold hb2; split <;> simp [be_len]
      obtain ⟨s2, hs2⟩ : ∃ s, s1 ++ m2 = s := ⟨_, rfl⟩
      have zs2 : s2.size ≤ 40 := by rw [← hs2, ByteArray.size_append]; omega
      rw [hs2]
      have HS2 := hide hs2
      clear zm2 zs1 hs2
      obtain ⟨m3, hm3⟩ : ∃ s, strOfNums (hb3 typ x ack) = s := ⟨_, rfl⟩
      have HM3 := hide hm3
      have zm3 : m3.size ≤ 20 := by rw [← hm3, strOfNums_size]; unfold hb3; split <;> (try split) <;> simp [be_len]
      clear hm3
      have HA := hide (fun W => ref_HasAck typ W)
      have f6 : wc.cell? ⟨w.heap.size, 6, none⟩ = some (.int .i64 typ) := box_cell hb (Nat.lt_succ_self _) rfl
      have HBB := hide hb
      have hsz : w.heap.size + 1 ≤ wc.heap.size := by have hz := hb.size; simpa using hz
      clear hb
      go_upto_if 61 with (go_at_call 19; refine (HA.out _).mono ?_; rintro e w' ⟨rfl, rfl⟩)
      go_cut [3] (fun v3 wx => v3 = .string (s2 ++ m3) ∧ Below (w.heap.size + 1) (w.alloc (.cells #[.int .i64 src, .int .i64 dst, .int .i64 off, .int .i64 cc, .int .i64 cs, .int .i64 sum, .int .i64 typ, .bool x, .int .u64 seq, .int .u64 ack, .int .u32 serv, .int .i64 code, .int .u8 i0, .int .u8 i1, .int .u8 i2] 26)) wx)
      case first =>
        as_aux_lemma =>
          have f9 : wc.cell? ⟨w.heap.size, 9, none⟩ = some (.int .u64 ack) := by
            have hb := HBB.out
            exact box_cell hb (Nat.lt_succ_self _) rfl
          cases hack : ackB (typ : Int)
          · have HE := hide (show s2 = s2 ++ m3 by rw [← HM3.out]; unfold hb3; rw [hack]; exact ByteArray.append_empty.symm)
            go_wp2_with fail
            go_meet
            exact ⟨by rw [← HE.out], HBB.out⟩
          · cases x
            · obtain ⟨a, ha⟩ : ∃ s, strOfNums (be 0 1) = s := ⟨_, rfl⟩
              obtain ⟨b, hb'⟩ : ∃ s, strOfNums (be ack 3) = s := ⟨_, rfl⟩
              have za : a.size = 1 := by rw [← ha]; exact size_be _ _
              have zb : b.size = 3 := by rw [← hb']; exact size_be _ _
              obtain rfl : (3 : Int) = k := HK.out
              have K5 := bytesK (w.heap.size + 1) 0 1 0 (IntKind.i64.wrap (1 + IntKind.i64.wrap 0)) a rfl (by decide) (by omega) (by decide) ha
              have K6 := bytesK (w.heap.size + 1) ack 3 ack 3 b rfl rfl (by have := HBD.out; omega) (by decide) hb'
              have hab := part3' ack (by have := HMO.out.2; have e : mostB false = 16777216 := rfl; omega)
              rw [ha, hb'] at hab
              have HAB := hide (show s2 ++ (a ++ b) = s2 ++ m3 by rw [hab, ← HM3.out]; unfold hb3; rw [hack]; rfl)
              have hno : ¬ (9223372036854775807 < s2.size + 4) := by omega
              clear ha hb' hab
              go_upto_region 8 with fail
              go_region_held3 (fun w' => w'.cell? ⟨w.heap.size, 9, none⟩ = some (.int .u64 ack))
                (first | go_keep | (go_split_ands; refine ((hbB.cell (Nat.lt_succ_self _)).trans ?_) <;> assumption) | (go_split_ands; refine ((hbA.cell (Nat.lt_succ_self _)).trans ?_) <;> assumption) | (refine ((hbB.cell (Nat.lt_succ_self _)).trans ?_) <;> assumption) | (refine ((hbA.cell (Nat.lt_succ_self _)).trans ?_) <;> assumption))
                (first | (go_at_call 63; (with_reducible refine (K5.out _ ?_).mono ?_); (first | assumption | (simp; omega)); rintro e w' ⟨rfl, hbA, zhbA⟩) | (go_at_call 63; (with_reducible refine (K6.out _ ?_).mono ?_); (first | assumption | (simp; omega)); rintro e w' ⟨rfl, hbB, zhbB⟩))
              all_goals (go_wp2_with fail; go_meet; exact ⟨by rw [HAB.out], ((HBB.out.drew.trans hbA).trans hbB)⟩)
            · obtain ⟨a, ha⟩ : ∃ s, strOfNums (be 0 2) = s := ⟨_, rfl⟩
              obtain ⟨b, hb'⟩ : ∃ s, strOfNums (be ack 6) = s := ⟨_, rfl⟩
              have za : a.size = 2 := by rw [← ha]; exact size_be _ _
              have zb : b.size = 6 := by rw [← hb']; exact size_be _ _
              obtain rfl : (6 : Int) = k := HK.out
              have K5 := bytesK (w.heap.size + 1) 0 2 0 (IntKind.i64.wrap (1 + IntKind.i64.wrap 1)) a rfl (by decide) (by omega) (by decide) ha
              have K6 := bytesK (w.heap.size + 1) ack 6 ack 6 b rfl rfl (by have := HBD.out; omega) (by decide) hb'
              have hab := part3 ack (by have := HBD.out; omega)
              rw [ha, hb'] at hab
              have HAB := hide (show s2 ++ (a ++ b) = s2 ++ m3 by rw [hab, ← HM3.out]; unfold hb3; rw [hack]; rfl)
              have hno : ¬ (9223372036854775807 < s2.size + 8) := by omega
              clear ha hb' hab
              go_upto_region 8 with fail
              go_region_held3 (fun w' => w'.cell? ⟨w.heap.size, 9, none⟩ = some (.int .u64 ack))
                (first | go_keep | (go_split_ands; refine ((hbB.cell (Nat.lt_succ_self _)).trans ?_) <;> assumption) | (go_split_ands; refine ((hbA.cell (Nat.lt_succ_self _)).trans ?_) <;> assumption) | (refine ((hbB.cell (Nat.lt_succ_self _)).trans ?_) <;> assumption) | (refine ((hbA.cell (Nat.lt_succ_self _)).trans ?_) <;> assumption))
                (first | (go_at_call 63; (with_reducible refine (K5.out _ ?_).mono ?_); (first | assumption | (simp; omega)); rintro e w' ⟨rfl, hbA, zhbA⟩) | (go_at_call 63; (with_reducible refine (K6.out _ ?_).mono ?_); (first | assumption | (simp; omega)); rintro e w' ⟨rfl, hbB, zhbB⟩))
              all_goals (go_wp2_with fail; go_meet; exact ⟨by rw [HAB.out], ((HBB.out.drew.trans hbA).trans hbB)⟩)
      case rest =>
        clear f6 HBB hsz HA
        obtain ⟨rfl, hb⟩ := hcut
        obtain ⟨s3, hs3⟩ : ∃ s, s2 ++ m3 = s := ⟨_, rfl⟩
        have zs3 : s3.size ≤ 60 := by rw [← hs3, ByteArray.size_append]; omega
        rw [hs3]
        have HS3 := hide hs3
        clear zm3 zs2 hs3
        obtain ⟨m4, hm4⟩ : ∃ s, strOfNums (hb4 typ serv code i0 i1 i2) = s := ⟨_, rfl⟩
        have HM4 := hide hm4
        clear hm4
        have f6 : wc.cell? ⟨w.heap.size, 6, none⟩ = some (.int .i64 typ) := box_cell hb (Nat.lt_succ_self _) rfl
        have HBB := hide hb
        have hsz : w.heap.size + 1 ≤ wc.heap.size := by have hz := hb.size; simpa using hz
        go_upto_block 0 with fail
        go_cut [3] (fun v3 wx => v3 = .string (s3 ++ m4) ∧ Below (w.heap.size + 1) (w.alloc (.cells #[.int .i64 src, .int .i64 dst, .int .i64 off, .int .i64 cc, .int .i64 cs, .int .i64 sum, .int .i64 typ, .bool x, .int .u64 seq, .int .u64 ack, .int .u32 serv, .int .i64 code, .int .u8 i0, .int .u8 i1, .int .u8 i2] 26)) wx)
        case first =>
          as_aux_lemma =>
            by_cases hsv : servB (typ : Int) = true
            · have f10 : wc.cell? ⟨w.heap.size, 10, none⟩ = some (.int .u32 serv) := box_cell hb (Nat.lt_succ_self _) rfl
              obtain ⟨a, ha⟩ : ∃ s, strOfNums (be serv 4) = s := ⟨_, rfl⟩
              have za : a.size = 4 := by rw [← ha]; exact size_be _ _
              have K5 := bytesK (w.heap.size + 1) serv 4 serv 4 a rfl rfl (by omega) (by decide) ha
              have HAB := hide (show s3 ++ a = s3 ++ m4 by rw [← ha, ← HM4.out]; unfold hb4; rw [if_pos hsv])
              have hno : ¬ (9223372036854775807 < s3.size + 4) := by omega
              have e5 : IntKind.u64.wrap (serv : Int) = (serv : Int) := by rw [IntKind.wrap_u64]; omega
              have hs2' : ((typ : Int) == 0) = true ∨ (((typ : Int) == 0) = false ∧ ((typ : Int) == 1) = true) := by
                unfold servB at hsv
                rcases of_decide_eq_true hsv with h2 | h2
                · exact .inl (beq_iff_eq.2 h2)
                · exact .inr ⟨beq_eq_false_iff_ne.2 (by omega), beq_iff_eq.2 h2⟩
              clear ha hsv hb
              rcases hs2' with g0 | ⟨g0, g1⟩
              all_goals
                go_wp2_with (go_at_call 63; (with_reducible refine (K5.out _ ?_).mono ?_); (assumption); rintro e w' ⟨rfl, hbA, zhbA⟩)
                go_meet
                exact ⟨by rw [HAB.out], HBB.out.trans hbA⟩
            · have g01 : ((typ : Int) == 0) = false ∧ ((typ : Int) == 1) = false := by
                unfold servB at hsv
                rw [decide_eq_true_eq] at hsv
                exact ⟨beq_eq_false_iff_ne.2 (by omega), beq_eq_false_iff_ne.2 (by omega)⟩
              obtain ⟨g0, g1⟩ := g01
              by_cases h7 : typ = 7
              · have g7 : ((typ : Int) == 7) = true := beq_iff_eq.2 (by omega)
                have f11 : wc.cell? ⟨w.heap.size, 11, none⟩ = some (.int .i64 code) := box_cell hb (Nat.lt_succ_self _) rfl
                have f12 : wc.cell? ⟨w.heap.size, 12, none⟩ = some (.int .u8 i0) := box_cell hb (Nat.lt_succ_self _) rfl
                have f13 : wc.cell? ⟨w.heap.size, 13, none⟩ = some (.int .u8 i1) := box_cell hb (Nat.lt_succ_self _) rfl
                have f14 : wc.cell? ⟨w.heap.size, 14, none⟩ = some (.int .u8 i2) := box_cell hb (Nat.lt_succ_self _) rfl
                obtain ⟨a, ha⟩ : ∃ s, strOfNums (be code 1) = s := ⟨_, rfl⟩
                obtain ⟨b, hb'⟩ : ∃ s, strOfNums [(i0 : Int), (i1 : Int), (i2 : Int)] = s := ⟨_, rfl⟩
                have za : a.size = 1 := by rw [← ha]; exact size_be _ _
                have zb : b.size = 3 := by rw [← hb', strOfNums_size]; rfl
                have K5 := bytesK (w.heap.size + 1) code 1 code 1 a rfl rfl (by have := HBD.out; omega) (by decide) ha
                have e5 : IntKind.u64.wrap (code : Int) = (code : Int) := by rw [IntKind.wrap_u64]; have := HBD.out; omega
                have hab := part4 code i0 i1 i2 (by have := HBD.out; omega)
                rw [ha, hb'] at hab
                have HAB := hide (show s3 ++ (a ++ b) = s3 ++ m4 by rw [hab, ← HM4.out]; unfold hb4; rw [if_neg hsv, if_pos h7])
                have hcv : ∀ W : World, W.cell? ⟨w.heap.size, 12, none⟩ = some (.int .u8 i0) → W.cell? ⟨w.heap.size, 13, none⟩ = some (.int .u8 i1) → W.cell? ⟨w.heap.size, 14, none⟩ = some (.int .u8 i2) → (convert 36 9 (.slice (some ⟨w.heap.size, 12, none⟩) 3 3)).run Tryz.prog W = .ok (.string b) W := fun W c0 c1 c2 => by
                  rw [← hb']; exact info_text c0 c1 c2
                have hno : ¬ (9223372036854775807 < s3.size + 4) := by omega
                clear ha hb' hab hsv h7 hb
                go_upto_region 14 with fail
                go_region_held3 (fun w' => w'.cell? ⟨w.heap.size, 11, none⟩ = some (.int .i64 code) ∧ w'.cell? ⟨w.heap.size, 12, none⟩ = some (.int .u8 i0) ∧ w'.cell? ⟨w.heap.size, 13, none⟩ = some (.int .u8 i1) ∧ w'.cell? ⟨w.heap.size, 14, none⟩ = some (.int .u8 i2))
                  (first | go_keep | (go_split_ands; refine ⟨(hbA.cell (Nat.lt_succ_self _)).trans ?_, (hbA.cell (Nat.lt_succ_self _)).trans ?_, (hbA.cell (Nat.lt_succ_self _)).trans ?_, (hbA.cell (Nat.lt_succ_self _)).trans ?_⟩ <;> assumption) | (refine ⟨(hbA.cell (Nat.lt_succ_self _)).trans ?_, (hbA.cell (Nat.lt_succ_self _)).trans ?_, (hbA.cell (Nat.lt_succ_self _)).trans ?_, (hbA.cell (Nat.lt_succ_self _)).trans ?_⟩ <;> assumption))
                  (first | (go_at_call 63; (with_reducible refine (K5.out _ ?_).mono ?_); (first | assumption | (simp; omega)); rintro e w' ⟨rfl, hbA, zhbA⟩))
                all_goals (go_wp2_with fail; go_meet; exact ⟨by rw [HAB.out], (HBB.out.drew.trans hbA)⟩)
              · have g7 : ((typ : Int) == 7) = false := beq_eq_false_iff_ne.2 (by omega)
                have HE := hide (show s3 = s3 ++ m4 by rw [← HM4.out]; unfold hb4; rw [if_neg hsv, if_neg h7]; exact ByteArray.append_empty.symm)
                clear hsv h7 hb
                go_wp2_with fail
                go_meet
                exact ⟨by rw [← HE.out], HBB.out⟩
        case rest =>
          clear f6 HBB hsz hb
          obtain ⟨rfl, hb⟩ := hcut
          have HE := hide (show s3 ++ m4 = hdBytes ⟨src, dst, off, cc, cs, sum, typ, x, seq, ack, serv, code, i0, i1, i2⟩ by
            unfold hdBytes
            simp only [Int.toNat_natCast]
            rw [RB.strOfNums_append, RB.strOfNums_append, RB.strOfNums_append, HM4.out, HM3.out, HM2.out, ← HP1.out, HS2.out, HS3.out])
          have HBB := hide hb
          clear hb
          go_wp2
          go_ret
          exact ⟨by rw [HE.out]; rfl, ((Below.refl _ _).alloc (Nat.le_refl _) _).trans (HBB.out.mono (Nat.le_succ _))⟩
theorem ref_PutHead (h : Hd) (hm : mayB h = true) (hk : okH h = true) (w : World) : Calls Tryz.prog 25 #[h.val] w fun e w' => e = .returned (.string (hdBytes h)) ∧ Below w.heap.size w w' := by
  have hb := may_bounds hm
  unfold okH at hk
  have hk := of_decide_eq_true hk
  obtain ⟨src, dst, off, cc, cs, sum, typ, x, seq, ack, serv, code, i0, i1, i2⟩ := h
  dsimp only at *
  have hz4 : (0 : Int) ≤ sizeB typ x / 4 := by have := sizeB_le typ x; omega
  obtain ⟨src, rfl⟩ := Int.eq_ofNat_of_zero_le (a := src) (by omega)
  obtain ⟨dst, rfl⟩ := Int.eq_ofNat_of_zero_le (a := dst) (by omega)
  obtain ⟨off, rfl⟩ := Int.eq_ofNat_of_zero_le (a := off) (by omega)
  obtain ⟨cc, rfl⟩ := Int.eq_ofNat_of_zero_le (a := cc) (by omega)
  obtain ⟨cs, rfl⟩ := Int.eq_ofNat_of_zero_le (a := cs) (by omega)
  obtain ⟨sum, rfl⟩ := Int.eq_ofNat_of_zero_le (a := sum) (by omega)
  obtain ⟨typ, rfl⟩ := Int.eq_ofNat_of_zero_le (a := typ) (by omega)
  obtain ⟨seq, rfl⟩ := Int.eq_ofNat_of_zero_le (a := seq) (by omega)
  obtain ⟨ack, rfl⟩ := Int.eq_ofNat_of_zero_le (a := ack) (by omega)
  obtain ⟨serv, rfl⟩ := Int.eq_ofNat_of_zero_le (a := serv) (by omega)
  obtain ⟨code, rfl⟩ := Int.eq_ofNat_of_zero_le (a := code) (by omega)
  obtain ⟨i0, rfl⟩ := Int.eq_ofNat_of_zero_le (a := i0) (by omega)
  obtain ⟨i1, rfl⟩ := Int.eq_ofNat_of_zero_le (a := i1) (by omega)
  obtain ⟨i2, rfl⟩ := Int.eq_ofNat_of_zero_le (a := i2) (by omega)
  rw [Hd.val_mk]
  exact put src dst off cc cs sum typ x seq ack serv code i0 i1 i2 hm (by omega) (by omega) (by omega) (by omega) w
end Go.Proofs.YthallmapddihgaaGreatDoor.RP
