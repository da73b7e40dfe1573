/- Contracts and laws that the claim's proof needs: RefSum, RefC, LawWrong, POptsx0, POptsx1, POptsx2, LawOpts, PureCover, Raw, PureTorn. Conditions: each theorem's own. -/
import Derived.Test.YtjlnbahanghhcaaGreatDoorBaseD
import Derived.Test.YtjlnbahanghhcaaGreatDoorZCardPktAnyUptop2
import Derived.Test.YtjlnbahanghhcaaGreatDoorZCardPktAnyUptop3
import Derived.Test.YtjlnbahanghhcaaGreatDoorZCardPktAnyUptop1
import Derived.StillTailTactics
import Derived.Deep.RegionHeld3
import Derived.Deep.DeepCutAuto
import Derived.Deep.CutBlock
import Derived.IntWalk
import Derived.Test.YtjlnbahanghhcaaGreatDoorProg
import Derived.Below
import Derived.Deep.Draws
import Derived.Deep.AppendLies
import Derived.Maps.AppendAt
import Derived.OwnWalk
import Derived.Laws.BytesArg
import Derived.Laws.MakeOwn
import Derived.Laws.OwnMore
import Derived.Deep.OwnRows
import Derived.Tactics
import Derived.Lib.ConvBytes
import Derived.Laws.Slices
import Derived.WalkKit
import Derived.KernelRfl
import Derived.RowKit3
import Derived.Deep.LoopGhost
import Derived.Deep.QuietTactic
import Derived.BigQuiet
import Derived.WideLaws
import Derived.Laws.Rows
import Derived.Lib.AppendStr
import Derived.ArgAppend
import Derived.Laws.IdiomCopy
import Derived.OrdersHeld
import Derived.Laws.BitsLemmas
import Derived.RowKit
import Derived.Test.YtjlnbahanghhcaaGreatDoorWWords
import Derived.Test.YtjlnbahanghhcaaGreatDoorWLast
import Derived.Test.YtjlnbahanghhcaaGreatDoorWTab
import Derived.Test.YtjlnbahanghhcaaGreatDoorWFour
import Derived.Test.YtjlnbahanghhcaaGreatDoorWQPut
import Derived.Test.YtjlnbahanghhcaaGreatDoorWApart
import Derived.Test.YtjlnbahanghhcaaGreatDoorWArr
import Derived.Test.YtjlnbahanghhcaaGreatDoorWZeros
import Derived.Test.YtjlnbahanghhcaaGreatDoorWFoot
import Derived.Test.YtjlnbahanghhcaaGreatDoorWKept
import Derived.Test.YtjlnbahanghhcaaGreatDoorWShare
import Derived.Test.YtjlnbahanghhcaaGreatDoorWN
import Derived.Test.YtjlnbahanghhcaaGreatDoorWFootNe
import Derived.Test.YtjlnbahanghhcaaGreatDoorWAt
import Derived.Test.YtjlnbahanghhcaaGreatDoorWEqStruct
import Derived.Test.YtjlnbahanghhcaaGreatDoorWRepsOne
import Derived.Test.YtjlnbahanghhcaaGreatDoorWInv
import Derived.Test.YtjlnbahanghhcaaGreatDoorWInvWords
import Derived.Test.YtjlnbahanghhcaaGreatDoorWGuard
import Derived.Test.YtjlnbahanghhcaaGreatDoorWNEv
import Derived.Test.YtjlnbahanghhcaaGreatDoorWMore
import Derived.Test.YtjlnbahanghhcaaGreatDoorZCardPktAnyUptop0
import Derived.Test.YtjlnbahanghhcaaGreatDoorBaseA
import Derived.Laws.IdiomStrings

/- The contract of the document's Sum. -/
namespace Go.Proofs.YtjlnbahanghhcaaGreatDoor
open Go.RowKit
set_option linter.unusedVariables false
set_option linter.unusedSimpArgs false
theorem fold_add (a v : Nat) (h : v ≤ 65535) : Sum.fold (a + v) = if 65535 < Sum.fold a + v then Sum.fold a + v - 65535 else Sum.fold a + v := by
  unfold Sum.fold
  split <;> split <;> split <;> omega
theorem sum_take (s : ByteArray) (k : Nat) (h : k < s.size) : s.data.toList.take (k + 1) = s.data.toList.take k ++ [s[k]] := take_bytes s k h
set_option maxHeartbeats 1000000 in
set_option maxRecDepth 1000000 in
theorem ref_Sum (s : ByteArray) (hs : s.size ≤ 1000000000) (w : World) : Calls Tryz.prog 24 #[.string s] w fun e w' => e = .returned (.int .i64 (Sum.sum s.data.toList : Nat)) ∧ w = w' := by
  have hl : s.data.toList.length = s.size := size_bytes s
  replace hl := hide hl
  go_enter Tryz.func24, Tryz.ntmps24
  go_wp2
  go_loop [3, 4] (fun u x => ∃ i m : Nat, i ≤ s.size ∧ x = .int .i64 i ∧ u = .int .i64 m ∧ m ≤ 65535 ∧ Hid (m = Sum.fold (Sum.wt 0 (s.data.toList.take i)))) (fun _ x => s.size - (intOf x).toNat)
  case atStart => exact ⟨0, 0, by omega, rfl, rfl, by omega, hide (by simp [Sum.wt, Sum.fold])⟩
  case round =>
    obtain ⟨i, m, hi, rfl, rfl, hm, H⟩ := hrel
    by_cases h : i < s.size
    · have h256 := s[i].toNat_lt
      have hsn := hide (sum_take s i h)
      have hli : (s.data.toList.take i).length = i := by rw [List.length_take, hl.out]; omega
      have HLI := hide hli
      clear hli
      have hii : (i : Int) < (s.size : Int) := by omega
      by_cases he : i % 2 = 0
      · have e2 : ((i : Int).tmod 2 == 0) = true := by rw [beq_iff_eq, Int.tmod_eq_emod_of_nonneg (by omega)]; omega
        have hf := fold_add (Sum.wt 0 (s.data.toList.take i)) (s[i].toNat * 256) (by omega)
        have hw : Sum.wt 0 (s.data.toList.take (i + 1)) = Sum.wt 0 (s.data.toList.take i) + s[i].toNat * 256 := by
          rw [hsn.out, Sum.wt_snoc, HLI.out, if_pos he]
        rw [← hw, ← H.out] at hf
        by_cases hg : 65535 < m + s[i].toNat * 256
        · rw [if_pos hg] at hf
          have HF := hide hf
          have hgi : (65535 : Int) < (m : Int) + ((s[i].toNat : Nat) : Int) * 256 := by omega
          clear hf hw
          go_wp2
          go_round
          case rel => exact ⟨i + 1, m + s[i].toNat * 256 - 65535, by omega, by go_num, by go_num, by omega, hide HF.out.symm⟩
          case measure => simp [intOf]; omega
        · rw [if_neg hg] at hf
          have HF := hide hf
          have hgi : (m : Int) + ((s[i].toNat : Nat) : Int) * 256 ≤ 65535 := by omega
          clear hf hw
          go_wp2
          go_round
          case rel => exact ⟨i + 1, m + s[i].toNat * 256, by omega, by go_num, by go_num, by omega, hide HF.out.symm⟩
          case measure => simp [intOf]; omega
      · have e2 : ((i : Int).tmod 2 == 0) = false := by rw [beq_eq_false_iff_ne, Int.tmod_eq_emod_of_nonneg (by omega)]; omega
        have hf := fold_add (Sum.wt 0 (s.data.toList.take i)) s[i].toNat (by omega)
        have hw : Sum.wt 0 (s.data.toList.take (i + 1)) = Sum.wt 0 (s.data.toList.take i) + s[i].toNat := by
          rw [hsn.out, Sum.wt_snoc, HLI.out, if_neg he, Nat.mul_one]
        rw [← hw, ← H.out] at hf
        by_cases hg : 65535 < m + s[i].toNat
        · rw [if_pos hg] at hf
          have HF := hide hf
          have hgi : (65535 : Int) < (m : Int) + ((s[i].toNat : Nat) : Int) := by omega
          clear hf hw
          go_wp2
          go_round
          case rel => exact ⟨i + 1, m + s[i].toNat - 65535, by omega, by go_num, by go_num, by omega, hide HF.out.symm⟩
          case measure => simp [intOf]; omega
        · rw [if_neg hg] at hf
          have HF := hide hf
          have hgi : (m : Int) + ((s[i].toNat : Nat) : Int) ≤ 65535 := by omega
          clear hf hw
          go_wp2
          go_round
          case rel => exact ⟨i + 1, m + s[i].toNat, by omega, by go_num, by go_num, by omega, hide HF.out.symm⟩
          case measure => simp [intOf]; omega
    · have HM : Hid (((65535 - m : Nat)) = Sum.sum s.data.toList) := hide (by unfold Sum.sum; rw [H.out, List.take_of_length_le (by rw [hl.out]; omega)])
      have hni : (s.size : Int) ≤ (i : Int) := by omega
      go_wp2
      go_ret
      exact ⟨by rw [← HM.out]; exact ret_int (by omega), rfl⟩
end Go.Proofs.YtjlnbahanghhcaaGreatDoor

/- The contracts of the document's Covered (printed by wip/gen/mk_lawmay.py). -/
namespace Go.Proofs.YtjlnbahanghhcaaGreatDoor
open Go.RowKit
set_option linter.unusedVariables false
set_option linter.unusedSimpArgs false

set_option maxHeartbeats 4000000 in
set_option maxRecDepth 100000 in
theorem ref_Covered (total off cover : Int) (w : World) (h0 : 0 ≤ total) (h1 : total ≤ 4611686018427387904) :
    Calls Tryz.prog 23 #[.int .i64 total, .int .i64 off, .int .i64 cover] w fun e w' => e = .returned (.tuple #[.int .i64 (bif covB total off cover then covN total off cover else 0), .bool (covB total off cover)]) ∧ w = w' := by
  have no : ¬ (0 ≤ off ∧ off ≤ total ∧ 0 ≤ cover ∧ cover ≤ 15 ∧ covN total off cover ≤ total) → Ending.returned (.tuple #[.int .i64 0, .bool false]) = Ending.returned (.tuple #[.int .i64 (bif covB total off cover then covN total off cover else 0), .bool (covB total off cover)]) := fun h => by
    have e : covB total off cover = false := by unfold covB; exact decide_eq_false h
    rw [e]; rfl
  have yes : ∀ n : Int, (0 ≤ off ∧ off ≤ total ∧ 0 ≤ cover ∧ cover ≤ 15 ∧ covN total off cover ≤ total) → n = covN total off cover → Ending.returned (.tuple #[.int .i64 n, .bool true]) = Ending.returned (.tuple #[.int .i64 (bif covB total off cover then covN total off cover else 0), .bool (covB total off cover)]) := fun n h hn => by
    have e : covB total off cover = true := by unfold covB; exact decide_eq_true h
    rw [e, hn]; rfl
  have NO := hide no; have YES := hide yes
  clear no yes
  by_cases a0 : off < 0
  · go_enter Tryz.func23, Tryz.ntmps23
    go_wp2
    go_ret2
    exact ⟨NO.out (by omega), rfl⟩
  have a1 : 0 ≤ off := by omega
  clear a0
  by_cases b0 : total < off
  · go_enter Tryz.func23, Tryz.ntmps23
    go_wp2
    go_ret2
    exact ⟨NO.out (by omega), rfl⟩
  have b1 : off ≤ total := by omega
  clear b0
  by_cases c0 : cover < 0
  · go_enter Tryz.func23, Tryz.ntmps23
    go_wp2
    go_ret2
    exact ⟨NO.out (by omega), rfl⟩
  have c1 : 0 ≤ cover := by omega
  clear c0
  by_cases d0 : 15 < cover
  · go_enter Tryz.func23, Tryz.ntmps23
    go_wp2
    go_ret2
    exact ⟨NO.out (by omega), rfl⟩
  have d1 : cover ≤ 15 := by omega
  clear d0
  by_cases e0 : cover = 0
  · have e1 : (cover == 0) = true := beq_iff_eq.2 e0
    have E := hide e0
    clear e0
    go_enter Tryz.func23, Tryz.ntmps23
    go_wp2
    go_ret2
    have hc : covN total off cover = total := by unfold covN; rw [if_neg (by have := E.out; omega)]
    exact ⟨YES.out _ (by omega) hc.symm, rfl⟩
  have e1 : (cover == 0) = false := beq_eq_false_iff_ne.2 e0
  have e2 : 1 ≤ cover := by omega
  have hc : covN total off cover = off + 4 * (cover - 1) := by unfold covN; rw [if_pos (by omega)]
  have HC := hide hc
  clear hc e0
  by_cases f0 : total - off < 4 * (cover - 1)
  · go_enter Tryz.func23, Tryz.ntmps23
    go_wp2
    go_ret2
    exact ⟨NO.out (by have := HC.out; omega), rfl⟩
  · have f1 : 4 * (cover - 1) ≤ total - off := by omega
    clear f0
    go_enter Tryz.func23, Tryz.ntmps23
    go_wp2
    go_ret2
    exact ⟨YES.out _ (by have := HC.out; omega) HC.out.symm, rfl⟩
end Go.Proofs.YtjlnbahanghhcaaGreatDoor

/- The contract of the law's own `wrong': what is wrong with bytes. -/
namespace Go.Proofs.YtjlnbahanghhcaaGreatDoor
open Go.RowKit
set_option linter.unusedVariables false
set_option linter.unusedSimpArgs false
namespace PkB
theorem getO_place (b : ByteArray) (h : Hd) (h0 : 0 ≤ sizeB h.typ h.x) (h1 : sizeB h.typ h.x ≤ 4 * h.off) (h2 : 4 * h.off ≤ b.size) : getO (b.extract (sizeB h.typ h.x).toNat (4 * h.off).toNat) = getR ((optsOf b h).map (List.map ofS)) := by
  unfold getO optsOf
  rw [par_O, ext_list, ByteArray.size_extract]
  have e : min (4 * h.off).toNat b.size - (sizeB h.typ h.x).toNat = 4 * h.off.toNat - (sizeB h.typ h.x).toNat := by omega
  have e2 : (4 * h.off).toNat - (sizeB h.typ h.x).toNat = 4 * h.off.toNat - (sizeB h.typ h.x).toNat := by omega
  rw [e, e2]
theorem getP_opts (b : ByteArray) (h : Hd) (h0 : ¬ 2500 < b.size) (hg : getH b = (h, 0)) (hc : covB b.size (4 * h.off) h.cs = true) (hs : sumAt b h = 0) :
    (getO (b.extract (sizeB h.typ h.x).toNat (4 * h.off).toNat)).2 = (getP b).2.2.2 ∧ ((getP b).2.2.2 = 0 → (getP b).1 = h ∧ (getO (b.extract (sizeB h.typ h.x).toNat (4 * h.off).toNat)).1 = (getP b).2.1.map ofS ∧ (getP b).2.2.1 = b.extract (4 * h.off).toNat b.size) := by
  obtain ⟨p1, p2, p3, p4, p5, p6, p7⟩ := getH_place b h hg
  rw [getO_place b h (by omega) p1 p2]
  unfold getP
  rw [if_neg h0, hg]
  dsimp only
  rw [if_neg (fun h => h rfl), if_neg (by rw [hc]; decide), if_neg (fun h => h hs)]
  cases optsOf b h with
  | none => exact ⟨rfl, fun h => absurd (show (7 : Int) = 0 from h) (by decide)⟩
  | some l => exact ⟨rfl, fun _ => ⟨rfl, rfl, rfl⟩⟩
end PkB
set_option maxHeartbeats 8000000 in
set_option maxRecDepth 100000 in
theorem law_wrong (b : ByteArray) (hb : b.size ≤ 100000000) (w : World) : Calls Tryz.prog 15 #[.string b] w fun e w' => e = .returned (.int .i64 (PkB.getP b).2.2.2) ∧ Below w.heap.size w w' := by
  by_cases h0 : 2500 < b.size
  · have e : (PkB.getP b).2.2.2 = 13 := by unfold PkB.getP; rw [if_pos h0]
    rw [e]
    have h0i : (2500 : Int) < (b.size : Int) := by omega
    clear e h0
    go_enter Tryz.func15, Tryz.ntmps15
    go_wp2
    go_ret
    exact ⟨rfl, Below.refl _ _⟩
  have h0i : ¬ ((2500 : Int) < (b.size : Int)) := by omega
  have h0j : (b.size : Int) ≤ 2500 := by omega
  have hR := fun W => RH.ref_GetHead b (by omega) W
  obtain ⟨⟨h, E⟩, hg⟩ : ∃ g, getH b = g := ⟨_, rfl⟩
  rw [hg] at hR
  dsimp only at hR
  have HV : Hid (h.val = .agg #[.int .i64 h.src, .int .i64 h.dst, .int .i64 h.off, .int .i64 h.cc, .int .i64 h.cs, .int .i64 h.sum, .int .i64 h.typ, .bool h.x, .int .u64 h.seq, .int .u64 h.ack, .int .u32 h.serv, .int .i64 h.code, .int .u8 h.i0, .int .u8 h.i1, .int .u8 h.i2]) := hide (by obtain ⟨src, dst, off, cc, cs, sum, typ, x, seq, ack, serv, code, i0, i1, i2⟩ := h; rw [Hd.val_mk])
  rw [HV.out] at hR
  by_cases hE : E = 0
  case neg =>
    have e : (PkB.getP b).2.2.2 = E := by unfold PkB.getP; rw [if_neg h0, hg]; dsimp only; rw [if_pos hE]
    rw [e]
    have HR := hide hR
    have hE1 : (E == 0) = false := beq_eq_false_iff_ne.2 hE
    clear hR e hg h0 HV
    go_enter Tryz.func15, Tryz.ntmps15
    go_wp2_with fail
    refine (HR.out _).mono ?_
    rintro e w2 ⟨rfl, hb2⟩
    go_wp2_with fail
    go_ret
    exact ⟨rfl, hb2.alloc hb2.size _⟩
  subst hE
  obtain ⟨p1, p2, p3, p4, p5, p6, p7⟩ := PkB.getH_place b h hg
  have hC := fun W => ref_Covered b.size (4 * h.off) h.cs W (by omega) (by omega)
  have hS := fun W => ref_Size h.typ h.x W
  by_cases hc : covB b.size (4 * h.off) h.cs = false
  · have e : (PkB.getP b).2.2.2 = 5 := by unfold PkB.getP; rw [if_neg h0, hg]; dsimp only; rw [if_neg (fun h => h rfl), if_pos hc]
    rw [e]
    rw [hc] at hC
    simp only [cond_false] at hC
    have HR := hide hR; have HC := hide hC
    clear hR e hg h0 HV hC hc hS
    generalize h.src = g0 at *
    generalize h.dst = g1 at *
    generalize h.off = g2 at *
    generalize h.cc = g3 at *
    generalize h.cs = g4 at *
    generalize h.sum = g5 at *
    generalize h.seq = g8 at *
    generalize h.ack = g9 at *
    generalize h.serv = g10 at *
    generalize h.code = g11 at *
    go_enter Tryz.func15, Tryz.ntmps15
    go_wp2_with fail
    refine (HR.out _).mono ?_
    rintro e w2 ⟨rfl, hb2⟩
    go_wp2_with fail
    refine (HC.out _).mono ?_
    rintro e w3 ⟨rfl, rfl⟩
    go_wp2_with fail
    go_ret
    exact ⟨rfl, hb2.alloc hb2.size _⟩
  have hc := Bool.not_eq_false _ ▸ hc
  obtain ⟨c0, c1⟩ := PkB.covN_nn b h p3 hc
  have hM := fun W => ref_Sum (b.extract 0 (covN b.size (4 * h.off) h.cs).toNat) (by rw [ByteArray.size_extract]; omega) W
  by_cases hs : PkB.sumAt b h ≠ 0
  · have e : (PkB.getP b).2.2.2 = 6 := by unfold PkB.getP; rw [if_neg h0, hg]; dsimp only; rw [if_neg (fun h => h rfl), if_neg (by rw [hc]; decide), if_pos hs]
    rw [e]
    rw [hc] at hC
    simp only [cond_true] at hC
    unfold PkB.sumAt at hs
    obtain ⟨S, hSS⟩ : ∃ S, Sum.sum (b.extract 0 (covN b.size (4 * h.off) h.cs).toNat).data.toList = S := ⟨_, rfl⟩
    rw [hSS] at hs hM
    have hs1 : ((S : Int) == 0) = false := beq_eq_false_iff_ne.2 (by omega)
    have HR := hide hR; have HC := hide hC; have HM := hide hM
    clear hR e hg h0 HV hC hc hS hM hSS hs
    generalize covN b.size (4 * h.off) h.cs = N at *
    generalize h.src = g0 at *
    generalize h.dst = g1 at *
    generalize h.off = g2 at *
    generalize h.cc = g3 at *
    generalize h.cs = g4 at *
    generalize h.sum = g5 at *
    go_enter Tryz.func15, Tryz.ntmps15
    go_wp2_with fail
    refine (HR.out _).mono ?_
    rintro e w2 ⟨rfl, hb2⟩
    go_wp2_with fail
    refine (HC.out _).mono ?_
    rintro e w3 ⟨rfl, rfl⟩
    go_wp2_with fail
    refine (HM.out _).mono ?_
    rintro e w3 ⟨rfl, rfl⟩
    go_wp2_with fail
    go_ret
    exact ⟨rfl, hb2.alloc hb2.size _⟩
  have hs := Decidable.not_not.1 hs
  obtain ⟨e, _⟩ := PkB.getP_opts b h h0 hg hc hs
  rw [← e]
  rw [hc] at hC
  simp only [cond_true] at hC
  have hs2 : Sum.sum (b.extract 0 (covN b.size (4 * h.off) h.cs).toNat).data.toList = 0 := hs
  rw [hs2] at hM
  have hO := fun W => RG.ref_GetOpts_any (b.extract (sizeB h.typ h.x).toNat (4 * h.off).toNat) (by rw [ByteArray.size_extract]; omega) W
  have HR := hide hR; have HC := hide hC; have HM := hide hM; have HS := hide hS; have HO := hide hO
  clear hR e hg h0 HV hC hc hS hM hs hs2 hO
  obtain ⟨src, dst, off, cc, cs, sum, typ, x, seq, ack, serv, code, i0, i1, i2⟩ := h
  dsimp only at *
  generalize covN b.size (4 * off) cs = N at *
  generalize sizeB typ x = Z at *
  go_enter Tryz.func15, Tryz.ntmps15
  go_wp2_with fail
  refine (HR.out _).mono ?_
  rintro e w2 ⟨rfl, hb2⟩
  have hb3 := hb2.alloc hb2.size (.cells #[.int .i64 src, .int .i64 dst, .int .i64 off, .int .i64 cc, .int .i64 cs, .int .i64 sum, .int .i64 typ, .bool x, .int .u64 seq, .int .u64 ack, .int .u32 serv, .int .i64 code, .int .u8 i0, .int .u8 i1, .int .u8 i2] 26)
  have HB3 := hide hb3
  have hz2 := hb2.size
  clear hb3
  go_wp2_with fail
  refine (HC.out _).mono ?_
  rintro e w3 ⟨rfl, rfl⟩
  go_wp2_with fail
  refine (HM.out _).mono ?_
  rintro e w3 ⟨rfl, rfl⟩
  go_upto_region 11 with fail
  go_cut [4] (fun v4 wx => v4 = .int .i64 (PkB.getO (b.extract Z.toNat (4 * off).toNat)).2 ∧ Below w.heap.size w wx)
  case first =>
    have bk := Blk.new w2 #[.int .i64 src, .int .i64 dst, .int .i64 off, .int .i64 cc, .int .i64 cs, .int .i64 sum, .int .i64 typ, .bool x, .int .u64 seq, .int .u64 ack, .int .u32 serv, .int .i64 code, .int .u8 i0, .int .u8 i1, .int .u8 i2] 26
    have f2 := bk.cell (i := 2) (u := .int .i64 off) rfl
    have f6 := bk.cell (i := 6) (u := .int .i64 typ) rfl
    have f7 := bk.cell (i := 7) (u := .bool x) rfl
    have OO : Hid (∀ W : World, w2.heap.size + 1 ≤ W.heap.size → Calls Tryz.prog 18 #[.string (b.extract Z.toNat (4 * off).toNat)] W fun e w' => ∃ (A : Option Addr) (c : Nat), e = .returned (.tuple #[.slice A (PkB.getO (b.extract Z.toNat (4 * off).toNat)).1.length c, .int .i64 (PkB.getO (b.extract Z.toNat (4 * off).toNat)).2]) ∧ Below (w2.heap.size + 1) W w' ∧ w2.heap.size + 1 ≤ w'.heap.size) := hide (fun W hB => (HO.out W).mono fun e w' q => by obtain ⟨A, c, q1, _, _, q2⟩ := q; exact ⟨A, c, q1, q2.mono hB, Nat.le_trans hB q2.size⟩)
    clear bk
    have hz3 : w2.heap.size + 1 ≤ (w2.alloc (.cells #[.int .i64 src, .int .i64 dst, .int .i64 off, .int .i64 cc, .int .i64 cs, .int .i64 sum, .int .i64 typ, .bool x, .int .u64 seq, .int .u64 ack, .int .u32 serv, .int .i64 code, .int .u8 i0, .int .u8 i1, .int .u8 i2] 26)).heap.size := by simp
    generalize (w2.alloc (.cells #[.int .i64 src, .int .i64 dst, .int .i64 off, .int .i64 cc, .int .i64 cs, .int .i64 sum, .int .i64 typ, .bool x, .int .u64 seq, .int .u64 ack, .int .u32 serv, .int .i64 code, .int .u8 i0, .int .u8 i1, .int .u8 i2] 26)) = w4 at *
    have hz0 : (0 : Int) ≤ Z := by omega
    have hw : IntKind.i64.wrap (4 * off) = 4 * off := by rw [IntKind.wrap_i64]; omega
    have hoff0 : (0 : Int) ≤ 4 * off := by omega
    have hnz : ¬ (Z < 0) := by omega
    have hno : ¬ (4 * off < Z) := by omega
    have hnb : ¬ ((b.size : Int) < 4 * off) := by omega
    go_region_held3 (fun w' => w'.cell? ⟨w2.heap.size, 2, none⟩ = some (.int .i64 off) ∧ w'.cell? ⟨w2.heap.size, 6, none⟩ = some (.int .i64 typ) ∧ w'.cell? ⟨w2.heap.size, 7, none⟩ = some (.bool x))
      (first | go_keep | (go_split_ands; refine ⟨(hbA.cell (Nat.lt_succ_self _)).trans ?_, (hbA.cell (Nat.lt_succ_self _)).trans ?_, (hbA.cell (Nat.lt_succ_self _)).trans ?_⟩ <;> assumption) | (refine ⟨(hbA.cell (Nat.lt_succ_self _)).trans ?_, (hbA.cell (Nat.lt_succ_self _)).trans ?_, (hbA.cell (Nat.lt_succ_self _)).trans ?_⟩ <;> assumption))
      (first | (go_at_call 18; (with_reducible refine (OO.out _ ?_).mono ?_); (first | assumption | (simp; omega)); rintro e w' ⟨A, c, rfl, hbA, zA⟩) | (go_at_call 19; (with_reducible refine (HS.out _).mono ?_); rintro e w' ⟨rfl, rfl⟩))
    all_goals (go_wp2_with fail; go_meet; exact ⟨rfl, HB3.out.drew.trans (hbA.mono (by omega))⟩)
  case rest =>
    obtain ⟨rfl, hb⟩ := hcut
    go_wp2_with fail
    go_ret
    exact ⟨rfl, hb⟩
end Go.Proofs.YtjlnbahanghhcaaGreatDoor

/- What this seat's Go functions compute, as Lean functions, and that they do. Written by a program of this session's (wip/pr/pr.py) by means of the kit's printer, with contracts of ours for some functions; conditions: none beyond each theorem's own. -/
namespace Go.Proofs.YtjlnbahanghhcaaGreatDoor.POpts
open Go.RowKit Go.Proofs.YtjlnbahanghhcaaGreatDoorW.PrintWords Go.Proofs.YtjlnbahanghhcaaGreatDoorW.PrintLast Go.Proofs.YtjlnbahanghhcaaGreatDoorW.PrintMore
attribute [local go_sem] max2_int min2_int max_two min_two max_three min_three max_four min_four   -- for this text's walks alone
set_option linter.unusedVariables false
set_option linter.unusedSimpArgs false



def errW : Option Int → Value
  | none => .nilIface
  | some c => .iface 0 (.int .i64 c)
theorem errW_none : errW none = .nilIface := rfl
theorem errW_some (c : Int) : errW (some c) = .iface 0 (.int .i64 c) := rfl

-- the values' own types
/-! #### struct type 50 -/
structure S50 where
  f0 : Int
  f1 : ByteArray
def z50 : S50 := ⟨(0 : Int), (⟨#[]⟩ : ByteArray)⟩
def k50 : Kd S50 := Kd.iso (Kd.pair (Kd.int .i64) Kd.string) (fun x : S50 => (x.f0, x.f1))
theorem k50_open {w : World} {x : S50} {cs : List Value} (h : k50.K w x cs) : cs = [.int .i64 x.f0, .string x.f1] := by
  obtain ⟨_, _, rfl, rfl, rfl⟩ := h
  exact rfl
theorem k50_mk (w : World) (x : S50)  : k50.K w x [.int .i64 x.f0, .string x.f1] := ⟨[.int .i64 x.f0], [.string x.f1], rfl, rfl, rfl⟩
theorem k50_mkM (w : World) (base : Nat) (ok : Nat → Prop) (x : S50)  : k50.M w base ok x [.int .i64 x.f0, .string x.f1] := ⟨[.int .i64 x.f0], [.string x.f1], rfl, rfl, rfl⟩
def rd_T50 (xs : List S50) (i : Int) : S50 := xs.getD i.toNat z50
theorem at_T50 {w : World} {A : Option Addr} {n : Nat} {xs : List S50} (h : Kd.C k50 w A n xs) (i : Int) (h0 : 0 ≤ i) (h1 : i < n) : ∃ ad , A = some ad ∧ w.cell? (ad.add (i.toNat * 2)) = some (.int .i64 (rd_T50 xs i).f0) ∧ w.cell? ⟨(ad.add (i.toNat * 2)).block, (ad.add (i.toNat * 2)).off + 1, none⟩ = some (.string (rd_T50 xs i).f1) := by
  obtain ⟨ad, c, e, _, hK, hc0⟩ := Kd.C_get h z50 i h0 h1
  have hc : ∀ j u, c[j]? = some u → w.cell? (ad.add (i.toNat * 2 + j)) = some u := hc0
  obtain rfl := k50_open hK
  exact ⟨ad, e, hc 0 _ rfl, by rw [← add_field _ _ 1 (by omega)]; exact hc 1 _ rfl⟩

end Go.Proofs.YtjlnbahanghhcaaGreatDoor.POpts

/- What this seat's Go functions compute, as Lean functions, and that they do. Written by a program of this session's (wip/pr/pr.py) by means of the kit's printer, with contracts of ours for some functions; conditions: none beyond each theorem's own. -/
namespace Go.Proofs.YtjlnbahanghhcaaGreatDoor.POpts
open Go.RowKit Go.Proofs.YtjlnbahanghhcaaGreatDoorW.PrintWords Go.Proofs.YtjlnbahanghhcaaGreatDoorW.PrintLast Go.Proofs.YtjlnbahanghhcaaGreatDoorW.PrintMore
attribute [local go_sem] max2_int min2_int max_two min_two max_three min_three max_four min_four   -- for this text's walks alone
set_option linter.unusedVariables false
set_option linter.unusedSimpArgs false

theorem eqA50 (d : Nat) (w : World) (x0 y0 : Int) (x1 y1 : ByteArray) :
    (Op.equalIn (d + 2) 50 (.agg #[.int .i64 x0, .string x1]) (.agg #[.int .i64 y0, .string y1])).run Tryz.prog w = .ok (x0 == y0 && (x1.toList == y1.toList)) w := by
  refine eqA_of Tryz.underlying50 (by kernel_rfl) ?_
  refine eqf_cons (by rfl) (by go_simp; rfl) (by go_simp; rfl) (by go_simp) ?_
  exact eqf_last (by rfl) (by go_simp; rfl) (by go_simp; rfl) (by go_simp)
end Go.Proofs.YtjlnbahanghhcaaGreatDoor.POpts

/- What this seat's Go functions compute, as Lean functions, and that they do. Written by a program of this session's (wip/pr/pr.py) by means of the kit's printer, with contracts of ours for some functions; conditions: none beyond each theorem's own. -/
namespace Go.Proofs.YtjlnbahanghhcaaGreatDoor.POpts
open Go.RowKit Go.Proofs.YtjlnbahanghhcaaGreatDoorW.PrintWords Go.Proofs.YtjlnbahanghhcaaGreatDoorW.PrintLast Go.Proofs.YtjlnbahanghhcaaGreatDoorW.PrintMore
attribute [local go_sem] max2_int min2_int max_two min_two max_three min_three max_four min_four   -- for this text's walks alone
set_option linter.unusedVariables false
set_option linter.unusedSimpArgs false

attribute [local go_sem high] eqA50
/-! ### muleteerlaw1_Opts: function 20 -/
def muleteerlaw1_Opts.l0 : Nat → List (S50) → List (S50) → Int → Int → Option (Bool)
  | 0, _, _, _, _ => none
  | k + 1, x0, x1, x12, x13 => if x13 < x12 then (if 0 ≤ x13 then (if x13 < (x0.length : Int) then (if x13 < (x1.length : Int) then (if (!(((rd_T50 x0 x13).f0) == ((rd_T50 x1 x13).f0)) || (!((((rd_T50 x0 x13).f1).toList) == (((rd_T50 x1 x13).f1).toList)))) = true then (some false) else (muleteerlaw1_Opts.l0 k x0 x1 x12 (wrap64 (x13 + 1)))) else (none)) else (none)) else (none)) else (some true)
def muleteerlaw1_Opts.f (k : Nat) (l0 : List (S50)) (l1 : List (S50)) : Option (Bool) := if (l0.length : Int) = (l1.length : Int) then (muleteerlaw1_Opts.l0 k l0 l1 (l0.length : Int) 0) else (some false)
theorem muleteerlaw1_Opts.mono_l : ∀ k, (∀ y0 y1 y2 y3, LeO (muleteerlaw1_Opts.l0 k y0 y1 y2 y3) (muleteerlaw1_Opts.l0 (k + 1) y0 y1 y2 y3))
  | 0 => fun _ _ _ _ r h => by simp [muleteerlaw1_Opts.l0] at h
  | k + 1 => by
    have ih0 := muleteerlaw1_Opts.mono_l k
    · intro y0 y1 y2 y3
      unfold muleteerlaw1_Opts.l0
      repeat' first
      | (with_reducible exact ih0 _ _ _ _)
      | (with_reducible exact LeO.refl _)
      | (with_reducible exact LeO.none _)
      | (with_reducible refine LeO.ite ?_ ?_)
      | (with_reducible refine LeO.bind ?_ (fun _ => ?_))
      | exact ih0 _ _ _ _
      | exact LeO.none _
      | refine LeO.ite ?_ ?_
      | refine LeO.bind ?_ (fun _ => ?_)
theorem muleteerlaw1_Opts.mono : ∀ a0 a1 k, LeO (muleteerlaw1_Opts.f k a0 a1) (muleteerlaw1_Opts.f (k + 1) a0 a1) := by
  intro a0 a1 k
  have ih0 := muleteerlaw1_Opts.mono_l k
  unfold muleteerlaw1_Opts.f
  repeat' first
      | (with_reducible exact ih0 _ _ _ _)
      | (with_reducible exact LeO.refl _)
      | (with_reducible exact LeO.none _)
      | (with_reducible refine LeO.ite ?_ ?_)
      | (with_reducible refine LeO.bind ?_ (fun _ => ?_))
      | exact ih0 _ _ _ _
      | exact LeO.none _
      | refine LeO.ite ?_ ?_
      | refine LeO.bind ?_ (fun _ => ?_)
set_option maxHeartbeats 8000000 in
set_option maxRecDepth 100000 in
theorem muleteerlaw1_Opts.calls (k : Nat) (A0 : Option Addr) (c0 : Nat) (l0 : List (S50)) (A1 : Option Addr) (c1 : Nat) (l1 : List (S50)) (r : Bool) (w : World) (hr0 : Kd.C k50 w A0 l0.length l0) (hc0 : l0.length ≤ c0) (hr1 : Kd.C k50 w A1 l1.length l1) (hc1 : l1.length ≤ c1) (h : muleteerlaw1_Opts.f k l0 l1 = some r) :
    Calls Tryz.prog 20 #[.slice A0 l0.length c0, .slice A1 l1.length c1] w fun e w' => e = .returned (.bool r) ∧ Drawn0 w w' := by
  have hu50 := Tryz.underlying50
  have HR0 := Aside0.mk hr0
  have HC0 := Aside0.mk hc0
  clear hr0 hc0
  have HR1 := Aside0.mk hr1
  have HC1 := Aside0.mk hc1
  clear hr1 hc1
  have H : (if (l0.length : Int) = (l1.length : Int) then (muleteerlaw1_Opts.l0 k l0 l1 (l0.length : Int) 0) else (some false)) = some r := h
  clear h
  by_cases c3 : (l0.length : Int) = (l1.length : Int)
  · rw [if_pos c3] at H
    have c3b0 : ((l0.length : Int) == (l1.length : Int)) = true := beq_iff_eq.mpr c3
    have c3b1 : ((l0.length : Int) != (l1.length : Int)) = false := bne_eq_false_iff_eq.mpr c3
    have c3b2 : (l0.length == l1.length) = true := by first | simpa using c3 | (simp at c3 ⊢; omega)
    clear c3
    have H' := Aside0.mk H
    clear H
    go_enter Tryz.func20, Tryz.ntmps20
    go_wp2
    repeat (go_quiet (fail); try go_wp2)
    go_loopg [13] k (fun kq v13 w' => ∃ (x13_1 : Int), v13 = .int .i64 x13_1 ∧ Aside0 (muleteerlaw1_Opts.l0 kq l0 l1 (l0.length : Int) x13_1 = some r) ∧ Aside0 (kq ≤ k) ∧ Drawn0 w w')
    case atStart => exact ⟨(0), (by first | rfl | (simp; done) | (simp [*]; done)), H', ⟨Nat.le_refl _⟩, by repeat (first | exact Drawn0.refl _ | apply Drawn0.step)⟩
    case round =>
      clear H'
      try clear c1
      try clear c2
      try clear p2
      try clear c3
      try clear c3b0
      try clear c3b1
      try clear c3b2
      obtain ⟨x13_1, rfl, HA, HK1, ⟨m1, rfl⟩⟩ := hrel
      cases gk with
      | zero => exact absurd HA.out (by simp [muleteerlaw1_Opts.l0])
      | succ k1 =>
        have H := HA.out
        clear HA
        simp only [muleteerlaw1_Opts.l0] at H
        by_cases c4 : x13_1 < (l0.length : Int)
        · rw [if_pos c4] at H
          have c4b0 : decide (x13_1 < (l0.length : Int)) = true := decide_eq_true c4
          clear c4
          by_cases c5 : 0 ≤ x13_1
          · rw [if_pos c5] at H
            have c5b0 : decide (0 ≤ x13_1) = true := decide_eq_true c5
            clear c5
            by_cases c6 : x13_1 < (l0.length : Int)
            · rw [if_pos c6] at H
              have c6b0 : decide (x13_1 < (l0.length : Int)) = true := decide_eq_true c6
              clear c6
              by_cases c7 : x13_1 < (l1.length : Int)
              · rw [if_pos c7] at H
                have c7b0 : decide (x13_1 < (l1.length : Int)) = true := decide_eq_true c7
                clear c7
                by_cases c8 : (!(((rd_T50 l0 x13_1).f0) == ((rd_T50 l1 x13_1).f0)) || (!((((rd_T50 l0 x13_1).f1).toList) == (((rd_T50 l1 x13_1).f1).toList)))) = true
                · rw [if_pos c8] at H
                  have c8b0 : (!(((rd_T50 l0 x13_1).f0) == ((rd_T50 l1 x13_1).f0)) || (!((((rd_T50 l0 x13_1).f1).toList) == (((rd_T50 l1 x13_1).f1).toList)))) = true := c8
                  clear c8
                  obtain rfl := Option.some.inj H
                  have p101 : 0 ≤ (x13_1 : Int) := of_decide_eq_true (by first | (with_reducible assumption) | assumption)
                  have q101 : x13_1 < (l0.length : Int) := of_decide_eq_true (by first | (with_reducible assumption) | assumption)
                  obtain ⟨ad101, e101, hx101_0, hx101_1⟩ := at_T50 HR0.out x13_1 p101 q101
                  cases e101
                  replace p101 := eq_true p101
                  replace q101 := eq_true q101
                  have p102 : 0 ≤ (x13_1 : Int) := of_decide_eq_true (by first | (with_reducible assumption) | assumption)
                  have q102 : x13_1 < (l1.length : Int) := of_decide_eq_true (by first | (with_reducible assumption) | assumption)
                  obtain ⟨ad102, e102, hx102_0, hx102_1⟩ := at_T50 HR1.out x13_1 p102 q102
                  cases e102
                  replace p102 := eq_true p102
                  replace q102 := eq_true q102
                  go_wp2
                  repeat (go_quiet (fail); try go_wp2)
                  go_ret
                  exact ⟨by first | rfl | (simp; done) | (simp [*]; done), by repeat (first | exact Drawn0.refl _ | apply Drawn0.step)⟩
                · rw [if_neg c8] at H
                  have c8b0 : (!(((rd_T50 l0 x13_1).f0) == ((rd_T50 l1 x13_1).f0)) || (!((((rd_T50 l0 x13_1).f1).toList) == (((rd_T50 l1 x13_1).f1).toList)))) = false := by simpa using c8
                  clear c8
                  have H' := Aside0.mk H
                  clear H
                  have p101 : 0 ≤ (x13_1 : Int) := of_decide_eq_true (by first | (with_reducible assumption) | assumption)
                  have q101 : x13_1 < (l0.length : Int) := of_decide_eq_true (by first | (with_reducible assumption) | assumption)
                  obtain ⟨ad101, e101, hx101_0, hx101_1⟩ := at_T50 HR0.out x13_1 p101 q101
                  cases e101
                  replace p101 := eq_true p101
                  replace q101 := eq_true q101
                  have p102 : 0 ≤ (x13_1 : Int) := of_decide_eq_true (by first | (with_reducible assumption) | assumption)
                  have q102 : x13_1 < (l1.length : Int) := of_decide_eq_true (by first | (with_reducible assumption) | assumption)
                  obtain ⟨ad102, e102, hx102_0, hx102_1⟩ := at_T50 HR1.out x13_1 p102 q102
                  cases e102
                  replace p102 := eq_true p102
                  replace q102 := eq_true q102
                  go_wp2
                  repeat (go_quiet (fail); try go_wp2)
                  go_roundg k1
                  case measure => have := HK1.out; omega
                  case rel => exact ⟨(wrap64 (x13_1 + 1)), (by first | rfl | (simp; done) | (simp [*]; done)), H', ⟨by have := HK1.out; omega⟩, by repeat (first | exact Drawn0.refl _ | apply Drawn0.step)⟩
              · rw [if_neg c7] at H
                exact absurd H (by simp)
            · rw [if_neg c6] at H
              exact absurd H (by simp)
          · rw [if_neg c5] at H
            exact absurd H (by simp)
        · rw [if_neg c4] at H
          have c4b0 : decide (x13_1 < (l0.length : Int)) = false := decide_eq_false c4
          clear c4
          obtain rfl := Option.some.inj H
          go_wp2
          repeat (go_quiet (fail); try go_wp2)
          go_ret
          exact ⟨by first | rfl | (simp; done) | (simp [*]; done), by repeat (first | exact Drawn0.refl _ | apply Drawn0.step)⟩
  · rw [if_neg c3] at H
    have c3b0 : ((l0.length : Int) == (l1.length : Int)) = false := beq_eq_false_iff_ne.mpr c3
    have c3b1 : ((l0.length : Int) != (l1.length : Int)) = true := bne_iff_ne.mpr c3
    have c3b2 : (l0.length == l1.length) = false := by first | simpa using c3 | (simp at c3 ⊢; omega)
    obtain rfl := Option.some.inj H
    go_enter Tryz.func20, Tryz.ntmps20
    go_wp2
    repeat (go_quiet (fail); try go_wp2)
    go_ret
    exact ⟨by first | rfl | (simp; done) | (simp [*]; done), by repeat (first | exact Drawn0.refl _ | apply Drawn0.step)⟩

end Go.Proofs.YtjlnbahanghhcaaGreatDoor.POpts

/- The contract of the laws' own Opts at two slices that hold the same options. -/
namespace Go.Proofs.YtjlnbahanghhcaaGreatDoor.RO
open Go.RowKit Go.Proofs.YtjlnbahanghhcaaGreatDoor.POpts Go.Proofs.YtjlnbahanghhcaaGreatDoorW.PrintWords Go.Proofs.YtjlnbahanghhcaaGreatDoorW.PrintLast Go.Proofs.YtjlnbahanghhcaaGreatDoorW.PrintMore
set_option linter.unusedVariables false
set_option linter.unusedSimpArgs false
def mkB (l : List UInt8) : ByteArray := ⟨l.toArray⟩
theorem mkB_self (s : ByteArray) : mkB s.data.toList = s := ByteArray.ext (by unfold mkB; rw [Array.toArray_toList])
theorem ext_list (s : ByteArray) (a b : Nat) : (s.extract a b).data.toList = (s.data.toList.drop a).take (b - a) := by
  rw [ByteArray.data_extract, Array.toList_extract, List.extract_eq_take_drop]
theorem ext_mkB (s : ByteArray) (a b : Nat) : s.extract a b = mkB ((s.data.toList.drop a).take (b - a)) := by
  rw [← mkB_self (s.extract a b), ext_list]
theorem ext_drop (s : ByteArray) (a : Nat) : (s.extract a s.size).data.toList = s.data.toList.drop a := by
  rw [ext_list, List.take_of_length_le]
  rw [List.length_drop, Array.length_toList]; exact Nat.le_refl _
theorem len_size (s : ByteArray) : s.data.toList.length = s.size := by rw [Array.length_toList]; rfl
theorem bt_drop (s : ByteArray) (i : Nat) (t : UInt8) (r : List UInt8) (h : s.data.toList.drop i = t :: r) : bt s (i : Int) = (t.toNat : Int) := by
  have hlt : i < s.data.toList.length := by
    rcases Nat.lt_or_ge i s.data.toList.length with h' | h'
    · exact h'
    · rw [List.drop_eq_nil_of_le h'] at h; cases h
  have hlt' : i < s.size := by rw [← len_size]; exact hlt
  rw [List.drop_eq_getElem_cons hlt] at h
  rw [← bt_at s (i : Int) (by rw [Int.toNat_natCast]; exact hlt')]
  have e : s[i] = t := (List.cons.inj h).1
  show ((s[(i : Int).toNat]'_).toNat : Int) = _
  simp only [Int.toNat_natCast]
  rw [e]
theorem rdT_get (l : List S50) (i : Nat) (h : i < l.length) : rd_T50 l (i : Int) = l[i] := by
  unfold rd_T50
  rw [Int.toNat_natCast, List.getD_eq_getElem?_getD, List.getElem?_eq_getElem h]; rfl
theorem opts_loop (l : List S50) (d : Nat) : ∀ (i k : Nat), i + d = l.length → d < k → l.length ≤ 1000000000 → muleteerlaw1_Opts.l0 k l l (l.length : Int) (i : Int) = some true := by
  induction d with
  | zero =>
    intro i k hi hk _
    obtain ⟨k, rfl⟩ : ∃ j, k = j + 1 := ⟨k - 1, by omega⟩
    simp only [muleteerlaw1_Opts.l0]
    rw [if_neg (by omega)]
  | succ d ih =>
    intro i k hi hk hl
    obtain ⟨k, rfl⟩ : ∃ j, k = j + 1 := ⟨k - 1, by omega⟩
    have e : wrap64 ((i : Int) + 1) = ((i + 1 : Nat) : Int) := by rw [wrap64_eq]; omega
    simp only [muleteerlaw1_Opts.l0]
    rw [if_pos (by omega), if_pos (by omega), if_pos (by omega), if_pos (by omega), rdT_get l i (by omega), beq_self_eq_true, beq_self_eq_true, e]
    exact (if_neg (by simp)).trans (ih (i + 1) k (by omega) (by omega) hl)
theorem opts_same (l : List S50) (k : Nat) (hk : l.length < k) (hl : l.length ≤ 1000000000) : muleteerlaw1_Opts.f k l l = some true := by
  unfold muleteerlaw1_Opts.f
  rw [if_pos rfl]
  exact opts_loop l l.length 0 k (by omega) hk hl
def toS (o : Op) : S50 := ⟨o.typ, o.data⟩
theorem cells_row {w : World} {B : Nat} {A : Option Addr} {l : List Op} (h : CellsAt w B A (ocells l)) (hl : l.length ≤ 1000000000) : Kd.C k50 w A (l.map toS).length (l.map toS) := by
  refine ⟨rfl, by rw [List.length_map]; omega, fun hp => ?_⟩
  rw [List.length_map] at hp
  obtain ⟨ad, e, _, _⟩ := h 0 _ (ocells_at l 0 hp).1
  refine ⟨ad, e, fun j p hj => ?_⟩
  have hjl : j < l.length := by have := (List.getElem?_eq_some_iff.1 hj).1; rwa [List.length_map] at this
  obtain rfl : toS l[j] = p := by rw [List.getElem?_map, List.getElem?_eq_getElem hjl] at hj; exact Option.some.inj hj
  have hat := ocells_at l j hjl
  refine ⟨[.int .i64 l[j].typ, .string l[j].data], rfl, k50_mk _ _, fun i u hu => ?_⟩
  match i, hu with
  | 0, hu =>
    cases hu
    obtain ⟨ad', e', _, hc⟩ := h _ _ hat.1
    rw [e] at e'; cases e'; exact hc
  | 1, hu =>
    cases hu
    obtain ⟨ad', e', _, hc⟩ := h _ _ hat.2
    rw [e] at e'; cases e'; exact hc
theorem law_Opts_same (A0 A1 : Option Addr) (c0 c1 B : Nat) (l : List Op) (w : World) (hl : l.length ≤ 1000000000) (h0 : CellsAt w B A0 (ocells l)) (h1 : CellsAt w B A1 (ocells l)) (hc0 : l.length ≤ c0) (hc1 : l.length ≤ c1) :
    Calls Tryz.prog 20 #[.slice A0 l.length c0, .slice A1 l.length c1] w fun e w' => e = .returned (.bool true) ∧ Drawn0 w w' := by
  have h := muleteerlaw1_Opts.calls (l.length + 1) A0 c0 (l.map toS) A1 c1 (l.map toS) true w (cells_row h0 hl) (by rw [List.length_map]; exact hc0) (cells_row h1 hl) (by rw [List.length_map]; exact hc1) (opts_same _ _ (by rw [List.length_map]; omega) (by rw [List.length_map]; exact hl))
  rw [List.length_map] at h
  exact h
end Go.Proofs.YtjlnbahanghhcaaGreatDoor.RO

/- PktCover: a byte behind the head and the options that is turned: plain. -/
namespace Go.Proofs.YtjlnbahanghhcaaGreatDoor.PkB
open Go.RowKit Go.Proofs.YtjlnbahanghhcaaGreatDoor.PoptGet Go.Proofs.YtjlnbahanghhcaaGreatDoor.PkF Go.Proofs.YtjlnbahanghhcaaGreatDoorW.PrintWords Go.Proofs.YtjlnbahanghhcaaGreatDoorW.PrintLast Go.Proofs.YtjlnbahanghhcaaGreatDoorW.PrintMore
set_option linter.unusedVariables false
set_option linter.unusedSimpArgs false

theorem flat_inj (p q : Hd × List SO × ByteArray × Int) (e : flat p = flat q) : p = q := by
  obtain ⟨⟨a1, a2, a3, a4, a5, a6, a7, a8, a9, a10, a11, a12, a13, a14, a15⟩, l, d, E⟩ := p
  obtain ⟨⟨b1, b2, b3, b4, b5, b6, b7, b8, b9, b10, b11, b12, b13, b14, b15⟩, m, f, F⟩ := q
  unfold flat at e
  simp only [Prod.mk.injEq] at e
  obtain ⟨rfl, rfl, rfl, rfl, rfl, rfl, rfl, rfl, rfl, rfl, rfl, rfl, rfl, rfl, rfl, rfl, rfl, rfl⟩ := e
  rfl
/-- what a packet that was written is read as. -/
theorem put_back_getP (h : Hd) (hk : okH h = true) (os : List Op) (d : ByteArray) (he : errP h os d = 0) :
    ∃ N S : Nat, (nOf h os) = 4 * N ∧ N ≤ 255 ∧ S ≤ 65535 ∧ (putP h os d).2 = 0 ∧ (putP h os d).1.size = 4 * N + d.size ∧ d.size ≤ 1400 ∧
      getP (putP h os d).1 = match scan (os.map fun o => (⟨o.typ, o.data⟩ : SO)) false with
        | none => (hd0, [], ⟨#[]⟩, 7)
        | some l => ({ h with off := (N : Nat), sum := (S : Nat) }, l, d, 0) := by
  obtain ⟨hm, _, hn1, hn2, hn3, _⟩ := err_none h os d he
  have hbd := may_bounds hm
  have hk2 := hk
  unfold okH at hk2
  have hk2 := of_decide_eq_true hk2
  obtain ⟨src, dst, off, cc, cs, sum, typ, x, seq, ack, serv, code, i0, i1, i2⟩ := h
  dsimp only at *
  obtain ⟨src, rfl⟩ := Int.eq_ofNat_of_zero_le hbd.1
  obtain ⟨dst, rfl⟩ := Int.eq_ofNat_of_zero_le hbd.2.2.1
  obtain ⟨cc, rfl⟩ := Int.eq_ofNat_of_zero_le (show 0 ≤ cc by omega)
  obtain ⟨cs, rfl⟩ := Int.eq_ofNat_of_zero_le (show 0 ≤ cs by omega)
  obtain ⟨typ, rfl⟩ := Int.eq_ofNat_of_zero_le (show 0 ≤ typ by omega)
  obtain ⟨seq, rfl⟩ := Int.eq_ofNat_of_zero_le (show 0 ≤ seq by omega)
  obtain ⟨ack, rfl⟩ := Int.eq_ofNat_of_zero_le (show 0 ≤ ack by omega)
  obtain ⟨serv, rfl⟩ := Int.eq_ofNat_of_zero_le (show 0 ≤ serv by omega)
  obtain ⟨code, rfl⟩ := Int.eq_ofNat_of_zero_le (show 0 ≤ code by omega)
  obtain ⟨i0, rfl⟩ := Int.eq_ofNat_of_zero_le (show 0 ≤ i0 by omega)
  obtain ⟨i1, rfl⟩ := Int.eq_ofNat_of_zero_le (show 0 ≤ i1 by omega)
  obtain ⟨i2, rfl⟩ := Int.eq_ofNat_of_zero_le (show 0 ≤ i2 by omega)
  have hmap : (os.map fun o => (⟨o.typ, o.data⟩ : SO)).map ofS = os := by
    rw [List.map_map]
    exact (List.map_congr_left (g := id) (fun x _ => rfl)).trans (List.map_id os)
  obtain ⟨N, S, hN, hN2, hS2, hsz, hg, hs, hf⟩ := pkt_back 6000 src dst cc cs typ off sum x seq ack serv code i0 i1 i2 (os.map fun o => (⟨o.typ, o.data⟩ : SO)) d (Nat.le_refl _) (by omega) (by omega) (by omega) (by omega) (by rw [hmap]; exact he)
  rw [hmap] at hN hsz hg hs hf
  refine ⟨N, S, hN, hN2, hS2, ?_, hsz, hn2, ?_⟩
  · unfold putP; rw [if_pos he]
  · rw [getP_f] at hf
    cases hsc : scan (os.map fun o => (⟨o.typ, o.data⟩ : SO)) false with
    | none => rw [hsc] at hf; exact flat_inj _ (hd0, [], ⟨#[]⟩, 7) (Option.some.inj hf)
    | some l => rw [hsc] at hf; exact flat_inj _ (⟨src, dst, (N : Nat), cc, cs, (S : Nat), typ, x, seq, ack, serv, code, i0, i1, i2⟩, l, d, 0) (Option.some.inj hf)
end Go.Proofs.YtjlnbahanghhcaaGreatDoor.PkB

/- '[]byte(s)' that is written and turned back: a block whose first cells are bytes; it bears the mark of such a row behind its cells. -/
namespace Go.Proofs.YtjlnbahanghhcaaGreatDoor
open Go.RowKit
set_option linter.unusedVariables false
set_option linter.unusedSimpArgs false

/-- block b's first cells are the bytes l; none of its cells is frozen. -/
def Raw (w : World) (b : Nat) (l : List Int) : Prop := ∃ row : Array Value, w.heap[b]? = some (.cells row 5 (row.size, row.size + 1)) ∧ l.length ≤ row.size ∧ ∀ j (h : j < l.length), row[j]? = some (.int .u8 l[j])
section
variable {w w' : World} {b : Nat} {l : List Int}
theorem Raw.lt (h : Raw w b l) : b < w.heap.size := by obtain ⟨row, hr, _⟩ := h; exact (Array.getElem?_eq_some_iff.1 hr).1
theorem Raw.keep (h : Raw w b l) (hk : w'.heap[b]? = w.heap[b]?) : Raw w' b l := by obtain ⟨row, hr, h1, h2⟩ := h; exact ⟨row, hk.trans hr, h1, h2⟩
theorem Raw.drew (h : Raw w b l) : Raw w.drew b l := h
theorem Raw.drewN (h : Raw w b l) (n : Nat) : Raw (w.drewN n) b l := h
theorem Raw.alloc (h : Raw w b l) (o : Obj) : Raw (w.alloc o) b l := h.keep (by
  show (w.heap.push o)[b]? = _
  rw [Array.getElem?_push_lt h.lt, Array.getElem?_eq_getElem h.lt])
theorem Raw.below {B : Nat} (h : Raw w b l) (hb : Below B w w') (hB : b < B) : Raw w' b l := h.keep (hb.block b hB)
theorem Raw.cell (h : Raw w b l) (j : Nat) (hj : j < l.length) : w.cell? ⟨b, j, none⟩ = some (.int .u8 l[j]) := by
  obtain ⟨row, hr, h1, h2⟩ := h
  unfold World.cell?
  rw [hr]; simpa using h2 j hj
theorem Raw.frozen (h : Raw w b l) (j : Nat) (hj : j < l.length) : w.frozen? ⟨b, j, none⟩ = false := by
  obtain ⟨row, hr, h1, h2⟩ := h
  unfold World.frozen?
  rw [hr]; simp; omega
theorem Raw.setCell (h : Raw w b l) (k : Nat) (hk : k < l.length) (v : Int) : Raw (w.setCell ⟨b, k, none⟩ (.int .u8 v)) b (l.set k v) := by
  obtain ⟨row, hr, h1, h2⟩ := h
  have hlt := (Array.getElem?_eq_some_iff.1 hr).1
  refine ⟨row.set! k (.int .u8 v), ?_, by simpa using h1, fun j hj => ?_⟩
  · unfold World.setCell
    simp only
    have e := (Array.getElem?_eq_some_iff.1 hr).2
    rw [Array.getElem?_modify, if_pos rfl, hr]
    simp
  · rw [List.length_set] at hj
    have hk2 : k < row.size := by omega
    rw [Array.set!_eq_setIfInBounds, Array.getElem?_setIfInBounds]
    by_cases e : k = j
    · subst e; simp [hk2]
    · rw [if_neg e, h2 j hj]; simp [e]
theorem Raw.new (w : World) (s : ByteArray) (cap : Nat) (t : TypeId) (ht : t = 5) : Raw (w.drew.alloc (.cells (bytesRow s cap) t ((bytesRow s cap).size, (bytesRow s cap).size + 1))) w.heap.size (s.data.toList.map fun c => (c.toNat : Int)) := by
  subst ht
  refine ⟨bytesRow s cap, ?_, by simp [bytesRow], fun j hj => ?_⟩
  · show (w.heap.push _)[w.heap.size]? = _
    simp
  · have hj' : j < s.data.size := by simpa using hj
    rw [bytesRow_at s cap j hj']; simp
end
section
variable {w : World} {ops : Array Oper} {rest : List Oper} {o : Oper} {a : Act} {Q : Exit → Act → World → Prop}
set_option maxRecDepth 100000 in
theorem wpList_bytes_of (hgd : o.guard = none) (x : Operand) (ho : o.op = .convert 9 35 x) (s : ByteArray) (hx : a.eval x = .string s)
    (h : ∀ cap w', Raw w' w.heap.size (s.data.toList.map fun c => (c.toNat : Int)) → Below w.heap.size w w' → w'.heap.size = w.heap.size + 1 → wpList Tryz.prog ops Q rest (a.put o.dst (.slice (some ⟨w.heap.size, 0, none⟩) s.size cap)) w') : wpList Tryz.prog ops Q (o :: rest) a w := by
  refine wpList_plain hgd fun K hK => ?_
  unfold Oper.wp execOp
  simp only [ho, Sem.run_bind, Sem.run_pure, Result.andThen_ok, hx, run_bytes_of_string w 9 35 5 s Tryz.underlying9 Tryz.underlying35 Tryz.underlying5]
  refine hK _ _ (h _ _ (Raw.new w s _ _ rfl) ?_ (by show (w.heap.push _).size = _; simp))
  exact (Below.refl w.heap.size w).drew.alloc (Nat.le_refl _) _
theorem run_bytes_back (w : World) (b cap : Nat) (l : List Int) (hr : Raw w b l) : (convert 35 9 (.slice (some ⟨b, 0, none⟩) l.length cap)).run Tryz.prog w = .ok (.string (strOfNums l)) w := by
  rw [run_convert_bytes_string w 35 9 5 (some ⟨b, 0, none⟩) l.length cap Tryz.underlying35 Tryz.underlying5 Tryz.underlying9]
  have hl := run_loadCells_list (P := Tryz.prog) w ⟨b, 0, none⟩ (l.map (Value.int .u8)) (fun j v hj => by
    have hj' : j < l.length := by
      have := (List.getElem?_eq_some_iff.1 hj).1
      simpa using this
    have e : (Addr.add ⟨b, 0, none⟩ j) = ⟨b, j, none⟩ := by unfold Addr.add; split <;> simp_all
    rw [e, hr.cell j hj']
    simp [List.getElem?_eq_getElem hj'] at hj
    rw [← hj])
  simp only [List.length_map] at hl
  rw [run_bytesToString w _ l.length cap _ hl, foldl_push_bytes]
  have he0 : ByteArray.empty.data = #[] := rfl
  rw [he0]
  simp [strOfNums]
set_option maxRecDepth 100000 in
theorem wpList_bytes_back (hgd : o.guard = none) (x : Operand) (ho : o.op = .convert 35 9 x) (b cap n : Nat) (l : List Int) (hn : n = l.length) (hx : a.eval x = .slice (some ⟨b, 0, none⟩) n cap) (hr : Raw w b l)
    (h : wpList Tryz.prog ops Q rest (a.put o.dst (.string (strOfNums l))) w) : wpList Tryz.prog ops Q (o :: rest) a w := by
  subst hn
  refine wpList_plain hgd fun K hK => ?_
  unfold Oper.wp execOp
  simp only [ho, Sem.run_bind, Sem.run_pure, Result.andThen_ok, hx, run_bytes_back w b cap l hr]
  exact hK _ _ h
end
section
variable {w : World} {ops : Array Oper} {o : Oper} {a : Act} {K : Act → World → Prop} {Q : Exit → Act → World → Prop} {E : Prop}
end
/-- the same, with the text that it reads as: a walk's simp takes 'raw_run' by 'attribute [local go_sem]'. -/
def RawS (w : World) (b n : Nat) (u : ByteArray) : Prop := ∃ l, Raw w b l ∧ l.length = n ∧ strOfNums l = u
theorem RawS.alloc {w : World} {b n : Nat} {u : ByteArray} (h : RawS w b n u) (o : Obj) : RawS (w.alloc o) b n u := by obtain ⟨l, h1, h2⟩ := h; exact ⟨l, h1.alloc o, h2⟩
theorem RawS.drew {w : World} {b n : Nat} {u : ByteArray} : RawS w.drew b n u = RawS w b n u := propext ⟨fun h => h, fun h => h⟩
end Go.Proofs.YtjlnbahanghhcaaGreatDoor

/- OptTorn: options whose end is cut off, whose length is another one: plain. -/
namespace Go.Proofs.YtjlnbahanghhcaaGreatDoor.PkB
open Go.RowKit Go.Proofs.YtjlnbahanghhcaaGreatDoor.PoptGet Go.Proofs.YtjlnbahanghhcaaGreatDoor.PkF Go.Proofs.YtjlnbahanghhcaaGreatDoorW.PrintWords Go.Proofs.YtjlnbahanghhcaaGreatDoorW.PrintLast Go.Proofs.YtjlnbahanghhcaaGreatDoorW.PrintMore
set_option linter.unusedVariables false
set_option linter.unusedSimpArgs false

theorem parO_len : ∀ (n : Nat) (l : List UInt8) (m : Bool) (r : List Op), parO n l m = some r → r.length ≤ l.length
  | 0, [], m, r, h => by cases m <;> simp [parO] at h; subst h; simp
  | n + 1, [], m, r, h => by cases m <;> simp [parO] at h; subst h; simp
  | 0, t :: q, m, r, h => by simp [parO] at h
  | n + 1, t :: q, m, r, h => by
    simp only [parO] at h
    by_cases h0 : t.toNat = 0
    · rw [if_pos h0] at h; have := parO_len n q m r h; simp only [List.length_cons]; omega
    rw [if_neg h0] at h
    by_cases h1 : m = true ∧ t.toNat = 1
    · rw [if_pos h1] at h; cases h
    rw [if_neg h1] at h
    by_cases h2 : t.toNat < 32
    · rw [if_pos h2] at h
      obtain ⟨x, hx, rfl⟩ := Option.map_eq_some_iff.1 h
      have := parO_len n q _ x hx
      simp only [List.length_cons]; omega
    rw [if_neg h2] at h
    cases q with
    | nil => cases h
    | cons k q' =>
      simp only at h
      by_cases h3 : k.toNat < 2 ∨ q'.length + 2 < k.toNat
      · rw [if_pos h3] at h; cases h
      · rw [if_neg h3] at h
        obtain ⟨x, hx, rfl⟩ := Option.map_eq_some_iff.1 h
        have h4 := parO_len n _ _ x hx
        rw [List.length_drop] at h4
        simp only [List.length_cons]; omega
theorem getO_len (b : ByteArray) : (getO b).1.length ≤ b.size := by
  unfold getO
  cases h : parO b.size b.data.toList false with
  | none => exact Nat.zero_le _
  | some l => have := parO_len _ _ _ _ h; rw [len_size] at this; exact this
end Go.Proofs.YtjlnbahanghhcaaGreatDoor.PkB
