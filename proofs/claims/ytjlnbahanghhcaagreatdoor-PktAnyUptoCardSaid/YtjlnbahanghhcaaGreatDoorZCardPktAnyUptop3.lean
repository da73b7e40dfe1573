/- Contracts and laws that the claim's proof needs: Turn, Text, BitP, GetP, GetPAny, OptGetAny, Pmuleteerref1GetOptsx0, Pmuleteerref1GetOptsx1, RefGetOpts. Conditions: each theorem's own. -/
import Derived.Test.YtjlnbahanghhcaaGreatDoorBaseA
import Derived.Laws.BytesArg
import Derived.Test.YtjlnbahanghhcaaGreatDoorZCardPktAnyUptop1
import Derived.Test.YtjlnbahanghhcaaGreatDoorProg
import Derived.Below
import Derived.Deep.Draws
import Derived.Deep.AppendLies
import Derived.Maps.AppendAt
import Derived.OwnWalk
import Derived.Laws.MakeOwn
import Derived.Laws.OwnMore
import Derived.Deep.OwnRows
import Derived.Tactics
import Derived.Lib.ConvBytes
import Derived.Laws.Slices
import Derived.WalkKit
import Derived.KernelRfl
import Derived.RowKit3
import Derived.Deep.LoopGhost
import Derived.Deep.QuietTactic
import Derived.BigQuiet
import Derived.WideLaws
import Derived.Deep.DeepCutAuto
import Derived.Deep.CutBlock
import Derived.Deep.RegionHeld3
import Derived.Laws.Rows
import Derived.Lib.AppendStr
import Derived.ArgAppend
import Derived.Laws.IdiomCopy
import Derived.OrdersHeld
import Derived.Laws.BitsLemmas
import Derived.RowKit
import Derived.Test.YtjlnbahanghhcaaGreatDoorBaseD
import Derived.Test.YtjlnbahanghhcaaGreatDoorWWords
import Derived.Test.YtjlnbahanghhcaaGreatDoorWLast
import Derived.Test.YtjlnbahanghhcaaGreatDoorWTab
import Derived.Test.YtjlnbahanghhcaaGreatDoorWFour
import Derived.Test.YtjlnbahanghhcaaGreatDoorWQPut
import Derived.Test.YtjlnbahanghhcaaGreatDoorWApart
import Derived.Test.YtjlnbahanghhcaaGreatDoorWArr
import Derived.Test.YtjlnbahanghhcaaGreatDoorWZeros
import Derived.Test.YtjlnbahanghhcaaGreatDoorWFoot
import Derived.Test.YtjlnbahanghhcaaGreatDoorWKept
import Derived.Test.YtjlnbahanghhcaaGreatDoorWShare
import Derived.Test.YtjlnbahanghhcaaGreatDoorWN
import Derived.Test.YtjlnbahanghhcaaGreatDoorWFootNe
import Derived.Test.YtjlnbahanghhcaaGreatDoorWAt
import Derived.Test.YtjlnbahanghhcaaGreatDoorWEqStruct
import Derived.Test.YtjlnbahanghhcaaGreatDoorWRepsOne
import Derived.Test.YtjlnbahanghhcaaGreatDoorWInv
import Derived.Test.YtjlnbahanghhcaaGreatDoorWInvWords
import Derived.Test.YtjlnbahanghhcaaGreatDoorWGuard
import Derived.Test.YtjlnbahanghhcaaGreatDoorWNEv
import Derived.Test.YtjlnbahanghhcaaGreatDoorWMore
import Derived.Test.YtjlnbahanghhcaaGreatDoorZCardPktAnyUptop0

/- What a bit that is turned does to a sum of bytes, in plain arithmetic. -/
namespace Go.Proofs.YtjlnbahanghhcaaGreatDoor.Sum
set_option linter.unusedVariables false
set_option linter.unusedSimpArgs false

end Go.Proofs.YtjlnbahanghhcaaGreatDoor.Sum

/- The contract of Text: a text's begin. -/
namespace Go.Proofs.YtjlnbahanghhcaaGreatDoor
open Go.RowKit
set_option linter.unusedVariables false
set_option linter.unusedSimpArgs false
theorem extract_all (s : ByteArray) : s.extract 0 s.size = s := by
  apply ByteArray.ext
  rw [ByteArray.data_extract]; exact Array.extract_eq_self_of_le (Nat.le_refl _)

theorem law_Text (s : ByteArray) (n : Nat) (w : World) (hs : s.size ≤ 140737488351232) : Calls Tryz.prog 12 #[.string s, .int .i64 n] w fun e w' => e = .returned (.string (s.extract 0 (min s.size n))) ∧ w = w' := by
  rcases Nat.lt_or_ge n s.size with h | h
  · have h1 : decide ((n : Int) < (s.size : Int)) = true := by simpa using h
    have h2 : min s.size n = n := by omega
    have H2 := hide h2
    clear h2
    go_enter Tryz.func12, Tryz.ntmps12
    go_wp2
    go_ret
    exact ⟨by rw [H2.out]; first | rfl | (show Ending.returned (Value.string (s.extract 0 (min (s.size : Int) (n : Int)).toNat)) = _; rw [show (min (s.size : Int) (n : Int)).toNat = n from by omega]), rfl⟩
  · have h1 : decide ((n : Int) < (s.size : Int)) = false := by simpa using h
    have h2 : min s.size n = s.size := by omega
    have H2 := hide h2
    clear h2
    go_enter Tryz.func12, Tryz.ntmps12
    go_wp2
    go_ret
    exact ⟨by rw [H2.out, extract_all]; first | rfl | (show Ending.returned (Value.string (s.extract 0 (min (s.size : Int) (n : Int)).toNat)) = _; rw [show (min (s.size : Int) (n : Int)).toNat = s.size from by omega, extract_all]), rfl⟩
end Go.Proofs.YtjlnbahanghhcaaGreatDoor

/- PktBit: a bit that is turned is seen, in plain data. -/
namespace Go.Proofs.YtjlnbahanghhcaaGreatDoor
open Go.RowKit
set_option linter.unusedVariables false
set_option linter.unusedSimpArgs false

/-- bytes of which one bit is turned. -/
def turned (b : ByteArray) (k r : Nat) : List Int := (b.data.toList.map fun c => (c.toNat : Int)).set k (bits BinOp.xor IntKind.u8 ((b.data.toList.map fun c => (c.toNat : Int)).getD k 0) (IntKind.u8.wrap (2 ^ r)))
end Go.Proofs.YtjlnbahanghhcaaGreatDoor

/- pkt.Get at whatever bytes, as one plain function. -/
namespace Go.Proofs.YtjlnbahanghhcaaGreatDoor.PkB
open Go.RowKit Go.Proofs.YtjlnbahanghhcaaGreatDoor.PoptGet Go.Proofs.YtjlnbahanghhcaaGreatDoor.PkF Go.Proofs.YtjlnbahanghhcaaGreatDoorW.PrintWords Go.Proofs.YtjlnbahanghhcaaGreatDoorW.PrintLast Go.Proofs.YtjlnbahanghhcaaGreatDoorW.PrintMore
set_option linter.unusedVariables false
set_option linter.unusedSimpArgs false

def optsOf (b : ByteArray) (h : Hd) : Option (List SO) := par (4 * h.off.toNat - (sizeB h.typ h.x).toNat) ((b.data.toList.drop (sizeB h.typ h.x).toNat).take (4 * h.off.toNat - (sizeB h.typ h.x).toNat)) false
def sumAt (b : ByteArray) (h : Hd) : Nat := Sum.sum (b.extract 0 (covN b.size (4 * h.off) h.cs).toNat).data.toList
def getP (b : ByteArray) : Hd × List SO × ByteArray × Int :=
  if 2500 < b.size then (hd0, [], ⟨#[]⟩, 13)
  else if (getH b).2 ≠ 0 then (hd0, [], ⟨#[]⟩, (getH b).2)
  else if covB b.size (4 * (getH b).1.off) (getH b).1.cs = false then (hd0, [], ⟨#[]⟩, 5)
  else if sumAt b (getH b).1 ≠ 0 then (hd0, [], ⟨#[]⟩, 6)
  else match optsOf b (getH b).1 with
    | none => (hd0, [], ⟨#[]⟩, 7)
    | some l => ((getH b).1, l, b.extract (4 * (getH b).1.off).toNat b.size, 0)
abbrev Flat := Int × Int × Int × Int × Int × Int × Int × Bool × Int × Int × Int × Int × Int × Int × Int × (List SO) × ByteArray × Int
def flat (p : Hd × List SO × ByteArray × Int) : Flat := (p.1.src, p.1.dst, p.1.off, p.1.cc, p.1.cs, p.1.sum, p.1.typ, p.1.x, p.1.seq, p.1.ack, p.1.serv, p.1.code, p.1.i0, p.1.i1, p.1.i2, p.2.1, p.2.2.1, p.2.2.2)
theorem getH_place (b : ByteArray) (h : Hd) (e : getH b = (h, 0)) : sizeB h.typ h.x ≤ 4 * h.off ∧ 4 * h.off ≤ b.size ∧ 0 ≤ h.off ∧ h.off ≤ 255 ∧ 12 ≤ sizeB h.typ h.x ∧ 0 ≤ h.cs ∧ h.cs ≤ 15 := by
  have e2 := getH_fst b (by rw [e])
  have hb4 := byteAt_lt b 4
  rw [e] at e2
  have e3 : h = getHd b (getT b) (getX b) := congrArg Prod.fst e2
  have eo : h.off = (byteAt b 4 : Int) := by rw [e3]; rfl
  have et : h.typ = (getT b : Int) := by rw [e3]; rfl
  have ex : h.x = getX b := by rw [e3]; rfl
  have ec : h.cs = ((byteAt b 5 % 16 : Nat) : Int) := by rw [e3]; rfl
  rw [et, ex, eo, ec]
  obtain ⟨z, hz, hz7⟩ := size_four (getT b) (getX b)
  have h12 : sizeB (getT b) (getX b) ≠ 0 → 12 ≤ sizeB (getT b) (getX b) := by
    unfold sizeB; split
    · intro h0; exact absurd rfl h0
    · intro _
      cases getX b <;> simp <;> split <;> split <;> omega
  unfold getH at e
  by_cases h1 : b.size < 12
  · rw [if_pos h1] at e; exact absurd (show (1 : Int) = 0 from congrArg Prod.snd e) (by decide)
  rw [if_neg h1] at e
  by_cases h2 : isB (getT b) = false
  · rw [if_pos h2] at e; exact absurd (show (2 : Int) = 0 from congrArg Prod.snd e) (by decide)
  rw [if_neg h2] at e
  by_cases h3 : sizeB (getT b) (getX b) = 0
  · rw [if_pos h3] at e; exact absurd (show (3 : Int) = 0 from congrArg Prod.snd e) (by decide)
  rw [if_neg h3] at e
  by_cases h4 : (b.size : Int) < sizeB (getT b) (getX b)
  · rw [if_pos h4] at e; exact absurd (show (1 : Int) = 0 from congrArg Prod.snd e) (by decide)
  rw [if_neg h4] at e
  by_cases h5 : (byteAt b 4 : Int) < sizeB (getT b) (getX b) / 4 ∨ b.size < 4 * byteAt b 4
  · rw [if_pos h5] at e; exact absurd (show (4 : Int) = 0 from congrArg Prod.snd e) (by decide)
  have := h12 h3
  refine ⟨?_, ?_, ?_, ?_, ?_, ?_, ?_⟩ <;> omega
theorem covN_nn (b : ByteArray) (h : Hd) (ho : 0 ≤ h.off) (hc : covB b.size (4 * h.off) h.cs = true) : 0 ≤ covN b.size (4 * h.off) h.cs ∧ covN b.size (4 * h.off) h.cs ≤ b.size := by
  unfold covB at hc
  have := of_decide_eq_true hc
  refine ⟨?_, this.2.2.2.2⟩
  unfold covN
  split <;> omega
theorem getP_f (b : ByteArray) : pkt_Get.f 6000 b = some (flat (getP b)) := by
  unfold getP
  by_cases h0 : 2500 < b.size
  · rw [if_pos h0]; unfold pkt_Get.f; rw [if_pos (by omega)]; rfl
  rw [if_neg h0]
  obtain ⟨⟨h, E⟩, hg⟩ : ∃ p, getH b = p := ⟨_, rfl⟩
  rw [hg]
  have hgf : head_Get.f b = some (h.src, h.dst, h.off, h.cc, h.cs, h.sum, h.typ, h.x, h.seq, h.ack, h.serv, h.code, h.i0, h.i1, h.i2, E) := by
    unfold head_Get.f
    rw [if_pos (by omega), hg]
  dsimp only
  by_cases hE : E = 0
  case neg =>
    rw [if_pos hE]
    unfold pkt_Get.f
    exact (if_neg (by omega)).trans (obind hgf (if_neg hE))
  subst hE
  rw [if_neg (fun h => h rfl)]
  have hpl := getH_place b h hg
  have hw : wrap64 (4 * h.off) = 4 * h.off := by rw [wrap64_eq]; omega
  by_cases hc : covB b.size (4 * h.off) h.cs = false
  · rw [if_pos hc]
    unfold pkt_Get.f
    have hcov : sum_Covered.f (b.size : Int) (4 * h.off) h.cs = some (0, false) := by
      unfold sum_Covered.f
      rw [if_pos (by omega), hc]; rfl
    refine (if_neg (by omega)).trans (obind hgf ((if_pos rfl).trans ?_))
    rw [hw]
    exact obind hcov (if_neg (by decide))
  rw [if_neg hc]
  have hc := Bool.not_eq_false _ ▸ hc
  have hnn := covN_nn b h hpl.2.2.1 hc
  by_cases hs : sumAt b h ≠ 0
  · rw [if_pos hs]
    unfold pkt_Get.f
    have hcov : sum_Covered.f (b.size : Int) (4 * h.off) h.cs = some (covN b.size (4 * h.off) h.cs, true) := by
      unfold sum_Covered.f
      rw [if_pos (by omega), hc]; rfl
    refine (if_neg (by omega)).trans (obind hgf ((if_pos rfl).trans ?_))
    rw [hw]
    refine obind hcov ((if_pos rfl).trans ((if_pos hnn.1).trans ((if_pos hnn.2).trans ?_)))
    have hjo : joined [b.extract 0 (covN b.size (4 * h.off) h.cs).toNat] = (b.extract 0 (covN b.size (4 * h.off) h.cs).toNat).data.toList := by simp [joined]
    have hof : sum_Of.f [b.extract 0 (covN b.size (4 * h.off) h.cs).toNat] = some (sumAt b h : Nat) := by
      unfold sum_Of.f sumAt
      rw [hjo, if_pos]
      · rfl
      · refine ⟨?_, by simp⟩
        rw [len_size, ByteArray.size_extract]; omega
    exact obind hof (if_neg (by omega))
  rw [if_neg hs]
  have hs : sumAt b h = 0 := Decidable.not_not.1 hs
  have := pget_some 6000 b h (by omega) hg hc ⟨hpl.2.2.1, hpl.2.2.2.1⟩ hnn.1 hs hpl.1 hpl.2.1 (Nat.le_refl _)
  rw [this]
  unfold optsOf
  cases par (4 * h.off.toNat - (sizeB h.typ h.x).toNat) ((b.data.toList.drop (sizeB h.typ h.x).toNat).take (4 * h.off.toNat - (sizeB h.typ h.x).toNat)) false with
  | none => rfl
  | some l => rfl
end Go.Proofs.YtjlnbahanghhcaaGreatDoor.PkB

/- The contract of pkt.Get at whatever bytes, over the plain function getP. -/
namespace Go.Proofs.YtjlnbahanghhcaaGreatDoor.PkB
open Go.RowKit Go.Proofs.YtjlnbahanghhcaaGreatDoor.PoptGet Go.Proofs.YtjlnbahanghhcaaGreatDoor.PkF Go.Proofs.YtjlnbahanghhcaaGreatDoorW.PrintWords Go.Proofs.YtjlnbahanghhcaaGreatDoorW.PrintLast Go.Proofs.YtjlnbahanghhcaaGreatDoorW.PrintMore
set_option linter.unusedVariables false
set_option linter.unusedSimpArgs false
theorem opts_cells {w : World} {A : Option Addr} {l : List S50} (h : Kd.C k50 w A l.length l) : CellsAt w w.heap.size A (ocells (l.map ofS)) := fun k u hu => by
  have hk : k < 2 * l.length := by have := (List.getElem?_eq_some_iff.1 hu).1; rw [ocells_len, List.length_map] at this; exact this
  have hi : k / 2 < l.length := by omega
  obtain ⟨ad, c, e, _, hK, hc⟩ := Kd.C_get h z50 (k / 2 : Nat) (by omega) (by omega)
  simp only [Int.toNat_natCast] at hK hc
  have hl : l.getD (k / 2) z50 = l[k / 2] := by rw [List.getD_eq_getElem?_getD, List.getElem?_eq_getElem hi]; rfl
  rw [hl] at hK
  obtain rfl := k50_open hK
  have hat := ocells_at (l.map ofS) (k / 2) (by simpa using hi)
  rw [List.getElem_map] at hat
  have hc' : ∀ j v, ([.int .i64 l[k / 2].f0, .string l[k / 2].f1] : List Value)[j]? = some v → w.cell? (ad.add (k / 2 * 2 + j)) = some v := hc
  have hcell : w.cell? (ad.add k) = some u := by
    rcases Nat.mod_two_eq_zero_or_one k with hm | hm
    · have ek : k / 2 * 2 = k := by omega
      rw [ek, hu] at hat
      rw [ek] at hc'
      rw [Option.some.inj hat.1]; exact hc' 0 _ rfl
    · have ek : k / 2 * 2 + 1 = k := by omega
      have h1 := hat.2
      rw [ek, hu] at h1
      have h2 := hc' 1 _ rfl
      rw [ek] at h2
      rw [Option.some.inj h1]; exact h2
  exact ⟨ad, e, by have := block_lt_of_cell hcell; rwa [add_block] at this, hcell⟩
theorem pkt_Get_any (b : ByteArray) (w : World) : Calls Tryz.prog 14 #[.string b] w fun e w' => ∃ (A : Option Addr) (c : Nat), e = .returned (.tuple #[.agg #[.int .i64 (PkB.getP b).1.src, .int .i64 (PkB.getP b).1.dst, .int .i64 (PkB.getP b).1.off, .int .i64 (PkB.getP b).1.cc, .int .i64 (PkB.getP b).1.cs, .int .i64 (PkB.getP b).1.sum, .int .i64 (PkB.getP b).1.typ, .bool (PkB.getP b).1.x, .int .u64 (PkB.getP b).1.seq, .int .u64 (PkB.getP b).1.ack, .int .u32 (PkB.getP b).1.serv, .int .i64 (PkB.getP b).1.code, .int .u8 (PkB.getP b).1.i0, .int .u8 (PkB.getP b).1.i1, .int .u8 (PkB.getP b).1.i2, .slice A (PkB.getP b).2.1.length c, .string (PkB.getP b).2.2.1], .int .i64 (PkB.getP b).2.2.2]) ∧ (PkB.getP b).2.1.length ≤ c ∧ CellsAt w' w'.heap.size A (ocells ((PkB.getP b).2.1.map PkB.ofS)) ∧ Below w.heap.size w w' := by
  refine (pkt_Get.calls 6000 b _ _ _ _ _ _ _ _ _ _ _ _ _ _ _ _ _ _ w (PkB.getP_f b)).mono fun e w' hq => ?_
  obtain ⟨v, rfl, hr, hb⟩ := hq
  obtain ⟨A, c, rfl, hc, hC⟩ := Kd.R_reads hr
  exact ⟨A, c, rfl, hc, opts_cells hC, hb⟩
end Go.Proofs.YtjlnbahanghhcaaGreatDoor.PkB

/- The contract of opt.Get at whatever bytes, over plain lists of options. -/
namespace Go.Proofs.YtjlnbahanghhcaaGreatDoor.PkB
open Go.RowKit Go.Proofs.YtjlnbahanghhcaaGreatDoor.PoptGet Go.Proofs.YtjlnbahanghhcaaGreatDoor.PkF Go.Proofs.YtjlnbahanghhcaaGreatDoorW.PrintWords Go.Proofs.YtjlnbahanghhcaaGreatDoorW.PrintLast Go.Proofs.YtjlnbahanghhcaaGreatDoorW.PrintMore
set_option linter.unusedVariables false
set_option linter.unusedSimpArgs false
def parO : Nat → List UInt8 → Bool → Option (List Op)
  | _, [], m => if m then none else some []
  | 0, _ :: _, _ => none
  | n + 1, t :: r, m =>
    if t.toNat = 0 then parO n r m
    else if m = true ∧ t.toNat = 1 then none
    else if t.toNat < 32 then (parO n r (decide (t.toNat = 1))).map (fun l => ⟨(t.toNat : Int), ⟨#[]⟩⟩ :: l)
    else match r with
      | [] => none
      | k :: r' => if k.toNat < 2 ∨ r'.length + 2 < k.toNat then none else (parO n (r'.drop (k.toNat - 2)) false).map (fun l => ⟨(t.toNat : Int), mkB (r'.take (k.toNat - 2))⟩ :: l)
theorem map_cons (x : Option (List SO)) (y : Option (List Op)) (a : SO) (b : Op) (h : x.map (List.map ofS) = y) (hab : ofS a = b) : (x.map (fun l => a :: l)).map (List.map ofS) = y.map (fun l => b :: l) := by
  subst h; subst hab
  cases x <;> rfl
theorem par_O : ∀ (n : Nat) (l : List UInt8) (m : Bool), (par n l m).map (List.map ofS) = parO n l m
  | 0, [], m => by cases m <;> simp [par, parO]
  | n + 1, [], m => by cases m <;> simp [par, parO]
  | 0, t :: r, m => by simp [par, parO]
  | n + 1, t :: r, m => by
    simp only [par, parO]
    by_cases h0 : t.toNat = 0
    · rw [if_pos h0, if_pos h0]; exact par_O n r m
    rw [if_neg h0, if_neg h0]
    by_cases h1 : m = true ∧ t.toNat = 1
    · rw [if_pos h1, if_pos h1]; rfl
    rw [if_neg h1, if_neg h1]
    by_cases h2 : t.toNat < 32
    · rw [if_pos h2, if_pos h2]; exact map_cons _ _ _ _ (par_O n r _) rfl
    rw [if_neg h2, if_neg h2]
    cases r with
    | nil => rfl
    | cons k r' =>
      simp only
      by_cases h3 : k.toNat < 2 ∨ r'.length + 2 < k.toNat
      · rw [if_pos h3, if_pos h3]; rfl
      · rw [if_neg h3, if_neg h3]; exact map_cons _ _ _ _ (par_O n _ false) rfl
def getR : Option (List Op) → List Op × Int
  | none => ([], 7)
  | some l => (l, 0)
/-- what bytes say of options, and whether they are any. -/
def getO (b : ByteArray) : List Op × Int := getR (parO b.size b.data.toList false)
theorem parR_getR (x : Option (List SO)) : ((parR [] x).1.map ofS, (parR [] x).2) = getR (x.map (List.map ofS)) := by
  cases x <;> rfl
end Go.Proofs.YtjlnbahanghhcaaGreatDoor.PkB

/- What this seat's Go functions compute, as Lean functions, and that they do. Written by a program of this session's (wip/pr/pr.py) by means of the kit's printer, with contracts of ours for some functions; conditions: none beyond each theorem's own. -/
namespace Go.Proofs.YtjlnbahanghhcaaGreatDoor.Pmuleteerref1GetOpts
open Go.RowKit Go.Proofs.YtjlnbahanghhcaaGreatDoorW.PrintWords Go.Proofs.YtjlnbahanghhcaaGreatDoorW.PrintLast Go.Proofs.YtjlnbahanghhcaaGreatDoorW.PrintMore
attribute [local go_sem] max2_int min2_int max_two min_two max_three min_three max_four min_four   -- for this text's walks alone
set_option linter.unusedVariables false
set_option linter.unusedSimpArgs false



def errW : Option Int → Value
  | none => .nilIface
  | some c => .iface 0 (.int .i64 c)
theorem errW_none : errW none = .nilIface := rfl
theorem errW_some (c : Int) : errW (some c) = .iface 0 (.int .i64 c) := rfl

theorem info50 : (Tryz.prog.info? 50).map (fun i => (i.zero, i.size, i.bytes)) = some (some (.agg #[(.int .i64 0), (.string ⟨#[]⟩)]), 2, 24) := by kernel_rfl
-- the values' own types
/-! #### struct type 50 -/
structure S50 where
  f0 : Int
  f1 : ByteArray
def z50 : S50 := ⟨(0 : Int), (⟨#[]⟩ : ByteArray)⟩
def k50 : Kd S50 := Kd.iso (Kd.pair (Kd.int .i64) Kd.string) (fun x : S50 => (x.f0, x.f1))
theorem k50_open {w : World} {x : S50} {cs : List Value} (h : k50.K w x cs) : cs = [.int .i64 x.f0, .string x.f1] := by
  obtain ⟨_, _, rfl, rfl, rfl⟩ := h
  exact rfl
theorem k50_mk (w : World) (x : S50)  : k50.K w x [.int .i64 x.f0, .string x.f1] := ⟨[.int .i64 x.f0], [.string x.f1], rfl, rfl, rfl⟩
theorem k50_mkM (w : World) (base : Nat) (ok : Nat → Prop) (x : S50)  : k50.M w base ok x [.int .i64 x.f0, .string x.f1] := ⟨[.int .i64 x.f0], [.string x.f1], rfl, rfl, rfl⟩
def rd_T50 (xs : List S50) (i : Int) : S50 := xs.getD i.toNat z50
theorem at_T50 {w : World} {A : Option Addr} {n : Nat} {xs : List S50} (h : Kd.C k50 w A n xs) (i : Int) (h0 : 0 ≤ i) (h1 : i < n) : ∃ ad , A = some ad ∧ w.cell? (ad.add (i.toNat * 2)) = some (.int .i64 (rd_T50 xs i).f0) ∧ w.cell? ⟨(ad.add (i.toNat * 2)).block, (ad.add (i.toNat * 2)).off + 1, none⟩ = some (.string (rd_T50 xs i).f1) := by
  obtain ⟨ad, c, e, _, hK, hc0⟩ := Kd.C_get h z50 i h0 h1
  have hc : ∀ j u, c[j]? = some u → w.cell? (ad.add (i.toNat * 2 + j)) = some u := hc0
  obtain rfl := k50_open hK
  exact ⟨ad, e, hc 0 _ rfl, by rw [← add_field _ _ 1 (by omega)]; exact hc 1 _ rfl⟩

end Go.Proofs.YtjlnbahanghhcaaGreatDoor.Pmuleteerref1GetOpts

/- What this seat's Go functions compute, as Lean functions, and that they do. Written by a program of this session's (wip/pr/pr.py) by means of the kit's printer, with contracts of ours for some functions; conditions: none beyond each theorem's own. -/
namespace Go.Proofs.YtjlnbahanghhcaaGreatDoor.Pmuleteerref1GetOpts
open Go.RowKit Go.Proofs.YtjlnbahanghhcaaGreatDoorW.PrintWords Go.Proofs.YtjlnbahanghhcaaGreatDoorW.PrintLast Go.Proofs.YtjlnbahanghhcaaGreatDoorW.PrintMore
attribute [local go_sem] max2_int min2_int max_two min_two max_three min_three max_four min_four   -- for this text's walks alone
set_option linter.unusedVariables false
set_option linter.unusedSimpArgs false

/-! ### muleteerref1_GetOpts: function 18 -/
mutual
def muleteerref1_GetOpts.l0 : Nat → ByteArray → List (S50) → Bool → Int → Option ((List (S50)) × Int)
  | 0, _, _, _, _ => none
  | k + 1, x0, x4, x5, x6 => if x6 < (x0.size : Int) then (if 0 ≤ x6 then (if (wrap64 (bt x0 x6)) = 0 then (muleteerref1_GetOpts.l0 k x0 x4 x5 (wrap64 (x6 + 1))) else (if x5 = true then (muleteerref1_GetOpts.j1 k x0 x4 x6 (wrap64 (bt x0 x6)) ((wrap64 (bt x0 x6)) == 1)) else (muleteerref1_GetOpts.j1 k x0 x4 x6 (wrap64 (bt x0 x6)) false))) else (none)) else (if x5 = true then (some (([] : List (S50)), 7)) else (some (x4, 0)))
def muleteerref1_GetOpts.j1 : Nat → ByteArray → List (S50) → Int → Int → Bool → Option ((List (S50)) × Int)
  | 0, _, _, _, _, _ => none
  | k + 1, x0, x4, x6, x7, x24 => if x24 = true then (some (([] : List (S50)), 7)) else (if x7 < 32 then (if x4.length < 5864062014805 then (muleteerref1_GetOpts.l0 k x0 (x4 ++ [(⟨x7, (⟨#[]⟩ : ByteArray)⟩ : S50)]) (x7 == 1) (wrap64 (x6 + 1))) else (none)) else (if (wrap64 (x6 + 1)) ≥ (x0.size : Int) then (some (([] : List (S50)), 7)) else (if 0 ≤ (wrap64 (x6 + 1)) then (if (wrap64 (x6 + 1)) < (x0.size : Int) then (if (bt x0 (wrap64 (x6 + 1))) < 2 then (some (([] : List (S50)), 7)) else (if (wrap64 (x6 + (wrap64 (bt x0 (wrap64 (x6 + 1)))))) > (x0.size : Int) then (some (([] : List (S50)), 7)) else (if 0 ≤ (wrap64 (x6 + 2)) then (if (wrap64 (x6 + 2)) ≤ (wrap64 (x6 + (wrap64 (bt x0 (wrap64 (x6 + 1)))))) then (if (wrap64 (x6 + (wrap64 (bt x0 (wrap64 (x6 + 1)))))) ≤ (x0.size : Int) then (if x4.length < 5864062014805 then (muleteerref1_GetOpts.l0 k x0 (x4 ++ [(⟨x7, x0.extract ((wrap64 (x6 + 2)) : Int).toNat ((wrap64 (x6 + (wrap64 (bt x0 (wrap64 (x6 + 1)))))) : Int).toNat⟩ : S50)]) (x7 == 1) (wrap64 (x6 + (wrap64 (bt x0 (wrap64 (x6 + 1))))))) else (none)) else (none)) else (none)) else (none)))) else (none)) else (none))))
end
def muleteerref1_GetOpts.f (k : Nat) (a0 : ByteArray) : Option ((List (S50)) × Int) := muleteerref1_GetOpts.l0 k a0 ([] : List (S50)) false 0
theorem muleteerref1_GetOpts.mono_l : ∀ k, (∀ y0 y1 y2 y3, LeO (muleteerref1_GetOpts.l0 k y0 y1 y2 y3) (muleteerref1_GetOpts.l0 (k + 1) y0 y1 y2 y3)) ∧ (∀ y0 y1 y2 y3 y4, LeO (muleteerref1_GetOpts.j1 k y0 y1 y2 y3 y4) (muleteerref1_GetOpts.j1 (k + 1) y0 y1 y2 y3 y4))
  | 0 => ⟨fun _ _ _ _ r h => by simp [muleteerref1_GetOpts.l0] at h, fun _ _ _ _ _ r h => by simp [muleteerref1_GetOpts.j1] at h⟩
  | k + 1 => by
    obtain ⟨ih0, ih1⟩ := muleteerref1_GetOpts.mono_l k
    refine ⟨?_, ?_⟩
    · intro y0 y1 y2 y3
      unfold muleteerref1_GetOpts.l0
      repeat' first
      | (with_reducible exact ih0 _ _ _ _)
      | (with_reducible exact ih1 _ _ _ _ _)
      | (with_reducible exact LeO.refl _)
      | (with_reducible exact LeO.none _)
      | (with_reducible refine LeO.ite ?_ ?_)
      | (with_reducible refine LeO.bind ?_ (fun _ => ?_))
      | exact ih0 _ _ _ _
      | exact ih1 _ _ _ _ _
      | exact LeO.none _
      | refine LeO.ite ?_ ?_
      | refine LeO.bind ?_ (fun _ => ?_)
    · intro y0 y1 y2 y3 y4
      unfold muleteerref1_GetOpts.j1
      repeat' first
      | (with_reducible exact ih0 _ _ _ _)
      | (with_reducible exact ih1 _ _ _ _ _)
      | (with_reducible exact LeO.refl _)
      | (with_reducible exact LeO.none _)
      | (with_reducible refine LeO.ite ?_ ?_)
      | (with_reducible refine LeO.bind ?_ (fun _ => ?_))
      | exact ih0 _ _ _ _
      | exact ih1 _ _ _ _ _
      | exact LeO.none _
      | refine LeO.ite ?_ ?_
      | refine LeO.bind ?_ (fun _ => ?_)
theorem muleteerref1_GetOpts.mono : ∀ a0 k, LeO (muleteerref1_GetOpts.f k a0) (muleteerref1_GetOpts.f (k + 1) a0) := by
  intro a0 k
  obtain ⟨ih0, ih1⟩ := muleteerref1_GetOpts.mono_l k
  unfold muleteerref1_GetOpts.f
  repeat' first
      | (with_reducible exact ih0 _ _ _ _)
      | (with_reducible exact ih1 _ _ _ _ _)
      | (with_reducible exact LeO.refl _)
      | (with_reducible exact LeO.none _)
      | (with_reducible refine LeO.ite ?_ ?_)
      | (with_reducible refine LeO.bind ?_ (fun _ => ?_))
      | exact ih0 _ _ _ _
      | exact ih1 _ _ _ _ _
      | exact LeO.none _
      | refine LeO.ite ?_ ?_
      | refine LeO.bind ?_ (fun _ => ?_)
set_option maxHeartbeats 8000000 in
set_option maxRecDepth 100000 in
theorem muleteerref1_GetOpts.calls (k : Nat) (a0 : ByteArray) (r1 : List (S50)) (r2 : Int) (w : World) (h : muleteerref1_GetOpts.f k a0 = some (r1, r2)) :
    Calls Tryz.prog 18 #[.string a0] w fun e w' => ∃ v0_ : Value, e = .returned (.tuple #[v0_, .int .i64 r2]) ∧ Kd.R k50 50 w' w.heap.size (fun _ => True) v0_ r1 ∧ Below w.heap.size w w' := by
  have hu50 := Tryz.underlying50
  have HB := Aside0.mk (Below.refl w.heap.size w)
  have H : (muleteerref1_GetOpts.l0 k a0 ([] : List (S50)) false 0) = some (r1, r2) := h
  clear h
  have H' := Aside0.mk H
  clear H
  go_enter Tryz.func18, Tryz.ntmps18
  go_wp2
  go_loopg [4, 5, 6] k (fun kq v4 v5 v6 w' => ∃ (x4_1 : List (S50)) (x5_1 : Bool) (x6_1 : Int), v5 = .bool x5_1 ∧ v6 = .int .i64 x6_1 ∧ Aside0 (muleteerref1_GetOpts.l0 kq a0 x4_1 x5_1 x6_1 = some (r1, r2)) ∧ Aside0 (kq ≤ k) ∧ Aside0 (Kd.R k50 50 w' w.heap.size (fun _ => True) v4 x4_1) ∧ Aside0 (Below w.heap.size w w'))
  case atStart => exact ⟨(([] : List (S50))), (false), (0), (by first | rfl | (simp; done) | (simp [*]; done)), (by first | rfl | (simp; done) | (simp [*]; done)), H', ⟨Nat.le_refl _⟩, ⟨by first | exact Kd.R_nil _ _ _ _ _ | exact Kd.N_nil _ _ _ _ _ | exact Kd.V_nil _ _ _ _ _ | exact Kd.Q_nil _ _ _ _ _ | exact Kd.S_nil _ _ _ _ _⟩, ⟨by repeat (first | (with_reducible first | exact HB.out | apply below_alloc | apply pw_below_drewN | apply below_drew1) | exact HB.out)⟩⟩
  case round =>
    clear H'
    try clear c1
    obtain ⟨x4_1, x5_1, x6_1, rfl, rfl, HA, HK1, HO_4, HB⟩ := hrel
    cases gk with
    | zero => exact absurd HA.out (by simp [muleteerref1_GetOpts.l0])
    | succ k1 =>
      have H := HA.out
      clear HA
      simp only [muleteerref1_GetOpts.l0] at H
      by_cases c2 : x6_1 < (a0.size : Int)
      · rw [if_pos c2] at H
        have c2b0 : decide (x6_1 < (a0.size : Int)) = true := decide_eq_true c2
        clear c2
        by_cases c3 : 0 ≤ x6_1
        · rw [if_pos c3] at H
          have c3b0 : decide (0 ≤ x6_1) = true := decide_eq_true c3
          clear c3
          by_cases c5 : (wrap64 (bt a0 x6_1)) = 0
          · rw [if_pos c5] at H
            have c5b0 : ((wrap64 (bt a0 x6_1)) == 0) = true := beq_iff_eq.mpr c5
            have c5b1 : ((wrap64 (bt a0 x6_1)) != 0) = false := bne_eq_false_iff_eq.mpr c5
            clear c5
            have H' := Aside0.mk H
            clear H
            have p4 : 0 ≤ (x6_1 : Int) := of_decide_eq_true (by first | (with_reducible assumption) | assumption)
            have q4 : x6_1 < (a0.size : Int) := of_decide_eq_true (by first | (with_reducible assumption) | assumption)
            have hx4 := bt_at a0 x6_1
            replace p4 := eq_true p4
            replace q4 := eq_true q4
            go_wp2
            go_roundg k1
            case measure => have := HK1.out; omega
            case rel => exact ⟨(x4_1), (x5_1), (wrap64 (x6_1 + 1)), (by first | rfl | (simp; done) | (simp [*]; done)), (by first | rfl | (simp; done) | (simp [*]; done)), H', ⟨by have := HK1.out; omega⟩, ⟨by (with_reducible repeat (first | apply Kd.R_alloc | apply Kd.R_drewN | apply Kd.R_drew)); exact HO_4.out⟩, ⟨by repeat (first | (with_reducible first | exact HB.out | apply below_alloc | apply pw_below_drewN | apply below_drew1) | exact HB.out)⟩⟩
          · rw [if_neg c5] at H
            have c5b0 : ((wrap64 (bt a0 x6_1)) == 0) = false := beq_eq_false_iff_ne.mpr c5
            have c5b1 : ((wrap64 (bt a0 x6_1)) != 0) = true := bne_iff_ne.mpr c5
            have HC6 := Aside0.mk H
            clear H
            have p4 : 0 ≤ (x6_1 : Int) := of_decide_eq_true (by first | (with_reducible assumption) | assumption)
            have q4 : x6_1 < (a0.size : Int) := of_decide_eq_true (by first | (with_reducible assumption) | assumption)
            have hx4 := bt_at a0 x6_1
            replace p4 := eq_true p4
            replace q4 := eq_true q4
            go_upto_region 8 with (fail)
            go_cut [24] (fun v24 wc => ∃ (kq : Nat) (x24_5 : Bool), v24 = .bool x24_5 ∧ Aside0 (muleteerref1_GetOpts.j1 kq a0 x4_1 x6_1 (wrap64 (bt a0 x6_1)) x24_5 = some (r1, r2)) ∧ Aside0 (kq ≤ k1) ∧ Aside0 (Kd.R k50 50 wc w.heap.size (fun _ => True) u4 x4_1) ∧ Aside0 (Below w.heap.size w wc))
            case first =>
              have H := HC6.out
              clear HC6
              by_cases c7 : x5_1 = true
              · subst c7
                have H1 : (muleteerref1_GetOpts.j1 k1 a0 x4_1 x6_1 (wrap64 (bt a0 x6_1)) ((wrap64 (bt a0 x6_1)) == 1)) = some (r1, r2) := by rw [if_pos rfl] at H; exact H
                clear H
                have H := H1
                clear H1
                have H' := Aside0.mk H
                clear H
                go_wp2
                go_meet
                case rel => exact ⟨_, (((wrap64 (bt a0 x6_1)) == 1)), (by first | rfl | (simp; done) | (simp [*]; done)), H', ⟨by have := HK1.out; first | omega | exact Nat.le_refl _⟩, ⟨by (with_reducible repeat (first | apply Kd.R_alloc | apply Kd.R_drewN | apply Kd.R_drew)); exact HO_4.out⟩, ⟨by repeat (first | (with_reducible first | exact HB.out | apply below_alloc | apply pw_below_drewN | apply below_drew1) | exact HB.out)⟩⟩
              · replace c7 := Bool.eq_false_iff.mpr c7
                subst c7
                have H1 : (muleteerref1_GetOpts.j1 k1 a0 x4_1 x6_1 (wrap64 (bt a0 x6_1)) false) = some (r1, r2) := by rw [if_neg (show ¬ (false = true) by decide)] at H; exact H
                clear H
                have H := H1
                clear H1
                have H' := Aside0.mk H
                clear H
                go_wp2
                go_meet
                case rel => exact ⟨_, (false), (by first | rfl | (simp; done) | (simp [*]; done)), H', ⟨by have := HK1.out; first | omega | exact Nat.le_refl _⟩, ⟨by (with_reducible repeat (first | apply Kd.R_alloc | apply Kd.R_drewN | apply Kd.R_drew)); exact HO_4.out⟩, ⟨by repeat (first | (with_reducible first | exact HB.out | apply below_alloc | apply pw_below_drewN | apply below_drew1) | exact HB.out)⟩⟩
            case rest =>
              clear HC6
              try clear c1
              try clear c2
              try clear c2b0
              try clear p2
              try clear c3
              try clear c3b0
              try clear p4
              try clear q4
              try clear hx4
              try clear c5
              try clear c5b0
              try clear c5b1
              try clear p6
              try clear c7
              try clear p4
              try clear q4
              obtain ⟨kq, x24_5, rfl, HA, HJ5, HO_4, HB⟩ := hcut
              cases kq with
              | zero => exact absurd HA.out (by simp [muleteerref1_GetOpts.j1])
              | succ kj5 =>
                have H := HA.out
                clear HA
                simp only [muleteerref1_GetOpts.j1] at H
                by_cases c8 : x24_5 = true
                · subst c8
                  have H1 : (some (([] : List (S50)), 7)) = some (r1, r2) := by rw [if_pos rfl] at H; exact H
                  clear H
                  have H := H1
                  clear H1
                  simp only [Option.some.injEq, Prod.mk.injEq] at H
                  obtain ⟨rfl, rfl⟩ := H
                  go_wp2
                  go_ret2
                  exact ⟨_, by first | rfl | (simp [errW_none, errW_some] <;> rfl) | (simp [*, errW_none, errW_some] <;> rfl), by first | exact Kd.R_nil _ _ _ _ _ | exact Kd.N_nil _ _ _ _ _ | exact Kd.V_nil _ _ _ _ _ | exact Kd.Q_nil _ _ _ _ _ | exact Kd.S_nil _ _ _ _ _, by repeat (first | (with_reducible first | exact HB.out | apply below_alloc | apply pw_below_drewN | apply below_drew1) | exact HB.out)⟩
                · replace c8 := Bool.eq_false_iff.mpr c8
                  subst c8
                  have H1 : (if (wrap64 (bt a0 x6_1)) < 32 then (if x4_1.length < 5864062014805 then (muleteerref1_GetOpts.l0 kj5 a0 (x4_1 ++ [(⟨(wrap64 (bt a0 x6_1)), (⟨#[]⟩ : ByteArray)⟩ : S50)]) ((wrap64 (bt a0 x6_1)) == 1) (wrap64 (x6_1 + 1))) else (none)) else (if (wrap64 (x6_1 + 1)) ≥ (a0.size : Int) then (some (([] : List (S50)), 7)) else (if 0 ≤ (wrap64 (x6_1 + 1)) then (if (wrap64 (x6_1 + 1)) < (a0.size : Int) then (if (bt a0 (wrap64 (x6_1 + 1))) < 2 then (some (([] : List (S50)), 7)) else (if (wrap64 (x6_1 + (wrap64 (bt a0 (wrap64 (x6_1 + 1)))))) > (a0.size : Int) then (some (([] : List (S50)), 7)) else (if 0 ≤ (wrap64 (x6_1 + 2)) then (if (wrap64 (x6_1 + 2)) ≤ (wrap64 (x6_1 + (wrap64 (bt a0 (wrap64 (x6_1 + 1)))))) then (if (wrap64 (x6_1 + (wrap64 (bt a0 (wrap64 (x6_1 + 1)))))) ≤ (a0.size : Int) then (if x4_1.length < 5864062014805 then (muleteerref1_GetOpts.l0 kj5 a0 (x4_1 ++ [(⟨(wrap64 (bt a0 x6_1)), a0.extract ((wrap64 (x6_1 + 2)) : Int).toNat ((wrap64 (x6_1 + (wrap64 (bt a0 (wrap64 (x6_1 + 1)))))) : Int).toNat⟩ : S50)]) ((wrap64 (bt a0 x6_1)) == 1) (wrap64 (x6_1 + (wrap64 (bt a0 (wrap64 (x6_1 + 1))))))) else (none)) else (none)) else (none)) else (none)))) else (none)) else (none)))) = some (r1, r2) := by rw [if_neg (show ¬ (false = true) by decide)] at H; exact H
                  clear H
                  have H := H1
                  clear H1
                  by_cases c9 : (wrap64 (bt a0 x6_1)) < 32
                  · rw [if_pos c9] at H
                    have c9b0 : decide ((wrap64 (bt a0 x6_1)) < 32) = true := decide_eq_true c9
                    clear c9
                    by_cases c10 : x4_1.length < 5864062014805
                    · rw [if_pos c10] at H
                      have LMc10 := Aside0.mk c10
                      clear c10
                      obtain ⟨y101, hy101⟩ : ∃ y_ : List (S50), y_ = (x4_1 ++ [(⟨(wrap64 (bt a0 x6_1)), (⟨#[]⟩ : ByteArray)⟩ : S50)]) := ⟨_, rfl⟩
                      replace H : (muleteerref1_GetOpts.l0 kj5 a0 y101 ((wrap64 (bt a0 x6_1)) == 1) (wrap64 (x6_1 + 1))) = some (r1, r2) := by first | (rw [hy101]; with_reducible exact H) | (have H2_ := (Option.bind_some _ _).symm.trans H; rw [hy101]; with_reducible exact H2_) | (have H2_ := (Option.bind_some _ _).symm.trans H; with_reducible exact H2_) | with_reducible exact H | (rw [hy101]; exact H) | exact H
                      have Ny101 := Aside0.mk hy101
                      clear hy101
                      have H' := Aside0.mk H
                      clear H
                      go_wp2_with (first | ((with_reducible refine gate_builtin (b := .append) (xs := #[.tmp 29, .tmp 32]) rfl ?_); (try (refine gate_guard (by rfl) ?_; dsimp only)); at_builtin; refine Kd.R_append k50 (w0 := w) w.heap.size rfl (.tmp 29) (.tmp 32) 27 50 (.agg #[(.int .i64 0), (.string ⟨#[]⟩)]) 24 rfl Tryz.underlying27 info50 rfl (by decide) (by omega) u4 x4_1 (⟨(wrap64 (bt a0 x6_1)), (⟨#[]⟩ : ByteArray)⟩ : S50) [.int .i64 (wrap64 (bt a0 x6_1)), .string (⟨#[]⟩ : ByteArray)] (fun _ => True) (fun _ => False) rfl rfl ?aP (fun _ hk => hk.elim) ?aF ?aO ?aB ?aS ?aL ?_; (case aP => exact k50_mkM _ _ _ (⟨(wrap64 (bt a0 x6_1)), (⟨#[]⟩ : ByteArray)⟩ : S50)); (case aB => exact (by repeat (first | (with_reducible first | exact HB.out | apply below_alloc | apply pw_below_drewN | apply below_drew1) | exact HB.out))); (case aF => exact (fun _ _ => trivial)); (case aO => exact (by (with_reducible repeat (first | apply Kd.R_alloc | apply Kd.R_drewN | apply Kd.R_drew)); exact HO_4.out)); (case aS => exact (below_size (by repeat (first | (with_reducible first | exact HB.out | apply below_alloc | apply pw_below_drewN | apply below_drew1) | exact HB.out)))); (case aL => have := LMc10.out; omega); intro v102 w11 ho hb hg hat; rw [← Ny101.out] at ho; have n0_ := Aside0.mk (hb); have n1_ := Aside0.mk (ho); clear HB; clear HO_4; have HB := n0_; have HO103 := n1_; clear n0_ n1_; clear ho hb hg hat))
                      go_roundg kj5
                      case measure => have := HK1.out; have := HJ5.out; omega
                      case rel => exact ⟨(y101), (((wrap64 (bt a0 x6_1)) == 1)), (wrap64 (x6_1 + 1)), (by first | rfl | (simp; done) | (simp [*]; done)), (by first | rfl | (simp; done) | (simp [*]; done)), H', ⟨by have := HK1.out; have := HJ5.out; omega⟩, ⟨by (with_reducible repeat (first | apply Kd.R_alloc | apply Kd.R_drewN | apply Kd.R_drew)); exact HO103.out⟩, ⟨by repeat (first | (with_reducible first | exact HB.out | apply below_alloc | apply pw_below_drewN | apply below_drew1) | exact HB.out)⟩⟩
                    · rw [if_neg c10] at H
                      exact absurd H (by simp)
                  · rw [if_neg c9] at H
                    have c9b0 : decide ((wrap64 (bt a0 x6_1)) < 32) = false := decide_eq_false c9
                    clear c9
                    by_cases c12 : (wrap64 (x6_1 + 1)) ≥ (a0.size : Int)
                    · rw [if_pos c12] at H
                      have c12b0 : decide ((a0.size : Int) ≤ (wrap64 (x6_1 + 1))) = true := decide_eq_true c12
                      clear c12
                      simp only [Option.some.injEq, Prod.mk.injEq] at H
                      obtain ⟨rfl, rfl⟩ := H
                      go_wp2
                      go_ret2
                      exact ⟨_, by first | rfl | (simp [errW_none, errW_some] <;> rfl) | (simp [*, errW_none, errW_some] <;> rfl), by first | exact Kd.R_nil _ _ _ _ _ | exact Kd.N_nil _ _ _ _ _ | exact Kd.V_nil _ _ _ _ _ | exact Kd.Q_nil _ _ _ _ _ | exact Kd.S_nil _ _ _ _ _, by repeat (first | (with_reducible first | exact HB.out | apply below_alloc | apply pw_below_drewN | apply below_drew1) | exact HB.out)⟩
                    · rw [if_neg c12] at H
                      have c12b0 : decide ((a0.size : Int) ≤ (wrap64 (x6_1 + 1))) = false := decide_eq_false c12
                      clear c12
                      obtain ⟨ji13, hji13⟩ : ∃ j_ : Int, (wrap64 (x6_1 + 1)) = j_ := ⟨_, rfl⟩
                      replace H : (if 0 ≤ (ji13) then (if (ji13) < (a0.size : Int) then (if (bt a0 (ji13)) < 2 then (some (([] : List (S50)), 7)) else (if (wrap64 (x6_1 + (wrap64 (bt a0 (ji13))))) > (a0.size : Int) then (some (([] : List (S50)), 7)) else (if 0 ≤ (wrap64 (x6_1 + 2)) then (if (wrap64 (x6_1 + 2)) ≤ (wrap64 (x6_1 + (wrap64 (bt a0 (ji13))))) then (if (wrap64 (x6_1 + (wrap64 (bt a0 (ji13))))) ≤ (a0.size : Int) then (if x4_1.length < 5864062014805 then (muleteerref1_GetOpts.l0 kj5 a0 (x4_1 ++ [(⟨(wrap64 (bt a0 x6_1)), a0.extract ((wrap64 (x6_1 + 2)) : Int).toNat ((wrap64 (x6_1 + (wrap64 (bt a0 (ji13))))) : Int).toNat⟩ : S50)]) ((wrap64 (bt a0 x6_1)) == 1) (wrap64 (x6_1 + (wrap64 (bt a0 (ji13)))))) else (none)) else (none)) else (none)) else (none)))) else (none)) else (none)) = some (r1, r2) := by first | (rw [hji13] at H; exact H) | (simp only [hji13] at H ⊢; exact H)
                      (try rw [hji13] at c12b0)
                      have hji13w : (IntKind.i64.wrap (x6_1 + 1)) = ji13 := (i64_w _).trans hji13
                      by_cases c14 : 0 ≤ (ji13)
                      · rw [if_pos c14] at H
                        have c14b0 : decide (0 ≤ (ji13)) = true := decide_eq_true c14
                        clear c14
                        by_cases c15 : (ji13) < (a0.size : Int)
                        · rw [if_pos c15] at H
                          have c15b0 : decide ((ji13) < (a0.size : Int)) = true := decide_eq_true c15
                          clear c15
                          by_cases c17 : (bt a0 (ji13)) < 2
                          · rw [if_pos c17] at H
                            have c17b0 : decide ((bt a0 (ji13)) < 2) = true := decide_eq_true c17
                            clear c17
                            simp only [Option.some.injEq, Prod.mk.injEq] at H
                            obtain ⟨rfl, rfl⟩ := H
                            have p16 : 0 ≤ ((ji13) : Int) := of_decide_eq_true (by first | (with_reducible assumption) | assumption)
                            have q16 : (ji13) < (a0.size : Int) := of_decide_eq_true (by first | (with_reducible assumption) | assumption)
                            have hx16 := bt_at a0 (ji13)
                            replace p16 := eq_true p16
                            replace q16 := eq_true q16
                            go_wp2
                            go_ret2
                            exact ⟨_, by first | rfl | (simp [errW_none, errW_some] <;> rfl) | (simp only [← hji13]; first | rfl | (simp [errW_none, errW_some] <;> rfl)) | (simp [*, errW_none, errW_some] <;> rfl), by first | exact Kd.R_nil _ _ _ _ _ | exact Kd.N_nil _ _ _ _ _ | exact Kd.V_nil _ _ _ _ _ | exact Kd.Q_nil _ _ _ _ _ | exact Kd.S_nil _ _ _ _ _, by repeat (first | (with_reducible first | exact HB.out | apply below_alloc | apply pw_below_drewN | apply below_drew1) | exact HB.out)⟩
                          · rw [if_neg c17] at H
                            have c17b0 : decide ((bt a0 (ji13)) < 2) = false := decide_eq_false c17
                            clear c17
                            by_cases c19 : (wrap64 (x6_1 + (wrap64 (bt a0 (ji13))))) > (a0.size : Int)
                            · rw [if_pos c19] at H
                              have c19b0 : decide ((a0.size : Int) < (wrap64 (x6_1 + (wrap64 (bt a0 (ji13)))))) = true := decide_eq_true c19
                              clear c19
                              simp only [Option.some.injEq, Prod.mk.injEq] at H
                              obtain ⟨rfl, rfl⟩ := H
                              have p16 : 0 ≤ ((ji13) : Int) := of_decide_eq_true (by first | (with_reducible assumption) | assumption)
                              have q16 : (ji13) < (a0.size : Int) := of_decide_eq_true (by first | (with_reducible assumption) | assumption)
                              have hx16 := bt_at a0 (ji13)
                              replace p16 := eq_true p16
                              replace q16 := eq_true q16
                              have p18 : 0 ≤ ((ji13) : Int) := of_decide_eq_true (by first | (with_reducible assumption) | assumption)
                              have q18 : (ji13) < (a0.size : Int) := of_decide_eq_true (by first | (with_reducible assumption) | assumption)
                              have hx18 := bt_at a0 (ji13)
                              replace p18 := eq_true p18
                              replace q18 := eq_true q18
                              go_wp2
                              go_ret2
                              exact ⟨_, by first | rfl | (simp [errW_none, errW_some] <;> rfl) | (simp only [← hji13]; first | rfl | (simp [errW_none, errW_some] <;> rfl)) | (simp [*, errW_none, errW_some] <;> rfl), by first | exact Kd.R_nil _ _ _ _ _ | exact Kd.N_nil _ _ _ _ _ | exact Kd.V_nil _ _ _ _ _ | exact Kd.Q_nil _ _ _ _ _ | exact Kd.S_nil _ _ _ _ _, by repeat (first | (with_reducible first | exact HB.out | apply below_alloc | apply pw_below_drewN | apply below_drew1) | exact HB.out)⟩
                            · rw [if_neg c19] at H
                              have c19b0 : decide ((a0.size : Int) < (wrap64 (x6_1 + (wrap64 (bt a0 (ji13)))))) = false := decide_eq_false c19
                              clear c19
                              obtain ⟨ji21, hji21⟩ : ∃ j_ : Int, (wrap64 (x6_1 + 2)) = j_ := ⟨_, rfl⟩
                              replace H : (if 0 ≤ (ji21) then (if (ji21) ≤ (wrap64 (x6_1 + (wrap64 (bt a0 (ji13))))) then (if (wrap64 (x6_1 + (wrap64 (bt a0 (ji13))))) ≤ (a0.size : Int) then (if x4_1.length < 5864062014805 then (muleteerref1_GetOpts.l0 kj5 a0 (x4_1 ++ [(⟨(wrap64 (bt a0 x6_1)), a0.extract ((ji21) : Int).toNat ((wrap64 (x6_1 + (wrap64 (bt a0 (ji13))))) : Int).toNat⟩ : S50)]) ((wrap64 (bt a0 x6_1)) == 1) (wrap64 (x6_1 + (wrap64 (bt a0 (ji13)))))) else (none)) else (none)) else (none)) else (none)) = some (r1, r2) := by first | (rw [hji21] at H; exact H) | (simp only [hji21] at H ⊢; exact H)
                              have hji21w : (IntKind.i64.wrap (x6_1 + 2)) = ji21 := (i64_w _).trans hji21
                              by_cases c22 : 0 ≤ (ji21)
                              · rw [if_pos c22] at H
                                have c22b0 := eq_true c22
                                have c22b1 : decide (0 ≤ (ji21)) = true := decide_eq_true c22
                                clear c22
                                by_cases c23 : (ji21) ≤ (wrap64 (x6_1 + (wrap64 (bt a0 (ji13)))))
                                · rw [if_pos c23] at H
                                  have c23b0 := eq_true c23
                                  have c23b1 : decide ((ji21) ≤ (wrap64 (x6_1 + (wrap64 (bt a0 (ji13)))))) = true := decide_eq_true c23
                                  by_cases c24 : (wrap64 (x6_1 + (wrap64 (bt a0 (ji13))))) ≤ (a0.size : Int)
                                  · rw [if_pos c24] at H
                                    have c24b0 := eq_true c24
                                    have c24b1 : decide ((wrap64 (x6_1 + (wrap64 (bt a0 (ji13))))) ≤ (a0.size : Int)) = true := decide_eq_true c24
                                    by_cases c25 : x4_1.length < 5864062014805
                                    · rw [if_pos c25] at H
                                      have LMc25 := Aside0.mk c25
                                      clear c25
                                      obtain ⟨y104, hy104⟩ : ∃ y_ : List (S50), y_ = (x4_1 ++ [(⟨(wrap64 (bt a0 x6_1)), a0.extract ((ji21) : Int).toNat ((wrap64 (x6_1 + (wrap64 (bt a0 (ji13))))) : Int).toNat⟩ : S50)]) := ⟨_, rfl⟩
                                      replace H : (muleteerref1_GetOpts.l0 kj5 a0 y104 ((wrap64 (bt a0 x6_1)) == 1) (wrap64 (x6_1 + (wrap64 (bt a0 (ji13)))))) = some (r1, r2) := by first | (rw [hy104]; with_reducible exact H) | (have H2_ := (Option.bind_some _ _).symm.trans H; rw [hy104]; with_reducible exact H2_) | (have H2_ := (Option.bind_some _ _).symm.trans H; with_reducible exact H2_) | with_reducible exact H | (rw [hy104]; exact H) | exact H
                                      have Ny104 := Aside0.mk hy104
                                      clear hy104
                                      have H' := Aside0.mk H
                                      clear H
                                      have p16 : 0 ≤ ((ji13) : Int) := of_decide_eq_true (by first | (with_reducible assumption) | assumption)
                                      have q16 : (ji13) < (a0.size : Int) := of_decide_eq_true (by first | (with_reducible assumption) | assumption)
                                      have hx16 := bt_at a0 (ji13)
                                      replace p16 := eq_true p16
                                      replace q16 := eq_true q16
                                      have p18 : 0 ≤ ((ji13) : Int) := of_decide_eq_true (by first | (with_reducible assumption) | assumption)
                                      have q18 : (ji13) < (a0.size : Int) := of_decide_eq_true (by first | (with_reducible assumption) | assumption)
                                      have hx18 := bt_at a0 (ji13)
                                      replace p18 := eq_true p18
                                      replace q18 := eq_true q18
                                      have p20 : 0 ≤ ((ji13) : Int) := of_decide_eq_true (by first | (with_reducible assumption) | assumption)
                                      have q20 : (ji13) < (a0.size : Int) := of_decide_eq_true (by first | (with_reducible assumption) | assumption)
                                      have hx20 := bt_at a0 (ji13)
                                      replace p20 := eq_true p20
                                      replace q20 := eq_true q20
                                      go_wp2_with (first | ((with_reducible refine gate_builtin (b := .append) (xs := #[.tmp 60, .tmp 74]) rfl ?_); (try (refine gate_guard (by rfl) ?_; dsimp only)); at_builtin; refine Kd.R_append k50 (w0 := w) w.heap.size rfl (.tmp 60) (.tmp 74) 27 50 (.agg #[(.int .i64 0), (.string ⟨#[]⟩)]) 24 rfl Tryz.underlying27 info50 rfl (by decide) (by omega) u4 x4_1 (⟨(wrap64 (bt a0 x6_1)), a0.extract ((ji21) : Int).toNat ((wrap64 (x6_1 + (wrap64 (bt a0 (ji13))))) : Int).toNat⟩ : S50) [.int .i64 (wrap64 (bt a0 x6_1)), .string (a0.extract ((ji21) : Int).toNat ((wrap64 (x6_1 + (wrap64 (bt a0 (ji13))))) : Int).toNat)] (fun _ => True) (fun _ => False) rfl rfl ?aP (fun _ hk => hk.elim) ?aF ?aO ?aB ?aS ?aL ?_; (case aP => exact k50_mkM _ _ _ (⟨(wrap64 (bt a0 x6_1)), a0.extract ((ji21) : Int).toNat ((wrap64 (x6_1 + (wrap64 (bt a0 (ji13))))) : Int).toNat⟩ : S50)); (case aB => exact (by repeat (first | (with_reducible first | exact HB.out | apply below_alloc | apply pw_below_drewN | apply below_drew1) | exact HB.out))); (case aF => exact (fun _ _ => trivial)); (case aO => exact (by (with_reducible repeat (first | apply Kd.R_alloc | apply Kd.R_drewN | apply Kd.R_drew)); exact HO_4.out)); (case aS => exact (below_size (by repeat (first | (with_reducible first | exact HB.out | apply below_alloc | apply pw_below_drewN | apply below_drew1) | exact HB.out)))); (case aL => have := LMc25.out; omega); intro v105 w27 ho hb hg hat; rw [← Ny104.out] at ho; have n0_ := Aside0.mk (hb); have n1_ := Aside0.mk (ho); clear HB; clear HO_4; have HB := n0_; have HO106 := n1_; clear n0_ n1_; clear ho hb hg hat; have p26 : 0 ≤ ((ji13) : Int) := of_decide_eq_true (by first | (with_reducible assumption) | assumption); have q26 : (ji13) < (a0.size : Int) := of_decide_eq_true (by first | (with_reducible assumption) | assumption); have hx26 := bt_at a0 (ji13); replace p26 := eq_true p26; replace q26 := eq_true q26))
                                      go_roundg kj5
                                      case measure => have := HK1.out; have := HJ5.out; omega
                                      case rel => exact ⟨(y104), (((wrap64 (bt a0 x6_1)) == 1)), (wrap64 (x6_1 + (wrap64 (bt a0 (ji13))))), (by first | rfl | (simp; done) | (simp [*]; done)), (by first | rfl | (simp; done) | (simp only [← hji13] <;> (first | rfl | simp)) | (simp [*]; done)), H', ⟨by have := HK1.out; have := HJ5.out; omega⟩, ⟨by (with_reducible repeat (first | apply Kd.R_alloc | apply Kd.R_drewN | apply Kd.R_drew)); exact HO106.out⟩, ⟨by repeat (first | (with_reducible first | exact HB.out | apply below_alloc | apply pw_below_drewN | apply below_drew1) | exact HB.out)⟩⟩
                                    · rw [if_neg c25] at H
                                      exact absurd H (by simp)
                                  · rw [if_neg c24] at H
                                    exact absurd H (by simp)
                                · rw [if_neg c23] at H
                                  exact absurd H (by simp)
                              · rw [if_neg c22] at H
                                exact absurd H (by simp)
                        · rw [if_neg c15] at H
                          exact absurd H (by simp)
                      · rw [if_neg c14] at H
                        exact absurd H (by simp)
        · rw [if_neg c3] at H
          exact absurd H (by simp)
      · rw [if_neg c2] at H
        have c2b0 : decide (x6_1 < (a0.size : Int)) = false := decide_eq_false c2
        clear c2
        by_cases c28 : x5_1 = true
        · subst c28
          have H1 : (some (([] : List (S50)), 7)) = some (r1, r2) := by rw [if_pos rfl] at H; exact H
          clear H
          have H := H1
          clear H1
          simp only [Option.some.injEq, Prod.mk.injEq] at H
          obtain ⟨rfl, rfl⟩ := H
          go_wp2
          go_ret2
          exact ⟨_, by first | rfl | (simp [errW_none, errW_some] <;> rfl) | (simp [*, errW_none, errW_some] <;> rfl), by first | exact Kd.R_nil _ _ _ _ _ | exact Kd.N_nil _ _ _ _ _ | exact Kd.V_nil _ _ _ _ _ | exact Kd.Q_nil _ _ _ _ _ | exact Kd.S_nil _ _ _ _ _, by repeat (first | (with_reducible first | exact HB.out | apply below_alloc | apply pw_below_drewN | apply below_drew1) | exact HB.out)⟩
        · replace c28 := Bool.eq_false_iff.mpr c28
          subst c28
          have H1 : (some (x4_1, 0)) = some (r1, r2) := by rw [if_neg (show ¬ (false = true) by decide)] at H; exact H
          clear H
          have H := H1
          clear H1
          simp only [Option.some.injEq, Prod.mk.injEq] at H
          obtain ⟨rfl, rfl⟩ := H
          go_wp2
          go_ret2
          exact ⟨_, by first | rfl | (simp [errW_none, errW_some] <;> rfl) | (simp [*, errW_none, errW_some] <;> rfl), by (with_reducible repeat (first | apply Kd.R_alloc | apply Kd.R_drewN | apply Kd.R_drew)); exact HO_4.out, by repeat (first | (with_reducible first | exact HB.out | apply below_alloc | apply pw_below_drewN | apply below_drew1) | exact HB.out)⟩

end Go.Proofs.YtjlnbahanghhcaaGreatDoor.Pmuleteerref1GetOpts

/- The contract of the document's GetOpts at whatever bytes, over plain lists of options. -/
namespace Go.Proofs.YtjlnbahanghhcaaGreatDoor.RG
open Go.RowKit Go.Proofs.YtjlnbahanghhcaaGreatDoor.Pmuleteerref1GetOpts Go.Proofs.YtjlnbahanghhcaaGreatDoorW.PrintWords Go.Proofs.YtjlnbahanghhcaaGreatDoorW.PrintLast Go.Proofs.YtjlnbahanghhcaaGreatDoorW.PrintMore
set_option linter.unusedVariables false
set_option linter.unusedSimpArgs false
def mkB (l : List UInt8) : ByteArray := ⟨l.toArray⟩
theorem mkB_self (s : ByteArray) : mkB s.data.toList = s := ByteArray.ext (by unfold mkB; rw [Array.toArray_toList])
theorem ext_list (s : ByteArray) (a b : Nat) : (s.extract a b).data.toList = (s.data.toList.drop a).take (b - a) := by
  rw [ByteArray.data_extract, Array.toList_extract, List.extract_eq_take_drop]
theorem ext_mkB (s : ByteArray) (a b : Nat) : s.extract a b = mkB ((s.data.toList.drop a).take (b - a)) := by
  rw [← mkB_self (s.extract a b), ext_list]
theorem ext_drop (s : ByteArray) (a : Nat) : (s.extract a s.size).data.toList = s.data.toList.drop a := by
  rw [ext_list, List.take_of_length_le]
  rw [List.length_drop, Array.length_toList]; exact Nat.le_refl _
theorem len_size (s : ByteArray) : s.data.toList.length = s.size := by rw [Array.length_toList]; rfl
theorem bt_drop (s : ByteArray) (i : Nat) (t : UInt8) (r : List UInt8) (h : s.data.toList.drop i = t :: r) : bt s (i : Int) = (t.toNat : Int) := by
  have hlt : i < s.data.toList.length := by
    rcases Nat.lt_or_ge i s.data.toList.length with h' | h'
    · exact h'
    · rw [List.drop_eq_nil_of_le h'] at h; cases h
  have hlt' : i < s.size := by rw [← len_size]; exact hlt
  rw [List.drop_eq_getElem_cons hlt] at h
  rw [← bt_at s (i : Int) (by rw [Int.toNat_natCast]; exact hlt')]
  have e : s[i] = t := (List.cons.inj h).1
  show ((s[(i : Int).toNat]'_).toNat : Int) = _
  simp only [Int.toNat_natCast]
  rw [e]
abbrev SO := S50
/-- what bytes say of options; m: what came last must be known. -/
def par : Nat → List UInt8 → Bool → Option (List SO)
  | _, [], m => if m then none else some []
  | 0, _ :: _, _ => none
  | n + 1, t :: r, m =>
    if t.toNat = 0 then par n r m
    else if m = true ∧ t.toNat = 1 then none
    else if t.toNat < 32 then (par n r (decide (t.toNat = 1))).map (fun l => ⟨(t.toNat : Int), ⟨#[]⟩⟩ :: l)
    else match r with
      | [] => none
      | k :: r' => if k.toNat < 2 ∨ r'.length + 2 < k.toNat then none else (par n (r'.drop (k.toNat - 2)) false).map (fun l => ⟨(t.toNat : Int), mkB (r'.take (k.toNat - 2))⟩ :: l)
def parR (acc : List SO) : Option (List SO) → List SO × Int
  | none => ([], 7)
  | some l => (acc ++ l, 0)
theorem parR_map (acc : List SO) (o : SO) (x : Option (List SO)) : parR acc (x.map (fun l => o :: l)) = parR (acc ++ [o]) x := by
  cases x with
  | none => rfl
  | some l => simp [parR]
theorem wrap_byte' (t : UInt8) : wrap64 (t.toNat : Int) = (t.toNat : Int) := by have := t.toNat_lt; rw [wrap64_eq]; omega
theorem wsum (a b : Nat) (h : a + b < 4611686018427387904) : wrap64 ((a : Int) + (b : Int)) = ((a + b : Nat) : Int) := by rw [wrap64_eq]; omega
theorem rget_loop (s : ByteArray) (hs : s.size ≤ 100000000) (n : Nat) : ∀ (i : Nat) (acc : List SO) (m : Bool) (k : Nat), s.size ≤ i + n → i ≤ s.size → 2 * n + 2 ≤ k → acc.length + n ≤ 1000000000 →
    muleteerref1_GetOpts.l0 k s acc m (i : Int) = some (parR acc (par n (s.data.toList.drop i) m)) := by
  induction n with
  | zero =>
    intro i acc m k hi hi2 hk _
    obtain ⟨k, rfl⟩ : ∃ q, k = q + 1 := ⟨k - 1, by omega⟩
    have hl : s.data.toList.drop i = [] := List.drop_eq_nil_of_le (by rw [len_size]; omega)
    simp only [muleteerref1_GetOpts.l0]
    rw [if_neg (by omega), hl]
    cases m <;> simp [par, parR]
  | succ n ih =>
    intro i acc m k hi hi2 hk ha
    obtain ⟨K, rfl⟩ : ∃ q, k = q + 1 := ⟨k - 1, by omega⟩
    rcases hl : s.data.toList.drop i with _ | ⟨t, r⟩
    · have hz : s.size ≤ i := by rw [← len_size]; exact List.drop_eq_nil_iff.1 hl
      simp only [muleteerref1_GetOpts.l0]
      rw [if_neg (by omega)]
      cases m <;> simp [par, parR]
    · have hz : s.size - i = r.length + 1 := by rw [← len_size, ← List.length_drop, hl]; rfl
      have ht := t.toNat_lt
      have hb := bt_drop s i t r hl
      have e1 : wrap64 ((i : Int) + 1) = ((i + 1 : Nat) : Int) := by rw [wrap64_eq]; omega
      have hdr : s.data.toList.drop (i + 1) = r := by rw [← List.drop_drop, hl]; rfl
      simp only [muleteerref1_GetOpts.l0]
      rw [if_pos (by omega), if_pos (by omega), hb, wrap_byte', e1]
      simp only [par]
      by_cases h0 : t.toNat = 0
      · rw [if_pos (by omega), if_pos h0, ih (i + 1) acc m K (by omega) (by omega) (by omega) (by omega), hdr]
      · rw [if_neg (by omega), if_neg h0]
        obtain ⟨k, rfl⟩ : ∃ q, K = q + 1 := ⟨K - 1, by omega⟩
        have join : ∀ q : List SO × Int, muleteerref1_GetOpts.j1 (k + 1) s acc i (t.toNat : Int) (if m = true then ((t.toNat : Int) == 1) else false) = some q →
            (if m = true then muleteerref1_GetOpts.j1 (k + 1) s acc i (t.toNat : Int) ((t.toNat : Int) == 1) else muleteerref1_GetOpts.j1 (k + 1) s acc i (t.toNat : Int) false) = some q := by
          intro q hq
          cases m with
          | false => rw [if_neg Bool.false_ne_true]; rw [if_neg Bool.false_ne_true] at hq; exact hq
          | true => rw [if_pos rfl]; rw [if_pos rfl] at hq; exact hq
        refine join _ ?_
        by_cases hm : m = true ∧ t.toNat = 1
        · have hx : ((t.toNat : Int) == 1) = true := by rw [beq_iff_eq]; omega
          rw [if_pos hm.1, hx, if_pos hm]
          simp only [muleteerref1_GetOpts.j1, if_true]; rfl
        · have hb : (if m = true then ((t.toNat : Int) == 1) else false) = false := by
            cases m with
            | false => rfl
            | true => rw [if_pos rfl, beq_eq_false_iff_ne]; intro h1; exact hm ⟨rfl, by omega⟩
          have hb1 : ((t.toNat : Int) == 1) = decide (t.toNat = 1) := by rw [Bool.eq_iff_iff, beq_iff_eq, decide_eq_true_eq]; omega
          rw [hb, if_neg hm]
          simp only [muleteerref1_GetOpts.j1, Bool.false_eq_true, if_false]
          rw [e1]
          by_cases h32 : t.toNat < 32
          · rw [if_pos (by omega), if_pos h32, if_pos (by omega), hb1, ih (i + 1) _ _ k (by omega) (by omega) (by omega) (by simp; omega), hdr, parR_map]
          · rw [if_neg (by omega), if_neg h32]
            rcases r with _ | ⟨q, r'⟩
            · rw [if_pos (by simp at hz; omega)]; rfl
            · simp only [List.length_cons] at hz
              simp only
              have hq := q.toNat_lt
              have hbq := bt_drop s (i + 1) q r' hdr
              rw [if_neg (by omega), if_pos (by omega), if_pos (by omega), hbq, wrap_byte']
              have b2 : i + q.toNat < 4611686018427387904 := by have : q.toNat < 256 := hq; omega
              have b3 : i + 2 < 4611686018427387904 := by omega
              clear e1
              rw [wsum i q.toNat b2, show wrap64 ((i : Int) + 2) = ((i + 2 : Nat) : Int) from wsum i 2 b3]
              by_cases h2 : q.toNat < 2
              · rw [if_pos (by omega), if_pos (.inl h2)]; rfl
              · rw [if_neg (by omega)]
                by_cases h3 : r'.length + 2 < q.toNat
                · rw [if_pos (by omega), if_pos (.inr h3)]; rfl
                · rw [if_neg (by omega), if_pos (by omega), if_pos (by omega), if_pos (by omega), if_pos (by omega), hb1]
                  rw [if_neg (by omega)]
                  have hd : s.data.toList.drop (i + q.toNat) = r'.drop (q.toNat - 2) := by
                    obtain ⟨j, hj⟩ : ∃ j, q.toNat = j + 2 := ⟨q.toNat - 2, by omega⟩
                    rw [← List.drop_drop, hl, hj]; rfl
                  have hx : s.extract ((i + 2 : Nat) : Int).toNat ((i + q.toNat : Nat) : Int).toNat = mkB (r'.take (q.toNat - 2)) := by
                    rw [ext_mkB, Int.toNat_natCast, Int.toNat_natCast, ← List.drop_drop, hl]
                    congr 1
                    rw [show i + q.toNat - (i + 2) = q.toNat - 2 from by omega]; rfl
                  have hd1 : decide (t.toNat = 1) = false := decide_eq_false (by omega)
                  have := ih (i + q.toNat) (acc ++ [(⟨(t.toNat : Int), mkB (r'.take (q.toNat - 2))⟩ : SO)]) false k (by omega) (by omega) (by omega) (by rw [List.length_append, List.length_cons, List.length_nil]; omega)
                  rw [hd] at this
                  rw [parR_map, hd1, hx]
                  exact this
theorem rget_some (s : ByteArray) (k : Nat) (hs : s.size ≤ 100000000) (hk : 2 * s.size + 2 ≤ k) : muleteerref1_GetOpts.f k s = some (parR [] (par s.size s.data.toList false)) := by
  unfold muleteerref1_GetOpts.f
  have := rget_loop s hs s.size 0 [] false k (by omega) (by omega) hk (by simp; omega)
  exact this
def ofS (o : S50) : Op := ⟨o.f0, o.f1⟩
theorem map_cons (x : Option (List SO)) (y : Option (List Op)) (a : SO) (b : Op) (h : x.map (List.map ofS) = y) (hab : ofS a = b) : (x.map (fun l => a :: l)).map (List.map ofS) = y.map (fun l => b :: l) := by
  subst h; subst hab
  cases x <;> rfl
theorem par_O : ∀ (n : Nat) (l : List UInt8) (m : Bool), (par n l m).map (List.map ofS) = PkB.parO n l m
  | 0, [], m => by cases m <;> simp [par, PkB.parO]
  | n + 1, [], m => by cases m <;> simp [par, PkB.parO]
  | 0, t :: r, m => by simp [par, PkB.parO]
  | n + 1, t :: r, m => by
    simp only [par, PkB.parO]
    by_cases h0 : t.toNat = 0
    · rw [if_pos h0, if_pos h0]; exact par_O n r m
    rw [if_neg h0, if_neg h0]
    by_cases h1 : m = true ∧ t.toNat = 1
    · rw [if_pos h1, if_pos h1]; rfl
    rw [if_neg h1, if_neg h1]
    by_cases h2 : t.toNat < 32
    · rw [if_pos h2, if_pos h2]; exact map_cons _ _ _ _ (par_O n r _) rfl
    rw [if_neg h2, if_neg h2]
    cases r with
    | nil => rfl
    | cons k r' =>
      simp only
      by_cases h3 : k.toNat < 2 ∨ r'.length + 2 < k.toNat
      · rw [if_pos h3, if_pos h3]; rfl
      · rw [if_neg h3, if_neg h3]; exact map_cons _ _ _ _ (par_O n _ false) rfl
theorem parR_getR (x : Option (List SO)) : ((parR [] x).1.map ofS, (parR [] x).2) = PkB.getR (x.map (List.map ofS)) := by
  cases x <;> rfl
theorem opts_cells {w : World} {A : Option Addr} {l : List S50} (h : Kd.C k50 w A l.length l) : CellsAt w w.heap.size A (ocells (l.map ofS)) := fun k u hu => by
  have hk : k < 2 * l.length := by have := (List.getElem?_eq_some_iff.1 hu).1; rw [ocells_len, List.length_map] at this; exact this
  have hi : k / 2 < l.length := by omega
  obtain ⟨ad, c, e, _, hK, hc⟩ := Kd.C_get h z50 (k / 2 : Nat) (by omega) (by omega)
  simp only [Int.toNat_natCast] at hK hc
  have hl : l.getD (k / 2) z50 = l[k / 2] := by rw [List.getD_eq_getElem?_getD, List.getElem?_eq_getElem hi]; rfl
  rw [hl] at hK
  obtain rfl := k50_open hK
  have hat := ocells_at (l.map ofS) (k / 2) (by simpa using hi)
  rw [List.getElem_map] at hat
  have hc' : ∀ j v, ([.int .i64 l[k / 2].f0, .string l[k / 2].f1] : List Value)[j]? = some v → w.cell? (ad.add (k / 2 * 2 + j)) = some v := hc
  have hcell : w.cell? (ad.add k) = some u := by
    rcases Nat.mod_two_eq_zero_or_one k with hm | hm
    · have ek : k / 2 * 2 = k := by omega
      rw [ek, hu] at hat
      rw [ek] at hc'
      rw [Option.some.inj hat.1]; exact hc' 0 _ rfl
    · have ek : k / 2 * 2 + 1 = k := by omega
      have h1 := hat.2
      rw [ek, hu] at h1
      have h2 := hc' 1 _ rfl
      rw [ek] at h2
      rw [Option.some.inj h1]; exact h2
  exact ⟨ad, e, by have := block_lt_of_cell hcell; rwa [add_block] at this, hcell⟩
theorem ref_GetOpts_any (b : ByteArray) (hb : b.size ≤ 100000000) (w : World) : Calls Tryz.prog 18 #[.string b] w fun e w' => ∃ (A : Option Addr) (c : Nat), e = .returned (.tuple #[.slice A (PkB.getO b).1.length c, .int .i64 (PkB.getO b).2]) ∧ (PkB.getO b).1.length ≤ c ∧ CellsAt w' w'.heap.size A (ocells (PkB.getO b).1) ∧ Below w.heap.size w w' := by
  have hf := rget_some b (2 * b.size + 2) hb (Nat.le_refl _)
  have he := parR_getR (par b.size b.data.toList false)
  rw [par_O] at he
  unfold PkB.getO
  obtain ⟨q, hq⟩ : ∃ q, parR [] (par b.size b.data.toList false) = q := ⟨_, rfl⟩
  rw [hq] at hf he
  rw [← he]
  obtain ⟨r1, r2⟩ := q
  refine (muleteerref1_GetOpts.calls (2 * b.size + 2) b r1 r2 w hf).mono fun e w' hh => ?_
  obtain ⟨v, rfl, hr, hbl⟩ := hh
  obtain ⟨A, c, rfl, hc, hC⟩ := Kd.R_reads hr
  refine ⟨A, c, by dsimp only; rw [List.length_map], by dsimp only; rw [List.length_map]; exact hc, opts_cells hC, hbl⟩
end Go.Proofs.YtjlnbahanghhcaaGreatDoor.RG
