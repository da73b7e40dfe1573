/- Contracts and laws that the claim's proof needs: PureCover, GetPAny, PurePktAll, Pmuleteerref1PutOptsx0. Conditions: each theorem's own. -/
import Derived.Test.YtjlnbahanghhcaaGreatDoorZCardPktAllUptop1
import Derived.Test.YtjlnbahanghhcaaGreatDoorProg
import Derived.Below
import Derived.Deep.Draws
import Derived.Deep.AppendLies
import Derived.Maps.AppendAt
import Derived.OwnWalk
import Derived.Laws.BytesArg
import Derived.Laws.MakeOwn
import Derived.Laws.OwnMore
import Derived.Deep.OwnRows
import Derived.Tactics
import Derived.Lib.ConvBytes
import Derived.Laws.Slices
import Derived.WalkKit
import Derived.KernelRfl
import Derived.RowKit3
import Derived.Deep.LoopGhost
import Derived.Deep.QuietTactic
import Derived.BigQuiet
import Derived.WideLaws
import Derived.Deep.DeepCutAuto
import Derived.Deep.CutBlock
import Derived.Deep.RegionHeld3
import Derived.Laws.Rows
import Derived.Lib.AppendStr
import Derived.ArgAppend
import Derived.Laws.IdiomCopy
import Derived.OrdersHeld
import Derived.Laws.BitsLemmas
import Derived.RowKit
import Derived.Test.YtjlnbahanghhcaaGreatDoorBaseD
import Derived.Test.YtjlnbahanghhcaaGreatDoorWWords
import Derived.Test.YtjlnbahanghhcaaGreatDoorWLast
import Derived.Test.YtjlnbahanghhcaaGreatDoorWTab
import Derived.Test.YtjlnbahanghhcaaGreatDoorWFour
import Derived.Test.YtjlnbahanghhcaaGreatDoorWQPut
import Derived.Test.YtjlnbahanghhcaaGreatDoorWApart
import Derived.Test.YtjlnbahanghhcaaGreatDoorWArr
import Derived.Test.YtjlnbahanghhcaaGreatDoorWZeros
import Derived.Test.YtjlnbahanghhcaaGreatDoorWFoot
import Derived.Test.YtjlnbahanghhcaaGreatDoorWKept
import Derived.Test.YtjlnbahanghhcaaGreatDoorWShare
import Derived.Test.YtjlnbahanghhcaaGreatDoorWN
import Derived.Test.YtjlnbahanghhcaaGreatDoorWFootNe
import Derived.Test.YtjlnbahanghhcaaGreatDoorWAt
import Derived.Test.YtjlnbahanghhcaaGreatDoorWEqStruct
import Derived.Test.YtjlnbahanghhcaaGreatDoorWRepsOne
import Derived.Test.YtjlnbahanghhcaaGreatDoorWInv
import Derived.Test.YtjlnbahanghhcaaGreatDoorWInvWords
import Derived.Test.YtjlnbahanghhcaaGreatDoorWGuard
import Derived.Test.YtjlnbahanghhcaaGreatDoorWNEv
import Derived.Test.YtjlnbahanghhcaaGreatDoorWMore

/- PktCover: a byte behind the head and the options that is turned: plain. -/
namespace Go.Proofs.YtjlnbahanghhcaaGreatDoor.PkB
open Go.RowKit Go.Proofs.YtjlnbahanghhcaaGreatDoor.PoptGet Go.Proofs.YtjlnbahanghhcaaGreatDoor.PkF Go.Proofs.YtjlnbahanghhcaaGreatDoorW.PrintWords Go.Proofs.YtjlnbahanghhcaaGreatDoorW.PrintLast Go.Proofs.YtjlnbahanghhcaaGreatDoorW.PrintMore
set_option linter.unusedVariables false
set_option linter.unusedSimpArgs false

theorem flat_inj (p q : Hd × List SO × ByteArray × Int) (e : flat p = flat q) : p = q := by
  obtain ⟨⟨a1, a2, a3, a4, a5, a6, a7, a8, a9, a10, a11, a12, a13, a14, a15⟩, l, d, E⟩ := p
  obtain ⟨⟨b1, b2, b3, b4, b5, b6, b7, b8, b9, b10, b11, b12, b13, b14, b15⟩, m, f, F⟩ := q
  unfold flat at e
  simp only [Prod.mk.injEq] at e
  obtain ⟨rfl, rfl, rfl, rfl, rfl, rfl, rfl, rfl, rfl, rfl, rfl, rfl, rfl, rfl, rfl, rfl, rfl, rfl⟩ := e
  rfl
/-- what a packet that was written is read as. -/
theorem put_back_getP (h : Hd) (hk : okH h = true) (os : List Op) (d : ByteArray) (he : errP h os d = 0) :
    ∃ N S : Nat, (nOf h os) = 4 * N ∧ N ≤ 255 ∧ S ≤ 65535 ∧ (putP h os d).2 = 0 ∧ (putP h os d).1.size = 4 * N + d.size ∧ d.size ≤ 1400 ∧
      getP (putP h os d).1 = match scan (os.map fun o => (⟨o.typ, o.data⟩ : SO)) false with
        | none => (hd0, [], ⟨#[]⟩, 7)
        | some l => ({ h with off := (N : Nat), sum := (S : Nat) }, l, d, 0) := by
  obtain ⟨hm, _, hn1, hn2, hn3, _⟩ := err_none h os d he
  have hbd := may_bounds hm
  have hk2 := hk
  unfold okH at hk2
  have hk2 := of_decide_eq_true hk2
  obtain ⟨src, dst, off, cc, cs, sum, typ, x, seq, ack, serv, code, i0, i1, i2⟩ := h
  dsimp only at *
  obtain ⟨src, rfl⟩ := Int.eq_ofNat_of_zero_le hbd.1
  obtain ⟨dst, rfl⟩ := Int.eq_ofNat_of_zero_le hbd.2.2.1
  obtain ⟨cc, rfl⟩ := Int.eq_ofNat_of_zero_le (show 0 ≤ cc by omega)
  obtain ⟨cs, rfl⟩ := Int.eq_ofNat_of_zero_le (show 0 ≤ cs by omega)
  obtain ⟨typ, rfl⟩ := Int.eq_ofNat_of_zero_le (show 0 ≤ typ by omega)
  obtain ⟨seq, rfl⟩ := Int.eq_ofNat_of_zero_le (show 0 ≤ seq by omega)
  obtain ⟨ack, rfl⟩ := Int.eq_ofNat_of_zero_le (show 0 ≤ ack by omega)
  obtain ⟨serv, rfl⟩ := Int.eq_ofNat_of_zero_le (show 0 ≤ serv by omega)
  obtain ⟨code, rfl⟩ := Int.eq_ofNat_of_zero_le (show 0 ≤ code by omega)
  obtain ⟨i0, rfl⟩ := Int.eq_ofNat_of_zero_le (show 0 ≤ i0 by omega)
  obtain ⟨i1, rfl⟩ := Int.eq_ofNat_of_zero_le (show 0 ≤ i1 by omega)
  obtain ⟨i2, rfl⟩ := Int.eq_ofNat_of_zero_le (show 0 ≤ i2 by omega)
  have hmap : (os.map fun o => (⟨o.typ, o.data⟩ : SO)).map ofS = os := by
    rw [List.map_map]
    exact (List.map_congr_left (g := id) (fun x _ => rfl)).trans (List.map_id os)
  obtain ⟨N, S, hN, hN2, hS2, hsz, hg, hs, hf⟩ := pkt_back 6000 src dst cc cs typ off sum x seq ack serv code i0 i1 i2 (os.map fun o => (⟨o.typ, o.data⟩ : SO)) d (Nat.le_refl _) (by omega) (by omega) (by omega) (by omega) (by rw [hmap]; exact he)
  rw [hmap] at hN hsz hg hs hf
  refine ⟨N, S, hN, hN2, hS2, ?_, hsz, hn2, ?_⟩
  · unfold putP; rw [if_pos he]
  · rw [getP_f] at hf
    cases hsc : scan (os.map fun o => (⟨o.typ, o.data⟩ : SO)) false with
    | none => rw [hsc] at hf; exact flat_inj _ (hd0, [], ⟨#[]⟩, 7) (Option.some.inj hf)
    | some l => rw [hsc] at hf; exact flat_inj _ (⟨src, dst, (N : Nat), cc, cs, (S : Nat), typ, x, seq, ack, serv, code, i0, i1, i2⟩, l, d, 0) (Option.some.inj hf)
end Go.Proofs.YtjlnbahanghhcaaGreatDoor.PkB

/- The contract of pkt.Get at whatever bytes, over the plain function getP. -/
namespace Go.Proofs.YtjlnbahanghhcaaGreatDoor.PkB
open Go.RowKit Go.Proofs.YtjlnbahanghhcaaGreatDoor.PoptGet Go.Proofs.YtjlnbahanghhcaaGreatDoor.PkF Go.Proofs.YtjlnbahanghhcaaGreatDoorW.PrintWords Go.Proofs.YtjlnbahanghhcaaGreatDoorW.PrintLast Go.Proofs.YtjlnbahanghhcaaGreatDoorW.PrintMore
set_option linter.unusedVariables false
set_option linter.unusedSimpArgs false
theorem opts_cells {w : World} {A : Option Addr} {l : List S50} (h : Kd.C k50 w A l.length l) : CellsAt w w.heap.size A (ocells (l.map ofS)) := fun k u hu => by
  have hk : k < 2 * l.length := by have := (List.getElem?_eq_some_iff.1 hu).1; rw [ocells_len, List.length_map] at this; exact this
  have hi : k / 2 < l.length := by omega
  obtain ⟨ad, c, e, _, hK, hc⟩ := Kd.C_get h z50 (k / 2 : Nat) (by omega) (by omega)
  simp only [Int.toNat_natCast] at hK hc
  have hl : l.getD (k / 2) z50 = l[k / 2] := by rw [List.getD_eq_getElem?_getD, List.getElem?_eq_getElem hi]; rfl
  rw [hl] at hK
  obtain rfl := k50_open hK
  have hat := ocells_at (l.map ofS) (k / 2) (by simpa using hi)
  rw [List.getElem_map] at hat
  have hc' : ∀ j v, ([.int .i64 l[k / 2].f0, .string l[k / 2].f1] : List Value)[j]? = some v → w.cell? (ad.add (k / 2 * 2 + j)) = some v := hc
  have hcell : w.cell? (ad.add k) = some u := by
    rcases Nat.mod_two_eq_zero_or_one k with hm | hm
    · have ek : k / 2 * 2 = k := by omega
      rw [ek, hu] at hat
      rw [ek] at hc'
      rw [Option.some.inj hat.1]; exact hc' 0 _ rfl
    · have ek : k / 2 * 2 + 1 = k := by omega
      have h1 := hat.2
      rw [ek, hu] at h1
      have h2 := hc' 1 _ rfl
      rw [ek] at h2
      rw [Option.some.inj h1]; exact h2
  exact ⟨ad, e, by have := block_lt_of_cell hcell; rwa [add_block] at this, hcell⟩
theorem pkt_Get_any (b : ByteArray) (w : World) : Calls Tryz.prog 14 #[.string b] w fun e w' => ∃ (A : Option Addr) (c : Nat), e = .returned (.tuple #[.agg #[.int .i64 (PkB.getP b).1.src, .int .i64 (PkB.getP b).1.dst, .int .i64 (PkB.getP b).1.off, .int .i64 (PkB.getP b).1.cc, .int .i64 (PkB.getP b).1.cs, .int .i64 (PkB.getP b).1.sum, .int .i64 (PkB.getP b).1.typ, .bool (PkB.getP b).1.x, .int .u64 (PkB.getP b).1.seq, .int .u64 (PkB.getP b).1.ack, .int .u32 (PkB.getP b).1.serv, .int .i64 (PkB.getP b).1.code, .int .u8 (PkB.getP b).1.i0, .int .u8 (PkB.getP b).1.i1, .int .u8 (PkB.getP b).1.i2, .slice A (PkB.getP b).2.1.length c, .string (PkB.getP b).2.2.1], .int .i64 (PkB.getP b).2.2.2]) ∧ (PkB.getP b).2.1.length ≤ c ∧ CellsAt w' w'.heap.size A (ocells ((PkB.getP b).2.1.map PkB.ofS)) ∧ Below w.heap.size w w' := by
  refine (pkt_Get.calls 6000 b _ _ _ _ _ _ _ _ _ _ _ _ _ _ _ _ _ _ w (PkB.getP_f b)).mono fun e w' hq => ?_
  obtain ⟨v, rfl, hr, hb⟩ := hq
  obtain ⟨A, c, rfl, hc, hC⟩ := Kd.R_reads hr
  exact ⟨A, c, rfl, hc, opts_cells hC, hb⟩
end Go.Proofs.YtjlnbahanghhcaaGreatDoor.PkB

/- PktAll: what the law's own loop over the options finds, and what the options' bytes say. -/
namespace Go.Proofs.YtjlnbahanghhcaaGreatDoor.PkB
open Go.RowKit Go.Proofs.YtjlnbahanghhcaaGreatDoor.PoptGet Go.Proofs.YtjlnbahanghhcaaGreatDoor.PkF Go.Proofs.YtjlnbahanghhcaaGreatDoorW.PrintWords Go.Proofs.YtjlnbahanghhcaaGreatDoorW.PrintLast Go.Proofs.YtjlnbahanghhcaaGreatDoorW.PrintMore
set_option linter.unusedVariables false
set_option linter.unusedSimpArgs false
/-- one step of the law's loop: what is wanted, whether an option that must be known stands ahead of another such, whether the last one is such. -/
def stp (s : List Op × Bool × Bool) (o : Op) : List Op × Bool × Bool := if o.typ = 0 then s else (s.1 ++ [o], s.2.1 || (s.2.2 && decide (o.typ = 1)), decide (o.typ = 1))
def wants (os : List Op) : List Op × Bool × Bool := os.foldl stp ([], false, false)
theorem wants_take (os : List Op) (k : Nat) (h : k < os.length) : wants (os.take (k + 1)) = stp (wants (os.take k)) os[k] := by
  unfold wants
  rw [List.take_succ_eq_append_getElem h, List.foldl_append]
  rfl
theorem stp_len (s : List Op × Bool × Bool) (o : Op) : (stp s o).1.length ≤ s.1.length + 1 := by
  unfold stp
  split
  · omega
  · simp
theorem wants_len (os : List Op) (k : Nat) (h : k ≤ os.length) : (wants (os.take k)).1.length ≤ k := by
  induction k with
  | zero => simp [wants]
  | succ k ih =>
    rw [wants_take os k (by omega)]
    have h1 := stp_len (wants (os.take k)) os[k]
    have h2 := ih (by omega)
    omega
theorem stp_scan : ∀ (os : List Op) (acc : List Op) (must last : Bool),
    (must = true → (os.foldl stp (acc, must, last)).2.1 = true) ∧
    (must = false → (scan (os.map fun o => (⟨o.typ, o.data⟩ : SO)) last = none → ((os.foldl stp (acc, must, last)).2.1 || (os.foldl stp (acc, must, last)).2.2) = true) ∧
      (∀ l, scan (os.map fun o => (⟨o.typ, o.data⟩ : SO)) last = some l → ((os.foldl stp (acc, must, last)).2.1 || (os.foldl stp (acc, must, last)).2.2) = false ∧ (os.foldl stp (acc, must, last)).1 = acc ++ l.map ofS))
  | [], acc, must, last => by
    refine ⟨fun h => h, fun h => ⟨fun h2 => ?_, fun l h2 => ?_⟩⟩
    · cases last
      · simp [scan] at h2
      · simp
    · cases last
      · simp [scan] at h2; subst h2; subst h; simp
      · simp [scan] at h2
  | o :: r, acc, must, last => by
    simp only [List.foldl_cons, List.map_cons, scan]
    by_cases h0 : o.typ = 0
    · have e : stp (acc, must, last) o = (acc, must, last) := by unfold stp; rw [if_pos h0]
      rw [e]
      simp only [h0, if_true]
      exact stp_scan r acc must last
    · have e : stp (acc, must, last) o = (acc ++ [o], must || (last && decide (o.typ = 1)), decide (o.typ = 1)) := by unfold stp; rw [if_neg h0]
      rw [e]
      simp only [h0, if_false]
      obtain ⟨i1, i2⟩ := stp_scan r (acc ++ [o]) (must || (last && decide (o.typ = 1))) (decide (o.typ = 1))
      refine ⟨fun h => i1 (by rw [h]; rfl), fun h => ?_⟩
      subst h
      by_cases h1 : last = true ∧ o.typ = 1
      · rw [if_pos h1]
        have hm : (false || (last && decide (o.typ = 1))) = true := by rw [h1.1, decide_eq_true h1.2]; rfl
        have h3 := i1 hm
        exact ⟨fun _ => by rw [h3]; rfl, fun l h => by cases h⟩
      · rw [if_neg h1]
        have hm : (false || (last && decide (o.typ = 1))) = false := by
          cases last
          · rfl
          · have : ¬ o.typ = 1 := fun h => h1 ⟨rfl, h⟩
            rw [decide_eq_false this]; rfl
        obtain ⟨j1, j2⟩ := i2 hm
        constructor
        · intro h
          refine j1 ?_
          cases hs : scan (r.map fun o => (⟨o.typ, o.data⟩ : SO)) (decide (o.typ = 1)) with
          | none => rfl
          | some l => rw [hs] at h; cases h
        · intro l h
          cases hs : scan (r.map fun o => (⟨o.typ, o.data⟩ : SO)) (decide (o.typ = 1)) with
          | none => rw [hs] at h; cases h
          | some l2 =>
            rw [hs] at h
            obtain rfl := Option.some.inj h
            obtain ⟨k1, k2⟩ := j2 l2 hs
            refine ⟨k1, ?_⟩
            rw [k2, List.map_cons, List.append_assoc]
            rfl
/-- .. at the whole: nothing to be read, or just what is wanted. -/
theorem wants_scan (os : List Op) : (scan (os.map fun o => (⟨o.typ, o.data⟩ : SO)) false = none → ((wants os).2.1 || (wants os).2.2) = true) ∧ (∀ l, scan (os.map fun o => (⟨o.typ, o.data⟩ : SO)) false = some l → ((wants os).2.1 || (wants os).2.2) = false ∧ (wants os).1 = l.map ofS) := by
  have h := (stp_scan os [] false false).2 rfl
  simp only [List.nil_append] at h
  exact h
/-- what is right was summed to nought. -/
theorem getP_sum (b : ByteArray) (h : (getP b).2.2.2 = 0) : sumAt b (getP b).1 = 0 := by
  by_cases h0 : 2500 < b.size
  · unfold getP at h; rw [if_pos h0] at h; exact absurd (show (13 : Int) = 0 from h) (by decide)
  by_cases h1 : (getH b).2 ≠ 0
  · unfold getP at h; rw [if_neg h0, if_pos h1] at h; exact absurd h h1
  by_cases h2 : covB b.size (4 * (getH b).1.off) (getH b).1.cs = false
  · unfold getP at h; rw [if_neg h0, if_neg h1, if_pos h2] at h; exact absurd (show (5 : Int) = 0 from h) (by decide)
  by_cases h3 : sumAt b (getH b).1 ≠ 0
  · unfold getP at h; rw [if_neg h0, if_neg h1, if_neg h2, if_pos h3] at h; exact absurd (show (6 : Int) = 0 from h) (by decide)
  unfold getP at h ⊢
  rw [if_neg h0, if_neg h1, if_neg h2, if_neg h3] at h ⊢
  cases ho : optsOf b (getH b).1 with
  | none => rw [ho] at h; exact absurd (show (7 : Int) = 0 from h) (by decide)
  | some l => exact Decidable.not_not.1 h3
/-- a packet that is written: what the law asks of it. -/
theorem put_all (h : Hd) (hk : okH h = true) (os : List Op) (d : ByteArray) (he : errP h os d = 0) :
    ∃ N S n : Nat, N ≤ 255 ∧ (putP h os d).2 = 0 ∧ (putP h os d).1.size = 4 * N + d.size ∧ d.size ≤ 1400 ∧ os.all mayO = true ∧ sizeB h.typ h.x + ((strOfNums (putO os)).size : Int) = 4 * (N : Int) ∧
      covB (((putP h os d).1.size : Nat) : Int) (4 * (N : Int)) h.cs = true ∧ covN (((putP h os d).1.size : Nat) : Int) (4 * (N : Int)) h.cs = (n : Int) ∧ n ≤ (putP h os d).1.size ∧
      (scan (os.map fun o => (⟨o.typ, o.data⟩ : SO)) false = none → getP (putP h os d).1 = (hd0, [], ⟨#[]⟩, 7)) ∧
      (∀ l, scan (os.map fun o => (⟨o.typ, o.data⟩ : SO)) false = some l → getP (putP h os d).1 = ({ h with off := (N : Nat), sum := (S : Nat) }, l, d, 0) ∧ Sum.sum ((putP h os d).1.extract 0 n).data.toList = 0) := by
  obtain ⟨N, S, h0, h1, h2, h3, h4, h5, h6⟩ := put_back_getP h hk os d he
  obtain ⟨_, e2, _, _, _, e6⟩ := err_none h os d he
  generalize (putP h os d).1 = b at *
  have hc : covB ((b.size : Nat) : Int) (4 * (N : Int)) h.cs = true := by
    rw [h0] at e6
    rw [h4]
    rw [show (((4 * N + d.size : Nat)) : Int) = ((4 * N : Nat) : Int) + (d.size : Int) from by omega, show (4 * (N : Int)) = ((4 * N : Nat) : Int) from by omega]
    exact e6
  obtain ⟨c1, c2, c3, c4, c5⟩ : 0 ≤ 4 * (N : Int) ∧ 4 * (N : Int) ≤ ((b.size : Nat) : Int) ∧ 0 ≤ h.cs ∧ h.cs ≤ 15 ∧ covN ((b.size : Nat) : Int) (4 * (N : Int)) h.cs ≤ ((b.size : Nat) : Int) := by
    unfold covB at hc; exact of_decide_eq_true hc
  have c6 : 0 ≤ covN ((b.size : Nat) : Int) (4 * (N : Int)) h.cs := by unfold covN; split <;> omega
  have hn : covN ((b.size : Nat) : Int) (4 * (N : Int)) h.cs = (((covN ((b.size : Nat) : Int) (4 * (N : Int)) h.cs).toNat : Nat) : Int) := by omega
  refine ⟨N, S, (covN ((b.size : Nat) : Int) (4 * (N : Int)) h.cs).toNat, h1, h3, h4, h5, e2, ?_, hc, hn, by omega, fun hs => ?_, fun l hs => ?_⟩
  · unfold nOf at h0
    obtain ⟨z, hz, _⟩ := size_four h.typ h.x
    rw [hz] at h0 ⊢
    omega
  · rw [h6, hs]
  · have hg : getP b = ({ h with off := (N : Nat), sum := (S : Nat) }, l, d, 0) := by rw [h6, hs]
    refine ⟨hg, ?_⟩
    have := getP_sum b (by rw [hg])
    rw [hg] at this
    exact this
end Go.Proofs.YtjlnbahanghhcaaGreatDoor.PkB

/- What this seat's Go functions compute, as Lean functions, and that they do. Written by a program of this session's (wip/pr/pr.py) by means of the kit's printer, with contracts of ours for some functions; conditions: none beyond each theorem's own. -/
namespace Go.Proofs.YtjlnbahanghhcaaGreatDoor.Pmuleteerref1PutOpts
open Go.RowKit Go.Proofs.YtjlnbahanghhcaaGreatDoorW.PrintWords Go.Proofs.YtjlnbahanghhcaaGreatDoorW.PrintLast Go.Proofs.YtjlnbahanghhcaaGreatDoorW.PrintMore
attribute [local go_sem] max2_int min2_int max_two min_two max_three min_three max_four min_four   -- for this text's walks alone
set_option linter.unusedVariables false
set_option linter.unusedSimpArgs false



def errW : Option Int → Value
  | none => .nilIface
  | some c => .iface 0 (.int .i64 c)
theorem errW_none : errW none = .nilIface := rfl
theorem errW_some (c : Int) : errW (some c) = .iface 0 (.int .i64 c) := rfl

/-! #### struct type 50 -/
structure S50 where
  f0 : Int
  f1 : ByteArray
def z50 : S50 := ⟨(0 : Int), (⟨#[]⟩ : ByteArray)⟩
def k50 : Kd S50 := Kd.iso (Kd.pair (Kd.int .i64) Kd.string) (fun x : S50 => (x.f0, x.f1))
theorem k50_open {w : World} {x : S50} {cs : List Value} (h : k50.K w x cs) : cs = [.int .i64 x.f0, .string x.f1] := by
  obtain ⟨_, _, rfl, rfl, rfl⟩ := h
  exact rfl
theorem k50_mk (w : World) (x : S50)  : k50.K w x [.int .i64 x.f0, .string x.f1] := ⟨[.int .i64 x.f0], [.string x.f1], rfl, rfl, rfl⟩
theorem k50_mkM (w : World) (base : Nat) (ok : Nat → Prop) (x : S50)  : k50.M w base ok x [.int .i64 x.f0, .string x.f1] := ⟨[.int .i64 x.f0], [.string x.f1], rfl, rfl, rfl⟩
def rd_T50 (xs : List S50) (i : Int) : S50 := xs.getD i.toNat z50
theorem at_T50 {w : World} {A : Option Addr} {n : Nat} {xs : List S50} (h : Kd.C k50 w A n xs) (i : Int) (h0 : 0 ≤ i) (h1 : i < n) : ∃ ad , A = some ad ∧ w.cell? (ad.add (i.toNat * 2)) = some (.int .i64 (rd_T50 xs i).f0) ∧ w.cell? ⟨(ad.add (i.toNat * 2)).block, (ad.add (i.toNat * 2)).off + 1, none⟩ = some (.string (rd_T50 xs i).f1) := by
  obtain ⟨ad, c, e, _, hK, hc0⟩ := Kd.C_get h z50 i h0 h1
  have hc : ∀ j u, c[j]? = some u → w.cell? (ad.add (i.toNat * 2 + j)) = some u := hc0
  obtain rfl := k50_open hK
  exact ⟨ad, e, hc 0 _ rfl, by rw [← add_field _ _ 1 (by omega)]; exact hc 1 _ rfl⟩

end Go.Proofs.YtjlnbahanghhcaaGreatDoor.Pmuleteerref1PutOpts
