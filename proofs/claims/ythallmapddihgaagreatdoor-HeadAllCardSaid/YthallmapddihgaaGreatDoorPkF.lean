/- pkt.Get as a Lean function, and that it is that. Printed by wip/gen/mk_pkf.py. -/
import Derived.Test.YthallmapddihgaaGreatDoorPktGet
namespace Go.Proofs.YthallmapddihgaaGreatDoor.PkF
open Go.RowKit Go.Proofs.YthallmapddihgaaGreatDoor Go.Proofs.YthallmapddihgaaGreatDoorW.PrintWords Go.Proofs.YthallmapddihgaaGreatDoor.PoptGet
set_option linter.unusedVariables false
set_option linter.unusedSimpArgs false

def head_Size.f (a0 : Int) (a1 : Bool) : Option (Int) := some (sizeB a0 a1)
def sum_Of.f (l0 : List ByteArray) : Option (Int) := if (joined l0).length ≤ 140737488355328 ∧ l0.length ≤ 140737488355328 then some (Sum.sum (joined l0) : Nat) else none
def sum_Covered.f (a0 : Int) (a1 : Int) (a2 : Int) : Option (Int × Bool) := if a0 ≤ 9223372036854775000 then some (bif covB a0 a1 a2 then covN a0 a1 a2 else 0, covB a0 a1 a2) else none
def head_Get.f (a0 : ByteArray) : Option (Int × Int × Int × Int × Int × Int × Int × Bool × Int × Int × Int × Int × Int × Int × Int × Int) := if a0.size ≤ 9223372036854775807 then some ((getH a0).1.src, (getH a0).1.dst, (getH a0).1.off, (getH a0).1.cc, (getH a0).1.cs, (getH a0).1.sum, (getH a0).1.typ, (getH a0).1.x, (getH a0).1.seq, (getH a0).1.ack, (getH a0).1.serv, (getH a0).1.code, (getH a0).1.i0, (getH a0).1.i1, (getH a0).1.i2, (getH a0).2) else none
def pkt_Get.f (k : Nat) (a0 : ByteArray) : Option (Int × Int × Int × Int × Int × Int × Int × Bool × Int × Int × Int × Int × Int × Int × Int × (List (S45)) × ByteArray × Int) := if (a0.size : Int) > 2500 then (some (0, 0, 0, 0, 0, 0, 0, false, 0, 0, 0, 0, 0, 0, 0, ([] : List (S45)), (⟨#[]⟩ : ByteArray), 13)) else ((head_Get.f a0).bind fun bt111 => (if bt111.2.2.2.2.2.2.2.2.2.2.2.2.2.2.2 = 0 then ((sum_Covered.f (a0.size : Int) (wrap64 (4 * bt111.2.2.1)) bt111.2.2.2.2.1).bind fun bt128 => (if bt128.2 = true then (if 0 ≤ bt128.1 then (if bt128.1 ≤ (a0.size : Int) then ((sum_Of.f (([a0.extract 0 (bt128.1 : Int).toNat] : List ByteArray))).bind fun t133 => (if t133 = 0 then ((head_Size.f bt111.2.2.2.2.2.2.1 bt111.2.2.2.2.2.2.2.1).bind fun t134 => (if 0 ≤ t134 then (if t134 ≤ (wrap64 (4 * bt111.2.2.1)) then (if (wrap64 (4 * bt111.2.2.1)) ≤ (a0.size : Int) then ((opt_Get.f k (a0.extract (t134 : Int).toNat ((wrap64 (4 * bt111.2.2.1)) : Int).toNat)).bind fun bt135 => (if bt135.2 = 0 then (if 0 ≤ (wrap64 (4 * bt111.2.2.1)) then (some (bt111.1, bt111.2.1, bt111.2.2.1, bt111.2.2.2.1, bt111.2.2.2.2.1, bt111.2.2.2.2.2.1, bt111.2.2.2.2.2.2.1, bt111.2.2.2.2.2.2.2.1, bt111.2.2.2.2.2.2.2.2.1, bt111.2.2.2.2.2.2.2.2.2.1, bt111.2.2.2.2.2.2.2.2.2.2.1, bt111.2.2.2.2.2.2.2.2.2.2.2.1, bt111.2.2.2.2.2.2.2.2.2.2.2.2.1, bt111.2.2.2.2.2.2.2.2.2.2.2.2.2.1, bt111.2.2.2.2.2.2.2.2.2.2.2.2.2.2.1, bt135.1, a0.extract ((wrap64 (4 * bt111.2.2.1)) : Int).toNat a0.size, 0)) else (none)) else (some (0, 0, 0, 0, 0, 0, 0, false, 0, 0, 0, 0, 0, 0, 0, ([] : List (S45)), (⟨#[]⟩ : ByteArray), bt135.2)))) else (none)) else (none)) else (none))) else (some (0, 0, 0, 0, 0, 0, 0, false, 0, 0, 0, 0, 0, 0, 0, ([] : List (S45)), (⟨#[]⟩ : ByteArray), 6)))) else (none)) else (none)) else (some (0, 0, 0, 0, 0, 0, 0, false, 0, 0, 0, 0, 0, 0, 0, ([] : List (S45)), (⟨#[]⟩ : ByteArray), 5)))) else (some (0, 0, 0, 0, 0, 0, 0, false, 0, 0, 0, 0, 0, 0, 0, ([] : List (S45)), (⟨#[]⟩ : ByteArray), bt111.2.2.2.2.2.2.2.2.2.2.2.2.2.2.2))))
theorem pkt_Get.calls (k : Nat) (a0 : ByteArray) (r1 : Int) (r2 : Int) (r3 : Int) (r4 : Int) (r5 : Int) (r6 : Int) (r7 : Int) (r8 : Bool) (r9 : Int) (r10 : Int) (r11 : Int) (r12 : Int) (r13 : Int) (r14 : Int) (r15 : Int) (r16 : List (S45)) (r17 : ByteArray) (r18 : Int) (w : World) (h : pkt_Get.f k a0 = some (r1, r2, r3, r4, r5, r6, r7, r8, r9, r10, r11, r12, r13, r14, r15, r16, r17, r18)) :
    Calls Tryz.prog 38 #[.string a0] w fun e w' => ∃ v15_ : Value, e = .returned (.tuple #[.agg #[.int .i64 r1, .int .i64 r2, .int .i64 r3, .int .i64 r4, .int .i64 r5, .int .i64 r6, .int .i64 r7, .bool r8, .int .u64 r9, .int .u64 r10, .int .u32 r11, .int .i64 r12, .int .u8 r13, .int .u8 r14, .int .u8 r15, v15_, .string r17], .int .i64 r18]) ∧ Kd.R k45 45 w' w.heap.size (fun _ => True) v15_ r16 ∧ Below w.heap.size w w' := by
  unfold pkt_Get.f at h
  by_cases c0 : (a0.size : Int) > 2500
  · rw [if_pos c0] at h
    simp only [Option.some.injEq, Prod.mk.injEq] at h
    obtain ⟨rfl, rfl, rfl, rfl, rfl, rfl, rfl, rfl, rfl, rfl, rfl, rfl, rfl, rfl, rfl, rfl, rfl, rfl⟩ := h
    exact (pkt_Get_large a0 (by omega) w).mono fun e w' hq => ⟨.slice none 0 0, hq.1, Kd.R_nil _ _ _ _ _, hq.2⟩
  rw [if_neg c0] at h
  obtain ⟨bt, hb, h⟩ := Option.bind_eq_some_iff.1 h
  unfold head_Get.f at hb
  rw [if_pos (by omega)] at hb
  have hof := getH_off a0
  obtain ⟨⟨hd, E⟩, hg⟩ : ∃ p, getH a0 = p := ⟨_, rfl⟩
  rw [hg] at hb hof
  obtain rfl := Option.some.inj hb
  dsimp only at h hof
  by_cases cE : E = 0
  case neg =>
    rw [if_neg cE] at h
    simp only [Option.some.injEq, Prod.mk.injEq] at h
    obtain ⟨rfl, rfl, rfl, rfl, rfl, rfl, rfl, rfl, rfl, rfl, rfl, rfl, rfl, rfl, rfl, rfl, rfl, rfl⟩ := h
    exact (pkt_Get_head a0 (by omega) hd E hg cE w).mono fun e w' hq => ⟨.slice none 0 0, hq.1, Kd.R_nil _ _ _ _ _, hq.2⟩
  subst cE
  rw [if_pos rfl] at h
  obtain ⟨src, dst, off, cc, cs, sum, typ, x, seq, ack, serv, code, i0, i1, i2⟩ := hd
  dsimp only at h hof
  have hw : wrap64 (4 * off) = 4 * off := by unfold wrap64; omega
  rw [hw] at h
  obtain ⟨bc, hc, h⟩ := Option.bind_eq_some_iff.1 h
  unfold sum_Covered.f at hc
  rw [if_pos (by omega)] at hc
  obtain rfl := Option.some.inj hc
  dsimp only at h
  rcases hcov : covB (a0.size : Int) (4 * off) cs with _ | _
  · rw [hcov, if_neg (by decide)] at h
    simp only [Option.some.injEq, Prod.mk.injEq] at h
    obtain ⟨rfl, rfl, rfl, rfl, rfl, rfl, rfl, rfl, rfl, rfl, rfl, rfl, rfl, rfl, rfl, rfl, rfl, rfl⟩ := h
    exact (pkt_Get_cov a0 (by omega) src dst off cc cs sum typ x seq ack serv code i0 i1 i2 hg hof.1 hof.2 hcov w).mono fun e w' hq => ⟨.slice none 0 0, hq.1, Kd.R_nil _ _ _ _ _, hq.2⟩
  rw [hcov, if_pos rfl] at h
  simp only [cond_true] at h
  by_cases c1 : 0 ≤ covN (a0.size : Int) (4 * off) cs
  case neg => rw [if_neg c1] at h; cases h
  rw [if_pos c1] at h
  by_cases c2 : covN (a0.size : Int) (4 * off) cs ≤ (a0.size : Int)
  case neg => rw [if_neg c2] at h; cases h
  rw [if_pos c2] at h
  obtain ⟨t, ht, h⟩ := Option.bind_eq_some_iff.1 h
  unfold sum_Of.f at ht
  split at ht
  case isFalse => cases ht
  have ht2 := Option.some.inj ht
  rw [show joined [a0.extract 0 (covN (a0.size : Int) (4 * off) cs).toNat] = (a0.extract 0 (covN (a0.size : Int) (4 * off) cs).toNat).data.toList from by simp [joined]] at ht2
  by_cases c3 : t = 0
  case neg =>
    rw [if_neg c3] at h
    simp only [Option.some.injEq, Prod.mk.injEq] at h
    obtain ⟨rfl, rfl, rfl, rfl, rfl, rfl, rfl, rfl, rfl, rfl, rfl, rfl, rfl, rfl, rfl, rfl, rfl, rfl⟩ := h
    exact (pkt_Get_sum a0 (by omega) src dst off cc cs sum typ x seq ack serv code i0 i1 i2 hg hof.1 hof.2 hcov (by omega) w).mono fun e w' hq => ⟨.slice none 0 0, hq.1, Kd.R_nil _ _ _ _ _, hq.2⟩
  rw [if_pos c3] at h
  have hS : Sum.sum (a0.extract 0 (covN (a0.size : Int) (4 * off) cs).toNat).data.toList = 0 := by omega
  obtain ⟨z, hz, h⟩ := Option.bind_eq_some_iff.1 h
  obtain rfl : sizeB typ x = z := Option.some.inj hz
  by_cases c4 : 0 ≤ sizeB typ x
  case neg => rw [if_neg c4] at h; cases h
  rw [if_pos c4] at h
  by_cases c5 : sizeB typ x ≤ 4 * off
  case neg => rw [if_neg c5] at h; cases h
  rw [if_pos c5] at h
  by_cases c6 : 4 * off ≤ (a0.size : Int)
  case neg => rw [if_neg c6] at h; cases h
  rw [if_pos c6] at h
  obtain ⟨⟨l, e2⟩, hog, h⟩ := Option.bind_eq_some_iff.1 h
  dsimp only at h
  by_cases c7 : e2 = 0
  case neg =>
    rw [if_neg c7] at h
    simp only [Option.some.injEq, Prod.mk.injEq] at h
    obtain ⟨rfl, rfl, rfl, rfl, rfl, rfl, rfl, rfl, rfl, rfl, rfl, rfl, rfl, rfl, rfl, rfl, rfl, rfl⟩ := h
    exact (pkt_Get_opts a0 (by omega) src dst off cc cs sum typ x seq ack serv code i0 i1 i2 hg hof.1 hof.2 hcov hS c5 c6 e2 c7 (fun W => (opt_Get.calls k _ l e2 W hog).mono fun e w' hq => by obtain ⟨v, h1, h2, h3⟩ := hq; exact ⟨v, h1, h3⟩) w).mono fun e w' hq => ⟨.slice none 0 0, hq.1, Kd.R_nil _ _ _ _ _, hq.2⟩
  subst c7
  rw [if_pos rfl, if_pos (show 0 ≤ 4 * off from by omega)] at h
  simp only [Option.some.injEq, Prod.mk.injEq] at h
  obtain ⟨rfl, rfl, rfl, rfl, rfl, rfl, rfl, rfl, rfl, rfl, rfl, rfl, rfl, rfl, rfl, rfl, rfl, rfl⟩ := h
  refine (pkt_Get_ok a0 (by omega) src dst off cc cs sum typ x seq ack serv code i0 i1 i2 hg hof.1 hof.2 hcov hS c5 c6 l.length (fun W B v => Kd.R k45 45 W B (fun _ => True) v l) ?_ (fun W => (opt_Get.calls k _ l 0 W hog).mono fun e w' hq => ?_) w).mono fun e w' hq => ?_
  · intro B w1 w2 v hr hsz hk
    exact Kd.R_mono (Kd.R_step (Kd.R_bound hr) (fun q hq hlt => hk q hq.2.1 hlt)) (fun _ _ => trivial)
  · obtain ⟨v, h1, h2, h3⟩ := hq
    obtain ⟨A, c, rfl⟩ := Kd.R_slice h2
    exact ⟨_, A, c, h1, rfl, h2, h3⟩
  · obtain ⟨v, A, c, B, h1, rfl, hB, hr, hb⟩ := hq
    exact ⟨_, h1, Kd.R_lower hr (by omega), hb⟩
end Go.Proofs.YthallmapddihgaaGreatDoor.PkF
