/- pkt.Get at whatever bytes, as one plain function. -/
import Derived.Test.YthallmapddihgaaGreatDoorHeadBack
import Derived.Test.YthallmapddihgaaGreatDoorBitP
namespace Go.Proofs.YthallmapddihgaaGreatDoor.PkB
open Go.RowKit Go.Proofs.YthallmapddihgaaGreatDoor.PoptGet Go.Proofs.YthallmapddihgaaGreatDoor.PkF Go.Proofs.YthallmapddihgaaGreatDoorW.PrintWords Go.Proofs.YthallmapddihgaaGreatDoorW.PrintLast Go.Proofs.YthallmapddihgaaGreatDoorW.PrintMore
set_option linter.unusedVariables false
set_option linter.unusedSimpArgs false

def optsOf (b : ByteArray) (h : Hd) : Option (List SO) := par (4 * h.off.toNat - (sizeB h.typ h.x).toNat) ((b.data.toList.drop (sizeB h.typ h.x).toNat).take (4 * h.off.toNat - (sizeB h.typ h.x).toNat)) false
def sumAt (b : ByteArray) (h : Hd) : Nat := Sum.sum (b.extract 0 (covN b.size (4 * h.off) h.cs).toNat).data.toList
def getP (b : ByteArray) : Hd × List SO × ByteArray × Int :=
  if 2500 < b.size then (hd0, [], ⟨#[]⟩, 13)
  else if (getH b).2 ≠ 0 then (hd0, [], ⟨#[]⟩, (getH b).2)
  else if covB b.size (4 * (getH b).1.off) (getH b).1.cs = false then (hd0, [], ⟨#[]⟩, 5)
  else if sumAt b (getH b).1 ≠ 0 then (hd0, [], ⟨#[]⟩, 6)
  else match optsOf b (getH b).1 with
    | none => (hd0, [], ⟨#[]⟩, 7)
    | some l => ((getH b).1, l, b.extract (4 * (getH b).1.off).toNat b.size, 0)
abbrev Flat := Int × Int × Int × Int × Int × Int × Int × Bool × Int × Int × Int × Int × Int × Int × Int × (List SO) × ByteArray × Int
def flat (p : Hd × List SO × ByteArray × Int) : Flat := (p.1.src, p.1.dst, p.1.off, p.1.cc, p.1.cs, p.1.sum, p.1.typ, p.1.x, p.1.seq, p.1.ack, p.1.serv, p.1.code, p.1.i0, p.1.i1, p.1.i2, p.2.1, p.2.2.1, p.2.2.2)
theorem getH_place (b : ByteArray) (h : Hd) (e : getH b = (h, 0)) : sizeB h.typ h.x ≤ 4 * h.off ∧ 4 * h.off ≤ b.size ∧ 0 ≤ h.off ∧ h.off ≤ 255 ∧ 12 ≤ sizeB h.typ h.x ∧ 0 ≤ h.cs ∧ h.cs ≤ 15 := by
  have e2 := getH_fst b (by rw [e])
  have hb4 := byteAt_lt b 4
  rw [e] at e2
  have e3 : h = getHd b (getT b) (getX b) := congrArg Prod.fst e2
  have eo : h.off = (byteAt b 4 : Int) := by rw [e3]; rfl
  have et : h.typ = (getT b : Int) := by rw [e3]; rfl
  have ex : h.x = getX b := by rw [e3]; rfl
  have ec : h.cs = ((byteAt b 5 % 16 : Nat) : Int) := by rw [e3]; rfl
  rw [et, ex, eo, ec]
  obtain ⟨z, hz, hz7⟩ := size_four (getT b) (getX b)
  have h12 : sizeB (getT b) (getX b) ≠ 0 → 12 ≤ sizeB (getT b) (getX b) := by
    unfold sizeB; split
    · intro h0; exact absurd rfl h0
    · intro _
      cases getX b <;> simp <;> split <;> split <;> omega
  unfold getH at e
  by_cases h1 : b.size < 12
  · rw [if_pos h1] at e; exact absurd (show (1 : Int) = 0 from congrArg Prod.snd e) (by decide)
  rw [if_neg h1] at e
  by_cases h2 : isB (getT b) = false
  · rw [if_pos h2] at e; exact absurd (show (2 : Int) = 0 from congrArg Prod.snd e) (by decide)
  rw [if_neg h2] at e
  by_cases h3 : sizeB (getT b) (getX b) = 0
  · rw [if_pos h3] at e; exact absurd (show (3 : Int) = 0 from congrArg Prod.snd e) (by decide)
  rw [if_neg h3] at e
  by_cases h4 : (b.size : Int) < sizeB (getT b) (getX b)
  · rw [if_pos h4] at e; exact absurd (show (1 : Int) = 0 from congrArg Prod.snd e) (by decide)
  rw [if_neg h4] at e
  by_cases h5 : (byteAt b 4 : Int) < sizeB (getT b) (getX b) / 4 ∨ b.size < 4 * byteAt b 4
  · rw [if_pos h5] at e; exact absurd (show (4 : Int) = 0 from congrArg Prod.snd e) (by decide)
  have := h12 h3
  refine ⟨?_, ?_, ?_, ?_, ?_, ?_, ?_⟩ <;> omega
theorem covN_nn (b : ByteArray) (h : Hd) (ho : 0 ≤ h.off) (hc : covB b.size (4 * h.off) h.cs = true) : 0 ≤ covN b.size (4 * h.off) h.cs ∧ covN b.size (4 * h.off) h.cs ≤ b.size := by
  unfold covB at hc
  have := of_decide_eq_true hc
  refine ⟨?_, this.2.2.2.2⟩
  unfold covN
  split <;> omega
theorem getP_f (b : ByteArray) : pkt_Get.f 6000 b = some (flat (getP b)) := by
  unfold getP
  by_cases h0 : 2500 < b.size
  · rw [if_pos h0]; unfold pkt_Get.f; rw [if_pos (by omega)]; rfl
  rw [if_neg h0]
  obtain ⟨⟨h, E⟩, hg⟩ : ∃ p, getH b = p := ⟨_, rfl⟩
  rw [hg]
  have hgf : head_Get.f b = some (h.src, h.dst, h.off, h.cc, h.cs, h.sum, h.typ, h.x, h.seq, h.ack, h.serv, h.code, h.i0, h.i1, h.i2, E) := by
    unfold head_Get.f
    rw [if_pos (by omega), hg]
  dsimp only
  by_cases hE : E = 0
  case neg =>
    rw [if_pos hE]
    unfold pkt_Get.f
    exact (if_neg (by omega)).trans (obind hgf (if_neg hE))
  subst hE
  rw [if_neg (fun h => h rfl)]
  have hpl := getH_place b h hg
  have hw : wrap64 (4 * h.off) = 4 * h.off := by rw [wrap64_eq]; omega
  by_cases hc : covB b.size (4 * h.off) h.cs = false
  · rw [if_pos hc]
    unfold pkt_Get.f
    have hcov : sum_Covered.f (b.size : Int) (4 * h.off) h.cs = some (0, false) := by
      unfold sum_Covered.f
      rw [if_pos (by omega), hc]; rfl
    refine (if_neg (by omega)).trans (obind hgf ((if_pos rfl).trans ?_))
    rw [hw]
    exact obind hcov (if_neg (by decide))
  rw [if_neg hc]
  have hc := Bool.not_eq_false _ ▸ hc
  have hnn := covN_nn b h hpl.2.2.1 hc
  by_cases hs : sumAt b h ≠ 0
  · rw [if_pos hs]
    unfold pkt_Get.f
    have hcov : sum_Covered.f (b.size : Int) (4 * h.off) h.cs = some (covN b.size (4 * h.off) h.cs, true) := by
      unfold sum_Covered.f
      rw [if_pos (by omega), hc]; rfl
    refine (if_neg (by omega)).trans (obind hgf ((if_pos rfl).trans ?_))
    rw [hw]
    refine obind hcov ((if_pos rfl).trans ((if_pos hnn.1).trans ((if_pos hnn.2).trans ?_)))
    have hjo : joined [b.extract 0 (covN b.size (4 * h.off) h.cs).toNat] = (b.extract 0 (covN b.size (4 * h.off) h.cs).toNat).data.toList := by simp [joined]
    have hof : sum_Of.f [b.extract 0 (covN b.size (4 * h.off) h.cs).toNat] = some (sumAt b h : Nat) := by
      unfold sum_Of.f sumAt
      rw [hjo, if_pos]
      · rfl
      · refine ⟨?_, by simp⟩
        rw [len_size, ByteArray.size_extract]; omega
    exact obind hof (if_neg (by omega))
  rw [if_neg hs]
  have hs : sumAt b h = 0 := Decidable.not_not.1 hs
  have := pget_some 6000 b h (by omega) hg hc ⟨hpl.2.2.1, hpl.2.2.2.1⟩ hnn.1 hs hpl.1 hpl.2.1 (Nat.le_refl _)
  rw [this]
  unfold optsOf
  cases par (4 * h.off.toNat - (sizeB h.typ h.x).toNat) ((b.data.toList.drop (sizeB h.typ h.x).toNat).take (4 * h.off.toNat - (sizeB h.typ h.x).toNat)) false with
  | none => rfl
  | some l => rfl
end Go.Proofs.YthallmapddihgaaGreatDoor.PkB
