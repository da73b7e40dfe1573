/- What 'a head may be' says, bound by bound. -/
import Derived.Test.YtjlnbahanghhcaaGreatDoorBaseA
namespace Go.Proofs.YtjlnbahanghhcaaGreatDoor
open Go.RowKit
set_option linter.unusedVariables false

theorem may_iff' (h : Hd) : mayB h = true ↔ (sizeB h.typ h.x ≠ 0 ∧ (0 ≤ h.src ∧ h.src ≤ 65535) ∧ (0 ≤ h.dst ∧ h.dst ≤ 65535) ∧ sizeB h.typ h.x / 4 ≤ h.off ∧ h.off ≤ 255 ∧ (0 ≤ h.cc ∧ h.cc ≤ 15) ∧ (0 ≤ h.cs ∧ h.cs ≤ 15) ∧ (0 ≤ h.sum ∧ h.sum ≤ 65535) ∧
    (h.serv = 0 ∨ servB h.typ = true) ∧ (0 ≤ h.code ∧ h.code ≤ 255) ∧ (h.typ = 7 ∨ h.code = 0 ∧ h.i0 = 0 ∧ h.i1 = 0 ∧ h.i2 = 0) ∧ h.seq < mostB h.x ∧ h.ack < mostB h.x ∧ (h.ack = 0 ∨ ackB h.typ = true)) := by
  unfold mayB inB numbersB infoB
  simp only [Bool.and_eq_true, Bool.or_eq_true, decide_eq_true_eq, beq_iff_eq, Bool.not_eq_true', beq_eq_false_iff_ne, ne_eq]
end Go.Proofs.YtjlnbahanghhcaaGreatDoor
