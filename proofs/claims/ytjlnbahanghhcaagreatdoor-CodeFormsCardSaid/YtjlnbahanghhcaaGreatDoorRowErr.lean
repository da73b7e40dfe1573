/- What the row's condition says of the variable ErrSyntax. -/
import Derived.Test.YtjlnbahanghhcaaGreatDoorRowTab
import Derived.LaidLaws
namespace Go.Proofs.YtjlnbahanghhcaaGreatDoor
open Go.RowKit
set_option linter.unusedVariables false
theorem laid_sixth {P : Program} {W : World} {name : String} {D : DataW Unit} {a b c d e : String × DataW Unit} {rest : List (String × DataW Unit)}
    (h : laidMet P (a :: b :: c :: d :: e :: (name, D) :: rest) W) : ∃ g t cs fuel p, P.globalNamed name = some g ∧ (P.globals[g]?).map (·.type) = some t ∧ W.var? P name = some cs ∧ DataW.trod (fun _ => ()) P W 0 (fun _ => true) false fuel t cs.toList = some (D, p) := by
  obtain ⟨ps, ⟨_, _, _, _, _, _, _, _, _, _, ⟨_, _, _, _, _, _, _, _, _, _, ⟨_, _, _, _, _, _, _, _, _, _, ⟨_, _, _, _, _, _, _, _, _, _, ⟨_, _, _, _, _, _, _, _, _, _, ⟨g', t', cs, fuel, p, q, hg', ht', hvar, hd, _, _⟩, _⟩, _⟩, _⟩, _⟩, _⟩, _⟩ := h
  exact ⟨g', t', cs, fuel, p, hg', ht', hvar, hd⟩
theorem err_syntax (W : World) (h : laidMetH Tryz.prog theLaid W) : ∃ ev, W.cell? ⟨6, 0, none⟩ = some ev ∧ (ev = .nilIface ∨ ∃ te pe, ev = .iface te pe) := by
  rw [laid_plain] at h
  obtain ⟨g, t, cs, fuel, p, hg, ht, hvar, hd⟩ := laid_sixth (name := "strconv.ErrSyntax") h
  obtain rfl := Option.some.inj ((show Tryz.prog.globalNamed "strconv.ErrSyntax" = some 6 by kernel_rfl).symm.trans hg)
  obtain rfl := Option.some.inj ((show (Tryz.prog.globals[6]?).map (·.type) = some 96 by kernel_rfl).symm.trans ht)
  obtain ⟨_, u, v, e, _, _⟩ := iface_of_trod Tryz.underlying96 hd
  refine ⟨.iface u v, ?_, .inr ⟨u, v, rfl⟩⟩
  rw [World.var?_cell hg hvar 0]
  have : cs = #[.iface u v] := by rw [← Array.toArray_toList (xs := cs), e]
  rw [this]; rfl
end Go.Proofs.YtjlnbahanghhcaaGreatDoor
