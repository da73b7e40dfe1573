/- What the row's condition says of the tables of unicode/utf8. -/
import Derived.Test.YtjlnbahanghhcaaGreatDoorRowTab
import Derived.Test.YtjlnbahanghhcaaGreatDoorShelfRune
import Derived.LaidLaws
import Derived.Lib.LaidU8
namespace Go.Proofs.YtjlnbahanghhcaaGreatDoor
open Go.RowKit Go.Lib
set_option linter.unusedVariables false
theorem laid_fourth {P : Program} {W : World} {name : String} {D : DataW Unit} {a b c : String × DataW Unit} {rest : List (String × DataW Unit)}
    (h : laidMet P (a :: b :: c :: (name, D) :: rest) W) : VarReads P W name D := by
  obtain ⟨ps, ⟨_, _, _, _, _, _, _, _, _, _, ⟨_, _, _, _, _, _, _, _, _, _, ⟨_, _, _, _, _, _, _, _, _, _, ⟨g', t', cs, fuel, p, q, hg', ht', hvar, hd, _, _⟩, _⟩, _⟩, _⟩, _⟩ := h
  exact ⟨g', t', cs, fuel, p, hg', ht', hvar, hd⟩
theorem laid_seventh {P : Program} {W : World} {name : String} {D : DataW Unit} {a b c d e f : String × DataW Unit} {rest : List (String × DataW Unit)}
    (h : laidMet P (a :: b :: c :: d :: e :: f :: (name, D) :: rest) W) : VarReads P W name D := by
  obtain ⟨ps, ⟨_, _, _, _, _, _, _, _, _, _, ⟨_, _, _, _, _, _, _, _, _, _, ⟨_, _, _, _, _, _, _, _, _, _, ⟨_, _, _, _, _, _, _, _, _, _, ⟨_, _, _, _, _, _, _, _, _, _, ⟨_, _, _, _, _, _, _, _, _, _, ⟨g', t', cs, fuel, p, q, hg', ht', hvar, hd, _, _⟩, _⟩, _⟩, _⟩, _⟩, _⟩, _⟩, _⟩ := h
  exact ⟨g', t', cs, fuel, p, hg', ht', hvar, hd⟩
theorem u8_extra : U8Extra Tryz.prog Tryz.lays197_ren := { n3 := by kernel_rfl, n4 := by kernel_rfl, y3 := by kernel_rfl, y4 := by kernel_rfl, c5 := by kernel_rfl, c119 := by kernel_rfl, c138 := by kernel_rfl }
theorem lays260 : Go.Proofs.Lays.n260 Tryz.prog Tryz.lays197_ren := { Tryz.lays197 with }
theorem first_is : Rows.laid_unicode_utf8_first = firstData := by kernel_rfl
theorem accept_is : Rows.laid_unicode_utf8_acceptRanges = acceptData := by kernel_rfl
theorem utf8_tabs (W : World) (h : laidMetH Tryz.prog theLaid W) : Utf8Tabs 2 3 W := by
  rw [laid_plain] at h
  have h7 := laid_seventh (name := "unicode/utf8.first") (D := Rows.laid_unicode_utf8_first) h
  have h4 := laid_fourth (name := "unicode/utf8.acceptRanges") (D := Rows.laid_unicode_utf8_acceptRanges) h
  rw [first_is] at h7
  rw [accept_is] at h4
  exact utf8Tabs_of_reads lays260 u8_extra h7 h4
end Go.Proofs.YtjlnbahanghhcaaGreatDoor
