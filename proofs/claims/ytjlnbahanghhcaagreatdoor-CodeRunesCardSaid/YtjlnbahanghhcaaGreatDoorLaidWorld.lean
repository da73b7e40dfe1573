/- A start that meets the rows' condition: the listed variables hold what the program's text lays. -/
import Derived.Test.YtjlnbahanghhcaaGreatDoorRows
import Derived.LaidLaws
import Derived.LaidHandle
import Derived.KernelRfl
namespace Go.Proofs.YtjlnbahanghhcaaGreatDoor
open Go

def lc1 : DataW Unit → List Value
  | .lit (.int k n) => [.int k n]
  | _ => []
def lc2 : DataW Unit → List Value
  | .agg ps => (ps.map lc1).flatten
  | d => lc1 d
def lc3 : DataW Unit → List Value
  | .agg ps => (ps.map lc2).flatten
  | d => lc2 d
def errText : DataW Unit → ByteArray
  | .iface _ (.ptr (.agg [.lit (.string l)])) => ⟨l.toArray⟩
  | _ => ⟨#[]⟩
/-- So many blocks has the settled world. -/
noncomputable def lowB : Nat := (World.holding Tryz.prog default ⟨#[], #[], []⟩).heap.size
noncomputable def lay (w : World) (g : Nat) (cs : Array Value) : World :=
  { w with heap := w.heap.modify g fun
      | .cells _ t frozen => .cells cs t frozen
      | o => o }
noncomputable def laidWorld (os : Os) : World :=
  let w0 := World.holding Tryz.prog os ⟨#[.cells #[.string (errText Rows.laid_strconv_ErrSyntax)] 164, .cells #[.string (errText Rows.laid_strconv_ErrRange)] 164], #[], []⟩
  let w1 := lay w0 8 (lc3 Rows.laid_math_bits_deBruijn32tab).toArray
  let w2 := lay w1 9 (lc3 Rows.laid_math_bits_deBruijn64tab).toArray
  let w3 := lay w2 4 (lc3 Rows.laid_internal_strconv_uint64pow10).toArray
  let w4 := lay w3 3 (lc3 Rows.laid_unicode_utf8_acceptRanges).toArray
  let w5 := lay w4 2 (lc3 Rows.laid_unicode_utf8_first).toArray
  let w6 := lay w5 6 #[.iface 162 (.pointer (some ⟨lowB, 0, none⟩))]
  lay w6 7 #[.iface 162 (.pointer (some ⟨lowB + 1, 0, none⟩))]
abbrev theLaid : List (String × DataW Unit) := [("math/bits.deBruijn32tab", Rows.laid_math_bits_deBruijn32tab), ("math/bits.deBruijn64tab", Rows.laid_math_bits_deBruijn64tab), ("internal/strconv.uint64pow10", Rows.laid_internal_strconv_uint64pow10), ("unicode/utf8.acceptRanges", Rows.laid_unicode_utf8_acceptRanges), ("strconv.ErrRange", Rows.laid_strconv_ErrRange), ("strconv.ErrSyntax", Rows.laid_strconv_ErrSyntax), ("unicode/utf8.first", Rows.laid_unicode_utf8_first)]
theorem laid_none : (theLaid.filter fun x => x.2.handleName?.isSome) = [] := by kernel_rfl
theorem laidH {w : World} (h : laidMet Tryz.prog theLaid w) : laidMetH Tryz.prog theLaid w := by
  unfold laidMetH
  rw [laid_none]
  exact h
theorem laidWorld_met (os : Os) (args : Array Value) : laidMetH Tryz.prog theLaid ((laidWorld os).forCall (fun _ _ => 0) ⟨#[], args, []⟩).memory :=
  laidH (laidMet_of_run' 8 (by kernel_rfl) (by kernel_rfl))
end Go.Proofs.YtjlnbahanghhcaaGreatDoor
