/- Contracts and laws that the claim's proof needs: LaidWorld, RowOpts, RowPkt, PktGet, PkF, PureKit. Conditions: each theorem's own. -/
import Derived.Test.YtjlnbahanghhcaaGreatDoorRows
import Derived.LaidLaws
import Derived.LaidHandle
import Derived.KernelRfl
import Derived.Deep.SlicePairs
import Derived.ChangeArms
import Derived.ChangeSame
import Derived.WideShapes
import Derived.OpenShut
import Derived.Test.YtjlnbahanghhcaaGreatDoorBaseD
import Derived.StillTailTactics
import Derived.Test.YtjlnbahanghhcaaGreatDoorWWords
import Derived.Test.YtjlnbahanghhcaaGreatDoorWMore
import Derived.Laws.BitsLemmas

/- A start that meets the rows' condition: the listed variables hold what the program's text lays. -/
namespace Go.Proofs.YtjlnbahanghhcaaGreatDoor
open Go

def lc1 : DataW Unit → List Value
  | .lit (.int k n) => [.int k n]
  | _ => []
def lc2 : DataW Unit → List Value
  | .agg ps => (ps.map lc1).flatten
  | d => lc1 d
def lc3 : DataW Unit → List Value
  | .agg ps => (ps.map lc2).flatten
  | d => lc2 d
def errText : DataW Unit → ByteArray
  | .iface _ (.ptr (.agg [.lit (.string l)])) => ⟨l.toArray⟩
  | _ => ⟨#[]⟩
/-- So many blocks has the settled world. -/
noncomputable def lowB : Nat := (World.holding Tryz.prog default ⟨#[], #[], []⟩).heap.size
noncomputable def lay (w : World) (g : Nat) (cs : Array Value) : World :=
  { w with heap := w.heap.modify g fun
      | .cells _ t frozen => .cells cs t frozen
      | o => o }
noncomputable def laidWorld (os : Os) : World :=
  let w0 := World.holding Tryz.prog os ⟨#[.cells #[.string (errText Rows.laid_strconv_ErrSyntax)] 164, .cells #[.string (errText Rows.laid_strconv_ErrRange)] 164], #[], []⟩
  let w1 := lay w0 8 (lc3 Rows.laid_math_bits_deBruijn32tab).toArray
  let w2 := lay w1 9 (lc3 Rows.laid_math_bits_deBruijn64tab).toArray
  let w3 := lay w2 4 (lc3 Rows.laid_internal_strconv_uint64pow10).toArray
  let w4 := lay w3 3 (lc3 Rows.laid_unicode_utf8_acceptRanges).toArray
  let w5 := lay w4 2 (lc3 Rows.laid_unicode_utf8_first).toArray
  let w6 := lay w5 6 #[.iface 162 (.pointer (some ⟨lowB, 0, none⟩))]
  lay w6 7 #[.iface 162 (.pointer (some ⟨lowB + 1, 0, none⟩))]
abbrev theLaid : List (String × DataW Unit) := [("math/bits.deBruijn32tab", Rows.laid_math_bits_deBruijn32tab), ("math/bits.deBruijn64tab", Rows.laid_math_bits_deBruijn64tab), ("internal/strconv.uint64pow10", Rows.laid_internal_strconv_uint64pow10), ("unicode/utf8.acceptRanges", Rows.laid_unicode_utf8_acceptRanges), ("strconv.ErrRange", Rows.laid_strconv_ErrRange), ("strconv.ErrSyntax", Rows.laid_strconv_ErrSyntax), ("unicode/utf8.first", Rows.laid_unicode_utf8_first)]
end Go.Proofs.YtjlnbahanghhcaaGreatDoor

/- What comes in, opened: a slice of options; a head. For the laws' rows. No walk. -/
namespace Go.Proofs.YtjlnbahanghhcaaGreatDoor
open Go Go.ChangeShapes Go.WideShapes Go.Deep
set_option linter.unusedVariables false

section
variable {H : Type} {enc : TypeId × Value → H} {P : Program} {w : World} {base : Nat} {spare : Nat → Bool} {held : Bool}
/-- A head: what its cells hold. -/
theorem open_head {t e : TypeId} {f0 f1 f2 f3 f4 f5 f6 f7 f8 f9 f10 f11 f12 : Field} {fuel : Nat} {cs : List Value} {x : DataW H × List MemPlace} (hs : P.underlying t = some (.struct #[f0, f1, f2, f3, f4, f5, f6, f7, f8, f9, f10, f11, f12])) (hC : P.cellsOf t = 15)
    (o0 : f0.offset = 0) (c0 : P.cellsOf f0.type = 1) (o1 : f1.offset = 1) (c1 : P.cellsOf f1.type = 1) (o2 : f2.offset = 2) (c2 : P.cellsOf f2.type = 1) (o3 : f3.offset = 3) (c3 : P.cellsOf f3.type = 1) (o4 : f4.offset = 4) (c4 : P.cellsOf f4.type = 1) (o5 : f5.offset = 5) (c5 : P.cellsOf f5.type = 1) (o6 : f6.offset = 6) (c6 : P.cellsOf f6.type = 1) (o7 : f7.offset = 7) (c7 : P.cellsOf f7.type = 1) (o8 : f8.offset = 8) (c8 : P.cellsOf f8.type = 1) (o9 : f9.offset = 9) (c9 : P.cellsOf f9.type = 1) (o10 : f10.offset = 10) (c10 : P.cellsOf f10.type = 1) (o11 : f11.offset = 11) (c11 : P.cellsOf f11.type = 1) (o12 : f12.offset = 12) (c12 : P.cellsOf f12.type = 3)
    (u0 : P.underlying f0.type = some (.int .i64)) (u1 : P.underlying f1.type = some (.int .i64)) (u2 : P.underlying f2.type = some (.int .i64)) (u3 : P.underlying f3.type = some (.int .i64)) (u4 : P.underlying f4.type = some (.int .i64)) (u5 : P.underlying f5.type = some (.int .i64)) (u6 : P.underlying f6.type = some (.int .i64)) (u7 : P.underlying f7.type = some .bool) (u8 : P.underlying f8.type = some (.int .u64)) (u9 : P.underlying f9.type = some (.int .u64)) (u10 : P.underlying f10.type = some (.int .u32)) (u11 : P.underlying f11.type = some (.int .i64)) (u12 : P.underlying f12.type = some (.array 3 e)) (ue : P.underlying e = some (.int .u8)) (ce : P.cellsOf e = 1)
    (h : DataW.trod enc P w base spare held fuel t cs = some x) :
    ∃ (n0 : Int) (n1 : Int) (n2 : Int) (n3 : Int) (n4 : Int) (n5 : Int) (n6 : Int) (n7 : Bool) (n8 : Int) (n9 : Int) (n10 : Int) (n11 : Int) (n12 : Int) (n13 : Int) (n14 : Int), cs = [.int .i64 n0, .int .i64 n1, .int .i64 n2, .int .i64 n3, .int .i64 n4, .int .i64 n5, .int .i64 n6, .bool n7, .int .u64 n8, .int .u64 n9, .int .u32 n10, .int .i64 n11, .int .u8 n12, .int .u8 n13, .int .u8 n14] ∧ (Lit.int .i64 n0).wf = true ∧ (Lit.int .i64 n1).wf = true ∧ (Lit.int .i64 n2).wf = true ∧ (Lit.int .i64 n3).wf = true ∧ (Lit.int .i64 n4).wf = true ∧ (Lit.int .i64 n5).wf = true ∧ (Lit.int .i64 n6).wf = true ∧ (Lit.int .u64 n8).wf = true ∧ (Lit.int .u64 n9).wf = true ∧ (Lit.int .u32 n10).wf = true ∧ (Lit.int .i64 n11).wf = true ∧ (Lit.int .u8 n12).wf = true ∧ (Lit.int .u8 n13).wf = true ∧ (Lit.int .u8 n14).wf = true := by
  obtain ⟨xs, n, _, _, hl, hlen, hg⟩ := DataW.trod_struct hs h
  rw [hC] at hl
  match cs, hl, xs, hlen with
  | [v0, v1, v2, v3, v4, v5, v6, v7, v8, v9, v10, v11, v12, v13, v14], _, [y0, y1, y2, y3, y4, y5, y6, y7, y8, y9, y10, y11, y12], _ =>
    have g0 := hg 0 f0 rfl
    rw [o0, c0] at g0
    have g1 := hg 1 f1 rfl
    rw [o1, c1] at g1
    have g2 := hg 2 f2 rfl
    rw [o2, c2] at g2
    have g3 := hg 3 f3 rfl
    rw [o3, c3] at g3
    have g4 := hg 4 f4 rfl
    rw [o4, c4] at g4
    have g5 := hg 5 f5 rfl
    rw [o5, c5] at g5
    have g6 := hg 6 f6 rfl
    rw [o6, c6] at g6
    have g7 := hg 7 f7 rfl
    rw [o7, c7] at g7
    have g8 := hg 8 f8 rfl
    rw [o8, c8] at g8
    have g9 := hg 9 f9 rfl
    rw [o9, c9] at g9
    have g10 := hg 10 f10 rfl
    rw [o10, c10] at g10
    have g11 := hg 11 f11 rfl
    rw [o11, c11] at g11
    have g12 := hg 12 f12 rfl
    rw [o12, c12] at g12
    have g0 : DataW.trod enc P w base spare held n f0.type [v0] = some y0 := g0
    obtain ⟨n0, e0, _, w0⟩ := DataW.trod_int u0 g0
    injection e0 with e0
    subst e0
    have g1 : DataW.trod enc P w base spare held n f1.type [v1] = some y1 := g1
    obtain ⟨n1, e1, _, w1⟩ := DataW.trod_int u1 g1
    injection e1 with e1
    subst e1
    have g2 : DataW.trod enc P w base spare held n f2.type [v2] = some y2 := g2
    obtain ⟨n2, e2, _, w2⟩ := DataW.trod_int u2 g2
    injection e2 with e2
    subst e2
    have g3 : DataW.trod enc P w base spare held n f3.type [v3] = some y3 := g3
    obtain ⟨n3, e3, _, w3⟩ := DataW.trod_int u3 g3
    injection e3 with e3
    subst e3
    have g4 : DataW.trod enc P w base spare held n f4.type [v4] = some y4 := g4
    obtain ⟨n4, e4, _, w4⟩ := DataW.trod_int u4 g4
    injection e4 with e4
    subst e4
    have g5 : DataW.trod enc P w base spare held n f5.type [v5] = some y5 := g5
    obtain ⟨n5, e5, _, w5⟩ := DataW.trod_int u5 g5
    injection e5 with e5
    subst e5
    have g6 : DataW.trod enc P w base spare held n f6.type [v6] = some y6 := g6
    obtain ⟨n6, e6, _, w6⟩ := DataW.trod_int u6 g6
    injection e6 with e6
    subst e6
    have g7 : DataW.trod enc P w base spare held n f7.type [v7] = some y7 := g7
    obtain ⟨n7, e7, _⟩ := DataW.trod_bool u7 g7
    injection e7 with e7
    subst e7
    have g8 : DataW.trod enc P w base spare held n f8.type [v8] = some y8 := g8
    obtain ⟨n8, e8, _, w8⟩ := DataW.trod_int u8 g8
    injection e8 with e8
    subst e8
    have g9 : DataW.trod enc P w base spare held n f9.type [v9] = some y9 := g9
    obtain ⟨n9, e9, _, w9⟩ := DataW.trod_int u9 g9
    injection e9 with e9
    subst e9
    have g10 : DataW.trod enc P w base spare held n f10.type [v10] = some y10 := g10
    obtain ⟨n10, e10, _, w10⟩ := DataW.trod_int u10 g10
    injection e10 with e10
    subst e10
    have g11 : DataW.trod enc P w base spare held n f11.type [v11] = some y11 := g11
    obtain ⟨n11, e11, _, w11⟩ := DataW.trod_int u11 g11
    injection e11 with e11
    subst e11
    have g12 : DataW.trod enc P w base spare held n f12.type [v12, v13, v14] = some y12 := g12
    obtain ⟨zs, m, _, _, _, hzl, hz⟩ := DataW.trod_array u12 g12
    match zs, hzl with
    | [z0, z1, z2], _ =>
      have a0 := hz 0 (by decide)
      rw [ce] at a0
      have a0 : DataW.trod enc P w base spare held m e [v12] = some z0 := a0
      obtain ⟨n12, e12, _, w12⟩ := DataW.trod_int ue a0
      injection e12 with e12
      subst e12
      have a1 := hz 1 (by decide)
      rw [ce] at a1
      have a1 : DataW.trod enc P w base spare held m e [v13] = some z1 := a1
      obtain ⟨n13, e13, _, w13⟩ := DataW.trod_int ue a1
      injection e13 with e13
      subst e13
      have a2 := hz 2 (by decide)
      rw [ce] at a2
      have a2 : DataW.trod enc P w base spare held m e [v14] = some z2 := a2
      obtain ⟨n14, e14, _, w14⟩ := DataW.trod_int ue a2
      injection e14 with e14
      subst e14
      exact ⟨n0, n1, n2, n3, n4, n5, n6, n7, n8, n9, n10, n11, n12, n13, n14, rfl, w0, w1, w2, w3, w4, w5, w6, w8, w9, w10, w11, w12, w13, w14⟩
end
end Go.Proofs.YtjlnbahanghhcaaGreatDoor

/- A packet that comes in, opened; what the bound on the input's bulk says of it. For the laws' rows. No walk. -/
namespace Go.Proofs.YtjlnbahanghhcaaGreatDoor
open Go Go.ChangeShapes Go.WideShapes Go.Deep
set_option linter.unusedVariables false

theorem bulk_mem {H : Type} {d : DataW H} {l : List (DataW H)} (h : d ∈ l) : Rows.uptoBulk d ≤ Rows.uptoBulkAll l := by
  induction l with
  | nil => cases h
  | cons x r ih =>
    simp only [Rows.uptoBulkAll]
    rcases List.mem_cons.1 h with e | e
    · subst e; omega
    · have := ih e; omega
theorem bulk_pos {H : Type} (d : DataW H) : 1 ≤ Rows.uptoBulk d := by
  cases d with
  | lit l => cases l <;> simp [Rows.uptoBulk]
  | nil => simp [Rows.uptoBulk]
  | ptr d => simp [Rows.uptoBulk]
  | slice elems spare => simp [Rows.uptoBulk]
  | agg parts => simp [Rows.uptoBulk]
  | iface t d => simp [Rows.uptoBulk]
  | map entries => simp [Rows.uptoBulk]
  | held h => simp [Rows.uptoBulk]
theorem bulk_len {H : Type} (l : List (DataW H)) : l.length ≤ Rows.uptoBulkAll l := by
  induction l with
  | nil => simp [Rows.uptoBulkAll]
  | cons x r ih => have := bulk_pos x; simp only [Rows.uptoBulkAll, List.length_cons]; omega
section
variable {H : Type} {enc : TypeId × Value → H} {P : Program} {w : World} {base : Nat} {spare : Nat → Bool} {held : Bool}
theorem open_pkt {t : TypeId} {g0 g1 g2 : Field} {fuel : Nat} {cs : List Value} {x : DataW H × List MemPlace} (hs : P.underlying t = some (.struct #[g0, g1, g2])) (hC : P.cellsOf t = 17)
    (o0 : g0.offset = 0) (c0 : P.cellsOf g0.type = 15) (o1 : g1.offset = 15) (c1 : P.cellsOf g1.type = 1) (o2 : g2.offset = 16) (c2 : P.cellsOf g2.type = 1) (u2 : P.underlying g2.type = some .string)
    (h : DataW.trod enc P w base spare held fuel t cs = some x) :
    ∃ (hc : List Value) (v : Value) (s : ByteArray) (y0 y1 : DataW H × List MemPlace) (n : Nat), cs = hc ++ [v, .string s] ∧ DataW.trod enc P w base spare held n g0.type hc = some y0 ∧ DataW.trod enc P w base spare held n g1.type [v] = some y1 ∧
      Rows.uptoBulk y1.1 ≤ Rows.uptoBulk x.1 ∧ s.size ≤ Rows.uptoBulk x.1 := by
  obtain ⟨xs, n, _, hx, hl, hlen, hg⟩ := DataW.trod_struct hs h
  rw [hC] at hl
  have d0 := hg 0 g0 rfl
  rw [o0, c0] at d0
  have d1 := hg 1 g1 rfl
  rw [o1, c1] at d1
  have d2 := hg 2 g2 rfl
  rw [o2, c2] at d2
  match xs, hlen with
  | [y0, y1, y2], _ =>
    obtain ⟨v, hv⟩ : ∃ v, (cs.drop 15).take 1 = [v] := by
      have : ((cs.drop 15).take 1).length = 1 := by rw [List.length_take, List.length_drop]; omega
      match hq : (cs.drop 15).take 1, this with
      | [v], _ => exact ⟨v, rfl⟩
    have d2 : DataW.trod enc P w base spare held n g2.type ((cs.drop 16).take 1) = some y2 := d2
    obtain ⟨s, hs2, hy2, _⟩ := DataW.trod_string u2 d2
    have d1 : DataW.trod enc P w base spare held n g1.type ((cs.drop 15).take 1) = some y1 := d1
    rw [hv] at d1
    have d0 : DataW.trod enc P w base spare held n g0.type ((cs.drop 0).take 15) = some y0 := d0
    rw [List.drop_zero] at d0
    refine ⟨cs.take 15, v, s, y0, y1, n, ?_, d0, d1, ?_, ?_⟩
    · have e1 : cs = cs.take 15 ++ cs.drop 15 := (List.take_append_drop 15 cs).symm
      have e2 : cs.drop 15 = (cs.drop 15).take 1 ++ (cs.drop 15).drop 1 := (List.take_append_drop 1 _).symm
      have e3 : (cs.drop 15).drop 1 = (cs.drop 16).take 1 := by
        rw [List.drop_drop, List.take_of_length_le (by rw [List.length_drop]; omega)]
      rw [hv, e3, hs2] at e2
      rw [e2] at e1
      exact e1
    · rw [hx]
      simp only [Rows.uptoBulk, List.map_cons, List.map_nil, Rows.uptoBulkAll]
      omega
    · rw [hx]
      simp only [Rows.uptoBulk, List.map_cons, List.map_nil, Rows.uptoBulkAll, hy2, Array.length_toList]
      show s.data.size ≤ _
      omega
/-- a slice of options: what its cells hold, and that none is larger than the whole. -/
theorem open_optsB {t e : TypeId} {f0 f1 : Field} {fuel : Nat} {cs : List Value} {x : DataW H × List MemPlace} (ht : P.underlying t = some (.slice e)) (he : P.underlying e = some (.struct #[f0, f1]))
    (ce : P.cellsOf e = 2) (o0 : f0.offset = 0) (o1 : f1.offset = 1) (c0 : P.cellsOf f0.type = 1) (c1 : P.cellsOf f1.type = 1) (h0 : P.underlying f0.type = some (.int .i64)) (h1 : P.underlying f1.type = some .string)
    (h : DataW.trod enc P w base spare held fuel t cs = some x) :
    ∃ (A : Option Addr) (cap : Nat) (os : List Op), cs = [.slice A os.length cap] ∧ os.length ≤ cap ∧ os.length ≤ Rows.uptoBulk x.1 ∧ (∀ o, o ∈ os → o.data.size ≤ Rows.uptoBulk x.1) ∧ (∀ o, o ∈ os → (Lit.int .i64 o.typ).wf = true) ∧
      ∀ k u, (ocells os)[k]? = some u → ∃ ad : Addr, A = some ad ∧ w.cell? (ad.add k) = some u := by
  rcases open_slice_pairs ht he ce o0 o1 c0 c1 h with ⟨hcs, _⟩ | ⟨a, len, cap, m, n, V0, V1, D0, D1, P0, P1, hcs, _, hl, hm, hmm, hx, hi⟩
  · exact ⟨none, 0, [], hcs, Nat.le_refl _, Nat.zero_le _, (fun o ho => by cases ho), (fun o ho => by cases ho), (fun k u hk => by cases hk)⟩
  · have hlm : len ≤ m := by rw [hmm]; split <;> omega
    have hbl : len ≤ Rows.uptoBulk x.1 := by
      rw [hx]
      simp only [Rows.uptoBulk]
      have := bulk_len ((List.range len).map fun i => (DataW.agg [D0 i, D1 i] : DataW H))
      rw [List.length_map, List.length_range] at this
      omega
    have each : ∀ i, i < len → ∃ q : Int × ByteArray, w.cell? (a.add (i * 2)) = some (.int .i64 q.1) ∧ w.cell? (a.add (i * 2 + 1)) = some (.string q.2) ∧ (Lit.int .i64 q.1).wf = true ∧ q.2.size ≤ Rows.uptoBulk x.1 := by
      intro i him
      obtain ⟨e0, e1, t0, t1⟩ := hi i (Nat.lt_of_lt_of_le him hlm)
      obtain ⟨z, hz, _, hw⟩ := DataW.trod_int h0 t0
      obtain ⟨s, hs, hs2, _⟩ := DataW.trod_string h1 t1
      rw [(List.cons.inj hz).1] at e0
      rw [(List.cons.inj hs).1] at e1
      refine ⟨(z, s), e0, e1, hw, ?_⟩
      have hD : D1 i = .lit (.string s.data.toList) := congrArg Prod.fst hs2
      have hmem : (DataW.agg [D0 i, D1 i] : DataW H) ∈ (List.range len).map fun i => (DataW.agg [D0 i, D1 i] : DataW H) := List.mem_map.2 ⟨i, List.mem_range.2 him, rfl⟩
      have hb := bulk_mem hmem
      rw [hx]
      simp only [Rows.uptoBulk, Rows.uptoBulkAll, hD, Array.length_toList] at hb ⊢
      show s.data.size ≤ _
      omega
    obtain ⟨q, hq⟩ := choose_lt each
    have hle : ((List.range len).map fun i => (⟨(q i).1, (q i).2⟩ : Op)).length = len := by simp
    refine ⟨some a, cap, (List.range len).map fun i => ⟨(q i).1, (q i).2⟩, by rw [hle]; exact hcs, by rw [hle]; exact hl, by rw [hle]; exact hbl, ?_, ?_, ?_⟩
    · intro o ho
      obtain ⟨i, hi', rfl⟩ := List.mem_map.1 ho
      exact (hq i (List.mem_range.1 hi')).2.2.2
    · intro o ho
      obtain ⟨i, hi', rfl⟩ := List.mem_map.1 ho
      exact (hq i (List.mem_range.1 hi')).2.2.1
    · intro k u hk
      refine ⟨a, rfl, ?_⟩
      have hkl : k < 2 * len := by
        have := (List.getElem?_eq_some_iff.1 hk).1
        rw [ocells_len, hle] at this; exact this
      have hi2 : k / 2 < len := by omega
      have hat := ocells_at ((List.range len).map fun i => (⟨(q i).1, (q i).2⟩ : Op)) (k / 2) (by rw [hle]; exact hi2)
      rw [List.getElem_map, List.getElem_range] at hat
      obtain ⟨q0, q1, _⟩ := hq (k / 2) hi2
      rcases Nat.mod_two_eq_zero_or_one k with hm | hm
      · have h2 := hat.1
        rw [show k / 2 * 2 = k from by omega, hk] at h2
        have ha : a.add k = a.add (k / 2 * 2) := congrArg _ (by omega)
        rw [Option.some.inj h2, ha]; exact q0
      · have h2 := hat.2
        rw [show k / 2 * 2 + 1 = k from by omega, hk] at h2
        have ha : a.add k = a.add (k / 2 * 2 + 1) := congrArg _ (by omega)
        rw [Option.some.inj h2, ha]; exact q1
end
/-- how many bytes options take at the most. -/
theorem obs_le (B : Nat) : ∀ os : List Op, (∀ o, o ∈ os → o.data.size ≤ B) → (obs os).length ≤ os.length * (B + 2)
  | [], _ => by simp [obs]
  | o :: r, h => by
    have ih := obs_le B r (fun o ho => h o (List.mem_cons_of_mem _ ho))
    have h1 := h o List.mem_cons_self
    have e : obs (o :: r) = ob o ++ obs r := rfl
    have h2 : (ob o).length ≤ o.data.size + 2 := by
      unfold ob
      split
      · simp only [List.length_cons, nb_len]; omega
      · simp
    rw [e, List.length_append, List.length_cons, Nat.add_mul]
    omega
end Go.Proofs.YtjlnbahanghhcaaGreatDoor

/- The contract of pkt.Get, case by case (printed by wip/gen/mk_pktget.py). -/
namespace Go.Proofs.YtjlnbahanghhcaaGreatDoor
open Go.RowKit Go.Proofs.YtjlnbahanghhcaaGreatDoorW.PrintWords
set_option linter.unusedVariables false
set_option linter.unusedSimpArgs false

theorem getH_off (b : ByteArray) : 0 ≤ (getH b).1.off ∧ (getH b).1.off ≤ 255 := by
  have h := byteAt_lt b 4
  unfold getH
  split
  · exact ⟨by decide, by decide⟩
  split
  · exact ⟨by decide, by decide⟩
  split
  · exact ⟨by decide, by decide⟩
  split
  · exact ⟨by decide, by decide⟩
  split
  · exact ⟨by decide, by decide⟩
  · show 0 ≤ ((byteAt b 4 : Nat) : Int) ∧ ((byteAt b 4 : Nat) : Int) ≤ 255
    omega
theorem Z39_one : Z39.all (·.oneCell') = true := by kernel_rfl
def pk17 (src dst off cc cs sum typ : Int) (x : Bool) (seq ack serv code i0 i1 i2 : Int) (A : Option Addr) (n c : Nat) (d : ByteArray) : Array Value := #[.int .i64 src, .int .i64 dst, .int .i64 off, .int .i64 cc, .int .i64 cs, .int .i64 sum, .int .i64 typ, .bool x, .int .u64 seq, .int .u64 ack, .int .u32 serv, .int .i64 code, .int .u8 i0, .int .u8 i1, .int .u8 i2, .slice A n c, .string d]
theorem pk17_one (src dst off cc cs sum typ : Int) (x : Bool) (seq ack serv code i0 i1 i2 : Int) (A : Option Addr) (n c : Nat) (d : ByteArray) : (pk17 src dst off cc cs sum typ x seq ack serv code i0 i1 i2 A n c d).all (·.oneCell') = true := by kernel_rfl
set_option maxHeartbeats 1600000 in
set_option maxRecDepth 100000 in
theorem pkt_Get_large (b : ByteArray) (hs : 2500 < b.size) (w : World) : Calls Tryz.prog 14 #[.string b] w fun e w' => e = .returned (.tuple #[.agg Z39, .int .i64 13]) ∧ Below w.heap.size w w' := by
  have hi : (2500 : Int) < (b.size : Int) := by omega
  go_enter Tryz.func14, Tryz.ntmps14
  go_wp2_with (refine wpList_store_row rfl 29 _ _ rfl w.heap.size Z39 rfl rfl 29 Z39 (Blk.new w Z39 _) (by kernel_rfl) rfl Z39_one ?_)
  refine bodyPost_ret (results_ct rfl _ _ w.heap.size 29 Z39 (0, 0) _ rfl ((Blk.new w Z39 _).row) Tryz.underlying29 rfl (by kernel_rfl)) rfl ⟨rfl, below_row ((Below.refl _ _).alloc (Nat.le_refl _) _) (Nat.le_refl _) _⟩

set_option maxHeartbeats 1600000 in
set_option maxRecDepth 100000 in
theorem pkt_Get_head (b : ByteArray) (hs : b.size ≤ 2500) (h : Hd) (E : Int) (hh : getH b = (h, E)) (hE : E ≠ 0) (w : World) : Calls Tryz.prog 14 #[.string b] w fun e w' => e = .returned (.tuple #[.agg Z39, .int .i64 E]) ∧ Below w.heap.size w w' := by
  have hi : (b.size : Int) ≤ 2500 := by omega
  have G0 := fun W => head_Get b (by omega) W
  rw [hh] at G0
  have hE2 : (E != 0) = true := bne_iff_ne.2 hE
  obtain ⟨src, dst, off, cc, cs, sum, typ, x, seq, ack, serv, code, i0, i1, i2⟩ := h
  simp only [Hd.val_mk] at G0
  have G := hide G0
  clear G0 hh hE
  go_enter Tryz.func14, Tryz.ntmps14
  go_wp2_with fail
  refine (G.out _).mono ?_
  rintro e w2 ⟨rfl, hb2⟩
  have b0 := (Blk.new w Z39 29).below hb2 (by simp)
  have hw2 : Below w.heap.size w w2 := ((Below.refl _ _).alloc (Nat.le_refl _) _).trans (hb2.mono (by simp))
  have hz2 : w.heap.size + 1 ≤ w2.heap.size := by have := hb2.size; simpa using this
  have B0 := hide b0
  clear b0 hb2
  go_wp2_with (refine wpList_store_row rfl 29 _ _ rfl w.heap.size Z39 rfl rfl 29 Z39 (B0.out.alloc _) (by kernel_rfl) rfl Z39_one ?_)
  refine bodyPost_ret (results_ct rfl _ _ w.heap.size 29 Z39 (0, 0) _ rfl ((B0.out.alloc _).row) Tryz.underlying29 rfl (by kernel_rfl)) rfl ⟨rfl, below_row (hw2.alloc (by omega) _) (Nat.le_refl _) _⟩

set_option maxHeartbeats 1600000 in
set_option maxRecDepth 100000 in
theorem pkt_Get_cov (b : ByteArray) (hs : b.size ≤ 2500) (src dst off cc cs sum typ : Int) (x : Bool) (seq ack serv code i0 i1 i2 : Int) (hh : getH b = (⟨src, dst, off, cc, cs, sum, typ, x, seq, ack, serv, code, i0, i1, i2⟩, 0)) (o0 : 0 ≤ off) (o1 : off ≤ 255) (hc : covB b.size (4 * off) cs = false) (w : World) : Calls Tryz.prog 14 #[.string b] w fun e w' => e = .returned (.tuple #[.agg Z39, .int .i64 5]) ∧ Below w.heap.size w w' := by
  have hi : (b.size : Int) ≤ 2500 := by omega
  have hb0 : (0 : Int) ≤ (b.size : Int) := by omega
  have G0 := fun W => head_Get b (by omega) W
  simp only [hh, Hd.val_mk] at G0
  have G := hide G0
  clear G0 hh
  have C0 := fun W => sum_Covered (b.size : Int) (4 * off) cs W (by omega)
  rw [hc] at C0
  simp only [cond_false] at C0
  have C := hide C0
  clear C0 hc
  go_enter Tryz.func14, Tryz.ntmps14
  go_wp2_with fail
  refine (G.out _).mono ?_
  rintro e w2 ⟨rfl, hb2⟩
  have b0 := (Blk.new w Z39 29).below hb2 (by simp)
  have hw2 : Below w.heap.size w w2 := ((Below.refl _ _).alloc (Nat.le_refl _) _).trans (hb2.mono (by simp))
  have hz2 : w.heap.size + 1 ≤ w2.heap.size := by have := hb2.size; simpa using this
  have B0 := hide b0
  clear b0 hb2
  go_wp2_with (first | (go_at_call 25; refine (C.out _).mono ?_; rintro e w' ⟨rfl, rfl⟩) | (refine wpList_store_row rfl 29 _ _ rfl w.heap.size Z39 rfl rfl 29 Z39 (B0.out.alloc _) (by kernel_rfl) rfl Z39_one ?_))
  refine bodyPost_ret (results_ct rfl _ _ w.heap.size 29 Z39 (0, 0) _ rfl ((B0.out.alloc _).row) Tryz.underlying29 rfl (by kernel_rfl)) rfl ⟨rfl, below_row (hw2.alloc (by omega) _) (Nat.le_refl _) _⟩

set_option maxHeartbeats 1600000 in
set_option maxRecDepth 100000 in
theorem pkt_Get_sum (b : ByteArray) (hs : b.size ≤ 2500) (src dst off cc cs sum typ : Int) (x : Bool) (seq ack serv code i0 i1 i2 : Int) (hh : getH b = (⟨src, dst, off, cc, cs, sum, typ, x, seq, ack, serv, code, i0, i1, i2⟩, 0)) (o0 : 0 ≤ off) (o1 : off ≤ 255) (hc : covB b.size (4 * off) cs = true) (hS : Sum.sum (b.extract 0 (covN b.size (4 * off) cs).toNat).data.toList ≠ 0) (w : World) : Calls Tryz.prog 14 #[.string b] w fun e w' => e = .returned (.tuple #[.agg Z39, .int .i64 6]) ∧ Below w.heap.size w w' := by
  have hi : (b.size : Int) ≤ 2500 := by omega
  have hb0 : (0 : Int) ≤ (b.size : Int) := by omega
  have G0 := fun W => head_Get b (by omega) W
  simp only [hh, Hd.val_mk] at G0
  have G := hide G0
  clear G0 hh
  have C0 := fun W => sum_Covered (b.size : Int) (4 * off) cs W (by omega)
  rw [hc] at C0
  simp only [cond_true] at C0
  have hcl : covN b.size (4 * off) cs ≤ b.size := by unfold covB at hc; have := of_decide_eq_true hc; omega
  have hcs : 0 ≤ cs := by unfold covB at hc; have := of_decide_eq_true hc; omega
  have hcn : 0 ≤ covN b.size (4 * off) cs := by unfold covN; split <;> omega
  generalize covN b.size (4 * off) cs = n0 at *
  obtain ⟨n, rfl⟩ := Int.eq_ofNat_of_zero_le hcn
  rw [Int.toNat_natCast] at hS
  have C := hide C0
  clear C0 hc hcs
  have so0 : ∀ W : World, Calls Tryz.prog 26 #[.slice (some ⟨W.heap.size, 0, none⟩) 1 1] (W.alloc (.cells #[.string (b.extract 0 n)] 9)) fun e w' => e = .returned (.int .i64 (Sum.sum (b.extract 0 n).data.toList : Nat)) ∧ W.alloc (.cells #[.string (b.extract 0 n)] 9) = w' := fun W => by
    have h := sum_Of (some ⟨W.heap.size, 0, none⟩) 1 (W.heap.size + 1) [b.extract 0 n] (W.alloc (.cells #[.string (b.extract 0 n)] 9)) (cells_new W [.string (b.extract 0 n)] 9) (by simp [joined, size_bytes, ByteArray.size_extract]; omega) (by simp)
    rwa [show joined [b.extract 0 n] = (b.extract 0 n).data.toList from by simp [joined]] at h
  have hS2 : (((Sum.sum (b.extract 0 n).data.toList : Nat) : Int) != 0) = true := bne_iff_ne.2 (by omega)
  generalize Sum.sum (b.extract 0 n).data.toList = S at *
  have SO := hide so0
  clear so0 hS
  go_enter Tryz.func14, Tryz.ntmps14
  go_wp2_with fail
  refine (G.out _).mono ?_
  rintro e w2 ⟨rfl, hb2⟩
  have b0 := (Blk.new w Z39 29).below hb2 (by simp)
  have hw2 : Below w.heap.size w w2 := ((Below.refl _ _).alloc (Nat.le_refl _) _).trans (hb2.mono (by simp))
  have hz2 : w.heap.size + 1 ≤ w2.heap.size := by have := hb2.size; simpa using this
  have B0 := hide b0
  clear b0 hb2
  go_wp2_with (go_at_call 25; refine (C.out _).mono ?_; rintro e w' ⟨rfl, rfl⟩)
  have so := SO.out (w2.alloc (.cells #[.int .i64 src, .int .i64 dst, .int .i64 off, .int .i64 cc, .int .i64 cs, .int .i64 sum, .int .i64 typ, .bool x, .int .u64 seq, .int .u64 ack, .int .u32 serv, .int .i64 code, .int .u8 i0, .int .u8 i1, .int .u8 i2] 26))
  rw [World.size_alloc] at so
  refine so.mono ?_
  rintro e w3 ⟨rfl, rfl⟩
  have b0 := (B0.out.alloc (.cells #[.int .i64 src, .int .i64 dst, .int .i64 off, .int .i64 cc, .int .i64 cs, .int .i64 sum, .int .i64 typ, .bool x, .int .u64 seq, .int .u64 ack, .int .u32 serv, .int .i64 code, .int .u8 i0, .int .u8 i1, .int .u8 i2] 26)).alloc (.cells #[.string (b.extract 0 n)] 9)
  have hw3 := (hw2.alloc (by omega) (.cells #[.int .i64 src, .int .i64 dst, .int .i64 off, .int .i64 cc, .int .i64 cs, .int .i64 sum, .int .i64 typ, .bool x, .int .u64 seq, .int .u64 ack, .int .u32 serv, .int .i64 code, .int .u8 i0, .int .u8 i1, .int .u8 i2] 26)).alloc (by simp; omega) (.cells #[.string (b.extract 0 n)] 9)
  have hz3 : w.heap.size + 1 ≤ ((w2.alloc (.cells #[.int .i64 src, .int .i64 dst, .int .i64 off, .int .i64 cc, .int .i64 cs, .int .i64 sum, .int .i64 typ, .bool x, .int .u64 seq, .int .u64 ack, .int .u32 serv, .int .i64 code, .int .u8 i0, .int .u8 i1, .int .u8 i2] 26)).alloc (.cells #[.string (b.extract 0 n)] 9)).heap.size := by simp; omega
  generalize (w2.alloc (.cells #[.int .i64 src, .int .i64 dst, .int .i64 off, .int .i64 cc, .int .i64 cs, .int .i64 sum, .int .i64 typ, .bool x, .int .u64 seq, .int .u64 ack, .int .u32 serv, .int .i64 code, .int .u8 i0, .int .u8 i1, .int .u8 i2] 26)).alloc (.cells #[.string (b.extract 0 n)] 9) = w3 at *
  go_wp2_with (refine wpList_store_row rfl 29 _ _ rfl w.heap.size Z39 rfl rfl 29 Z39 (b0) (by kernel_rfl) rfl Z39_one ?_)
  refine bodyPost_ret (results_ct rfl _ _ w.heap.size 29 Z39 (0, 0) _ rfl (b0.row) Tryz.underlying29 rfl (by kernel_rfl)) rfl ⟨rfl, below_row hw3 (Nat.le_refl _) _⟩

set_option maxHeartbeats 1600000 in
set_option maxRecDepth 100000 in
theorem pkt_Get_opts (b : ByteArray) (hs : b.size ≤ 2500) (src dst off cc cs sum typ : Int) (x : Bool) (seq ack serv code i0 i1 i2 : Int) (hh : getH b = (⟨src, dst, off, cc, cs, sum, typ, x, seq, ack, serv, code, i0, i1, i2⟩, 0)) (o0 : 0 ≤ off) (o1 : off ≤ 255) (hc : covB b.size (4 * off) cs = true) (hS : Sum.sum (b.extract 0 (covN b.size (4 * off) cs).toNat).data.toList = 0) (h1 : sizeB typ x ≤ 4 * off) (h2 : 4 * off ≤ b.size) (E : Int) (hE : E ≠ 0)
    (OG : ∀ W, Calls Tryz.prog 52 #[.string (b.extract (sizeB typ x).toNat (4 * off).toNat)] W fun e w' => ∃ v0_ : Value, e = .returned (.tuple #[v0_, .int .i64 E]) ∧ Below W.heap.size W w') (w : World) : Calls Tryz.prog 14 #[.string b] w fun e w' => e = .returned (.tuple #[.agg Z39, .int .i64 E]) ∧ Below w.heap.size w w' := by
  have hE2 : (E != 0) = true := bne_iff_ne.2 hE
  have hi : (b.size : Int) ≤ 2500 := by omega
  have hb0 : (0 : Int) ≤ (b.size : Int) := by omega
  have G0 := fun W => head_Get b (by omega) W
  simp only [hh, Hd.val_mk] at G0
  have G := hide G0
  clear G0 hh
  have C0 := fun W => sum_Covered (b.size : Int) (4 * off) cs W (by omega)
  rw [hc] at C0
  simp only [cond_true] at C0
  have hcl : covN b.size (4 * off) cs ≤ b.size := by unfold covB at hc; have := of_decide_eq_true hc; omega
  have hcs : 0 ≤ cs := by unfold covB at hc; have := of_decide_eq_true hc; omega
  have hcn : 0 ≤ covN b.size (4 * off) cs := by unfold covN; split <;> omega
  generalize covN b.size (4 * off) cs = n0 at *
  obtain ⟨n, rfl⟩ := Int.eq_ofNat_of_zero_le hcn
  rw [Int.toNat_natCast] at hS
  have C := hide C0
  clear C0 hc hcs
  have so0 : ∀ W : World, Calls Tryz.prog 26 #[.slice (some ⟨W.heap.size, 0, none⟩) 1 1] (W.alloc (.cells #[.string (b.extract 0 n)] 9)) fun e w' => e = .returned (.int .i64 (Sum.sum (b.extract 0 n).data.toList : Nat)) ∧ W.alloc (.cells #[.string (b.extract 0 n)] 9) = w' := fun W => by
    have h := sum_Of (some ⟨W.heap.size, 0, none⟩) 1 (W.heap.size + 1) [b.extract 0 n] (W.alloc (.cells #[.string (b.extract 0 n)] 9)) (cells_new W [.string (b.extract 0 n)] 9) (by simp [joined, size_bytes, ByteArray.size_extract]; omega) (by simp)
    rwa [show joined [b.extract 0 n] = (b.extract 0 n).data.toList from by simp [joined]] at h
  rw [hS] at so0
  have SO := hide so0
  clear so0 hS hE
  have hsz := sizeB_le typ x
  have SZ0 := head_Size typ x
  obtain ⟨z, hz⟩ : ∃ z : Int, sizeB typ x = z := ⟨_, rfl⟩
  simp only [hz] at SZ0 hsz h1 OG
  obtain ⟨z0, z28⟩ := hsz
  have SZ := hide SZ0
  have hto : (4 * off).toNat ≤ b.size := by omega
  clear SZ0 hz
  have OG2 := hide OG
  clear OG
  go_enter Tryz.func14, Tryz.ntmps14
  go_wp2_with fail
  refine (G.out _).mono ?_
  rintro e w2 ⟨rfl, hb2⟩
  have b0 := (Blk.new w Z39 29).below hb2 (by simp)
  have hw2 : Below w.heap.size w w2 := ((Below.refl _ _).alloc (Nat.le_refl _) _).trans (hb2.mono (by simp))
  have hz2 : w.heap.size + 1 ≤ w2.heap.size := by have := hb2.size; simpa using this
  have B0 := hide b0
  clear b0 hb2
  go_wp2_with (go_at_call 25; refine (C.out _).mono ?_; rintro e w' ⟨rfl, rfl⟩)
  have so := SO.out (w2.alloc (.cells #[.int .i64 src, .int .i64 dst, .int .i64 off, .int .i64 cc, .int .i64 cs, .int .i64 sum, .int .i64 typ, .bool x, .int .u64 seq, .int .u64 ack, .int .u32 serv, .int .i64 code, .int .u8 i0, .int .u8 i1, .int .u8 i2] 26))
  rw [World.size_alloc] at so
  refine so.mono ?_
  rintro e w3 ⟨rfl, rfl⟩
  have b0 := (B0.out.alloc (.cells #[.int .i64 src, .int .i64 dst, .int .i64 off, .int .i64 cc, .int .i64 cs, .int .i64 sum, .int .i64 typ, .bool x, .int .u64 seq, .int .u64 ack, .int .u32 serv, .int .i64 code, .int .u8 i0, .int .u8 i1, .int .u8 i2] 26)).alloc (.cells #[.string (b.extract 0 n)] 9)
  have b4 := (Blk.new w2 #[.int .i64 src, .int .i64 dst, .int .i64 off, .int .i64 cc, .int .i64 cs, .int .i64 sum, .int .i64 typ, .bool x, .int .u64 seq, .int .u64 ack, .int .u32 serv, .int .i64 code, .int .u8 i0, .int .u8 i1, .int .u8 i2] 26).alloc (.cells #[.string (b.extract 0 n)] 9)
  have hw3 := (hw2.alloc (by omega) (.cells #[.int .i64 src, .int .i64 dst, .int .i64 off, .int .i64 cc, .int .i64 cs, .int .i64 sum, .int .i64 typ, .bool x, .int .u64 seq, .int .u64 ack, .int .u32 serv, .int .i64 code, .int .u8 i0, .int .u8 i1, .int .u8 i2] 26)).alloc (by simp; omega) (.cells #[.string (b.extract 0 n)] 9)
  have hz3 : w2.heap.size + 2 = ((w2.alloc (.cells #[.int .i64 src, .int .i64 dst, .int .i64 off, .int .i64 cc, .int .i64 cs, .int .i64 sum, .int .i64 typ, .bool x, .int .u64 seq, .int .u64 ack, .int .u32 serv, .int .i64 code, .int .u8 i0, .int .u8 i1, .int .u8 i2] 26)).alloc (.cells #[.string (b.extract 0 n)] 9)).heap.size := by simp
  generalize (w2.alloc (.cells #[.int .i64 src, .int .i64 dst, .int .i64 off, .int .i64 cc, .int .i64 cs, .int .i64 sum, .int .i64 typ, .bool x, .int .u64 seq, .int .u64 ack, .int .u32 serv, .int .i64 code, .int .u8 i0, .int .u8 i1, .int .u8 i2] 26)).alloc (.cells #[.string (b.extract 0 n)] 9) = w3 at b0 b4 hw3 hz3 ⊢
  have B0 := hide b0
  have B4 := hide b4
  have Hz3 := hide hz3
  have g6 : w3.cell? ⟨w2.heap.size, 6, none⟩ = some (.int .i64 typ) := b4.cell rfl
  have g7 : w3.cell? ⟨w2.heap.size, 7, none⟩ = some (.bool x) := b4.cell rfl
  clear b0 b4 so hz3
  go_wp2_with (first | (go_at_call 43; refine (SZ.out _).mono ?_; rintro e w' ⟨rfl, rfl⟩))
  refine (OG2.out _).mono ?_
  rintro e w4 ⟨v0, rfl, hb4⟩
  have b0 := B0.out.below hb4 (by have := Hz3.out; omega)
  replace hw3 := hw3.trans (hb4.mono hw3.size)
  clear hb4 g6 g7
  go_wp2_with (refine wpList_store_row rfl 29 _ _ rfl w.heap.size Z39 rfl rfl 29 Z39 (b0) (by kernel_rfl) rfl Z39_one ?_)
  refine bodyPost_ret (results_ct rfl _ _ w.heap.size 29 Z39 (0, 0) _ rfl (b0.row) Tryz.underlying29 rfl (by kernel_rfl)) rfl ⟨rfl, below_row hw3 (Nat.le_refl _) _⟩

set_option maxHeartbeats 1600000 in
set_option maxRecDepth 100000 in
/-- all is right: the packet; the options' row stands as opt.Get made it (R: what is known of it, of the blocks from w's end on). -/
theorem pkt_Get_ok (b : ByteArray) (hs : b.size ≤ 2500) (src dst off cc cs sum typ : Int) (x : Bool) (seq ack serv code i0 i1 i2 : Int) (hh : getH b = (⟨src, dst, off, cc, cs, sum, typ, x, seq, ack, serv, code, i0, i1, i2⟩, 0)) (o0 : 0 ≤ off) (o1 : off ≤ 255) (hc : covB b.size (4 * off) cs = true) (hS : Sum.sum (b.extract 0 (covN b.size (4 * off) cs).toNat).data.toList = 0) (h1 : sizeB typ x ≤ 4 * off) (h2 : 4 * off ≤ b.size) (m : Nat) (R : World → Nat → Value → Prop)
    (hR : ∀ B w1 w2 v, R w1 B v → w1.heap.size ≤ w2.heap.size → (∀ k, B ≤ k → k < w1.heap.size → w2.heap[k]? = w1.heap[k]?) → R w2 B v)
    (OG : ∀ W, Calls Tryz.prog 52 #[.string (b.extract (sizeB typ x).toNat (4 * off).toNat)] W fun e w' => ∃ (v0_ : Value) (A : Option Addr) (c : Nat), e = .returned (.tuple #[v0_, .int .i64 0]) ∧ v0_ = .slice A m c ∧ R w' W.heap.size v0_ ∧ Below W.heap.size W w') (w : World) :
    Calls Tryz.prog 14 #[.string b] w fun e w' => ∃ (v : Value) (A : Option Addr) (c B : Nat), e = .returned (.tuple #[.agg (pk17 src dst off cc cs sum typ x seq ack serv code i0 i1 i2 A m c (b.extract (4 * off).toNat b.size)), .int .i64 0]) ∧ v = .slice A m c ∧ w.heap.size < B ∧ R w' B v ∧ Below w.heap.size w w' := by
  have hi : (b.size : Int) ≤ 2500 := by omega
  have hb0 : (0 : Int) ≤ (b.size : Int) := by omega
  have G0 := fun W => head_Get b (by omega) W
  simp only [hh, Hd.val_mk] at G0
  have G := hide G0
  clear G0 hh
  have C0 := fun W => sum_Covered (b.size : Int) (4 * off) cs W (by omega)
  rw [hc] at C0
  simp only [cond_true] at C0
  have hcl : covN b.size (4 * off) cs ≤ b.size := by unfold covB at hc; have := of_decide_eq_true hc; omega
  have hcs : 0 ≤ cs := by unfold covB at hc; have := of_decide_eq_true hc; omega
  have hcn : 0 ≤ covN b.size (4 * off) cs := by unfold covN; split <;> omega
  generalize covN b.size (4 * off) cs = n0 at *
  obtain ⟨n, rfl⟩ := Int.eq_ofNat_of_zero_le hcn
  rw [Int.toNat_natCast] at hS
  have C := hide C0
  clear C0 hc hcs
  have so0 : ∀ W : World, Calls Tryz.prog 26 #[.slice (some ⟨W.heap.size, 0, none⟩) 1 1] (W.alloc (.cells #[.string (b.extract 0 n)] 9)) fun e w' => e = .returned (.int .i64 (Sum.sum (b.extract 0 n).data.toList : Nat)) ∧ W.alloc (.cells #[.string (b.extract 0 n)] 9) = w' := fun W => by
    have h := sum_Of (some ⟨W.heap.size, 0, none⟩) 1 (W.heap.size + 1) [b.extract 0 n] (W.alloc (.cells #[.string (b.extract 0 n)] 9)) (cells_new W [.string (b.extract 0 n)] 9) (by simp [joined, size_bytes, ByteArray.size_extract]; omega) (by simp)
    rwa [show joined [b.extract 0 n] = (b.extract 0 n).data.toList from by simp [joined]] at h
  rw [hS] at so0
  have SO := hide so0
  clear so0 hS
  have hsz := sizeB_le typ x
  have SZ0 := head_Size typ x
  obtain ⟨z, hz⟩ : ∃ z : Int, sizeB typ x = z := ⟨_, rfl⟩
  simp only [hz] at SZ0 hsz h1 OG
  obtain ⟨z0, z28⟩ := hsz
  have SZ := hide SZ0
  have hto : (4 * off).toNat ≤ b.size := by omega
  clear SZ0 hz
  have OG2 := hide OG
  clear OG
  go_enter Tryz.func14, Tryz.ntmps14
  go_wp2_with fail
  refine (G.out _).mono ?_
  rintro e w2 ⟨rfl, hb2⟩
  have b0 := (Blk.new w Z39 29).below hb2 (by simp)
  have hw2 : Below w.heap.size w w2 := ((Below.refl _ _).alloc (Nat.le_refl _) _).trans (hb2.mono (by simp))
  have hz2 : w.heap.size + 1 ≤ w2.heap.size := by have := hb2.size; simpa using this
  have B0 := hide b0
  clear b0 hb2
  go_wp2_with (go_at_call 25; refine (C.out _).mono ?_; rintro e w' ⟨rfl, rfl⟩)
  have so := SO.out (w2.alloc (.cells #[.int .i64 src, .int .i64 dst, .int .i64 off, .int .i64 cc, .int .i64 cs, .int .i64 sum, .int .i64 typ, .bool x, .int .u64 seq, .int .u64 ack, .int .u32 serv, .int .i64 code, .int .u8 i0, .int .u8 i1, .int .u8 i2] 26))
  rw [World.size_alloc] at so
  refine so.mono ?_
  rintro e w3 ⟨rfl, rfl⟩
  have b0 := (B0.out.alloc (.cells #[.int .i64 src, .int .i64 dst, .int .i64 off, .int .i64 cc, .int .i64 cs, .int .i64 sum, .int .i64 typ, .bool x, .int .u64 seq, .int .u64 ack, .int .u32 serv, .int .i64 code, .int .u8 i0, .int .u8 i1, .int .u8 i2] 26)).alloc (.cells #[.string (b.extract 0 n)] 9)
  have b4 := (Blk.new w2 #[.int .i64 src, .int .i64 dst, .int .i64 off, .int .i64 cc, .int .i64 cs, .int .i64 sum, .int .i64 typ, .bool x, .int .u64 seq, .int .u64 ack, .int .u32 serv, .int .i64 code, .int .u8 i0, .int .u8 i1, .int .u8 i2] 26).alloc (.cells #[.string (b.extract 0 n)] 9)
  have hw3 := (hw2.alloc (by omega) (.cells #[.int .i64 src, .int .i64 dst, .int .i64 off, .int .i64 cc, .int .i64 cs, .int .i64 sum, .int .i64 typ, .bool x, .int .u64 seq, .int .u64 ack, .int .u32 serv, .int .i64 code, .int .u8 i0, .int .u8 i1, .int .u8 i2] 26)).alloc (by simp; omega) (.cells #[.string (b.extract 0 n)] 9)
  have hz3 : w2.heap.size + 2 = ((w2.alloc (.cells #[.int .i64 src, .int .i64 dst, .int .i64 off, .int .i64 cc, .int .i64 cs, .int .i64 sum, .int .i64 typ, .bool x, .int .u64 seq, .int .u64 ack, .int .u32 serv, .int .i64 code, .int .u8 i0, .int .u8 i1, .int .u8 i2] 26)).alloc (.cells #[.string (b.extract 0 n)] 9)).heap.size := by simp
  generalize (w2.alloc (.cells #[.int .i64 src, .int .i64 dst, .int .i64 off, .int .i64 cc, .int .i64 cs, .int .i64 sum, .int .i64 typ, .bool x, .int .u64 seq, .int .u64 ack, .int .u32 serv, .int .i64 code, .int .u8 i0, .int .u8 i1, .int .u8 i2] 26)).alloc (.cells #[.string (b.extract 0 n)] 9) = w3 at b0 b4 hw3 hz3 ⊢
  have B0 := hide b0
  have B4 := hide b4
  have Hz3 := hide hz3
  have g6 : w3.cell? ⟨w2.heap.size, 6, none⟩ = some (.int .i64 typ) := b4.cell rfl
  have g7 : w3.cell? ⟨w2.heap.size, 7, none⟩ = some (.bool x) := b4.cell rfl
  clear b0 b4 so hz3
  go_wp2_with (first | (go_at_call 43; refine (SZ.out _).mono ?_; rintro e w' ⟨rfl, rfl⟩))
  refine (OG2.out _).mono ?_
  rintro e w4 ⟨v0, A, c, rfl, rfl, hr, hb4⟩
  have b0 := B0.out.below hb4 (by have := Hz3.out; omega)
  have b4 := B4.out.below hb4 (by have := Hz3.out; omega)
  replace hw3 := hw3.trans (hb4.mono hw3.size)
  have hB3 : w.heap.size + 1 ≤ w3.heap.size := by have := Hz3.out; omega
  have B0 := hide b0
  have B4 := hide b4
  have HR := hide hr
  have HQ := hide hR
  clear b0 b4 hb4 g6 g7 hr hR
  have k0 : w4.cell? ⟨w2.heap.size, 0, none⟩ = some (.int .i64 src) := B4.out.cell rfl
  have k1 : w4.cell? ⟨w2.heap.size, 1, none⟩ = some (.int .i64 dst) := B4.out.cell rfl
  have k2 : w4.cell? ⟨w2.heap.size, 2, none⟩ = some (.int .i64 off) := B4.out.cell rfl
  have k3 : w4.cell? ⟨w2.heap.size, 3, none⟩ = some (.int .i64 cc) := B4.out.cell rfl
  have k4 : w4.cell? ⟨w2.heap.size, 4, none⟩ = some (.int .i64 cs) := B4.out.cell rfl
  have k5 : w4.cell? ⟨w2.heap.size, 5, none⟩ = some (.int .i64 sum) := B4.out.cell rfl
  have k6 : w4.cell? ⟨w2.heap.size, 6, none⟩ = some (.int .i64 typ) := B4.out.cell rfl
  have k7 : w4.cell? ⟨w2.heap.size, 7, none⟩ = some (.bool x) := B4.out.cell rfl
  have k8 : w4.cell? ⟨w2.heap.size, 8, none⟩ = some (.int .u64 seq) := B4.out.cell rfl
  have k9 : w4.cell? ⟨w2.heap.size, 9, none⟩ = some (.int .u64 ack) := B4.out.cell rfl
  have k10 : w4.cell? ⟨w2.heap.size, 10, none⟩ = some (.int .u32 serv) := B4.out.cell rfl
  have k11 : w4.cell? ⟨w2.heap.size, 11, none⟩ = some (.int .i64 code) := B4.out.cell rfl
  have k12 : w4.cell? ⟨w2.heap.size, 12, none⟩ = some (.int .u8 i0) := B4.out.cell rfl
  have k13 : w4.cell? ⟨w2.heap.size, 13, none⟩ = some (.int .u8 i1) := B4.out.cell rfl
  have k14 : w4.cell? ⟨w2.heap.size, 14, none⟩ = some (.int .u8 i2) := B4.out.cell rfl
  have hu := Tryz.underlying26
  go_wp2_with fail
  have h04 : 0 ≤ 4 * off := by omega
  go_still_tail 6, (by kernel_rfl)
  change wpList _ _ _ _ _ w4.drew
  have hone := hide (pk17_one src dst off cc cs sum typ x seq ack serv code i0 i1 i2 A m c (b.extract (4 * off).toNat b.size))
  go_wp2_with (refine wpList_store_row rfl 29 _ _ rfl w.heap.size _ rfl rfl 29 Z39 B0.out.drew (by kernel_rfl) rfl hone.out ?_)
  refine bodyPost_ret (results_ct rfl _ _ w.heap.size 29 (pk17 src dst off cc cs sum typ x seq ack serv code i0 i1 i2 A m c (b.extract (4 * off).toNat b.size)) (0, 0) _ rfl (B0.out.drew.row) Tryz.underlying29 rfl (by kernel_rfl)) rfl ?_
  refine ⟨.slice A m c, A, c, w3.heap.size, rfl, rfl, hB3, HQ.out _ _ _ _ HR.out (by simp [World.setRow]) ?_, below_row hw3.drew (Nat.le_refl _) _⟩
  intro k hk _
  have hne : w.heap.size ≠ k := by omega
  simp [World.setRow, Array.getElem?_modify, hne]
  rfl
end Go.Proofs.YtjlnbahanghhcaaGreatDoor

/- pkt.Get as a Lean function, and that it is that. Printed by wip/gen/mk_pkf.py. -/
namespace Go.Proofs.YtjlnbahanghhcaaGreatDoor.PkF
open Go.RowKit Go.Proofs.YtjlnbahanghhcaaGreatDoor Go.Proofs.YtjlnbahanghhcaaGreatDoorW.PrintWords Go.Proofs.YtjlnbahanghhcaaGreatDoor.PoptGet
set_option linter.unusedVariables false
set_option linter.unusedSimpArgs false

def head_Size.f (a0 : Int) (a1 : Bool) : Option (Int) := some (sizeB a0 a1)
def sum_Of.f (l0 : List ByteArray) : Option (Int) := if (joined l0).length ≤ 140737488355328 ∧ l0.length ≤ 140737488355328 then some (Sum.sum (joined l0) : Nat) else none
def sum_Covered.f (a0 : Int) (a1 : Int) (a2 : Int) : Option (Int × Bool) := if a0 ≤ 9223372036854775000 then some (bif covB a0 a1 a2 then covN a0 a1 a2 else 0, covB a0 a1 a2) else none
def head_Get.f (a0 : ByteArray) : Option (Int × Int × Int × Int × Int × Int × Int × Bool × Int × Int × Int × Int × Int × Int × Int × Int) := if a0.size ≤ 9223372036854775807 then some ((getH a0).1.src, (getH a0).1.dst, (getH a0).1.off, (getH a0).1.cc, (getH a0).1.cs, (getH a0).1.sum, (getH a0).1.typ, (getH a0).1.x, (getH a0).1.seq, (getH a0).1.ack, (getH a0).1.serv, (getH a0).1.code, (getH a0).1.i0, (getH a0).1.i1, (getH a0).1.i2, (getH a0).2) else none
def pkt_Get.f (k : Nat) (a0 : ByteArray) : Option (Int × Int × Int × Int × Int × Int × Int × Bool × Int × Int × Int × Int × Int × Int × Int × (List (S50)) × ByteArray × Int) := if (a0.size : Int) > 2500 then (some (0, 0, 0, 0, 0, 0, 0, false, 0, 0, 0, 0, 0, 0, 0, ([] : List (S50)), (⟨#[]⟩ : ByteArray), 13)) else ((head_Get.f a0).bind fun bt111 => (if bt111.2.2.2.2.2.2.2.2.2.2.2.2.2.2.2 = 0 then ((sum_Covered.f (a0.size : Int) (wrap64 (4 * bt111.2.2.1)) bt111.2.2.2.2.1).bind fun bt128 => (if bt128.2 = true then (if 0 ≤ bt128.1 then (if bt128.1 ≤ (a0.size : Int) then ((sum_Of.f (([a0.extract 0 (bt128.1 : Int).toNat] : List ByteArray))).bind fun t133 => (if t133 = 0 then ((head_Size.f bt111.2.2.2.2.2.2.1 bt111.2.2.2.2.2.2.2.1).bind fun t134 => (if 0 ≤ t134 then (if t134 ≤ (wrap64 (4 * bt111.2.2.1)) then (if (wrap64 (4 * bt111.2.2.1)) ≤ (a0.size : Int) then ((opt_Get.f k (a0.extract (t134 : Int).toNat ((wrap64 (4 * bt111.2.2.1)) : Int).toNat)).bind fun bt135 => (if bt135.2 = 0 then (if 0 ≤ (wrap64 (4 * bt111.2.2.1)) then (some (bt111.1, bt111.2.1, bt111.2.2.1, bt111.2.2.2.1, bt111.2.2.2.2.1, bt111.2.2.2.2.2.1, bt111.2.2.2.2.2.2.1, bt111.2.2.2.2.2.2.2.1, bt111.2.2.2.2.2.2.2.2.1, bt111.2.2.2.2.2.2.2.2.2.1, bt111.2.2.2.2.2.2.2.2.2.2.1, bt111.2.2.2.2.2.2.2.2.2.2.2.1, bt111.2.2.2.2.2.2.2.2.2.2.2.2.1, bt111.2.2.2.2.2.2.2.2.2.2.2.2.2.1, bt111.2.2.2.2.2.2.2.2.2.2.2.2.2.2.1, bt135.1, a0.extract ((wrap64 (4 * bt111.2.2.1)) : Int).toNat a0.size, 0)) else (none)) else (some (0, 0, 0, 0, 0, 0, 0, false, 0, 0, 0, 0, 0, 0, 0, ([] : List (S50)), (⟨#[]⟩ : ByteArray), bt135.2)))) else (none)) else (none)) else (none))) else (some (0, 0, 0, 0, 0, 0, 0, false, 0, 0, 0, 0, 0, 0, 0, ([] : List (S50)), (⟨#[]⟩ : ByteArray), 6)))) else (none)) else (none)) else (some (0, 0, 0, 0, 0, 0, 0, false, 0, 0, 0, 0, 0, 0, 0, ([] : List (S50)), (⟨#[]⟩ : ByteArray), 5)))) else (some (0, 0, 0, 0, 0, 0, 0, false, 0, 0, 0, 0, 0, 0, 0, ([] : List (S50)), (⟨#[]⟩ : ByteArray), bt111.2.2.2.2.2.2.2.2.2.2.2.2.2.2.2))))
theorem pkt_Get.calls (k : Nat) (a0 : ByteArray) (r1 : Int) (r2 : Int) (r3 : Int) (r4 : Int) (r5 : Int) (r6 : Int) (r7 : Int) (r8 : Bool) (r9 : Int) (r10 : Int) (r11 : Int) (r12 : Int) (r13 : Int) (r14 : Int) (r15 : Int) (r16 : List (S50)) (r17 : ByteArray) (r18 : Int) (w : World) (h : pkt_Get.f k a0 = some (r1, r2, r3, r4, r5, r6, r7, r8, r9, r10, r11, r12, r13, r14, r15, r16, r17, r18)) :
    Calls Tryz.prog 14 #[.string a0] w fun e w' => ∃ v15_ : Value, e = .returned (.tuple #[.agg #[.int .i64 r1, .int .i64 r2, .int .i64 r3, .int .i64 r4, .int .i64 r5, .int .i64 r6, .int .i64 r7, .bool r8, .int .u64 r9, .int .u64 r10, .int .u32 r11, .int .i64 r12, .int .u8 r13, .int .u8 r14, .int .u8 r15, v15_, .string r17], .int .i64 r18]) ∧ Kd.R k50 50 w' w.heap.size (fun _ => True) v15_ r16 ∧ Below w.heap.size w w' := by
  unfold pkt_Get.f at h
  by_cases c0 : (a0.size : Int) > 2500
  · rw [if_pos c0] at h
    simp only [Option.some.injEq, Prod.mk.injEq] at h
    obtain ⟨rfl, rfl, rfl, rfl, rfl, rfl, rfl, rfl, rfl, rfl, rfl, rfl, rfl, rfl, rfl, rfl, rfl, rfl⟩ := h
    exact (pkt_Get_large a0 (by omega) w).mono fun e w' hq => ⟨.slice none 0 0, hq.1, Kd.R_nil _ _ _ _ _, hq.2⟩
  rw [if_neg c0] at h
  obtain ⟨bt, hb, h⟩ := Option.bind_eq_some_iff.1 h
  unfold head_Get.f at hb
  rw [if_pos (by omega)] at hb
  have hof := getH_off a0
  obtain ⟨⟨hd, E⟩, hg⟩ : ∃ p, getH a0 = p := ⟨_, rfl⟩
  rw [hg] at hb hof
  obtain rfl := Option.some.inj hb
  dsimp only at h hof
  by_cases cE : E = 0
  case neg =>
    rw [if_neg cE] at h
    simp only [Option.some.injEq, Prod.mk.injEq] at h
    obtain ⟨rfl, rfl, rfl, rfl, rfl, rfl, rfl, rfl, rfl, rfl, rfl, rfl, rfl, rfl, rfl, rfl, rfl, rfl⟩ := h
    exact (pkt_Get_head a0 (by omega) hd E hg cE w).mono fun e w' hq => ⟨.slice none 0 0, hq.1, Kd.R_nil _ _ _ _ _, hq.2⟩
  subst cE
  rw [if_pos rfl] at h
  obtain ⟨src, dst, off, cc, cs, sum, typ, x, seq, ack, serv, code, i0, i1, i2⟩ := hd
  dsimp only at h hof
  have hw : wrap64 (4 * off) = 4 * off := by unfold wrap64; omega
  rw [hw] at h
  obtain ⟨bc, hc, h⟩ := Option.bind_eq_some_iff.1 h
  unfold sum_Covered.f at hc
  rw [if_pos (by omega)] at hc
  obtain rfl := Option.some.inj hc
  dsimp only at h
  rcases hcov : covB (a0.size : Int) (4 * off) cs with _ | _
  · rw [hcov, if_neg (by decide)] at h
    simp only [Option.some.injEq, Prod.mk.injEq] at h
    obtain ⟨rfl, rfl, rfl, rfl, rfl, rfl, rfl, rfl, rfl, rfl, rfl, rfl, rfl, rfl, rfl, rfl, rfl, rfl⟩ := h
    exact (pkt_Get_cov a0 (by omega) src dst off cc cs sum typ x seq ack serv code i0 i1 i2 hg hof.1 hof.2 hcov w).mono fun e w' hq => ⟨.slice none 0 0, hq.1, Kd.R_nil _ _ _ _ _, hq.2⟩
  rw [hcov, if_pos rfl] at h
  simp only [cond_true] at h
  by_cases c1 : 0 ≤ covN (a0.size : Int) (4 * off) cs
  case neg => rw [if_neg c1] at h; cases h
  rw [if_pos c1] at h
  by_cases c2 : covN (a0.size : Int) (4 * off) cs ≤ (a0.size : Int)
  case neg => rw [if_neg c2] at h; cases h
  rw [if_pos c2] at h
  obtain ⟨t, ht, h⟩ := Option.bind_eq_some_iff.1 h
  unfold sum_Of.f at ht
  split at ht
  case isFalse => cases ht
  have ht2 := Option.some.inj ht
  rw [show joined [a0.extract 0 (covN (a0.size : Int) (4 * off) cs).toNat] = (a0.extract 0 (covN (a0.size : Int) (4 * off) cs).toNat).data.toList from by simp [joined]] at ht2
  by_cases c3 : t = 0
  case neg =>
    rw [if_neg c3] at h
    simp only [Option.some.injEq, Prod.mk.injEq] at h
    obtain ⟨rfl, rfl, rfl, rfl, rfl, rfl, rfl, rfl, rfl, rfl, rfl, rfl, rfl, rfl, rfl, rfl, rfl, rfl⟩ := h
    exact (pkt_Get_sum a0 (by omega) src dst off cc cs sum typ x seq ack serv code i0 i1 i2 hg hof.1 hof.2 hcov (by omega) w).mono fun e w' hq => ⟨.slice none 0 0, hq.1, Kd.R_nil _ _ _ _ _, hq.2⟩
  rw [if_pos c3] at h
  have hS : Sum.sum (a0.extract 0 (covN (a0.size : Int) (4 * off) cs).toNat).data.toList = 0 := by omega
  obtain ⟨z, hz, h⟩ := Option.bind_eq_some_iff.1 h
  obtain rfl : sizeB typ x = z := Option.some.inj hz
  by_cases c4 : 0 ≤ sizeB typ x
  case neg => rw [if_neg c4] at h; cases h
  rw [if_pos c4] at h
  by_cases c5 : sizeB typ x ≤ 4 * off
  case neg => rw [if_neg c5] at h; cases h
  rw [if_pos c5] at h
  by_cases c6 : 4 * off ≤ (a0.size : Int)
  case neg => rw [if_neg c6] at h; cases h
  rw [if_pos c6] at h
  obtain ⟨⟨l, e2⟩, hog, h⟩ := Option.bind_eq_some_iff.1 h
  dsimp only at h
  by_cases c7 : e2 = 0
  case neg =>
    rw [if_neg c7] at h
    simp only [Option.some.injEq, Prod.mk.injEq] at h
    obtain ⟨rfl, rfl, rfl, rfl, rfl, rfl, rfl, rfl, rfl, rfl, rfl, rfl, rfl, rfl, rfl, rfl, rfl, rfl⟩ := h
    exact (pkt_Get_opts a0 (by omega) src dst off cc cs sum typ x seq ack serv code i0 i1 i2 hg hof.1 hof.2 hcov hS c5 c6 e2 c7 (fun W => (opt_Get.calls k _ l e2 W hog).mono fun e w' hq => by obtain ⟨v, h1, h2, h3⟩ := hq; exact ⟨v, h1, h3⟩) w).mono fun e w' hq => ⟨.slice none 0 0, hq.1, Kd.R_nil _ _ _ _ _, hq.2⟩
  subst c7
  rw [if_pos rfl, if_pos (show 0 ≤ 4 * off from by omega)] at h
  simp only [Option.some.injEq, Prod.mk.injEq] at h
  obtain ⟨rfl, rfl, rfl, rfl, rfl, rfl, rfl, rfl, rfl, rfl, rfl, rfl, rfl, rfl, rfl, rfl, rfl, rfl⟩ := h
  refine (pkt_Get_ok a0 (by omega) src dst off cc cs sum typ x seq ack serv code i0 i1 i2 hg hof.1 hof.2 hcov hS c5 c6 l.length (fun W B v => Kd.R k50 50 W B (fun _ => True) v l) ?_ (fun W => (opt_Get.calls k _ l 0 W hog).mono fun e w' hq => ?_) w).mono fun e w' hq => ?_
  · intro B w1 w2 v hr hsz hk
    exact Kd.R_mono (Kd.R_step (Kd.R_bound hr) (fun q hq hlt => hk q hq.2.1 hlt)) (fun _ _ => trivial)
  · obtain ⟨v, h1, h2, h3⟩ := hq
    obtain ⟨A, c, rfl⟩ := Kd.R_slice h2
    exact ⟨_, A, c, h1, rfl, h2, h3⟩
  · obtain ⟨v, A, c, B, h1, rfl, hB, hr, hb⟩ := hq
    exact ⟨_, h1, Kd.R_lower hr (by omega), hb⟩
end Go.Proofs.YtjlnbahanghhcaaGreatDoor.PkF

/- Small facts on numbers that the plain laws share. No walk. -/
namespace Go.Proofs.YtjlnbahanghhcaaGreatDoor
open Go.RowKit Go.Proofs.YtjlnbahanghhcaaGreatDoorW.PrintWords Go.Proofs.YtjlnbahanghhcaaGreatDoorW.PrintMore
set_option linter.unusedVariables false
theorem wfu64 {a : Int} (h : (Lit.int .u64 a).wf = true) : 0 ≤ a ∧ a < 18446744073709551616 := by
  have h' : 0 ≤ a ∧ a ≤ 18446744073709551615 := by simpa [Lit.wf, IntKind.min, IntKind.max, IntKind.signed, IntKind.bits] using h
  omega
theorem wfu32 {a : Int} (h : (Lit.int .u32 a).wf = true) : 0 ≤ a ∧ a < 4294967296 := by
  have h' : 0 ≤ a ∧ a ≤ 4294967295 := by simpa [Lit.wf, IntKind.min, IntKind.max, IntKind.signed, IntKind.bits] using h
  omega
theorem wfu8 {a : Int} (h : (Lit.int .u8 a).wf = true) : 0 ≤ a ∧ a < 256 := by
  have h' : 0 ≤ a ∧ a ≤ 255 := by simpa [Lit.wf, IntKind.min, IntKind.max, IntKind.signed, IntKind.bits] using h
  omega
theorem wrap64_eq (a : Int) : wrap64 a = (a + 9223372036854775808) % 18446744073709551616 - 9223372036854775808 := by unfold wrap64; omega
end Go.Proofs.YtjlnbahanghhcaaGreatDoor
