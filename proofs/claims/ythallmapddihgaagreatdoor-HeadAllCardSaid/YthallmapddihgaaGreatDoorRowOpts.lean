/- What comes in, opened: a slice of options; a head. For the laws' rows. No walk. -/
import Derived.Deep.SlicePairs
import Derived.ChangeArms
import Derived.ChangeSame
import Derived.WideShapes
import Derived.OpenShut
namespace Go.Proofs.YthallmapddihgaaGreatDoor
open Go Go.ChangeShapes Go.WideShapes Go.Deep
set_option linter.unusedVariables false

section
variable {H : Type} {enc : TypeId × Value → H} {P : Program} {w : World} {base : Nat} {spare : Nat → Bool} {held : Bool}
/-- A slice of structs of an int and a string: what its cells hold. -/
theorem open_opts {t e : TypeId} {f0 f1 : Field} {fuel : Nat} {cs : List Value} {x : DataW H × List MemPlace} (ht : P.underlying t = some (.slice e)) (he : P.underlying e = some (.struct #[f0, f1]))
    (ce : P.cellsOf e = 2) (o0 : f0.offset = 0) (o1 : f1.offset = 1) (c0 : P.cellsOf f0.type = 1) (c1 : P.cellsOf f1.type = 1) (h0 : P.underlying f0.type = some (.int .i64)) (h1 : P.underlying f1.type = some .string)
    (h : DataW.trod enc P w base spare held fuel t cs = some x) :
    cs = [.slice none 0 0] ∨ ∃ (a : Addr) (len cap : Nat) (T : Nat → Int) (D : Nat → ByteArray), cs = [.slice (some a) len cap] ∧ len ≤ cap ∧ cap ≤ maxLen ∧
      ∀ i, i < len → w.cell? (a.add (i * 2)) = some (.int .i64 (T i)) ∧ w.cell? (a.add (i * 2 + 1)) = some (.string (D i)) ∧ (Lit.int .i64 (T i)).wf = true := by
  rcases open_slice_pairs ht he ce o0 o1 c0 c1 h with ⟨hcs, _⟩ | ⟨a, len, cap, m, n, V0, V1, D0, D1, P0, P1, hcs, _, hl, hm, hmm, _, hi⟩
  · exact .inl hcs
  · have hlm : len ≤ m := by rw [hmm]; split <;> omega
    have each : ∀ i, i < len → ∃ q : Int × ByteArray, w.cell? (a.add (i * 2)) = some (.int .i64 q.1) ∧ w.cell? (a.add (i * 2 + 1)) = some (.string q.2) ∧ (Lit.int .i64 q.1).wf = true := by
      intro i him
      obtain ⟨e0, e1, t0, t1⟩ := hi i (Nat.lt_of_lt_of_le him hlm)
      obtain ⟨z, hz, _, hw⟩ := DataW.trod_int h0 t0
      obtain ⟨s, hs, _, _⟩ := DataW.trod_string h1 t1
      rw [(List.cons.inj hz).1] at e0
      rw [(List.cons.inj hs).1] at e1
      exact ⟨(z, s), e0, e1, hw⟩
    obtain ⟨q, hq⟩ := choose_lt each
    exact .inr ⟨a, len, cap, fun i => (q i).1, fun i => (q i).2, hcs, hl, hm, hq⟩
/-- A head: what its cells hold. -/
theorem open_head {t e : TypeId} {f0 f1 f2 f3 f4 f5 f6 f7 f8 f9 f10 f11 f12 : Field} {fuel : Nat} {cs : List Value} {x : DataW H × List MemPlace} (hs : P.underlying t = some (.struct #[f0, f1, f2, f3, f4, f5, f6, f7, f8, f9, f10, f11, f12])) (hC : P.cellsOf t = 15)
    (o0 : f0.offset = 0) (c0 : P.cellsOf f0.type = 1) (o1 : f1.offset = 1) (c1 : P.cellsOf f1.type = 1) (o2 : f2.offset = 2) (c2 : P.cellsOf f2.type = 1) (o3 : f3.offset = 3) (c3 : P.cellsOf f3.type = 1) (o4 : f4.offset = 4) (c4 : P.cellsOf f4.type = 1) (o5 : f5.offset = 5) (c5 : P.cellsOf f5.type = 1) (o6 : f6.offset = 6) (c6 : P.cellsOf f6.type = 1) (o7 : f7.offset = 7) (c7 : P.cellsOf f7.type = 1) (o8 : f8.offset = 8) (c8 : P.cellsOf f8.type = 1) (o9 : f9.offset = 9) (c9 : P.cellsOf f9.type = 1) (o10 : f10.offset = 10) (c10 : P.cellsOf f10.type = 1) (o11 : f11.offset = 11) (c11 : P.cellsOf f11.type = 1) (o12 : f12.offset = 12) (c12 : P.cellsOf f12.type = 3)
    (u0 : P.underlying f0.type = some (.int .i64)) (u1 : P.underlying f1.type = some (.int .i64)) (u2 : P.underlying f2.type = some (.int .i64)) (u3 : P.underlying f3.type = some (.int .i64)) (u4 : P.underlying f4.type = some (.int .i64)) (u5 : P.underlying f5.type = some (.int .i64)) (u6 : P.underlying f6.type = some (.int .i64)) (u7 : P.underlying f7.type = some .bool) (u8 : P.underlying f8.type = some (.int .u64)) (u9 : P.underlying f9.type = some (.int .u64)) (u10 : P.underlying f10.type = some (.int .u32)) (u11 : P.underlying f11.type = some (.int .i64)) (u12 : P.underlying f12.type = some (.array 3 e)) (ue : P.underlying e = some (.int .u8)) (ce : P.cellsOf e = 1)
    (h : DataW.trod enc P w base spare held fuel t cs = some x) :
    ∃ (n0 : Int) (n1 : Int) (n2 : Int) (n3 : Int) (n4 : Int) (n5 : Int) (n6 : Int) (n7 : Bool) (n8 : Int) (n9 : Int) (n10 : Int) (n11 : Int) (n12 : Int) (n13 : Int) (n14 : Int), cs = [.int .i64 n0, .int .i64 n1, .int .i64 n2, .int .i64 n3, .int .i64 n4, .int .i64 n5, .int .i64 n6, .bool n7, .int .u64 n8, .int .u64 n9, .int .u32 n10, .int .i64 n11, .int .u8 n12, .int .u8 n13, .int .u8 n14] ∧ (Lit.int .i64 n0).wf = true ∧ (Lit.int .i64 n1).wf = true ∧ (Lit.int .i64 n2).wf = true ∧ (Lit.int .i64 n3).wf = true ∧ (Lit.int .i64 n4).wf = true ∧ (Lit.int .i64 n5).wf = true ∧ (Lit.int .i64 n6).wf = true ∧ (Lit.int .u64 n8).wf = true ∧ (Lit.int .u64 n9).wf = true ∧ (Lit.int .u32 n10).wf = true ∧ (Lit.int .i64 n11).wf = true ∧ (Lit.int .u8 n12).wf = true ∧ (Lit.int .u8 n13).wf = true ∧ (Lit.int .u8 n14).wf = true := by
  obtain ⟨xs, n, _, _, hl, hlen, hg⟩ := DataW.trod_struct hs h
  rw [hC] at hl
  match cs, hl, xs, hlen with
  | [v0, v1, v2, v3, v4, v5, v6, v7, v8, v9, v10, v11, v12, v13, v14], _, [y0, y1, y2, y3, y4, y5, y6, y7, y8, y9, y10, y11, y12], _ =>
    have g0 := hg 0 f0 rfl
    rw [o0, c0] at g0
    have g1 := hg 1 f1 rfl
    rw [o1, c1] at g1
    have g2 := hg 2 f2 rfl
    rw [o2, c2] at g2
    have g3 := hg 3 f3 rfl
    rw [o3, c3] at g3
    have g4 := hg 4 f4 rfl
    rw [o4, c4] at g4
    have g5 := hg 5 f5 rfl
    rw [o5, c5] at g5
    have g6 := hg 6 f6 rfl
    rw [o6, c6] at g6
    have g7 := hg 7 f7 rfl
    rw [o7, c7] at g7
    have g8 := hg 8 f8 rfl
    rw [o8, c8] at g8
    have g9 := hg 9 f9 rfl
    rw [o9, c9] at g9
    have g10 := hg 10 f10 rfl
    rw [o10, c10] at g10
    have g11 := hg 11 f11 rfl
    rw [o11, c11] at g11
    have g12 := hg 12 f12 rfl
    rw [o12, c12] at g12
    have g0 : DataW.trod enc P w base spare held n f0.type [v0] = some y0 := g0
    obtain ⟨n0, e0, _, w0⟩ := DataW.trod_int u0 g0
    injection e0 with e0
    subst e0
    have g1 : DataW.trod enc P w base spare held n f1.type [v1] = some y1 := g1
    obtain ⟨n1, e1, _, w1⟩ := DataW.trod_int u1 g1
    injection e1 with e1
    subst e1
    have g2 : DataW.trod enc P w base spare held n f2.type [v2] = some y2 := g2
    obtain ⟨n2, e2, _, w2⟩ := DataW.trod_int u2 g2
    injection e2 with e2
    subst e2
    have g3 : DataW.trod enc P w base spare held n f3.type [v3] = some y3 := g3
    obtain ⟨n3, e3, _, w3⟩ := DataW.trod_int u3 g3
    injection e3 with e3
    subst e3
    have g4 : DataW.trod enc P w base spare held n f4.type [v4] = some y4 := g4
    obtain ⟨n4, e4, _, w4⟩ := DataW.trod_int u4 g4
    injection e4 with e4
    subst e4
    have g5 : DataW.trod enc P w base spare held n f5.type [v5] = some y5 := g5
    obtain ⟨n5, e5, _, w5⟩ := DataW.trod_int u5 g5
    injection e5 with e5
    subst e5
    have g6 : DataW.trod enc P w base spare held n f6.type [v6] = some y6 := g6
    obtain ⟨n6, e6, _, w6⟩ := DataW.trod_int u6 g6
    injection e6 with e6
    subst e6
    have g7 : DataW.trod enc P w base spare held n f7.type [v7] = some y7 := g7
    obtain ⟨n7, e7, _⟩ := DataW.trod_bool u7 g7
    injection e7 with e7
    subst e7
    have g8 : DataW.trod enc P w base spare held n f8.type [v8] = some y8 := g8
    obtain ⟨n8, e8, _, w8⟩ := DataW.trod_int u8 g8
    injection e8 with e8
    subst e8
    have g9 : DataW.trod enc P w base spare held n f9.type [v9] = some y9 := g9
    obtain ⟨n9, e9, _, w9⟩ := DataW.trod_int u9 g9
    injection e9 with e9
    subst e9
    have g10 : DataW.trod enc P w base spare held n f10.type [v10] = some y10 := g10
    obtain ⟨n10, e10, _, w10⟩ := DataW.trod_int u10 g10
    injection e10 with e10
    subst e10
    have g11 : DataW.trod enc P w base spare held n f11.type [v11] = some y11 := g11
    obtain ⟨n11, e11, _, w11⟩ := DataW.trod_int u11 g11
    injection e11 with e11
    subst e11
    have g12 : DataW.trod enc P w base spare held n f12.type [v12, v13, v14] = some y12 := g12
    obtain ⟨zs, m, _, _, _, hzl, hz⟩ := DataW.trod_array u12 g12
    match zs, hzl with
    | [z0, z1, z2], _ =>
      have a0 := hz 0 (by decide)
      rw [ce] at a0
      have a0 : DataW.trod enc P w base spare held m e [v12] = some z0 := a0
      obtain ⟨n12, e12, _, w12⟩ := DataW.trod_int ue a0
      injection e12 with e12
      subst e12
      have a1 := hz 1 (by decide)
      rw [ce] at a1
      have a1 : DataW.trod enc P w base spare held m e [v13] = some z1 := a1
      obtain ⟨n13, e13, _, w13⟩ := DataW.trod_int ue a1
      injection e13 with e13
      subst e13
      have a2 := hz 2 (by decide)
      rw [ce] at a2
      have a2 : DataW.trod enc P w base spare held m e [v14] = some z2 := a2
      obtain ⟨n14, e14, _, w14⟩ := DataW.trod_int ue a2
      injection e14 with e14
      subst e14
      exact ⟨n0, n1, n2, n3, n4, n5, n6, n7, n8, n9, n10, n11, n12, n13, n14, rfl, w0, w1, w2, w3, w4, w5, w6, w8, w9, w10, w11, w12, w13, w14⟩
end
end Go.Proofs.YthallmapddihgaaGreatDoor
