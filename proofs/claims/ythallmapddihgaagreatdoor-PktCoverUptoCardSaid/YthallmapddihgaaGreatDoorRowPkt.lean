/- A packet that comes in, opened; what the bound on the input's bulk says of it. For the laws' rows. No walk. -/
import Derived.Test.YthallmapddihgaaGreatDoorRowOpts
import Derived.Test.YthallmapddihgaaGreatDoorRows
import Derived.Test.YthallmapddihgaaGreatDoorBaseD
namespace Go.Proofs.YthallmapddihgaaGreatDoor
open Go Go.ChangeShapes Go.WideShapes Go.Deep
set_option linter.unusedVariables false

theorem bulk_mem {H : Type} {d : DataW H} {l : List (DataW H)} (h : d ∈ l) : Rows.uptoBulk d ≤ Rows.uptoBulkAll l := by
  induction l with
  | nil => cases h
  | cons x r ih =>
    simp only [Rows.uptoBulkAll]
    rcases List.mem_cons.1 h with e | e
    · subst e; omega
    · have := ih e; omega
theorem bulk_pos {H : Type} (d : DataW H) : 1 ≤ Rows.uptoBulk d := by
  cases d with
  | lit l => cases l <;> simp [Rows.uptoBulk]
  | nil => simp [Rows.uptoBulk]
  | ptr d => simp [Rows.uptoBulk]
  | slice elems spare => simp [Rows.uptoBulk]
  | agg parts => simp [Rows.uptoBulk]
  | iface t d => simp [Rows.uptoBulk]
  | map entries => simp [Rows.uptoBulk]
  | held h => simp [Rows.uptoBulk]
theorem bulk_len {H : Type} (l : List (DataW H)) : l.length ≤ Rows.uptoBulkAll l := by
  induction l with
  | nil => simp [Rows.uptoBulkAll]
  | cons x r ih => have := bulk_pos x; simp only [Rows.uptoBulkAll, List.length_cons]; omega
section
variable {H : Type} {enc : TypeId × Value → H} {P : Program} {w : World} {base : Nat} {spare : Nat → Bool} {held : Bool}
theorem open_pkt {t : TypeId} {g0 g1 g2 : Field} {fuel : Nat} {cs : List Value} {x : DataW H × List MemPlace} (hs : P.underlying t = some (.struct #[g0, g1, g2])) (hC : P.cellsOf t = 17)
    (o0 : g0.offset = 0) (c0 : P.cellsOf g0.type = 15) (o1 : g1.offset = 15) (c1 : P.cellsOf g1.type = 1) (o2 : g2.offset = 16) (c2 : P.cellsOf g2.type = 1) (u2 : P.underlying g2.type = some .string)
    (h : DataW.trod enc P w base spare held fuel t cs = some x) :
    ∃ (hc : List Value) (v : Value) (s : ByteArray) (y0 y1 : DataW H × List MemPlace) (n : Nat), cs = hc ++ [v, .string s] ∧ DataW.trod enc P w base spare held n g0.type hc = some y0 ∧ DataW.trod enc P w base spare held n g1.type [v] = some y1 ∧
      Rows.uptoBulk y1.1 ≤ Rows.uptoBulk x.1 ∧ s.size ≤ Rows.uptoBulk x.1 := by
  obtain ⟨xs, n, _, hx, hl, hlen, hg⟩ := DataW.trod_struct hs h
  rw [hC] at hl
  have d0 := hg 0 g0 rfl
  rw [o0, c0] at d0
  have d1 := hg 1 g1 rfl
  rw [o1, c1] at d1
  have d2 := hg 2 g2 rfl
  rw [o2, c2] at d2
  match xs, hlen with
  | [y0, y1, y2], _ =>
    obtain ⟨v, hv⟩ : ∃ v, (cs.drop 15).take 1 = [v] := by
      have : ((cs.drop 15).take 1).length = 1 := by rw [List.length_take, List.length_drop]; omega
      match hq : (cs.drop 15).take 1, this with
      | [v], _ => exact ⟨v, rfl⟩
    have d2 : DataW.trod enc P w base spare held n g2.type ((cs.drop 16).take 1) = some y2 := d2
    obtain ⟨s, hs2, hy2, _⟩ := DataW.trod_string u2 d2
    have d1 : DataW.trod enc P w base spare held n g1.type ((cs.drop 15).take 1) = some y1 := d1
    rw [hv] at d1
    have d0 : DataW.trod enc P w base spare held n g0.type ((cs.drop 0).take 15) = some y0 := d0
    rw [List.drop_zero] at d0
    refine ⟨cs.take 15, v, s, y0, y1, n, ?_, d0, d1, ?_, ?_⟩
    · have e1 : cs = cs.take 15 ++ cs.drop 15 := (List.take_append_drop 15 cs).symm
      have e2 : cs.drop 15 = (cs.drop 15).take 1 ++ (cs.drop 15).drop 1 := (List.take_append_drop 1 _).symm
      have e3 : (cs.drop 15).drop 1 = (cs.drop 16).take 1 := by
        rw [List.drop_drop, List.take_of_length_le (by rw [List.length_drop]; omega)]
      rw [hv, e3, hs2] at e2
      rw [e2] at e1
      exact e1
    · rw [hx]
      simp only [Rows.uptoBulk, List.map_cons, List.map_nil, Rows.uptoBulkAll]
      omega
    · rw [hx]
      simp only [Rows.uptoBulk, List.map_cons, List.map_nil, Rows.uptoBulkAll, hy2, Array.length_toList]
      show s.data.size ≤ _
      omega
/-- a slice of options: what its cells hold, and that none is larger than the whole. -/
theorem open_optsB {t e : TypeId} {f0 f1 : Field} {fuel : Nat} {cs : List Value} {x : DataW H × List MemPlace} (ht : P.underlying t = some (.slice e)) (he : P.underlying e = some (.struct #[f0, f1]))
    (ce : P.cellsOf e = 2) (o0 : f0.offset = 0) (o1 : f1.offset = 1) (c0 : P.cellsOf f0.type = 1) (c1 : P.cellsOf f1.type = 1) (h0 : P.underlying f0.type = some (.int .i64)) (h1 : P.underlying f1.type = some .string)
    (h : DataW.trod enc P w base spare held fuel t cs = some x) :
    ∃ (A : Option Addr) (cap : Nat) (os : List Op), cs = [.slice A os.length cap] ∧ os.length ≤ cap ∧ os.length ≤ Rows.uptoBulk x.1 ∧ (∀ o, o ∈ os → o.data.size ≤ Rows.uptoBulk x.1) ∧ (∀ o, o ∈ os → (Lit.int .i64 o.typ).wf = true) ∧
      ∀ k u, (ocells os)[k]? = some u → ∃ ad : Addr, A = some ad ∧ w.cell? (ad.add k) = some u := by
  rcases open_slice_pairs ht he ce o0 o1 c0 c1 h with ⟨hcs, _⟩ | ⟨a, len, cap, m, n, V0, V1, D0, D1, P0, P1, hcs, _, hl, hm, hmm, hx, hi⟩
  · exact ⟨none, 0, [], hcs, Nat.le_refl _, Nat.zero_le _, (fun o ho => by cases ho), (fun o ho => by cases ho), (fun k u hk => by cases hk)⟩
  · have hlm : len ≤ m := by rw [hmm]; split <;> omega
    have hbl : len ≤ Rows.uptoBulk x.1 := by
      rw [hx]
      simp only [Rows.uptoBulk]
      have := bulk_len ((List.range len).map fun i => (DataW.agg [D0 i, D1 i] : DataW H))
      rw [List.length_map, List.length_range] at this
      omega
    have each : ∀ i, i < len → ∃ q : Int × ByteArray, w.cell? (a.add (i * 2)) = some (.int .i64 q.1) ∧ w.cell? (a.add (i * 2 + 1)) = some (.string q.2) ∧ (Lit.int .i64 q.1).wf = true ∧ q.2.size ≤ Rows.uptoBulk x.1 := by
      intro i him
      obtain ⟨e0, e1, t0, t1⟩ := hi i (Nat.lt_of_lt_of_le him hlm)
      obtain ⟨z, hz, _, hw⟩ := DataW.trod_int h0 t0
      obtain ⟨s, hs, hs2, _⟩ := DataW.trod_string h1 t1
      rw [(List.cons.inj hz).1] at e0
      rw [(List.cons.inj hs).1] at e1
      refine ⟨(z, s), e0, e1, hw, ?_⟩
      have hD : D1 i = .lit (.string s.data.toList) := congrArg Prod.fst hs2
      have hmem : (DataW.agg [D0 i, D1 i] : DataW H) ∈ (List.range len).map fun i => (DataW.agg [D0 i, D1 i] : DataW H) := List.mem_map.2 ⟨i, List.mem_range.2 him, rfl⟩
      have hb := bulk_mem hmem
      rw [hx]
      simp only [Rows.uptoBulk, Rows.uptoBulkAll, hD, Array.length_toList] at hb ⊢
      show s.data.size ≤ _
      omega
    obtain ⟨q, hq⟩ := choose_lt each
    have hle : ((List.range len).map fun i => (⟨(q i).1, (q i).2⟩ : Op)).length = len := by simp
    refine ⟨some a, cap, (List.range len).map fun i => ⟨(q i).1, (q i).2⟩, by rw [hle]; exact hcs, by rw [hle]; exact hl, by rw [hle]; exact hbl, ?_, ?_, ?_⟩
    · intro o ho
      obtain ⟨i, hi', rfl⟩ := List.mem_map.1 ho
      exact (hq i (List.mem_range.1 hi')).2.2.2
    · intro o ho
      obtain ⟨i, hi', rfl⟩ := List.mem_map.1 ho
      exact (hq i (List.mem_range.1 hi')).2.2.1
    · intro k u hk
      refine ⟨a, rfl, ?_⟩
      have hkl : k < 2 * len := by
        have := (List.getElem?_eq_some_iff.1 hk).1
        rw [ocells_len, hle] at this; exact this
      have hi2 : k / 2 < len := by omega
      have hat := ocells_at ((List.range len).map fun i => (⟨(q i).1, (q i).2⟩ : Op)) (k / 2) (by rw [hle]; exact hi2)
      rw [List.getElem_map, List.getElem_range] at hat
      obtain ⟨q0, q1, _⟩ := hq (k / 2) hi2
      rcases Nat.mod_two_eq_zero_or_one k with hm | hm
      · have h2 := hat.1
        rw [show k / 2 * 2 = k from by omega, hk] at h2
        have ha : a.add k = a.add (k / 2 * 2) := congrArg _ (by omega)
        rw [Option.some.inj h2, ha]; exact q0
      · have h2 := hat.2
        rw [show k / 2 * 2 + 1 = k from by omega, hk] at h2
        have ha : a.add k = a.add (k / 2 * 2 + 1) := congrArg _ (by omega)
        rw [Option.some.inj h2, ha]; exact q1
end
/-- how many bytes options take at the most. -/
theorem obs_le (B : Nat) : ∀ os : List Op, (∀ o, o ∈ os → o.data.size ≤ B) → (obs os).length ≤ os.length * (B + 2)
  | [], _ => by simp [obs]
  | o :: r, h => by
    have ih := obs_le B r (fun o ho => h o (List.mem_cons_of_mem _ ho))
    have h1 := h o List.mem_cons_self
    have e : obs (o :: r) = ob o ++ obs r := rfl
    have h2 : (ob o).length ≤ o.data.size + 2 := by
      unfold ob
      split
      · simp only [List.length_cons, nb_len]; omega
      · simp
    rw [e, List.length_append, List.length_cons, Nat.add_mul]
    omega
end Go.Proofs.YthallmapddihgaaGreatDoor
