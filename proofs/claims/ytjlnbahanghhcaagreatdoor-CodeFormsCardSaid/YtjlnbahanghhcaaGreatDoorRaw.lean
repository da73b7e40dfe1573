/- '[]byte(s)' that is written and turned back: a block whose first cells are bytes; it bears the mark of such a row behind its cells. -/
import Derived.Test.YtjlnbahanghhcaaGreatDoorBaseA
import Derived.Laws.IdiomStrings
import Derived.Laws.BytesArg
namespace Go.Proofs.YtjlnbahanghhcaaGreatDoor
open Go.RowKit
set_option linter.unusedVariables false
set_option linter.unusedSimpArgs false

/-- block b's first cells are the bytes l; none of its cells is frozen. -/
def Raw (w : World) (b : Nat) (l : List Int) : Prop := ∃ row : Array Value, w.heap[b]? = some (.cells row 5 (row.size, row.size + 1)) ∧ l.length ≤ row.size ∧ ∀ j (h : j < l.length), row[j]? = some (.int .u8 l[j])
section
variable {w w' : World} {b : Nat} {l : List Int}
theorem Raw.lt (h : Raw w b l) : b < w.heap.size := by obtain ⟨row, hr, _⟩ := h; exact (Array.getElem?_eq_some_iff.1 hr).1
theorem Raw.keep (h : Raw w b l) (hk : w'.heap[b]? = w.heap[b]?) : Raw w' b l := by obtain ⟨row, hr, h1, h2⟩ := h; exact ⟨row, hk.trans hr, h1, h2⟩
theorem Raw.drew (h : Raw w b l) : Raw w.drew b l := h
theorem Raw.drewN (h : Raw w b l) (n : Nat) : Raw (w.drewN n) b l := h
theorem Raw.alloc (h : Raw w b l) (o : Obj) : Raw (w.alloc o) b l := h.keep (by
  show (w.heap.push o)[b]? = _
  rw [Array.getElem?_push_lt h.lt, Array.getElem?_eq_getElem h.lt])
theorem Raw.below {B : Nat} (h : Raw w b l) (hb : Below B w w') (hB : b < B) : Raw w' b l := h.keep (hb.block b hB)
theorem Raw.cell (h : Raw w b l) (j : Nat) (hj : j < l.length) : w.cell? ⟨b, j, none⟩ = some (.int .u8 l[j]) := by
  obtain ⟨row, hr, h1, h2⟩ := h
  unfold World.cell?
  rw [hr]; simpa using h2 j hj
theorem Raw.frozen (h : Raw w b l) (j : Nat) (hj : j < l.length) : w.frozen? ⟨b, j, none⟩ = false := by
  obtain ⟨row, hr, h1, h2⟩ := h
  unfold World.frozen?
  rw [hr]; simp; omega
theorem Raw.setCell (h : Raw w b l) (k : Nat) (hk : k < l.length) (v : Int) : Raw (w.setCell ⟨b, k, none⟩ (.int .u8 v)) b (l.set k v) := by
  obtain ⟨row, hr, h1, h2⟩ := h
  have hlt := (Array.getElem?_eq_some_iff.1 hr).1
  refine ⟨row.set! k (.int .u8 v), ?_, by simpa using h1, fun j hj => ?_⟩
  · unfold World.setCell
    simp only
    have e := (Array.getElem?_eq_some_iff.1 hr).2
    rw [Array.getElem?_modify, if_pos rfl, hr]
    simp
  · rw [List.length_set] at hj
    have hk2 : k < row.size := by omega
    rw [Array.set!_eq_setIfInBounds, Array.getElem?_setIfInBounds]
    by_cases e : k = j
    · subst e; simp [hk2]
    · rw [if_neg e, h2 j hj]; simp [e]
theorem Raw.new (w : World) (s : ByteArray) (cap : Nat) (t : TypeId) (ht : t = 5) : Raw (w.drew.alloc (.cells (bytesRow s cap) t ((bytesRow s cap).size, (bytesRow s cap).size + 1))) w.heap.size (s.data.toList.map fun c => (c.toNat : Int)) := by
  subst ht
  refine ⟨bytesRow s cap, ?_, by simp [bytesRow], fun j hj => ?_⟩
  · show (w.heap.push _)[w.heap.size]? = _
    simp
  · have hj' : j < s.data.size := by simpa using hj
    rw [bytesRow_at s cap j hj']; simp
end
section
variable {w : World} {ops : Array Oper} {rest : List Oper} {o : Oper} {a : Act} {Q : Exit → Act → World → Prop}
set_option maxRecDepth 100000 in
theorem wpList_bytes_of (hgd : o.guard = none) (x : Operand) (ho : o.op = .convert 9 35 x) (s : ByteArray) (hx : a.eval x = .string s)
    (h : ∀ cap w', Raw w' w.heap.size (s.data.toList.map fun c => (c.toNat : Int)) → Below w.heap.size w w' → w'.heap.size = w.heap.size + 1 → wpList Tryz.prog ops Q rest (a.put o.dst (.slice (some ⟨w.heap.size, 0, none⟩) s.size cap)) w') : wpList Tryz.prog ops Q (o :: rest) a w := by
  refine wpList_plain hgd fun K hK => ?_
  unfold Oper.wp execOp
  simp only [ho, Sem.run_bind, Sem.run_pure, Result.andThen_ok, hx, run_bytes_of_string w 9 35 5 s Tryz.underlying9 Tryz.underlying35 Tryz.underlying5]
  refine hK _ _ (h _ _ (Raw.new w s _ _ rfl) ?_ (by show (w.heap.push _).size = _; simp))
  exact (Below.refl w.heap.size w).drew.alloc (Nat.le_refl _) _
theorem run_bytes_back (w : World) (b cap : Nat) (l : List Int) (hr : Raw w b l) : (convert 35 9 (.slice (some ⟨b, 0, none⟩) l.length cap)).run Tryz.prog w = .ok (.string (strOfNums l)) w := by
  rw [run_convert_bytes_string w 35 9 5 (some ⟨b, 0, none⟩) l.length cap Tryz.underlying35 Tryz.underlying5 Tryz.underlying9]
  have hl := run_loadCells_list (P := Tryz.prog) w ⟨b, 0, none⟩ (l.map (Value.int .u8)) (fun j v hj => by
    have hj' : j < l.length := by
      have := (List.getElem?_eq_some_iff.1 hj).1
      simpa using this
    have e : (Addr.add ⟨b, 0, none⟩ j) = ⟨b, j, none⟩ := by unfold Addr.add; split <;> simp_all
    rw [e, hr.cell j hj']
    simp [List.getElem?_eq_getElem hj'] at hj
    rw [← hj])
  simp only [List.length_map] at hl
  rw [run_bytesToString w _ l.length cap _ hl, foldl_push_bytes]
  have he0 : ByteArray.empty.data = #[] := rfl
  rw [he0]
  simp [strOfNums]
set_option maxRecDepth 100000 in
theorem wpList_bytes_back (hgd : o.guard = none) (x : Operand) (ho : o.op = .convert 35 9 x) (b cap n : Nat) (l : List Int) (hn : n = l.length) (hx : a.eval x = .slice (some ⟨b, 0, none⟩) n cap) (hr : Raw w b l)
    (h : wpList Tryz.prog ops Q rest (a.put o.dst (.string (strOfNums l))) w) : wpList Tryz.prog ops Q (o :: rest) a w := by
  subst hn
  refine wpList_plain hgd fun K hK => ?_
  unfold Oper.wp execOp
  simp only [ho, Sem.run_bind, Sem.run_pure, Result.andThen_ok, hx, run_bytes_back w b cap l hr]
  exact hK _ _ h
end
section
variable {w : World} {ops : Array Oper} {o : Oper} {a : Act} {K : Act → World → Prop} {Q : Exit → Act → World → Prop} {E : Prop}
set_option maxRecDepth 100000 in
theorem step_bytes_back (hgd : o.guard = none) (x : Operand) (ho : o.op = .convert 35 9 x) (b cap n : Nat) (l : List Int) (hn : n = l.length) (hx : a.eval x = .slice (some ⟨b, 0, none⟩) n cap) (hr : Raw w b l)
    (h : K (a.put o.dst (.string (strOfNums l))) w) : if Region.wanted o (yielded ops a.tmps) = true then Oper.wp Tryz.prog o a w K Q else E := by
  rw [if_pos (by simp [Region.wanted, hgd])]
  subst hn
  unfold Oper.wp execOp
  simp only [ho, Sem.run_bind, Sem.run_pure, Result.andThen_ok, hx, run_bytes_back w b cap l hr]
  exact h
end
/-- the same, with the text that it reads as: a walk's simp takes 'raw_run' by 'attribute [local go_sem]'. -/
def RawS (w : World) (b n : Nat) (u : ByteArray) : Prop := ∃ l, Raw w b l ∧ l.length = n ∧ strOfNums l = u
theorem RawS.alloc {w : World} {b n : Nat} {u : ByteArray} (h : RawS w b n u) (o : Obj) : RawS (w.alloc o) b n u := by obtain ⟨l, h1, h2⟩ := h; exact ⟨l, h1.alloc o, h2⟩
theorem RawS.alloc2 {w : World} {b n : Nat} {u : ByteArray} (h : RawS w b n u) (o o' : Obj) : RawS ((w.alloc o).alloc o') b n u := (h.alloc o).alloc o'
theorem RawS.drew {w : World} {b n : Nat} {u : ByteArray} : RawS w.drew b n u = RawS w b n u := propext ⟨fun h => h, fun h => h⟩
theorem raw_run {w : World} {b n cap : Nat} {u : ByteArray} (h : RawS w b n u) : (convert 35 9 (.slice (some ⟨b, 0, none⟩) n cap)).run Tryz.prog w = .ok (.string u) w := by
  obtain ⟨l, h1, rfl, rfl⟩ := h; exact run_bytes_back w b cap l h1
end Go.Proofs.YtjlnbahanghhcaaGreatDoor
