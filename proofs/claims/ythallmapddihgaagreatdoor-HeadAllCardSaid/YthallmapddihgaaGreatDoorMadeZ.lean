/- 'make([]byte, n)' and its text: n noughts; a row of bytes read as a text. -/
import Derived.Test.YthallmapddihgaaGreatDoorRaw
import Derived.Test.YthallmapddihgaaGreatDoorBaseA
import Derived.Laws.MakeOwn
namespace Go.Proofs.YthallmapddihgaaGreatDoor
open Go.RowKit
set_option linter.unusedVariables false
set_option linter.unusedSimpArgs false
theorem bytes_text {w : World} {b cap n : Nat} {l : List Int} (hr : ∀ j (h : j < l.length), w.cell? ⟨b, j, none⟩ = some (.int .u8 l[j])) (hn : n = l.length) : (convert 36 9 (.slice (some ⟨b, 0, none⟩) n cap)).run Tryz.prog w = .ok (.string (strOfNums l)) w := by
  subst hn
  rw [run_convert_bytes_string w 36 9 5 (some ⟨b, 0, none⟩) l.length cap Tryz.underlying36 Tryz.underlying5 Tryz.underlying9]
  have hl := run_loadCells_list (P := Tryz.prog) w ⟨b, 0, none⟩ (l.map (Value.int .u8)) (fun j v hj => by
    have hj' : j < l.length := by
      have := (List.getElem?_eq_some_iff.1 hj).1
      simpa using this
    have e : (Addr.add ⟨b, 0, none⟩ j) = ⟨b, j, none⟩ := by unfold Addr.add; split <;> simp_all
    rw [e, hr j hj']
    simp [List.getElem?_eq_getElem hj'] at hj
    rw [← hj])
  simp only [List.length_map] at hl
  rw [run_bytesToString w _ l.length cap _ hl, foldl_push_bytes]
  have he0 : ByteArray.empty.data = #[] := rfl
  rw [he0]
  simp [strOfNums]
def zcn (n : Nat) : Obj := .cells (madeCells #[Value.int .u8 0] n) 5
theorem made_at (n j : Nat) (h : j < n) : (madeCells #[Value.int .u8 0] n)[j]? = some (.int .u8 0) := by
  unfold madeCells
  rw [Array.getElem?_map, Array.getElem?_range, if_pos h]
  simp [Nat.mod_one]
theorem made_cell {w : World} {b n : Nat} (h : w.heap[b]? = some (zcn n)) (j : Nat) (hj : j < n) : w.cell? ⟨b, j, none⟩ = some (.int .u8 0) := by
  unfold World.cell?
  rw [h]
  exact made_at n j hj
theorem made_text {w : World} {b n : Nat} (h : w.heap[b]? = some (zcn n)) : (convert 36 9 (.slice (some ⟨b, 0, none⟩) n n)).run Tryz.prog w = .ok (.string (strOfNums (List.replicate n 0))) w := by
  refine bytes_text (fun j hj => ?_) (by rw [List.length_replicate])
  rw [List.getElem_replicate]
  exact made_cell h j (by rw [List.length_replicate] at hj; exact hj)
theorem make_n (n : Nat) (hn : n ≤ 100000) (W : World) : (Instr.makeSlice 36 (.int .i64 n) (.int .i64 n)).run Tryz.prog W = .ok (.slice (some ⟨W.heap.size, 0, none⟩) n n) (W.alloc (zcn n)) := by
  have h := run_makeSlice (P := Tryz.prog) (w := W) 36 5 Tryz.t5 (.int .u8 0) Tryz.underlying36 (by kernel_rfl) (by kernel_rfl) .i64 .i64 (n : Int) (n : Int) (by omega) (by omega) (by show (n : Int).toNat * 1 ≤ _; omega) (by show ((1 : Nat) : Int) * (n : Int) ≤ _; omega) (by omega)
  rw [Int.toNat_natCast, show n * (Tryz.t5).size = n from Nat.mul_one n] at h
  exact h
/-- block b is a row of n noughts. -/
def MadeZ (n : Nat) (w : World) (b : Nat) : Prop := w.heap[b]? = some (zcn n)
theorem MadeZ.new (n : Nat) (w : World) : MadeZ n (w.alloc (zcn n)) w.heap.size := by
  show (w.heap.push (zcn n))[w.heap.size]? = _
  rw [Array.getElem?_push_size]
theorem MadeZ.below {n : Nat} {w w' : World} {b B : Nat} (h : MadeZ n w b) (hb : Below B w w') (hB : b < B) : MadeZ n w' b := (hb.block b hB).trans h
theorem MadeZ.text {n : Nat} {w : World} {b : Nat} (h : MadeZ n w b) : (convert 36 9 (.slice (some ⟨b, 0, none⟩) n n)).run Tryz.prog w = .ok (.string (strOfNums (List.replicate n 0))) w := made_text h
end Go.Proofs.YthallmapddihgaaGreatDoor
