/- sum.Fits at one part of an even length; strings.Join at one part. -/
import Derived.Test.YtjpjdfebkghllaaGreatDoorRaw
import Derived.Test.YtjpjdfebkghllaaGreatDoorBaseA
import Derived.Test.YtjpjdfebkghllaaGreatDoorPureKit
import Derived.StillTailTactics
import Derived.Deep.AppendLies
import Derived.Laws.BitsLemmas
import Derived.Deep.DeepCutAuto
import Derived.IntWalk
import Derived.Deep.OwnRows
import Derived.Deep.RegionLaw
import Derived.Deep.CutBlock
namespace Go.Proofs.YtjpjdfebkghllaaGreatDoor
open Go.RowKit
set_option linter.unusedVariables false
set_option linter.unusedSimpArgs false

set_option maxHeartbeats 2000000 in
set_option maxRecDepth 100000 in
theorem Join_one (s sep : ByteArray) (b : Nat) (W : World) (hb : W.cell? ⟨b, 0, none⟩ = some (.string s)) :
    Calls Tryz.prog 51 #[.slice (some ⟨b, 0, none⟩) 1 1, .string sep] W fun e w' => e = .returned (.string s) ∧ W = w' := by
  go_enter Tryz.func51, Tryz.ntmps51
  go_wp2
  go_ret
  exact ⟨rfl, rfl⟩

theorem sum_two (s u : ByteArray) (h : s.size + u.size ≤ 140737488355328) (W : World) (b : Nat) (hb : W.cell? ⟨b, 0, none⟩ = some (.string s)) (hb1 : W.cell? ⟨b, 1, none⟩ = some (.string u)) :
    Calls Tryz.prog 26 #[.slice (some ⟨b, 0, none⟩) 2 2] W fun e w' => e = .returned (.int .i64 (Sum.sum (s.data.toList ++ u.data.toList) : Nat)) ∧ W = w' := by
  have h := sum_Of (some ⟨b, 0, none⟩) 2 (b + 1) [s, u] W (fun k v hv => ⟨_, rfl, by simp, by
    match k, hv with
    | 0, hv => simp at hv; subst hv; exact hb
    | 1, hv => simp at hv; subst hv; simpa [Addr.add] using hb1⟩) (by simpa [joined, size_bytes] using h) (by simp)
  rwa [show joined [s, u] = s.data.toList ++ u.data.toList from by simp [joined]] at h

theorem cell_new (w : World) (row : Array Value) (t : TypeId) (p : Nat × Nat) (j : Nat) (v : Value) (h : row[j]? = some v) : (w.alloc (.cells row t p)).cell? ⟨w.heap.size, j, none⟩ = some v := by
  have e : (w.alloc (.cells row t p)).heap[w.heap.size]? = some (.cells row t p) := by
    show (w.heap.push _)[w.heap.size]? = _
    rw [Array.getElem?_push_size]
  unfold World.cell?
  rw [e]; exact h
theorem cell_new2 (w : World) (o : Obj) (row : Array Value) (t : TypeId) (p : Nat × Nat) (j : Nat) (v : Value) (h : row[j]? = some v) : ((w.alloc o).alloc (.cells row t p)).cell? ⟨w.heap.size + 1, j, none⟩ = some v := by
  have e := cell_new (w.alloc o) row t p j v h
  rwa [show (w.alloc o).heap.size = w.heap.size + 1 from by show (w.heap.push _).size = _; simp] at e
theorem run_two (w : World) (b : Nat) (x y : Int) (h0 : w.cell? ⟨b, 0, none⟩ = some (.int .u8 x)) (h1 : w.cell? ⟨b, 1, none⟩ = some (.int .u8 y)) : (convert 30 9 (.slice (some ⟨b, 0, none⟩) 2 2)).run Tryz.prog w = .ok (.string (strOfNums [x, y])) w := by
  rw [run_convert_bytes_string w 30 9 5 (some ⟨b, 0, none⟩) 2 2 Tryz.underlying30 Tryz.underlying5 Tryz.underlying9]
  have hl := run_loadCells_list (P := Tryz.prog) w ⟨b, 0, none⟩ ([x, y].map (Value.int .u8)) (fun j v hj => by
    match j, hj with
    | 0, hj => simp at hj; subst hj; simpa [Addr.add] using h0
    | 1, hj => simp at hj; subst hj; simpa [Addr.add] using h1)
  simp only [List.length_map, List.length_cons, List.length_nil] at hl
  rw [run_bytesToString w _ 2 2 _ hl, foldl_push_bytes]
  have he0 : ByteArray.empty.data = #[] := rfl
  rw [he0]
  simp [strOfNums]

set_option maxHeartbeats 2000000 in
set_option maxRecDepth 100000 in
theorem Fits_walk (s : ByteArray) (he : s.size % 2 = 0) (hs : s.size ≤ 1000) (x : Nat) (hx : x ≤ 65535) (B : Nat) (W : World) (hb : W.cell? ⟨B, 0, none⟩ = some (.string s)) :
    Calls Tryz.prog 27 #[.int .i64 x, .slice (some ⟨B, 0, none⟩) 1 1] W fun e w' => e = .returned (.bool (((Sum.sum (s.data.toList ++ [UInt8.ofNat (x / 256), UInt8.ofNat (x % 256)]) : Nat) : Int) == 0)) ∧ Below W.heap.size W w' := by
  have HJ := Join_one s ByteArray.empty B W hb
  have hr2 := run_two (W.alloc (Obj.cells #[Value.int IntKind.u8 ((x : Int) / 256), Value.int IntKind.u8 ((x : Int) % 256)] 5)) W.heap.size ((x : Int) / 256) ((x : Int) % 256) (cell_new _ _ _ _ _ _ rfl) (cell_new _ _ _ _ _ _ rfl)
  obtain ⟨u, hu⟩ : ∃ u, strOfNums [(x : Int) / 256, (x : Int) % 256] = u := ⟨_, rfl⟩
  have hud : u.data.toList = [UInt8.ofNat (x / 256), UInt8.ofNat (x % 256)] := by
    rw [← hu, strOfNums_data]
    have e1 : ((x : Int) / 256).toNat = x / 256 := by omega
    have e2 : ((x : Int) % 256).toNat = x % 256 := by omega
    simp [e1, e2]
  have hu2 : u.size = 2 := by rw [← size_bytes, hud]; rfl
  rw [hu] at hr2
  rw [← hud]
  have HS := hide (sum_two s u (by omega))
  clear hud hu
  go_enter Tryz.func27, Tryz.ntmps27
  go_wp2_with (first | (go_at_call 51; refine HJ.mono ?_; rintro e w1 ⟨rfl, rfl⟩) | (go_at_call 26; refine (HS.out _ _ ?hc0 ?hc1).mono ?_; (case hc0 => exact cell_new2 _ _ _ _ _ _ _ rfl); (case hc1 => exact cell_new2 _ _ _ _ _ _ _ rfl); rintro e w1 ⟨rfl, rfl⟩))
  go_ret
  exact ⟨rfl, by repeat (first | exact Below.refl _ _ | apply Below.drew | (refine Below.alloc ?_ (by simp) _))⟩
end Go.Proofs.YtjpjdfebkghllaaGreatDoor
