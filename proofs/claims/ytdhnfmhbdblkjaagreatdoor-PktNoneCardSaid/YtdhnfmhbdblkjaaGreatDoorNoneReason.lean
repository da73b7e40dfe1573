/- PktNone: what code.Reason answers where no rune is wanted. -/
import Derived.Test.YtdhnfmhbdblkjaaGreatDoorNoneParts
import Derived.Deep.QuietTactic
import Derived.BigQuiet
import Derived.Laws.RangeString
namespace Go.Proofs.YtdhnfmhbdblkjaaGreatDoor
open Go.RowKit Go.Proofs.YtdhnfmhbdblkjaaGreatDoorW.PrintWords
set_option linter.unusedVariables false
set_option linter.unusedSimpArgs false
set_option maxHeartbeats 1000000 in
set_option maxRecDepth 100000 in
theorem bld_String (w : World) (g : Nat) (h0 : w.cell? ⟨g, 0, none⟩ = some (.pointer none)) (h1 : w.cell? ⟨g, 1, none⟩ = some (.slice none 0 0)) : Calls Tryz.prog 69 #[.pointer (some ⟨g, 0, none⟩)] w fun e w' => e = .returned (.string ⟨#[]⟩) ∧ Below w.heap.size w w' := by
  have hSD : ∀ ts ty W, (Builtin.unsafeSliceData_ ts ty #[.slice none 0 0]).run Tryz.prog W = .ok (.pointer none) W := fun _ _ _ => rfl
  have hUS : ∀ W, (Builtin.unsafeString_ #[110, 3] 9 #[.pointer none, .int .i64 0]).run Tryz.prog W = .ok (.string ⟨#[]⟩) W := fun _ => rfl
  go_enter Tryz.func69, Tryz.ntmps69
  go_wp2
  go_region
  all_goals (go_wp2; go_ret; exact ⟨rfl, (Below.refl _ _).drew⟩)
set_option maxHeartbeats 1000000 in
set_option maxRecDepth 100000 in
theorem none_reason (w : World) : Calls Tryz.prog 39 #[.string ⟨#[97]⟩, .int .i64 (-1)] w fun e w' => e = .returned (.string ⟨#[]⟩) ∧ Below w.heap.size w w' := by
  go_enter Tryz.func39, Tryz.ntmps39
  go_wp2
  have hN : ∀ ty, (Instr.next (.pointer (some ⟨w.heap.size + 1, 0, none⟩)) true ty).run Tryz.prog ((w.alloc (.cells #[.pointer none, .slice none 0 0] 92)).iter ⟨#[97]⟩ 0) = .ok (.tuple #[.bool true, .int .i64 0, .int .i32 97]) ((w.alloc (.cells #[.pointer none, .slice none 0 0] 92)).iter ⟨#[97]⟩ 1) := fun ty => by
    have h := run_next_ascii (P := Tryz.prog) (w.alloc (.cells #[.pointer none, .slice none 0 0] 92)) ⟨#[97]⟩ 0 ty (by decide) (by decide)
    rw [World.size_alloc] at h
    exact h
  go_loopw [1, 7] (fun s1 s7 wr => s1 = .int .i64 (-1) ∧ s7 = undef ∧ wr = (w.alloc (.cells #[.pointer none, .slice none 0 0] 92)).iter ⟨#[97]⟩ 0) (fun _ _ _ => 0)
  case atStart => exact ⟨rfl, rfl, rfl⟩
  case round =>
    obtain ⟨rfl, rfl, rfl⟩ := hrel
    have p0 : ((w.alloc (.cells #[.pointer none, .slice none 0 0] 92)).iter ⟨#[97]⟩ 1).cell? ⟨w.heap.size, 0, none⟩ = some (.pointer none) := (World.cell?_alloc_lt _ _ _ (by simp)).trans (by rw [World.cell?_alloc_at _ _ _ _ rfl]; rfl)
    have p1 : ((w.alloc (.cells #[.pointer none, .slice none 0 0] 92)).iter ⟨#[97]⟩ 1).cell? ⟨w.heap.size, 1, none⟩ = some (.slice none 0 0) := (World.cell?_alloc_lt _ _ _ (by simp)).trans (by rw [World.cell?_alloc_at _ _ _ _ rfl]; rfl)
    have HS := hide (bld_String _ _ p0 p1)
    have HBB : Hid (Below w.heap.size w ((w.alloc (.cells #[.pointer none, .slice none 0 0] 92)).iter ⟨#[97]⟩ 1)) := hide (((Below.refl _ _).alloc (Nat.le_refl _) _).alloc (by simp) _)
    clear p0 p1
    go_wp2_with (go_at_call 69; refine HS.out.mono ?_; rintro e w2 ⟨rfl, hb⟩)
    go_ret
    exact ⟨rfl, HBB.out.trans (hb.mono HBB.out.size)⟩
end Go.Proofs.YtdhnfmhbdblkjaaGreatDoor
