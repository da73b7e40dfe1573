/- The contracts of the document's Covered (printed by wip/gen/mk_lawmay.py). -/
import Derived.Test.YtjlnbahanghhcaaGreatDoorBaseD
namespace Go.Proofs.YtjlnbahanghhcaaGreatDoor
open Go.RowKit
set_option linter.unusedVariables false
set_option linter.unusedSimpArgs false

set_option maxHeartbeats 4000000 in
set_option maxRecDepth 100000 in
theorem ref_Covered (total off cover : Int) (w : World) (h0 : 0 ≤ total) (h1 : total ≤ 4611686018427387904) :
    Calls Tryz.prog 23 #[.int .i64 total, .int .i64 off, .int .i64 cover] w fun e w' => e = .returned (.tuple #[.int .i64 (bif covB total off cover then covN total off cover else 0), .bool (covB total off cover)]) ∧ w = w' := by
  have no : ¬ (0 ≤ off ∧ off ≤ total ∧ 0 ≤ cover ∧ cover ≤ 15 ∧ covN total off cover ≤ total) → Ending.returned (.tuple #[.int .i64 0, .bool false]) = Ending.returned (.tuple #[.int .i64 (bif covB total off cover then covN total off cover else 0), .bool (covB total off cover)]) := fun h => by
    have e : covB total off cover = false := by unfold covB; exact decide_eq_false h
    rw [e]; rfl
  have yes : ∀ n : Int, (0 ≤ off ∧ off ≤ total ∧ 0 ≤ cover ∧ cover ≤ 15 ∧ covN total off cover ≤ total) → n = covN total off cover → Ending.returned (.tuple #[.int .i64 n, .bool true]) = Ending.returned (.tuple #[.int .i64 (bif covB total off cover then covN total off cover else 0), .bool (covB total off cover)]) := fun n h hn => by
    have e : covB total off cover = true := by unfold covB; exact decide_eq_true h
    rw [e, hn]; rfl
  have NO := hide no; have YES := hide yes
  clear no yes
  by_cases a0 : off < 0
  · go_enter Tryz.func23, Tryz.ntmps23
    go_wp2
    go_ret2
    exact ⟨NO.out (by omega), rfl⟩
  have a1 : 0 ≤ off := by omega
  clear a0
  by_cases b0 : total < off
  · go_enter Tryz.func23, Tryz.ntmps23
    go_wp2
    go_ret2
    exact ⟨NO.out (by omega), rfl⟩
  have b1 : off ≤ total := by omega
  clear b0
  by_cases c0 : cover < 0
  · go_enter Tryz.func23, Tryz.ntmps23
    go_wp2
    go_ret2
    exact ⟨NO.out (by omega), rfl⟩
  have c1 : 0 ≤ cover := by omega
  clear c0
  by_cases d0 : 15 < cover
  · go_enter Tryz.func23, Tryz.ntmps23
    go_wp2
    go_ret2
    exact ⟨NO.out (by omega), rfl⟩
  have d1 : cover ≤ 15 := by omega
  clear d0
  by_cases e0 : cover = 0
  · have e1 : (cover == 0) = true := beq_iff_eq.2 e0
    have E := hide e0
    clear e0
    go_enter Tryz.func23, Tryz.ntmps23
    go_wp2
    go_ret2
    have hc : covN total off cover = total := by unfold covN; rw [if_neg (by have := E.out; omega)]
    exact ⟨YES.out _ (by omega) hc.symm, rfl⟩
  have e1 : (cover == 0) = false := beq_eq_false_iff_ne.2 e0
  have e2 : 1 ≤ cover := by omega
  have hc : covN total off cover = off + 4 * (cover - 1) := by unfold covN; rw [if_pos (by omega)]
  have HC := hide hc
  clear hc e0
  by_cases f0 : total - off < 4 * (cover - 1)
  · go_enter Tryz.func23, Tryz.ntmps23
    go_wp2
    go_ret2
    exact ⟨NO.out (by have := HC.out; omega), rfl⟩
  · have f1 : 4 * (cover - 1) ≤ total - off := by omega
    clear f0
    go_enter Tryz.func23, Tryz.ntmps23
    go_wp2
    go_ret2
    exact ⟨YES.out _ (by have := HC.out; omega) HC.out.symm, rfl⟩
end Go.Proofs.YtjlnbahanghhcaaGreatDoor
