/- The contract of opt.Get at whatever bytes, over plain lists of options. -/
import Derived.Test.YthallmapddihgaaGreatDoorGetPAny
namespace Go.Proofs.YthallmapddihgaaGreatDoor.PkB
open Go.RowKit Go.Proofs.YthallmapddihgaaGreatDoor.PoptGet Go.Proofs.YthallmapddihgaaGreatDoor.PkF Go.Proofs.YthallmapddihgaaGreatDoorW.PrintWords Go.Proofs.YthallmapddihgaaGreatDoorW.PrintLast Go.Proofs.YthallmapddihgaaGreatDoorW.PrintMore
set_option linter.unusedVariables false
set_option linter.unusedSimpArgs false
def parO : Nat → List UInt8 → Bool → Option (List Op)
  | _, [], m => if m then none else some []
  | 0, _ :: _, _ => none
  | n + 1, t :: r, m =>
    if t.toNat = 0 then parO n r m
    else if m = true ∧ t.toNat = 1 then none
    else if t.toNat < 32 then (parO n r (decide (t.toNat = 1))).map (fun l => ⟨(t.toNat : Int), ⟨#[]⟩⟩ :: l)
    else match r with
      | [] => none
      | k :: r' => if k.toNat < 2 ∨ r'.length + 2 < k.toNat then none else (parO n (r'.drop (k.toNat - 2)) false).map (fun l => ⟨(t.toNat : Int), mkB (r'.take (k.toNat - 2))⟩ :: l)
theorem map_cons (x : Option (List SO)) (y : Option (List Op)) (a : SO) (b : Op) (h : x.map (List.map ofS) = y) (hab : ofS a = b) : (x.map (fun l => a :: l)).map (List.map ofS) = y.map (fun l => b :: l) := by
  subst h; subst hab
  cases x <;> rfl
theorem par_O : ∀ (n : Nat) (l : List UInt8) (m : Bool), (par n l m).map (List.map ofS) = parO n l m
  | 0, [], m => by cases m <;> simp [par, parO]
  | n + 1, [], m => by cases m <;> simp [par, parO]
  | 0, t :: r, m => by simp [par, parO]
  | n + 1, t :: r, m => by
    simp only [par, parO]
    by_cases h0 : t.toNat = 0
    · rw [if_pos h0, if_pos h0]; exact par_O n r m
    rw [if_neg h0, if_neg h0]
    by_cases h1 : m = true ∧ t.toNat = 1
    · rw [if_pos h1, if_pos h1]; rfl
    rw [if_neg h1, if_neg h1]
    by_cases h2 : t.toNat < 32
    · rw [if_pos h2, if_pos h2]; exact map_cons _ _ _ _ (par_O n r _) rfl
    rw [if_neg h2, if_neg h2]
    cases r with
    | nil => rfl
    | cons k r' =>
      simp only
      by_cases h3 : k.toNat < 2 ∨ r'.length + 2 < k.toNat
      · rw [if_pos h3, if_pos h3]; rfl
      · rw [if_neg h3, if_neg h3]; exact map_cons _ _ _ _ (par_O n _ false) rfl
def getR : Option (List Op) → List Op × Int
  | none => ([], 7)
  | some l => (l, 0)
/-- what bytes say of options, and whether they are any. -/
def getO (b : ByteArray) : List Op × Int := getR (parO b.size b.data.toList false)
theorem parR_getR (x : Option (List SO)) : ((parR [] x).1.map ofS, (parR [] x).2) = getR (x.map (List.map ofS)) := by
  cases x <;> rfl
theorem opt_Get_any (b : ByteArray) (hb : b.size ≤ 100000000) (w : World) : Calls Tryz.prog 32 #[.string b] w fun e w' => ∃ (A : Option Addr) (c : Nat), e = .returned (.tuple #[.slice A (getO b).1.length c, .int .i64 (getO b).2]) ∧ (getO b).1.length ≤ c ∧ CellsAt w' w'.heap.size A (ocells (getO b).1) ∧ (∀ ad, A = some ad → ∃ g, ad = ⟨g, 0, none⟩) ∧ Below w.heap.size w w' := by
  have hf := oget_some b (2 * b.size + 2) hb (Nat.le_refl _)
  have he := parR_getR (par b.size b.data.toList false)
  rw [par_O] at he
  unfold getO
  obtain ⟨q, hq⟩ : ∃ q, parR [] (par b.size b.data.toList false) = q := ⟨_, rfl⟩
  rw [hq] at hf he
  rw [← he]
  obtain ⟨r1, r2⟩ := q
  refine (opt_Get.calls (2 * b.size + 2) b r1 r2 w hf).mono fun e w' hh => ?_
  obtain ⟨v, rfl, hr, hbl⟩ := hh
  obtain ⟨A, c, rfl, hc, hC⟩ := Kd.R_reads hr
  refine ⟨A, c, by dsimp only; rw [List.length_map], by dsimp only; rw [List.length_map]; exact hc, opts_cells hC, fun ad h => by subst h; exact Kd.R_head hr, hbl⟩
end Go.Proofs.YthallmapddihgaaGreatDoor.PkB
