/- The contract of the document's GetOpts at whatever bytes, over plain lists of options. -/
import Derived.Test.YthallmapddihgaaGreatDoorOptGetAny
import Derived.Test.YthallmapddihgaaGreatDoorPmuleteerref1GetOptsx1
import Derived.Test.YthallmapddihgaaGreatDoorPureKit
namespace Go.Proofs.YthallmapddihgaaGreatDoor.RG
open Go.RowKit Go.Proofs.YthallmapddihgaaGreatDoor.Pmuleteerref1GetOpts Go.Proofs.YthallmapddihgaaGreatDoorW.PrintWords Go.Proofs.YthallmapddihgaaGreatDoorW.PrintLast Go.Proofs.YthallmapddihgaaGreatDoorW.PrintMore
set_option linter.unusedVariables false
set_option linter.unusedSimpArgs false
def mkB (l : List UInt8) : ByteArray := ⟨l.toArray⟩
theorem mkB_data (l : List UInt8) : (mkB l).data.toList = l := rfl
theorem mkB_self (s : ByteArray) : mkB s.data.toList = s := ByteArray.ext (by unfold mkB; rw [Array.toArray_toList])
theorem ext_list (s : ByteArray) (a b : Nat) : (s.extract a b).data.toList = (s.data.toList.drop a).take (b - a) := by
  rw [ByteArray.data_extract, Array.toList_extract, List.extract_eq_take_drop]
theorem ext_mkB (s : ByteArray) (a b : Nat) : s.extract a b = mkB ((s.data.toList.drop a).take (b - a)) := by
  rw [← mkB_self (s.extract a b), ext_list]
theorem ext_drop (s : ByteArray) (a : Nat) : (s.extract a s.size).data.toList = s.data.toList.drop a := by
  rw [ext_list, List.take_of_length_le]
  rw [List.length_drop, Array.length_toList]; exact Nat.le_refl _
theorem len_size (s : ByteArray) : s.data.toList.length = s.size := by rw [Array.length_toList]; rfl
theorem bt_drop (s : ByteArray) (i : Nat) (t : UInt8) (r : List UInt8) (h : s.data.toList.drop i = t :: r) : bt s (i : Int) = (t.toNat : Int) := by
  have hlt : i < s.data.toList.length := by
    rcases Nat.lt_or_ge i s.data.toList.length with h' | h'
    · exact h'
    · rw [List.drop_eq_nil_of_le h'] at h; cases h
  have hlt' : i < s.size := by rw [← len_size]; exact hlt
  rw [List.drop_eq_getElem_cons hlt] at h
  rw [← bt_at s (i : Int) (by rw [Int.toNat_natCast]; exact hlt')]
  have e : s[i] = t := (List.cons.inj h).1
  show ((s[(i : Int).toNat]'_).toNat : Int) = _
  simp only [Int.toNat_natCast]
  rw [e]
abbrev SO := S45
/-- what bytes say of options; m: what came last must be known. -/
def par : Nat → List UInt8 → Bool → Option (List SO)
  | _, [], m => if m then none else some []
  | 0, _ :: _, _ => none
  | n + 1, t :: r, m =>
    if t.toNat = 0 then par n r m
    else if m = true ∧ t.toNat = 1 then none
    else if t.toNat < 32 then (par n r (decide (t.toNat = 1))).map (fun l => ⟨(t.toNat : Int), ⟨#[]⟩⟩ :: l)
    else match r with
      | [] => none
      | k :: r' => if k.toNat < 2 ∨ r'.length + 2 < k.toNat then none else (par n (r'.drop (k.toNat - 2)) false).map (fun l => ⟨(t.toNat : Int), mkB (r'.take (k.toNat - 2))⟩ :: l)
def parR (acc : List SO) : Option (List SO) → List SO × Int
  | none => ([], 7)
  | some l => (acc ++ l, 0)
theorem parR_map (acc : List SO) (o : SO) (x : Option (List SO)) : parR acc (x.map (fun l => o :: l)) = parR (acc ++ [o]) x := by
  cases x with
  | none => rfl
  | some l => simp [parR]
theorem wrap_byte' (t : UInt8) : wrap64 (t.toNat : Int) = (t.toNat : Int) := by have := t.toNat_lt; rw [wrap64_eq]; omega
theorem wsum (a b : Nat) (h : a + b < 4611686018427387904) : wrap64 ((a : Int) + (b : Int)) = ((a + b : Nat) : Int) := by rw [wrap64_eq]; omega
theorem rget_loop (s : ByteArray) (hs : s.size ≤ 100000000) (n : Nat) : ∀ (i : Nat) (acc : List SO) (m : Bool) (k : Nat), s.size ≤ i + n → i ≤ s.size → 2 * n + 2 ≤ k → acc.length + n ≤ 1000000000 →
    muleteerref1_GetOpts.l0 k s acc m (i : Int) = some (parR acc (par n (s.data.toList.drop i) m)) := by
  induction n with
  | zero =>
    intro i acc m k hi hi2 hk _
    obtain ⟨k, rfl⟩ : ∃ q, k = q + 1 := ⟨k - 1, by omega⟩
    have hl : s.data.toList.drop i = [] := List.drop_eq_nil_of_le (by rw [len_size]; omega)
    simp only [muleteerref1_GetOpts.l0]
    rw [if_neg (by omega), hl]
    cases m <;> simp [par, parR]
  | succ n ih =>
    intro i acc m k hi hi2 hk ha
    obtain ⟨K, rfl⟩ : ∃ q, k = q + 1 := ⟨k - 1, by omega⟩
    rcases hl : s.data.toList.drop i with _ | ⟨t, r⟩
    · have hz : s.size ≤ i := by rw [← len_size]; exact List.drop_eq_nil_iff.1 hl
      simp only [muleteerref1_GetOpts.l0]
      rw [if_neg (by omega)]
      cases m <;> simp [par, parR]
    · have hz : s.size - i = r.length + 1 := by rw [← len_size, ← List.length_drop, hl]; rfl
      have ht := t.toNat_lt
      have hb := bt_drop s i t r hl
      have e1 : wrap64 ((i : Int) + 1) = ((i + 1 : Nat) : Int) := by rw [wrap64_eq]; omega
      have hdr : s.data.toList.drop (i + 1) = r := by rw [← List.drop_drop, hl]; rfl
      simp only [muleteerref1_GetOpts.l0]
      rw [if_pos (by omega), if_pos (by omega), hb, wrap_byte', e1]
      simp only [par]
      by_cases h0 : t.toNat = 0
      · rw [if_pos (by omega), if_pos h0, ih (i + 1) acc m K (by omega) (by omega) (by omega) (by omega), hdr]
      · rw [if_neg (by omega), if_neg h0]
        obtain ⟨k, rfl⟩ : ∃ q, K = q + 1 := ⟨K - 1, by omega⟩
        have join : ∀ q : List SO × Int, muleteerref1_GetOpts.j1 (k + 1) s acc i (t.toNat : Int) (if m = true then ((t.toNat : Int) == 1) else false) = some q →
            (if m = true then muleteerref1_GetOpts.j1 (k + 1) s acc i (t.toNat : Int) ((t.toNat : Int) == 1) else muleteerref1_GetOpts.j1 (k + 1) s acc i (t.toNat : Int) false) = some q := by
          intro q hq
          cases m with
          | false => rw [if_neg Bool.false_ne_true]; rw [if_neg Bool.false_ne_true] at hq; exact hq
          | true => rw [if_pos rfl]; rw [if_pos rfl] at hq; exact hq
        refine join _ ?_
        by_cases hm : m = true ∧ t.toNat = 1
        · have hx : ((t.toNat : Int) == 1) = true := by rw [beq_iff_eq]; omega
          rw [if_pos hm.1, hx, if_pos hm]
          simp only [muleteerref1_GetOpts.j1, if_true]; rfl
        · have hb : (if m = true then ((t.toNat : Int) == 1) else false) = false := by
            cases m with
            | false => rfl
            | true => rw [if_pos rfl, beq_eq_false_iff_ne]; intro h1; exact hm ⟨rfl, by omega⟩
          have hb1 : ((t.toNat : Int) == 1) = decide (t.toNat = 1) := by rw [Bool.eq_iff_iff, beq_iff_eq, decide_eq_true_eq]; omega
          rw [hb, if_neg hm]
          simp only [muleteerref1_GetOpts.j1, Bool.false_eq_true, if_false]
          rw [e1]
          by_cases h32 : t.toNat < 32
          · rw [if_pos (by omega), if_pos h32, if_pos (by omega), hb1, ih (i + 1) _ _ k (by omega) (by omega) (by omega) (by simp; omega), hdr, parR_map]
          · rw [if_neg (by omega), if_neg h32]
            rcases r with _ | ⟨q, r'⟩
            · rw [if_pos (by simp at hz; omega)]; rfl
            · simp only [List.length_cons] at hz
              simp only
              have hq := q.toNat_lt
              have hbq := bt_drop s (i + 1) q r' hdr
              rw [if_neg (by omega), if_pos (by omega), if_pos (by omega), hbq, wrap_byte']
              have b2 : i + q.toNat < 4611686018427387904 := by have : q.toNat < 256 := hq; omega
              have b3 : i + 2 < 4611686018427387904 := by omega
              clear e1
              rw [wsum i q.toNat b2, show wrap64 ((i : Int) + 2) = ((i + 2 : Nat) : Int) from wsum i 2 b3]
              by_cases h2 : q.toNat < 2
              · rw [if_pos (by omega), if_pos (.inl h2)]; rfl
              · rw [if_neg (by omega)]
                by_cases h3 : r'.length + 2 < q.toNat
                · rw [if_pos (by omega), if_pos (.inr h3)]; rfl
                · rw [if_neg (by omega), if_pos (by omega), if_pos (by omega), if_pos (by omega), if_pos (by omega), hb1]
                  rw [if_neg (by omega)]
                  have hd : s.data.toList.drop (i + q.toNat) = r'.drop (q.toNat - 2) := by
                    obtain ⟨j, hj⟩ : ∃ j, q.toNat = j + 2 := ⟨q.toNat - 2, by omega⟩
                    rw [← List.drop_drop, hl, hj]; rfl
                  have hx : s.extract ((i + 2 : Nat) : Int).toNat ((i + q.toNat : Nat) : Int).toNat = mkB (r'.take (q.toNat - 2)) := by
                    rw [ext_mkB, Int.toNat_natCast, Int.toNat_natCast, ← List.drop_drop, hl]
                    congr 1
                    rw [show i + q.toNat - (i + 2) = q.toNat - 2 from by omega]; rfl
                  have hd1 : decide (t.toNat = 1) = false := decide_eq_false (by omega)
                  have := ih (i + q.toNat) (acc ++ [(⟨(t.toNat : Int), mkB (r'.take (q.toNat - 2))⟩ : SO)]) false k (by omega) (by omega) (by omega) (by rw [List.length_append, List.length_cons, List.length_nil]; omega)
                  rw [hd] at this
                  rw [parR_map, hd1, hx]
                  exact this
theorem rget_some (s : ByteArray) (k : Nat) (hs : s.size ≤ 100000000) (hk : 2 * s.size + 2 ≤ k) : muleteerref1_GetOpts.f k s = some (parR [] (par s.size s.data.toList false)) := by
  unfold muleteerref1_GetOpts.f
  have := rget_loop s hs s.size 0 [] false k (by omega) (by omega) hk (by simp; omega)
  exact this
def ofS (o : S45) : Op := ⟨o.f0, o.f1⟩
theorem map_cons (x : Option (List SO)) (y : Option (List Op)) (a : SO) (b : Op) (h : x.map (List.map ofS) = y) (hab : ofS a = b) : (x.map (fun l => a :: l)).map (List.map ofS) = y.map (fun l => b :: l) := by
  subst h; subst hab
  cases x <;> rfl
theorem par_O : ∀ (n : Nat) (l : List UInt8) (m : Bool), (par n l m).map (List.map ofS) = PkB.parO n l m
  | 0, [], m => by cases m <;> simp [par, PkB.parO]
  | n + 1, [], m => by cases m <;> simp [par, PkB.parO]
  | 0, t :: r, m => by simp [par, PkB.parO]
  | n + 1, t :: r, m => by
    simp only [par, PkB.parO]
    by_cases h0 : t.toNat = 0
    · rw [if_pos h0, if_pos h0]; exact par_O n r m
    rw [if_neg h0, if_neg h0]
    by_cases h1 : m = true ∧ t.toNat = 1
    · rw [if_pos h1, if_pos h1]; rfl
    rw [if_neg h1, if_neg h1]
    by_cases h2 : t.toNat < 32
    · rw [if_pos h2, if_pos h2]; exact map_cons _ _ _ _ (par_O n r _) rfl
    rw [if_neg h2, if_neg h2]
    cases r with
    | nil => rfl
    | cons k r' =>
      simp only
      by_cases h3 : k.toNat < 2 ∨ r'.length + 2 < k.toNat
      · rw [if_pos h3, if_pos h3]; rfl
      · rw [if_neg h3, if_neg h3]; exact map_cons _ _ _ _ (par_O n _ false) rfl
theorem parR_getR (x : Option (List SO)) : ((parR [] x).1.map ofS, (parR [] x).2) = PkB.getR (x.map (List.map ofS)) := by
  cases x <;> rfl
theorem opts_cells {w : World} {A : Option Addr} {l : List S45} (h : Kd.C k45 w A l.length l) : CellsAt w w.heap.size A (ocells (l.map ofS)) := fun k u hu => by
  have hk : k < 2 * l.length := by have := (List.getElem?_eq_some_iff.1 hu).1; rw [ocells_len, List.length_map] at this; exact this
  have hi : k / 2 < l.length := by omega
  obtain ⟨ad, c, e, _, hK, hc⟩ := Kd.C_get h z45 (k / 2 : Nat) (by omega) (by omega)
  simp only [Int.toNat_natCast] at hK hc
  have hl : l.getD (k / 2) z45 = l[k / 2] := by rw [List.getD_eq_getElem?_getD, List.getElem?_eq_getElem hi]; rfl
  rw [hl] at hK
  obtain rfl := k45_open hK
  have hat := ocells_at (l.map ofS) (k / 2) (by simpa using hi)
  rw [List.getElem_map] at hat
  have hc' : ∀ j v, ([.int .i64 l[k / 2].f0, .string l[k / 2].f1] : List Value)[j]? = some v → w.cell? (ad.add (k / 2 * 2 + j)) = some v := hc
  have hcell : w.cell? (ad.add k) = some u := by
    rcases Nat.mod_two_eq_zero_or_one k with hm | hm
    · have ek : k / 2 * 2 = k := by omega
      rw [ek, hu] at hat
      rw [ek] at hc'
      rw [Option.some.inj hat.1]; exact hc' 0 _ rfl
    · have ek : k / 2 * 2 + 1 = k := by omega
      have h1 := hat.2
      rw [ek, hu] at h1
      have h2 := hc' 1 _ rfl
      rw [ek] at h2
      rw [Option.some.inj h1]; exact h2
  exact ⟨ad, e, by have := block_lt_of_cell hcell; rwa [add_block] at this, hcell⟩
theorem ref_GetOpts_any (b : ByteArray) (hb : b.size ≤ 100000000) (w : World) : Calls Tryz.prog 33 #[.string b] w fun e w' => ∃ (A : Option Addr) (c : Nat), e = .returned (.tuple #[.slice A (PkB.getO b).1.length c, .int .i64 (PkB.getO b).2]) ∧ (PkB.getO b).1.length ≤ c ∧ CellsAt w' w'.heap.size A (ocells (PkB.getO b).1) ∧ Below w.heap.size w w' := by
  have hf := rget_some b (2 * b.size + 2) hb (Nat.le_refl _)
  have he := parR_getR (par b.size b.data.toList false)
  rw [par_O] at he
  unfold PkB.getO
  obtain ⟨q, hq⟩ : ∃ q, parR [] (par b.size b.data.toList false) = q := ⟨_, rfl⟩
  rw [hq] at hf he
  rw [← he]
  obtain ⟨r1, r2⟩ := q
  refine (muleteerref1_GetOpts.calls (2 * b.size + 2) b r1 r2 w hf).mono fun e w' hh => ?_
  obtain ⟨v, rfl, hr, hbl⟩ := hh
  obtain ⟨A, c, rfl, hc, hC⟩ := Kd.R_reads hr
  refine ⟨A, c, by dsimp only; rw [List.length_map], by dsimp only; rw [List.length_map]; exact hc, opts_cells hC, hbl⟩
end Go.Proofs.YthallmapddihgaaGreatDoor.RG
