/- OptAll's plain law: any options, written and read; any bytes read; the first one of a type. -/
import Derived.Test.YtmdimebifngekaaGreatDoorPOptAllx5
import Derived.Test.YtmdimebifngekaaGreatDoorPureKit
namespace Go.Proofs.YtmdimebifngekaaGreatDoor.Pure
set_option linter.unusedVariables false
open Go.RowKit Go.Proofs.YtmdimebifngekaaGreatDoor.POptAll Go.Proofs.YtmdimebifngekaaGreatDoorW.PrintWords Go.Proofs.YtmdimebifngekaaGreatDoorW.PrintLast Go.Proofs.YtmdimebifngekaaGreatDoorW.PrintMore

theorem obind {α β : Type} {x : Option α} {a : α} {f : α → Option β} {r : Option β} (h : x = some a) (k : f a = r) : x.bind f = r := by subst h; exact k
def mkB (l : List UInt8) : ByteArray := ⟨l.toArray⟩
theorem mkB_data (l : List UInt8) : (mkB l).data.toList = l := rfl
theorem mkB_self (s : ByteArray) : mkB s.data.toList = s := ByteArray.ext (by unfold mkB; rw [Array.toArray_toList])
theorem ext_list (s : ByteArray) (a b : Nat) : (s.extract a b).data.toList = (s.data.toList.drop a).take (b - a) := by
  rw [ByteArray.data_extract, Array.toList_extract, List.extract_eq_take_drop]
theorem ext_mkB (s : ByteArray) (a b : Nat) : s.extract a b = mkB ((s.data.toList.drop a).take (b - a)) := by
  rw [← mkB_self (s.extract a b), ext_list]
theorem ext_drop (s : ByteArray) (a : Nat) : (s.extract a s.size).data.toList = s.data.toList.drop a := by
  rw [ext_list, List.take_of_length_le]
  rw [List.length_drop, Array.length_toList]; exact Nat.le_refl _
theorem len_size (s : ByteArray) : s.data.toList.length = s.size := by rw [Array.length_toList]; rfl
theorem bt_drop (s : ByteArray) (i : Nat) (t : UInt8) (r : List UInt8) (h : s.data.toList.drop i = t :: r) : bt s (i : Int) = (t.toNat : Int) := by
  have hlt : i < s.data.toList.length := by
    rcases Nat.lt_or_ge i s.data.toList.length with h' | h'
    · exact h'
    · rw [List.drop_eq_nil_of_le h'] at h; cases h
  have hlt' : i < s.size := by rw [← len_size]; exact hlt
  rw [List.drop_eq_getElem_cons hlt] at h
  rw [← bt_at s (i : Int) (by rw [Int.toNat_natCast]; exact hlt')]
  have e : s[i] = t := (List.cons.inj h).1
  show ((s[(i : Int).toNat]'_).toNat : Int) = _
  simp only [Int.toNat_natCast]
  rw [e]
abbrev SO := S50
/-- what bytes say of options; m: what came last must be known. -/
def par : Nat → List UInt8 → Bool → Option (List SO)
  | _, [], m => if m then none else some []
  | 0, _ :: _, _ => none
  | n + 1, t :: r, m =>
    if t.toNat = 0 then par n r m
    else if m = true ∧ t.toNat = 1 then none
    else if t.toNat < 32 then (par n r (decide (t.toNat = 1))).map (fun l => ⟨(t.toNat : Int), ⟨#[]⟩⟩ :: l)
    else match r with
      | [] => none
      | k :: r' => if k.toNat < 2 ∨ r'.length + 2 < k.toNat then none else (par n (r'.drop (k.toNat - 2)) false).map (fun l => ⟨(t.toNat : Int), mkB (r'.take (k.toNat - 2))⟩ :: l)
def parR (acc : List SO) : Option (List SO) → List SO × Int
  | none => ([], 7)
  | some l => (acc ++ l, 0)
theorem parR_map (acc : List SO) (o : SO) (x : Option (List SO)) : parR acc (x.map (fun l => o :: l)) = parR (acc ++ [o]) x := by
  cases x with
  | none => rfl
  | some l => simp [parR]
def oneR : List UInt8 → Int × ByteArray × Int
  | [] => (0, ⟨#[]⟩, 0)
  | t :: r => if t.toNat < 32 then ((t.toNat : Int), ⟨#[]⟩, 1) else match r with
    | [] => ((t.toNat : Int), ⟨#[]⟩, 0)
    | k :: r' => if k.toNat < 2 ∨ r'.length + 2 < k.toNat then ((t.toNat : Int), ⟨#[]⟩, 0) else ((t.toNat : Int), mkB (r'.take (k.toNat - 2)), (k.toNat : Int))
theorem wrap_byte (t : UInt8) : wrap64 (t.toNat : Int) = (t.toNat : Int) := by have := t.toNat_lt; rw [wrap64_eq]; omega
theorem one_some (s : ByteArray) (t : UInt8) (r : List UInt8) (h : s.data.toList = t :: r) : opt_one.f s = some (oneR (t :: r)) := by
  have hl : s.size = r.length + 1 := by rw [← len_size, h]; rfl
  have h0 : bt s 0 = (t.toNat : Int) := bt_drop s 0 t r h
  unfold opt_one.f
  simp only [oneR]
  rw [if_pos (by omega), h0, wrap_byte]
  by_cases h1 : t.toNat < 32
  · rw [if_pos (by omega), if_pos h1]
  · rw [if_neg (by omega), if_neg h1]
    cases r with
    | nil => rw [if_pos (by simp at hl; omega)]
    | cons k r' =>
      simp only [List.length_cons] at hl
      have hk : bt s 1 = (k.toNat : Int) := bt_drop s 1 k r' (by rw [h]; rfl)
      have hkt := k.toNat_lt
      rw [if_neg (by omega), if_pos (by omega), hk, wrap_byte]
      simp only
      by_cases h2 : k.toNat < 2
      · rw [if_pos (by omega), if_pos (.inl h2)]
      · rw [if_neg (by omega)]
        by_cases h3 : r'.length + 2 < k.toNat
        · rw [if_pos (by omega), if_pos (.inr h3)]
        · rw [if_neg (by omega), if_pos (by omega), if_pos (by omega), if_neg (by omega)]
          rw [ext_mkB, h, Int.toNat_natCast]; rfl
theorem oget_loop (n : Nat) : ∀ (s : ByteArray) (acc : List SO) (m : Bool) (k : Nat), s.data.toList.length ≤ n → 2 * n + 2 ≤ k → acc.length + n ≤ 1000000000 →
    opt_Get.l0 k s acc m = some (parR acc (par n s.data.toList m)) := by
  induction n with
  | zero =>
    intro s acc m k hs hk _
    obtain ⟨k, rfl⟩ : ∃ q, k = q + 1 := ⟨k - 1, by omega⟩
    have hl : s.data.toList = [] := List.eq_nil_of_length_eq_zero (by omega)
    have hz : s.size = 0 := by rw [← len_size, hl]; rfl
    simp only [opt_Get.l0]
    rw [if_neg (by omega), hl]
    cases m <;> simp [par, parR]
  | succ n ih =>
    intro s acc m k hs hk ha
    obtain ⟨k, rfl⟩ : ∃ q, k = q + 2 := ⟨k - 2, by omega⟩
    rcases hl : s.data.toList with _ | ⟨t, r⟩
    · have hz : s.size = 0 := by rw [← len_size, hl]; rfl
      simp only [opt_Get.l0]
      rw [if_neg (by omega)]
      cases m <;> simp [par, parR]
    · have hz : s.size = r.length + 1 := by rw [← len_size, hl]; rfl
      have hr : r.length ≤ n := by rw [hl] at hs; simpa using hs
      have ht := t.toNat_lt
      simp only [opt_Get.l0]
      rw [if_pos (by omega)]
      refine obind (one_some s t r hl) ?_
      -- what is behind the test
      have fin : ∀ (x : Int) (d : ByteArray) (j : Nat), 0 < j → j ≤ s.size → (x = (t.toNat : Int)) → ¬ (m = true ∧ t.toNat = 1) →
          opt_Get.j1 (k + 1) s acc m (j : Int) (if m = true then (x == 1) else false) x d = some (parR acc (if t.toNat = 0 then par n (s.data.toList.drop j) m else (par n (s.data.toList.drop j) (decide (t.toNat = 1))).map (fun l => (⟨x, d⟩ : SO) :: l))) := by
        intro x d j hj0 hj hx hm
        have hb : (if m = true then (x == 1) else false) = false := by
          cases m with
          | false => rfl
          | true => rw [if_pos rfl, beq_eq_false_iff_ne]; intro h1; exact hm ⟨rfl, by omega⟩
        rw [hb]
        have hdl : (s.extract j s.size).data.toList.length ≤ n := by rw [ext_drop, List.length_drop, len_size]; omega
        simp only [opt_Get.j1, Bool.false_eq_true, if_false]
        rw [if_pos (by omega), if_pos (by omega), Int.toNat_natCast]
        by_cases h0 : t.toNat = 0
        · rw [if_pos (by omega), if_pos h0, ih (s.extract j s.size) acc m k hdl (by omega) (by omega), ext_drop]
        · rw [if_neg (by omega), if_neg h0, if_pos (by omega), ih (s.extract j s.size) _ (x == 1) k hdl (by omega) (by simp; omega), ext_drop, parR_map]
          have : (x == 1) = decide (t.toNat = 1) := by rw [Bool.eq_iff_iff, beq_iff_eq, decide_eq_true_eq]; omega
          rw [this]
      have bad : ∀ (x7 x : Int) (d : ByteArray), opt_Get.j1 (k + 1) s acc m x7 true x d = some ([], 7) := fun x7 x d => by simp only [opt_Get.j1, if_true]
      have join : ∀ (x7 x : Int) (d : ByteArray) (q : List SO × Int), opt_Get.j1 (k + 1) s acc m x7 (if m = true then (x == 1) else false) x d = some q →
          (if m = true then opt_Get.j1 (k + 1) s acc m x7 (x == 1) x d else opt_Get.j1 (k + 1) s acc m x7 false x d) = some q := by
        intro x7 x d q hq
        cases m with
        | false => rw [if_neg Bool.false_ne_true]; rw [if_neg Bool.false_ne_true] at hq; exact hq
        | true => rw [if_pos rfl]; rw [if_pos rfl] at hq; exact hq
      simp only [par, oneR]
      by_cases h32 : t.toNat < 32
      · simp only [if_pos h32]
        refine (if_neg (by omega)).trans (join _ _ _ _ ?_)
        by_cases hm : m = true ∧ t.toNat = 1
        · have hx : ((t.toNat : Int) == 1) = true := by rw [beq_iff_eq]; omega
          rw [if_pos hm.1, hx, bad, if_neg (by omega), if_pos hm]; rfl
        · have := fin (t.toNat : Int) ⟨#[]⟩ 1 (by omega) (by omega) rfl hm
          rw [hl] at this
          rw [if_neg hm]
          exact this
      · simp only [if_neg h32]
        rw [if_neg (show ¬ t.toNat = 0 by omega), if_neg (show ¬ (m = true ∧ t.toNat = 1) by omega)]
        rcases r with _ | ⟨q, r'⟩
        · exact (if_pos rfl).trans (bad _ _ _)
        · simp only
          simp only [List.length_cons] at hz hr
          have hq := q.toNat_lt
          by_cases h2 : q.toNat < 2 ∨ r'.length + 2 < q.toNat
          · simp only [if_pos h2]
            rw [if_pos trivial]; exact bad _ _ _
          · simp only [if_neg h2]
            refine (if_neg (by omega)).trans (join _ _ _ _ ?_)
            rw [fin (t.toNat : Int) _ q.toNat (by omega) (by omega) rfl (by omega), if_neg (show ¬ t.toNat = 0 by omega), hl]
            have hd : (t :: q :: r').drop q.toNat = r'.drop (q.toNat - 2) := by
              obtain ⟨j, hj⟩ : ∃ j, q.toNat = j + 2 := ⟨q.toNat - 2, by omega⟩
              rw [hj]; rfl
            have hd1 : decide (t.toNat = 1) = false := decide_eq_false (by omega)
            rw [hd, hd1]
theorem oget_some (s : ByteArray) (k : Nat) (hs : s.size ≤ 100000000) (hk : 2 * s.size + 2 ≤ k) : opt_Get.f k s = some (parR [] (par s.size s.data.toList false)) := by
  unfold opt_Get.f
  exact oget_loop s.size s [] false k (by rw [len_size]; exact Nat.le_refl _) hk (by simp; omega)
theorem wrap_byte' (t : UInt8) : wrap64 (t.toNat : Int) = (t.toNat : Int) := by have := t.toNat_lt; rw [wrap64_eq]; omega
theorem wsum (a b : Nat) (h : a + b < 4611686018427387904) : wrap64 ((a : Int) + (b : Int)) = ((a + b : Nat) : Int) := by rw [wrap64_eq]; omega
theorem rget_loop (s : ByteArray) (hs : s.size ≤ 100000000) (n : Nat) : ∀ (i : Nat) (acc : List SO) (m : Bool) (k : Nat), s.size ≤ i + n → i ≤ s.size → 2 * n + 2 ≤ k → acc.length + n ≤ 1000000000 →
    muleteerref1_GetOpts.l0 k s acc m (i : Int) = some (parR acc (par n (s.data.toList.drop i) m)) := by
  induction n with
  | zero =>
    intro i acc m k hi hi2 hk _
    obtain ⟨k, rfl⟩ : ∃ q, k = q + 1 := ⟨k - 1, by omega⟩
    have hl : s.data.toList.drop i = [] := List.drop_eq_nil_of_le (by rw [len_size]; omega)
    simp only [muleteerref1_GetOpts.l0]
    rw [if_neg (by omega), hl]
    cases m <;> simp [par, parR]
  | succ n ih =>
    intro i acc m k hi hi2 hk ha
    obtain ⟨K, rfl⟩ : ∃ q, k = q + 1 := ⟨k - 1, by omega⟩
    rcases hl : s.data.toList.drop i with _ | ⟨t, r⟩
    · have hz : s.size ≤ i := by rw [← len_size]; exact List.drop_eq_nil_iff.1 hl
      simp only [muleteerref1_GetOpts.l0]
      rw [if_neg (by omega)]
      cases m <;> simp [par, parR]
    · have hz : s.size - i = r.length + 1 := by rw [← len_size, ← List.length_drop, hl]; rfl
      have ht := t.toNat_lt
      have hb := bt_drop s i t r hl
      have e1 : wrap64 ((i : Int) + 1) = ((i + 1 : Nat) : Int) := by rw [wrap64_eq]; omega
      have hdr : s.data.toList.drop (i + 1) = r := by rw [← List.drop_drop, hl]; rfl
      simp only [muleteerref1_GetOpts.l0]
      rw [if_pos (by omega), if_pos (by omega), hb, wrap_byte', e1]
      simp only [par]
      by_cases h0 : t.toNat = 0
      · rw [if_pos (by omega), if_pos h0, ih (i + 1) acc m K (by omega) (by omega) (by omega) (by omega), hdr]
      · rw [if_neg (by omega), if_neg h0]
        obtain ⟨k, rfl⟩ : ∃ q, K = q + 1 := ⟨K - 1, by omega⟩
        have join : ∀ q : List SO × Int, muleteerref1_GetOpts.j1 (k + 1) s acc i (t.toNat : Int) (if m = true then ((t.toNat : Int) == 1) else false) = some q →
            (if m = true then muleteerref1_GetOpts.j1 (k + 1) s acc i (t.toNat : Int) ((t.toNat : Int) == 1) else muleteerref1_GetOpts.j1 (k + 1) s acc i (t.toNat : Int) false) = some q := by
          intro q hq
          cases m with
          | false => rw [if_neg Bool.false_ne_true]; rw [if_neg Bool.false_ne_true] at hq; exact hq
          | true => rw [if_pos rfl]; rw [if_pos rfl] at hq; exact hq
        refine join _ ?_
        by_cases hm : m = true ∧ t.toNat = 1
        · have hx : ((t.toNat : Int) == 1) = true := by rw [beq_iff_eq]; omega
          rw [if_pos hm.1, hx, if_pos hm]
          simp only [muleteerref1_GetOpts.j1, if_true]; rfl
        · have hb : (if m = true then ((t.toNat : Int) == 1) else false) = false := by
            cases m with
            | false => rfl
            | true => rw [if_pos rfl, beq_eq_false_iff_ne]; intro h1; exact hm ⟨rfl, by omega⟩
          have hb1 : ((t.toNat : Int) == 1) = decide (t.toNat = 1) := by rw [Bool.eq_iff_iff, beq_iff_eq, decide_eq_true_eq]; omega
          rw [hb, if_neg hm]
          simp only [muleteerref1_GetOpts.j1, Bool.false_eq_true, if_false]
          rw [e1]
          by_cases h32 : t.toNat < 32
          · rw [if_pos (by omega), if_pos h32, if_pos (by omega), hb1, ih (i + 1) _ _ k (by omega) (by omega) (by omega) (by simp; omega), hdr, parR_map]
          · rw [if_neg (by omega), if_neg h32]
            rcases r with _ | ⟨q, r'⟩
            · rw [if_pos (by simp at hz; omega)]; rfl
            · simp only [List.length_cons] at hz
              simp only
              have hq := q.toNat_lt
              have hbq := bt_drop s (i + 1) q r' hdr
              rw [if_neg (by omega), if_pos (by omega), if_pos (by omega), hbq, wrap_byte']
              have b2 : i + q.toNat < 4611686018427387904 := by have : q.toNat < 256 := hq; omega
              have b3 : i + 2 < 4611686018427387904 := by omega
              clear e1
              rw [wsum i q.toNat b2, show wrap64 ((i : Int) + 2) = ((i + 2 : Nat) : Int) from wsum i 2 b3]
              by_cases h2 : q.toNat < 2
              · rw [if_pos (by omega), if_pos (.inl h2)]; rfl
              · rw [if_neg (by omega)]
                by_cases h3 : r'.length + 2 < q.toNat
                · rw [if_pos (by omega), if_pos (.inr h3)]; rfl
                · rw [if_neg (by omega), if_pos (by omega), if_pos (by omega), if_pos (by omega), if_pos (by omega), hb1]
                  rw [if_neg (by omega)]
                  have hd : s.data.toList.drop (i + q.toNat) = r'.drop (q.toNat - 2) := by
                    obtain ⟨j, hj⟩ : ∃ j, q.toNat = j + 2 := ⟨q.toNat - 2, by omega⟩
                    rw [← List.drop_drop, hl, hj]; rfl
                  have hx : s.extract ((i + 2 : Nat) : Int).toNat ((i + q.toNat : Nat) : Int).toNat = mkB (r'.take (q.toNat - 2)) := by
                    rw [ext_mkB, Int.toNat_natCast, Int.toNat_natCast, ← List.drop_drop, hl]
                    congr 1
                    rw [show i + q.toNat - (i + 2) = q.toNat - 2 from by omega]; rfl
                  have hd1 : decide (t.toNat = 1) = false := decide_eq_false (by omega)
                  have := ih (i + q.toNat) (acc ++ [(⟨(t.toNat : Int), mkB (r'.take (q.toNat - 2))⟩ : SO)]) false k (by omega) (by omega) (by omega) (by rw [List.length_append, List.length_cons, List.length_nil]; omega)
                  rw [hd] at this
                  rw [parR_map, hd1, hx]
                  exact this
theorem rget_some (s : ByteArray) (k : Nat) (hs : s.size ≤ 100000000) (hk : 2 * s.size + 2 ≤ k) : muleteerref1_GetOpts.f k s = some (parR [] (par s.size s.data.toList false)) := by
  unfold muleteerref1_GetOpts.f
  have := rget_loop s hs s.size 0 [] false k (by omega) (by omega) hk (by simp; omega)
  exact this
theorem rdT_get (l : List S50) (i : Nat) (h : i < l.length) : rd_T50 l (i : Int) = l[i] := by
  unfold rd_T50
  rw [Int.toNat_natCast, List.getD_eq_getElem?_getD, List.getElem?_eq_getElem h]; rfl
theorem opts_loop (l : List S50) (d : Nat) : ∀ (i k : Nat), i + d = l.length → d < k → l.length ≤ 1000000000 → muleteerlaw1_Opts.l0 k l l (l.length : Int) (i : Int) = some true := by
  induction d with
  | zero =>
    intro i k hi hk _
    obtain ⟨k, rfl⟩ : ∃ j, k = j + 1 := ⟨k - 1, by omega⟩
    simp only [muleteerlaw1_Opts.l0]
    rw [if_neg (by omega)]
  | succ d ih =>
    intro i k hi hk hl
    obtain ⟨k, rfl⟩ : ∃ j, k = j + 1 := ⟨k - 1, by omega⟩
    have e : wrap64 ((i : Int) + 1) = ((i + 1 : Nat) : Int) := by rw [wrap64_eq]; omega
    simp only [muleteerlaw1_Opts.l0]
    rw [if_pos (by omega), if_pos (by omega), if_pos (by omega), if_pos (by omega), rdT_get l i (by omega), beq_self_eq_true, beq_self_eq_true, e]
    exact (if_neg (by simp)).trans (ih (i + 1) k (by omega) (by omega) hl)
theorem opts_same (l : List S50) (k : Nat) (hk : l.length < k) (hl : l.length ≤ 1000000000) : muleteerlaw1_Opts.f k l l = some true := by
  unfold muleteerlaw1_Opts.f
  rw [if_pos rfl]
  exact opts_loop l l.length 0 k (by omega) hk hl
def obL (o : SO) : List UInt8 := UInt8.ofNat o.f0.toNat :: if 32 ≤ o.f0 then UInt8.ofNat (o.f1.size + 2) :: o.f1.data.toList else []
def obsL (os : List SO) : List UInt8 := (os.map obL).flatten
def mayS (o : SO) : Bool := mayO (ofS o)
theorem mayS_iff (o : SO) : mayS o = true ↔ (0 ≤ o.f0 ∧ o.f0 ≤ 255 ∧ (o.f1.size = 0 ∨ (32 ≤ o.f0 ∧ o.f1.size ≤ 253))) := by
  unfold mayS mayO ofS
  rw [decide_eq_true_eq]
theorem empty_of (s : ByteArray) (h : s.size = 0) : s = ⟨#[]⟩ := by
  have : s.data.toList = [] := List.eq_nil_of_length_eq_zero (by rw [len_size]; exact h)
  rw [← mkB_self s, this]; rfl
theorem byte_of (n : Int) (h0 : 0 ≤ n) (h1 : n ≤ 255) : ((UInt8.ofNat n.toNat).toNat : Int) = n ∧ (UInt8.ofNat n.toNat).toNat = n.toNat := by
  rw [UInt8.toNat_ofNat']; omega
def scan : List SO → Bool → Option (List SO)
  | [], m => if m then none else some []
  | o :: r, m => if o.f0 = 0 then scan r m else if m = true ∧ o.f0 = 1 then none else (scan r (decide (o.f0 = 1))).map (fun l => o :: l)
theorem par_zeros (z : Nat) : ∀ (n : Nat) (m : Bool), z ≤ n → par n (List.replicate z 0) m = if m then none else some [] := by
  induction z with
  | zero => intro n m _; cases n <;> rfl
  | succ z ih =>
    intro n m hn
    obtain ⟨n, rfl⟩ : ∃ j, n = j + 1 := ⟨n - 1, by omega⟩
    rw [List.replicate_succ]
    simp only [par]
    rw [if_pos (by rfl)]
    exact ih n m (by omega)
theorem par_obs (os : List SO) : ∀ (n z : Nat) (m : Bool), (∀ o, o ∈ os → mayS o = true) → (obsL os).length + z ≤ n → par n (obsL os ++ List.replicate z 0) m = scan os m := by
  induction os with
  | nil => intro n z m _ hn; exact par_zeros z n m (by simpa [obsL] using hn)
  | cons o os ih =>
    intro n z m hm hn
    obtain ⟨h0, h1, h2⟩ := (mayS_iff o).1 (hm o (List.mem_cons_self ..))
    have hr := fun x hx => hm x (List.mem_cons_of_mem _ hx)
    have e : obsL (o :: os) = obL o ++ obsL os := rfl
    rw [e] at hn ⊢
    obtain ⟨b1, b2⟩ := byte_of o.f0 h0 h1
    obtain ⟨t, d⟩ := o
    dsimp only at h0 h1 h2 b1 b2
    simp only [List.length_append] at hn
    simp only [scan]
    by_cases h32 : 32 ≤ t
    · have eo : obL ⟨t, d⟩ = UInt8.ofNat t.toNat :: UInt8.ofNat (d.size + 2) :: d.data.toList := by unfold obL; rw [if_pos h32]
      rw [eo] at hn ⊢
      simp only [List.length_cons] at hn
      obtain ⟨n, rfl⟩ : ∃ j, n = j + 1 := ⟨n - 1, by omega⟩
      have hd : d.size ≤ 253 := by omega
      have hs : (UInt8.ofNat (d.size + 2)).toNat = d.size + 2 := by rw [UInt8.toNat_ofNat']; omega
      have hl := len_size d
      simp only [List.cons_append, par]
      rw [b2, if_neg (by omega), if_neg (by omega), if_neg (by omega), hs, if_neg (by rw [List.length_append, List.length_append, hl]; omega), if_neg (by omega), if_neg (by omega)]
      have e1 : (d.data.toList ++ (obsL os ++ List.replicate z 0)).drop (d.size + 2 - 2) = obsL os ++ List.replicate z 0 := by
        rw [show d.size + 2 - 2 = d.data.toList.length from by rw [hl]; omega, List.drop_left]
      have e2 : (d.data.toList ++ (obsL os ++ List.replicate z 0)).take (d.size + 2 - 2) = d.data.toList := by
        rw [show d.size + 2 - 2 = d.data.toList.length from by rw [hl]; omega, List.take_left]
      have hf : decide (t = 1) = false := decide_eq_false (by omega)
      rw [List.append_assoc, e1, e2, ih n z false hr (by omega), hf, mkB_self]
      have : ((t.toNat : Nat) : Int) = t := by omega
      rw [this]
    · have eo : obL ⟨t, d⟩ = [UInt8.ofNat t.toNat] := by unfold obL; rw [if_neg h32]
      rw [eo] at hn ⊢
      simp only [List.length_cons, List.length_nil] at hn
      obtain ⟨n, rfl⟩ : ∃ j, n = j + 1 := ⟨n - 1, by omega⟩
      have hd : d = ⟨#[]⟩ := empty_of d (by omega)
      subst hd
      simp only [List.cons_append, List.nil_append, par]
      rw [b2]
      have et : ((t.toNat : Nat) : Int) = t := by omega
      by_cases ht0 : t = 0
      · rw [if_pos (by omega), if_pos ht0]
        exact ih n z m hr (by omega)
      · rw [if_neg (by omega), if_neg ht0]
        by_cases hm1 : m = true ∧ t = 1
        · rw [if_pos ⟨hm1.1, by omega⟩, if_pos hm1]
        · have hd1 : decide (t.toNat = 1) = decide (t = 1) := by rw [decide_eq_decide]; omega
          rw [if_neg (fun h : m = true ∧ t.toNat = 1 => hm1 ⟨h.1, by omega⟩), if_neg hm1, if_pos (by omega), hd1, ih n z _ hr (by omega), et]
/-- what is written of options that may be. -/
theorem nb_back (d : ByteArray) : (nb d).map (fun n => UInt8.ofNat n.toNat) = d.data.toList := by
  unfold nb
  rw [List.map_map]
  have : ((fun n : Int => UInt8.ofNat n.toNat) ∘ fun b : UInt8 => (b.toNat : Int)) = id := by funext b; simp
  rw [this, List.map_id]
theorem obs_back (os : List SO) (h : ∀ o, o ∈ os → mayS o = true) : (obs (os.map ofS)).map (fun n => UInt8.ofNat n.toNat) = obsL os := by
  induction os with
  | nil => rfl
  | cons o os ih =>
    have e1 : obs ((o :: os).map ofS) = ob (ofS o) ++ obs (os.map ofS) := rfl
    have e2 : obsL (o :: os) = obL o ++ obsL os := rfl
    rw [e1, e2, List.map_append, ih (fun x hx => h x (List.mem_cons_of_mem _ hx))]
    congr 1
    unfold ob obL ofS
    dsimp only
    by_cases h32 : 32 ≤ o.f0
    · rw [if_pos h32, if_pos h32, List.map_cons, List.map_cons, nb_back, Int.toNat_natCast]
    · rw [if_neg h32, if_neg h32]; rfl
def padL (l : List UInt8) : List UInt8 := l ++ List.replicate ((4 - l.length % 4) % 4) 0
theorem put_back (os : List SO) (h : ∀ o, o ∈ os → mayS o = true) : strOfNums (putO (os.map ofS)) = mkB (padL (obsL os)) := by
  have ha : (os.map ofS).all mayO = true := by
    rw [List.all_map]; exact List.all_eq_true.2 (fun o ho => h o ho)
  have hl : (obs (os.map ofS)).length = (obsL os).length := by rw [← obs_back os h, List.length_map]
  unfold putO
  rw [if_pos ha, ← mkB_self (strOfNums _), strOfNums_data]
  unfold pad4 padL
  rw [List.map_append, obs_back os h, List.map_replicate, hl]; rfl
theorem obL_len (o : SO) (h : mayS o = true) : (obL o).length ≤ 257 := by
  have := (mayS_iff o).1 h
  unfold obL
  split
  · rw [List.length_cons, List.length_cons, len_size]; omega
  · simp
theorem obsL_len (os : List SO) (h : ∀ o, o ∈ os → mayS o = true) : (obsL os).length ≤ 257 * os.length := by
  induction os with
  | nil => simp [obsL]
  | cons o os ih =>
    have e2 : obsL (o :: os) = obL o ++ obsL os := rfl
    have h1 := obL_len o (h o (List.mem_cons_self ..))
    have h2 := ih (fun x hx => h x (List.mem_cons_of_mem _ hx))
    rw [e2, List.length_append, List.length_cons]; omega
theorem all_may (os : List SO) (h : ∀ o, o ∈ os → mayS o = true) : (os.map ofS).all mayO = true := by
  rw [List.all_map]; exact List.all_eq_true.2 (fun o ho => h o ho)
/-- a number's lowest k bytes, the highest first. -/
def bx (n : Nat) : Nat → List Int
  | 0 => []
  | k + 1 => bx (n / 256) k ++ [((n % 256 : Nat) : Int)]
theorem bx_len (k : Nat) : ∀ n, (bx n k).length = k := by
  induction k with
  | zero => intro n; rfl
  | succ k ih => intro n; simp [bx, ih]
theorem byte_nat (n : Nat) : (UInt8.ofNat (n % 256)).toNat = n % 256 := by
  rw [UInt8.toNat_ofNat']; omega
theorem bx_num (k : Nat) : ∀ n, num ((bx n k).map fun x => UInt8.ofNat x.toNat) = n % 256 ^ k := by
  induction k with
  | zero => intro n; simp [bx, num, Nat.mod_one]
  | succ k ih =>
    intro n
    simp only [bx, List.map_append, List.map_cons, List.map_nil, num_snoc, ih, Int.toNat_natCast, byte_nat]
    rw [Nat.pow_succ, Nat.mul_comm (256 ^ k) 256, Nat.mod_mul]
    omega
theorem strOfNums_append (a b : List Int) : strOfNums (a ++ b) = strOfNums a ++ strOfNums b :=
  ByteArray.ext (by rw [ByteArray.data_append]; simp [strOfNums])
theorem rbytes_loop (k : Nat) : ∀ (f n : Nat) (s : ByteArray), k < f → n < 18446744073709551616 → s.size + k ≤ 1000000 → muleteerref1_Bytes.l0 f n k s = some (strOfNums (bx n k) ++ s) := by
  induction k with
  | zero =>
    intro f n s hf _ _
    obtain ⟨f, rfl⟩ : ∃ m, f = m + 1 := ⟨f - 1, by omega⟩
    simp only [muleteerref1_Bytes.l0]
    rw [if_neg (by omega)]
    exact congrArg some ByteArray.empty_append.symm
  | succ k ih =>
    intro f n s hf hn hk
    obtain ⟨f, rfl⟩ : ∃ m, f = m + 1 := ⟨f - 1, by omega⟩
    simp only [muleteerref1_Bytes.l0]
    rw [if_pos (by omega)]
    have e1 : Int.tmod (n : Int) 256 % 256 = ((n % 256 : Nat) : Int) := by rw [Int.tmod_eq_emod_of_nonneg (by omega)]; omega
    have e2 : IntKind.u64.wrap (Int.tdiv (n : Int) 256) = ((n / 256 : Nat) : Int) := by rw [Int.tdiv_eq_ediv_of_nonneg (by omega), IntKind.wrap_u64]; omega
    have e3 : wrap64 (((k + 1 : Nat) : Int) - 1) = (k : Int) := by rw [wrap64_eq]; omega
    refine obind rfl ?_
    rw [e1, e2, e3]
    have hz : (strOfNums [((n % 256 : Nat) : Int)]).size = 1 := by rw [strOfNums_size]; rfl
    rw [if_pos (by rw [hz]; omega), ih f (n / 256) _ (by omega) (by omega) (by rw [ByteArray.size_append, hz]; omega)]
    rw [bx, strOfNums_append, ByteArray.append_assoc]
theorem rbytes_some (f n k : Nat) (hf : k < f) (hn : n < 18446744073709551616) (hk : k ≤ 100000) : muleteerref1_Bytes.f f n k = some (strOfNums (bx n k)) := by
  unfold muleteerref1_Bytes.f
  rw [rbytes_loop k f n _ hf hn (by show 0 + k ≤ _; omega)]
  congr 1
  exact ByteArray.append_empty
theorem one_byte (k n : Nat) (hn : n ≤ 255) (hk : 2 ≤ k) : muleteerref1_Bytes.f k (n : Int) 1 = some (mkB [UInt8.ofNat n]) := by
  have := rbytes_some k n 1 (by omega) (by omega) (by omega)
  have e : bx n 1 = [((n % 256 : Nat) : Int)] := rfl
  rw [e, Nat.mod_eq_of_lt (by omega)] at this
  exact this
theorem mkB_append (a b : List UInt8) : mkB a ++ mkB b = mkB (a ++ b) := ByteArray.ext (by rw [ByteArray.data_append]; simp [mkB])
theorem mkB_size (l : List UInt8) : (mkB l).size = l.length := by rw [← len_size, mkB_data]
theorem pad_loop (j : Nat) : ∀ (l : List UInt8) (k : Nat), (l.length + j) % 4 = 0 → j < 4 → j < k → l.length ≤ 1000000000 → muleteerref1_PutOpts.l1 k (mkB l) = some (mkB (l ++ List.replicate j 0)) := by
  induction j with
  | zero =>
    intro l k h _ hk hl
    obtain ⟨k, rfl⟩ : ∃ q, k = q + 1 := ⟨k - 1, by omega⟩
    simp only [muleteerref1_PutOpts.l1]
    rw [mkB_size, if_neg (by omega), List.replicate_zero, List.append_nil]
  | succ j ih =>
    intro l k h hj hk hl
    obtain ⟨k, rfl⟩ : ∃ q, k = q + 1 := ⟨k - 1, by omega⟩
    simp only [muleteerref1_PutOpts.l1]
    have e : mkB l ++ (⟨#[0]⟩ : ByteArray) = mkB (l ++ [0]) := mkB_append l [0]
    rw [mkB_size, if_pos (by omega), if_pos (by omega), e, ih (l ++ [0]) k (by simp; omega) (by omega) (by omega) (by simp; omega), List.append_assoc]
    rfl
theorem uw2 (n : Nat) (h : n ≤ 1000000) : IntKind.u64.wrap (wrap64 ((n : Int) + 2)) = ((n + 2 : Nat) : Int) := by rw [wrap64_eq, IntKind.wrap_u64]; omega
theorem uw0 (n : Int) (h : 0 ≤ n ∧ n ≤ 255) : IntKind.u64.wrap n = ((n.toNat : Nat) : Int) := by rw [IntKind.wrap_u64]; omega
theorem rput_loop (x0 : List SO) (hx : x0.length ≤ 2000000) (rest : List SO) : ∀ (i : Nat) (l : List UInt8) (k : Nat), x0.drop i = rest → rest.length + 10 ≤ k → l.length + 257 * rest.length ≤ 900000000 → (∀ o, o ∈ rest → mayS o = true) →
    muleteerref1_PutOpts.l0 k x0 (mkB l) (i : Int) = some (mkB (padL (l ++ obsL rest))) := by
  induction rest with
  | nil =>
    intro i l k hd hk hl _
    have hi : x0.length ≤ i := List.drop_eq_nil_iff.1 hd
    obtain ⟨k, rfl⟩ : ∃ q, k = q + 1 := ⟨k - 1, by omega⟩
    simp only [muleteerref1_PutOpts.l0]
    simp only [List.length_nil, Nat.mul_zero] at hk hl
    rw [if_neg (by omega), pad_loop ((4 - l.length % 4) % 4) l k (by omega) (by omega) (by omega) (by omega)]
    unfold padL
    rw [show l ++ obsL [] = l from List.append_nil l]
  | cons o rest ih =>
    intro i l k hd hk hl hm
    have hlt : i < x0.length := by
      rcases Nat.lt_or_ge i x0.length with h | h
      · exact h
      · rw [List.drop_eq_nil_of_le h] at hd; cases hd
    have hoo : x0[i] = o := by rw [List.drop_eq_getElem_cons hlt] at hd; exact (List.cons.inj hd).1
    have hdr : x0.drop (i + 1) = rest := by rw [List.drop_eq_getElem_cons hlt] at hd; exact (List.cons.inj hd).2
    obtain ⟨k, rfl⟩ : ∃ q, k = q + 1 := ⟨k - 1, by omega⟩
    simp only [List.length_cons] at hk hl
    have hmo := hm o (List.mem_cons_self ..)
    have hol := obL_len o hmo
    obtain ⟨h0, h1, h2⟩ := (mayS_iff o).1 hmo
    have e1 : wrap64 ((i : Int) + 1) = ((i + 1 : Nat) : Int) := by rw [wrap64_eq]; omega
    have ew : IntKind.u64.wrap o.f0 = ((o.f0.toNat : Nat) : Int) := uw0 _ (by omega)
    have next := fun (l' : List UInt8) (h : l'.length + 257 * rest.length ≤ 900000000) => ih (i + 1) l' k hdr (by omega) h (fun x hx => hm x (List.mem_cons_of_mem _ hx))
    simp only [muleteerref1_PutOpts.l0]
    rw [if_pos (by omega), if_pos (by omega), rdT_get x0 i hlt, hoo, ew, e1]
    refine obind (one_byte k o.f0.toNat (by omega) (by omega)) ?_
    rw [mkB_size, mkB_size, if_pos (by simp; omega), mkB_append]
    have ecat : l ++ obsL (o :: rest) = (l ++ obL o) ++ obsL rest := by rw [List.append_assoc]; rfl
    by_cases h32 : o.f0 ≥ 32
    · have eo : obL o = UInt8.ofNat o.f0.toNat :: UInt8.ofNat (o.f1.size + 2) :: o.f1.data.toList := by unfold obL; rw [if_pos h32]
      have ew2 : IntKind.u64.wrap (wrap64 ((o.f1.size : Int) + 2)) = ((o.f1.size + 2 : Nat) : Int) := uw2 _ (by omega)
      rw [if_pos h32, ew2]
      refine obind (one_byte k (o.f1.size + 2) (by omega) (by omega)) ?_
      have hb : mkB [UInt8.ofNat (o.f1.size + 2)] ++ o.f1 = mkB (UInt8.ofNat (o.f1.size + 2) :: o.f1.data.toList) := by
        rw [← mkB_self o.f1, mkB_append]; rfl
      rw [hb, mkB_size, mkB_size, mkB_size, if_pos (by simp; omega), if_pos (by simp only [List.length_append, List.length_cons, List.length_nil, len_size]; omega), mkB_append]
      have el : l ++ [UInt8.ofNat o.f0.toNat] ++ UInt8.ofNat (o.f1.size + 2) :: o.f1.data.toList = l ++ obL o := by rw [eo, List.append_assoc]; rfl
      rw [el, ecat]
      exact next _ (by rw [List.length_append]; omega)
    · have eo : obL o = [UInt8.ofNat o.f0.toNat] := by unfold obL; rw [if_neg h32]
      rw [if_neg h32, ← eo, ecat]
      exact next _ (by rw [List.length_append]; omega)
theorem rput_some (x0 : List SO) (k : Nat) (hx : x0.length ≤ 2000000) (hk : x0.length + 10 ≤ k) (hm : ∀ o, o ∈ x0 → mayS o = true) : muleteerref1_PutOpts.f k x0 = some (strOfNums (putO (x0.map ofS))) := by
  unfold muleteerref1_PutOpts.f
  have := rput_loop x0 hx x0 0 [] k rfl hk (by simp; omega) hm
  rw [put_back x0 hm]
  exact this
/-- what stands behind the options so far: must the next be known, was one not, those that are told. -/
def stp (s : Bool × Bool × List SO) (o : SO) : Bool × Bool × List SO :=
  if o.f0 = 0 then s else (o.f0 == 1, s.2.1 || (s.1 && o.f0 == 1), s.2.2 ++ [o])
theorem fold_bad (os : List SO) : ∀ s : Bool × Bool × List SO, s.2.1 = true → (os.foldl stp s).2.1 = true := by
  induction os with
  | nil => intro s h; exact h
  | cons o os ih =>
    intro s h
    rw [List.foldl_cons]
    refine ih _ ?_
    unfold stp
    split
    · exact h
    · dsimp only; rw [h]; rfl
theorem scan_fold (os : List SO) : ∀ (m : Bool) (w : List SO), ((os.foldl stp (m, false, w)).2.1 || (os.foldl stp (m, false, w)).1) = true ∧ scan os m = none ∨ ((os.foldl stp (m, false, w)).2.1 || (os.foldl stp (m, false, w)).1) = false ∧ ∃ l, scan os m = some l ∧ (os.foldl stp (m, false, w)).2.2 = w ++ l := by
  induction os with
  | nil =>
    intro m w
    cases m with
    | true => exact .inl ⟨rfl, rfl⟩
    | false => exact .inr ⟨rfl, [], rfl, (List.append_nil w).symm⟩
  | cons o os ih =>
    intro m w
    rw [List.foldl_cons]
    by_cases h0 : o.f0 = 0
    · have e1 : stp (m, false, w) o = (m, false, w) := if_pos h0
      have e2 : scan (o :: os) m = scan os m := if_pos h0
      rw [e1, e2]; exact ih m w
    · have e1 : stp (m, false, w) o = (o.f0 == 1, false || (m && o.f0 == 1), w ++ [o]) := if_neg h0
      by_cases hm : m = true ∧ o.f0 = 1
      · have e2 : scan (o :: os) m = none := (if_neg h0).trans (if_pos hm)
        refine .inl ⟨?_, e2⟩
        rw [e1, fold_bad os _ (by dsimp only; rw [hm.1, hm.2]; rfl)]; rfl
      · have e2 : scan (o :: os) m = (scan os (decide (o.f0 = 1))).map (fun l => o :: l) := (if_neg h0).trans (if_neg hm)
        have e3 : (false || (m && o.f0 == 1)) = false := by
          cases m with
          | false => rfl
          | true => rw [Bool.false_or, Bool.true_and, beq_eq_false_iff_ne]; exact fun h => hm ⟨rfl, h⟩
        have e4 : (o.f0 == 1) = decide (o.f0 = 1) := by rw [Bool.eq_iff_iff, beq_iff_eq, decide_eq_true_eq]
        rw [e1, e3, e4, e2]
        rcases ih (decide (o.f0 = 1)) (w ++ [o]) with ⟨a, b⟩ | ⟨a, l, b, c⟩
        · exact .inl ⟨a, by rw [b]; rfl⟩
        · exact .inr ⟨a, o :: l, by rw [b]; rfl, by rw [c, List.append_assoc]; rfl⟩
theorem fold_len (os : List SO) : ∀ s : Bool × Bool × List SO, (os.foldl stp s).2.2.length ≤ s.2.2.length + os.length := by
  induction os with
  | nil => intro s; exact Nat.le_refl _
  | cons o os ih =>
    intro s
    rw [List.foldl_cons, List.length_cons]
    have := ih (stp s o)
    have h : (stp s o).2.2.length ≤ s.2.2.length + 1 := by unfold stp; split <;> simp
    omega
theorem empty_toList : (⟨#[]⟩ : ByteArray).toList = [] := by rw [ByteArray.toList, ByteArray.toList.loop]; rfl
theorem par_len (n : Nat) : ∀ (l : List UInt8) (m : Bool) (r : List SO), par n l m = some r → r.length ≤ n := by
  induction n with
  | zero =>
    intro l m r h
    cases l with
    | nil => cases m <;> simp [par] at h <;> subst h <;> simp
    | cons t l => simp [par] at h
  | succ n ih =>
    intro l m r h
    cases l with
    | nil => cases m <;> simp [par] at h <;> subst h <;> simp
    | cons t l =>
      simp only [par] at h
      split at h
      · exact Nat.le_succ_of_le (ih _ _ _ h)
      · split at h
        · cases h
        · split at h
          · obtain ⟨q, hq, rfl⟩ := Option.map_eq_some_iff.1 h
            simpa using ih _ _ _ hq
          · cases l with
            | nil => cases h
            | cons k l =>
              simp only at h
              split at h
              · cases h
              · obtain ⟨q, hq, rfl⟩ := Option.map_eq_some_iff.1 h
                simpa using ih _ _ _ hq
theorem empty_iff (s : ByteArray) : (s.toList = ([] : List UInt8)) ↔ s.size = 0 := by
  constructor
  · intro h
    rw [ByteArray.toList_eq] at h
    rw [← len_size, h]; rfl
  · intro h; rw [empty_of s h]; exact empty_toList
theorem omay_some (o : SO) : opt_May.f o.f0 o.f1 = some (mayS o) := by
  have hi := mayS_iff o
  unfold opt_May.f
  have yes : ∀ b : Bool, (b = true ↔ mayS o = true) → some b = some (mayS o) := fun b h => congrArg some (Bool.eq_iff_iff.2 h)
  have no : ¬ (0 ≤ o.f0 ∧ o.f0 ≤ 255 ∧ (o.f1.size = 0 ∨ (32 ≤ o.f0 ∧ o.f1.size ≤ 253))) → some false = some (mayS o) := fun h => yes _ (iff_of_false Bool.false_ne_true (fun q => h (hi.1 q)))
  by_cases h0 : o.f0 < 0
  · rw [if_pos h0]; exact no (by omega)
  rw [if_neg h0]
  by_cases h1 : o.f0 > 255
  · rw [if_pos h1]; exact no (by omega)
  rw [if_neg h1]
  by_cases h2 : (o.f1.size : Int) = 0
  · rw [if_pos h2]; exact yes _ (iff_of_true rfl (hi.2 (by omega)))
  rw [if_neg h2]
  by_cases h3 : o.f0 ≥ 32
  · rw [if_pos h3]; exact yes _ (by rw [hi, decide_eq_true_eq]; omega)
  · rw [if_neg h3]; exact no (by omega)
theorem rmay_some (o : SO) : muleteerref1_MayOpt.f o.f0 o.f1 = some (mayS o) := by
  have hi := mayS_iff o
  have he := empty_iff o.f1
  unfold muleteerref1_MayOpt.f
  have yes : ∀ b : Bool, (b = true ↔ mayS o = true) → some b = some (mayS o) := fun b h => congrArg some (Bool.eq_iff_iff.2 h)
  have no : ¬ (0 ≤ o.f0 ∧ o.f0 ≤ 255 ∧ (o.f1.size = 0 ∨ (32 ≤ o.f0 ∧ o.f1.size ≤ 253))) → some false = some (mayS o) := fun h => yes _ (iff_of_false Bool.false_ne_true (fun q => h (hi.1 q)))
  by_cases h0 : o.f0 ≥ 0
  · rw [if_pos h0]
    by_cases h1 : o.f0 ≤ 255
    · rw [if_pos h1]
      by_cases h3 : o.f0 < 32
      · rw [if_pos h3]
        by_cases h4 : o.f1.toList = ([] : List UInt8)
        · rw [if_pos h4]; have h5 := he.1 h4; exact yes _ (iff_of_true rfl (hi.2 (by omega)))
        · rw [if_neg h4, if_neg (by omega)]; have h5 : ¬ o.f1.size = 0 := fun h => h4 (he.2 h); exact no (by omega)
      · rw [if_neg h3, if_pos (by omega)]; exact yes _ (by rw [hi, decide_eq_true_eq]; omega)
    · rw [if_neg h1]; exact no (by omega)
  · rw [if_neg h0]; exact no (by omega)
/-- the first option of a type. -/
def fnd (t : Int) : List SO → ByteArray × Bool
  | [] => (⟨#[]⟩, false)
  | o :: r => if o.f0 = t then (o.f1, true) else fnd t r
theorem find_loop (l : List SO) (hl : l.length ≤ 1000000000) (t : Int) (rest : List SO) : ∀ (i k : Nat), l.drop i = rest → rest.length < k → opt_Find.l0 k t l (l.length : Int) (i : Int) = some (fnd t rest) := by
  induction rest with
  | nil =>
    intro i k hd hk
    have hi : l.length ≤ i := List.drop_eq_nil_iff.1 hd
    obtain ⟨k, rfl⟩ : ∃ q, k = q + 1 := ⟨k - 1, by omega⟩
    simp only [opt_Find.l0]
    rw [if_neg (by omega)]; rfl
  | cons o rest ih =>
    intro i k hd hk
    have hlt : i < l.length := by
      rcases Nat.lt_or_ge i l.length with h | h
      · exact h
      · rw [List.drop_eq_nil_of_le h] at hd; cases hd
    have hoo : l[i] = o := by rw [List.drop_eq_getElem_cons hlt] at hd; exact (List.cons.inj hd).1
    have hdr : l.drop (i + 1) = rest := by rw [List.drop_eq_getElem_cons hlt] at hd; exact (List.cons.inj hd).2
    obtain ⟨k, rfl⟩ : ∃ q, k = q + 1 := ⟨k - 1, by omega⟩
    simp only [List.length_cons] at hk
    have e : wrap64 ((i : Int) + 1) = ((i + 1 : Nat) : Int) := by rw [wrap64_eq]; omega
    simp only [opt_Find.l0, fnd]
    rw [if_pos (by omega), if_pos (by omega), if_pos (by omega), rdT_get l i hlt, hoo, e]
    by_cases h : o.f0 = t
    · rw [if_pos h, if_pos h]
    · rw [if_neg h, if_neg h]; exact ih (i + 1) k hdr (by omega)
theorem first_loop (l : List SO) (hl : l.length ≤ 1000000000) (t : Int) (rest : List SO) : ∀ (i k : Nat) (d : ByteArray) (ok : Bool), fnd t rest = (d, ok) → l.drop i = rest → rest.length < k → muleteerlaw1_OptAll.l1 k t l d ok (l.length : Int) (i : Int) = some true := by
  induction rest with
  | nil =>
    intro i k d ok hf hd hk
    have hi : l.length ≤ i := List.drop_eq_nil_iff.1 hd
    obtain ⟨k, rfl⟩ : ∃ q, k = q + 1 := ⟨k - 1, by omega⟩
    obtain ⟨rfl, rfl⟩ := Prod.mk.inj hf
    simp only [muleteerlaw1_OptAll.l1]
    rw [if_neg (by omega), if_neg Bool.false_ne_true, empty_toList]; rfl
  | cons o rest ih =>
    intro i k d ok hf hd hk
    have hlt : i < l.length := by
      rcases Nat.lt_or_ge i l.length with h | h
      · exact h
      · rw [List.drop_eq_nil_of_le h] at hd; cases hd
    have hoo : l[i] = o := by rw [List.drop_eq_getElem_cons hlt] at hd; exact (List.cons.inj hd).1
    have hdr : l.drop (i + 1) = rest := by rw [List.drop_eq_getElem_cons hlt] at hd; exact (List.cons.inj hd).2
    obtain ⟨k, rfl⟩ : ∃ q, k = q + 1 := ⟨k - 1, by omega⟩
    simp only [List.length_cons] at hk
    have e : wrap64 ((i : Int) + 1) = ((i + 1 : Nat) : Int) := by rw [wrap64_eq]; omega
    simp only [muleteerlaw1_OptAll.l1]
    rw [if_pos (by omega), if_pos (by omega), if_pos (by omega), rdT_get l i hlt, hoo, e]
    simp only [fnd] at hf
    by_cases h : o.f0 = t
    · rw [if_pos h] at hf
      obtain ⟨rfl, rfl⟩ := Prod.mk.inj hf
      rw [if_pos h]; exact (if_pos rfl).trans (congrArg some (beq_self_eq_true _))
    · rw [if_neg h] at hf
      rw [if_neg h]; exact ih (i + 1) k d ok hf hdr (by omega)
/-- what is asked behind the loop. -/
theorem all_end (x0 : List SO) (t : Int) (h8 : x0.length ≤ 8) (k : Nat) (hk : 9000 ≤ k) (S : Bool × Bool × List SO) (hS : S = x0.foldl stp (false, false, [])) :
    ((opt_Put.f x0).bind fun t170 => (if x0.all mayS = true then ((opt_Get.f k t170).bind fun bt171 => ((muleteerref1_PutOpts.f k x0).bind fun t175 => (if t170.toList = t175.toList then (if S.2.1 = true then (muleteerlaw1_OptAll.j2 k x0 t bt171.1 bt171.2 S.2.2 t170 true) else (muleteerlaw1_OptAll.j2 k x0 t bt171.1 bt171.2 S.2.2 t170 S.1)) else (muleteerlaw1_OptAll.j2 k x0 t bt171.1 bt171.2 S.2.2 t170 true)))) else (some (t170.toList == ([] : List UInt8))))) = some true := by
  have hp : opt_Put.f x0 = some (strOfNums (putO (x0.map ofS))) := by
    unfold opt_Put.f
    rw [if_pos]
    refine ⟨?_, by omega⟩
    have e : (x0.map ofS).takeWhile mayO = (x0.takeWhile mayS).map ofS := by rw [List.takeWhile_map]; rfl
    have hm : ∀ o, o ∈ x0.takeWhile mayS → mayS o = true := List.all_eq_true.1 List.all_takeWhile
    have hl := congrArg List.length (obs_back (x0.takeWhile mayS) hm)
    rw [List.length_map] at hl
    have h1 := obsL_len (x0.takeWhile mayS) hm
    have h2 : (x0.takeWhile mayS).length ≤ x0.length := (List.takeWhile_prefix mayS).length_le
    rw [e, hl]; omega
  refine obind hp ?_
  by_cases ha : x0.all mayS = true
  · rw [if_pos ha]
    have hm : ∀ o, o ∈ x0 → mayS o = true := List.all_eq_true.1 ha
    have hol := obsL_len x0 hm
    have hput := put_back x0 hm
    have hz : (strOfNums (putO (x0.map ofS))).size ≤ 2100 := by rw [hput, mkB_size]; unfold padL; rw [List.length_append, List.length_replicate]; omega
    refine obind (oget_some _ k (by omega) (by omega)) ?_
    refine obind (rput_some x0 k (by omega) (by omega) hm) ?_
    rw [if_pos rfl]
    have hpar : par (strOfNums (putO (x0.map ofS))).size (strOfNums (putO (x0.map ofS))).data.toList false = scan x0 false := by
      rw [hput, mkB_data, mkB_size]
      exact par_obs x0 _ _ false hm (by unfold padL; rw [List.length_append, List.length_replicate]; exact Nat.le_refl _)
    rw [hpar]
    have hlen := fold_len x0 (false, false, [])
    rw [← hS] at hlen
    have hsf := scan_fold x0 false []
    rw [← hS] at hsf
    obtain ⟨k, rfl⟩ : ∃ q, k = q + 3 := ⟨k - 3, by omega⟩
    obtain ⟨m', b', w'⟩ := S
    dsimp only at hlen hsf ⊢
    have badj : scan x0 false = none → muleteerlaw1_OptAll.j2 (k + 3) x0 t (parR [] (scan x0 false)).1 (parR [] (scan x0 false)).2 w' (strOfNums (putO (x0.map ofS))) true = some true := by
      intro hn
      rw [hn]
      simp only [muleteerlaw1_OptAll.j2, if_true, parR]
      exact obind (rput_some x0 (k + 2) (by omega) (by omega) hm) ((if_pos rfl).trans rfl)
    rcases hsf with ⟨a, b⟩ | ⟨a, l, b, c⟩
    · cases hb : b' with
      | true => rw [if_pos rfl]; exact badj b
      | false =>
        rw [hb, Bool.false_or] at a
        rw [if_neg Bool.false_ne_true, a]; exact badj b
    · have hb : b' = false := by cases b' with | true => simp at a | false => rfl
      have hm' : m' = false := by cases m' with | true => simp [hb] at a | false => rfl
      subst hb hm'
      rw [List.nil_append] at c
      subst c
      rw [if_neg Bool.false_ne_true, b]
      simp only [muleteerlaw1_OptAll.j2, Bool.false_eq_true, if_false, parR, List.nil_append, if_true]
      simp only [List.length_nil] at hlen
      refine obind (opts_same w' (k + 2) (by omega) (by omega)) ?_
      simp only [muleteerlaw1_OptAll.j3, Bool.not_true, Bool.false_eq_true, if_false]
      have hf : opt_Find.f (k + 1) w' t = some (fnd t w') := find_loop w' (by omega) t w' 0 (k + 1) rfl (by omega)
      exact obind hf (first_loop w' (by omega) t w' 0 (k + 1) _ _ rfl rfl (by omega))
  · rw [if_neg ha]
    have hp0 : putO (x0.map ofS) = [] := by
      unfold putO
      rw [if_neg]
      rw [List.all_map]; exact ha
    rw [hp0]
    have : (strOfNums []).toList = [] := empty_toList
    rw [this]; rfl
theorem all_loop (x0 : List SO) (t : Int) (h8 : x0.length ≤ 8) (rest : List SO) : ∀ (i k : Nat) (may : Bool) (S : Bool × Bool × List SO), x0.drop i = rest → i ≤ x0.length → 9000 + rest.length < k → may = (x0.take i).all mayS → S = (x0.take i).foldl stp (false, false, []) →
    muleteerlaw1_OptAll.l0 k x0 t may S.1 S.2.1 S.2.2 (x0.length : Int) (i : Int) = some true := by
  induction rest with
  | nil =>
    intro i k may S hd hi hk hmay hS
    have hil : i = x0.length := by have := List.drop_eq_nil_iff.1 hd; omega
    subst hil
    rw [List.take_length] at hmay hS
    obtain ⟨k, rfl⟩ : ∃ q, k = q + 1 := ⟨k - 1, by omega⟩
    simp only [muleteerlaw1_OptAll.l0]
    rw [if_neg (by omega), hmay]
    exact all_end x0 t h8 k (by simp at hk; omega) S hS
  | cons o rest ih =>
    intro i k may S hd hi hk hmay hS
    have hlt : i < x0.length := by
      rcases Nat.lt_or_ge i x0.length with h | h
      · exact h
      · rw [List.drop_eq_nil_of_le h] at hd; cases hd
    have hoo : x0[i] = o := by rw [List.drop_eq_getElem_cons hlt] at hd; exact (List.cons.inj hd).1
    have hdr : x0.drop (i + 1) = rest := by rw [List.drop_eq_getElem_cons hlt] at hd; exact (List.cons.inj hd).2
    obtain ⟨k, rfl⟩ : ∃ q, k = q + 1 := ⟨k - 1, by omega⟩
    simp only [List.length_cons] at hk
    have e : wrap64 ((i : Int) + 1) = ((i + 1 : Nat) : Int) := by rw [wrap64_eq]; omega
    have ht : x0.take (i + 1) = x0.take i ++ [o] := by rw [List.take_succ_eq_append_getElem hlt, hoo]
    have hmay' : (may && mayS o) = (x0.take (i + 1)).all mayS := by rw [ht, List.all_append, ← hmay]; simp
    have hS' : stp S o = (x0.take (i + 1)).foldl stp (false, false, []) := by rw [ht, List.foldl_append, ← hS]; rfl
    have hwl := fold_len (x0.take i) (false, false, [])
    rw [← hS, List.length_take, List.length_nil] at hwl
    have next := ih (i + 1) k (may && mayS o) (stp S o) hdr (by omega) (by omega) hmay' hS'
    simp only [muleteerlaw1_OptAll.l0]
    rw [if_pos (by omega), if_pos (by omega), if_pos (by omega), rdT_get x0 i hlt, hoo, e]
    refine obind (omay_some o) (obind (rmay_some o) ?_)
    rw [bne_self_eq_false]
    refine (if_neg Bool.false_ne_true).trans ?_
    obtain ⟨m', b', w'⟩ := S
    dsimp only at hwl next ⊢
    have both : ∀ b : Bool, b = (may && mayS o) → (if o.f0 = 0 then (muleteerlaw1_OptAll.l0 k x0 t b m' b' w' (x0.length : Int) ((i + 1 : Nat) : Int)) else (if w'.length < 5864062014805 then ((some (w' ++ [(⟨o.f0, o.f1⟩ : SO)] : List SO)).bind fun y154 => (if b' = true then (muleteerlaw1_OptAll.l0 k x0 t b (o.f0 == 1) true y154 (x0.length : Int) ((i + 1 : Nat) : Int)) else (if m' = true then (muleteerlaw1_OptAll.l0 k x0 t b (o.f0 == 1) (o.f0 == 1) y154 (x0.length : Int) ((i + 1 : Nat) : Int)) else (muleteerlaw1_OptAll.l0 k x0 t b (o.f0 == 1) false y154 (x0.length : Int) ((i + 1 : Nat) : Int))))) else (none))) = some true := by
      intro b hb
      subst hb
      by_cases h0 : o.f0 = 0
      · rw [if_pos h0]
        have e1 : stp (m', b', w') o = (m', b', w') := if_pos h0
        rw [e1] at next; exact next
      · rw [if_neg h0, if_pos (by omega)]
        have e1 : stp (m', b', w') o = (o.f0 == 1, b' || (m' && o.f0 == 1), w' ++ [o]) := if_neg h0
        rw [e1] at next
        refine obind rfl ?_
        cases b' with
        | true => rw [if_pos rfl]; exact next
        | false =>
          rw [if_neg Bool.false_ne_true]
          cases m' with
          | true => rw [if_pos rfl]; exact next
          | false => rw [if_neg Bool.false_ne_true]; exact next
    by_cases hm : may = true
    · rw [if_pos hm]
      refine obind (rmay_some o) ?_
      exact both (mayS o) (by rw [hm]; rfl)
    · rw [if_neg hm]
      exact both false (by cases may with | true => exact absurd rfl hm | false => rfl)
theorem OptAll (l0 : List SO) (a1 : ByteArray) (a2 : Int) : ∃ k, muleteerlaw1_OptAll.f k l0 a1 a2 = some true := by
  refine ⟨9100, ?_⟩
  unfold muleteerlaw1_OptAll.f
  refine obind (x := muleteerlaw1_begun.f) rfl ((if_pos rfl).trans ?_)
  have hm : mn (l0.length : Int) 8 = ((min l0.length 8 : Nat) : Int) := by unfold mn; split <;> omega
  rw [hm, if_pos (by omega), if_pos (by omega), Int.toNat_natCast]
  refine obind rfl ?_
  have h8 : (l0.take (min l0.length 8)).length ≤ 8 := by rw [List.length_take]; omega
  generalize l0.take (min l0.length 8) = x0 at *
  refine obind (show muleteerlaw1_Text.f a1 60 = _ from text_cut a1 60) ?_
  have hz : (a1.extract 0 (min a1.size 60)).size ≤ 60 := by rw [ByteArray.size_extract]; omega
  generalize a1.extract 0 (min a1.size 60) = s at *
  refine obind (oget_some s 9100 (by omega) (by omega)) (obind (rget_some s 9100 (by omega) (by omega)) ((if_pos rfl).trans ?_))
  have hl : (parR [] (par s.size s.data.toList false)).1.length ≤ 60 := by
    have := par_len s.size s.data.toList false
    cases h : par s.size s.data.toList false with
    | none => simp [parR]
    | some l => have := this l h; simp only [parR, List.nil_append]; omega
  refine obind (opts_same _ 9100 (by omega) (by omega)) ?_
  simp only [muleteerlaw1_OptAll.j0, Bool.not_true, Bool.false_eq_true, if_false]
  exact all_loop x0 a2 h8 x0 0 9099 true (false, false, []) rfl (by omega) (by omega) rfl rfl
end Go.Proofs.YtmdimebifngekaaGreatDoor.Pure
