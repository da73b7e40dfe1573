/- OptMany's plain law: many options of all lengths: what is written is read, in order, each whole. -/
import Derived.Test.YtpebccpimcofoaaDoorPOptManyx3
import Derived.Test.YtpebccpimcofoaaDoorPureKit
namespace Go.Proofs.YtpebccpimcofoaaDoor.Pure
set_option linter.unusedVariables false
open Go.RowKit Go.Proofs.YtpebccpimcofoaaDoor.POptMany Go.Proofs.YtpebccpimcofoaaDoorW.PrintWords Go.Proofs.YtpebccpimcofoaaDoorW.PrintLast Go.Proofs.YtpebccpimcofoaaDoorW.PrintMore

theorem obind {α β : Type} {x : Option α} {a : α} {f : α → Option β} {r : Option β} (h : x = some a) (k : f a = r) : x.bind f = r := by subst h; exact k
def mkB (l : List UInt8) : ByteArray := ⟨l.toArray⟩
theorem mkB_data (l : List UInt8) : (mkB l).data.toList = l := rfl
theorem mkB_self (s : ByteArray) : mkB s.data.toList = s := ByteArray.ext (by unfold mkB; rw [Array.toArray_toList])
theorem ext_list (s : ByteArray) (a b : Nat) : (s.extract a b).data.toList = (s.data.toList.drop a).take (b - a) := by
  rw [ByteArray.data_extract, Array.toList_extract, List.extract_eq_take_drop]
theorem ext_mkB (s : ByteArray) (a b : Nat) : s.extract a b = mkB ((s.data.toList.drop a).take (b - a)) := by
  rw [← mkB_self (s.extract a b), ext_list]
theorem ext_drop (s : ByteArray) (a : Nat) : (s.extract a s.size).data.toList = s.data.toList.drop a := by
  rw [ext_list, List.take_of_length_le]
  rw [List.length_drop, Array.length_toList]; exact Nat.le_refl _
theorem len_size (s : ByteArray) : s.data.toList.length = s.size := by rw [Array.length_toList]; rfl
theorem bt_drop (s : ByteArray) (i : Nat) (t : UInt8) (r : List UInt8) (h : s.data.toList.drop i = t :: r) : bt s (i : Int) = (t.toNat : Int) := by
  have hlt : i < s.data.toList.length := by
    rcases Nat.lt_or_ge i s.data.toList.length with h' | h'
    · exact h'
    · rw [List.drop_eq_nil_of_le h'] at h; cases h
  have hlt' : i < s.size := by rw [← len_size]; exact hlt
  rw [List.drop_eq_getElem_cons hlt] at h
  rw [← bt_at s (i : Int) (by rw [Int.toNat_natCast]; exact hlt')]
  have e : s[i] = t := (List.cons.inj h).1
  show ((s[(i : Int).toNat]'_).toNat : Int) = _
  simp only [Int.toNat_natCast]
  rw [e]
abbrev SO := S36
/-- what bytes say of options; m: what came last must be known. -/
def par : Nat → List UInt8 → Bool → Option (List SO)
  | _, [], m => if m then none else some []
  | 0, _ :: _, _ => none
  | n + 1, t :: r, m =>
    if t.toNat = 0 then par n r m
    else if m = true ∧ t.toNat = 1 then none
    else if t.toNat < 32 then (par n r (decide (t.toNat = 1))).map (fun l => ⟨(t.toNat : Int), ⟨#[]⟩⟩ :: l)
    else match r with
      | [] => none
      | k :: r' => if k.toNat < 2 ∨ r'.length + 2 < k.toNat then none else (par n (r'.drop (k.toNat - 2)) false).map (fun l => ⟨(t.toNat : Int), mkB (r'.take (k.toNat - 2))⟩ :: l)
def parR (acc : List SO) : Option (List SO) → List SO × Int
  | none => ([], 7)
  | some l => (acc ++ l, 0)
theorem parR_map (acc : List SO) (o : SO) (x : Option (List SO)) : parR acc (x.map (fun l => o :: l)) = parR (acc ++ [o]) x := by
  cases x with
  | none => rfl
  | some l => simp [parR]
def obL (o : SO) : List UInt8 := UInt8.ofNat o.f0.toNat :: if 32 ≤ o.f0 then UInt8.ofNat (o.f1.size + 2) :: o.f1.data.toList else []
def obsL (os : List SO) : List UInt8 := (os.map obL).flatten
def mayS (o : SO) : Bool := mayO (ofS o)
theorem mayS_iff (o : SO) : mayS o = true ↔ (0 ≤ o.f0 ∧ o.f0 ≤ 255 ∧ (o.f1.size = 0 ∨ (32 ≤ o.f0 ∧ o.f1.size ≤ 253))) := by
  unfold mayS mayO ofS
  rw [decide_eq_true_eq]
theorem empty_of (s : ByteArray) (h : s.size = 0) : s = ⟨#[]⟩ := by
  have : s.data.toList = [] := List.eq_nil_of_length_eq_zero (by rw [len_size]; exact h)
  rw [← mkB_self s, this]; rfl
theorem byte_of (n : Int) (h0 : 0 ≤ n) (h1 : n ≤ 255) : ((UInt8.ofNat n.toNat).toNat : Int) = n ∧ (UInt8.ofNat n.toNat).toNat = n.toNat := by
  rw [UInt8.toNat_ofNat']; omega
def scan : List SO → Bool → Option (List SO)
  | [], m => if m then none else some []
  | o :: r, m => if o.f0 = 0 then scan r m else if m = true ∧ o.f0 = 1 then none else (scan r (decide (o.f0 = 1))).map (fun l => o :: l)
theorem par_zeros (z : Nat) : ∀ (n : Nat) (m : Bool), z ≤ n → par n (List.replicate z 0) m = if m then none else some [] := by
  induction z with
  | zero => intro n m _; cases n <;> rfl
  | succ z ih =>
    intro n m hn
    obtain ⟨n, rfl⟩ : ∃ j, n = j + 1 := ⟨n - 1, by omega⟩
    rw [List.replicate_succ]
    simp only [par]
    rw [if_pos (by rfl)]
    exact ih n m (by omega)
theorem par_obs (os : List SO) : ∀ (n z : Nat) (m : Bool), (∀ o, o ∈ os → mayS o = true) → (obsL os).length + z ≤ n → par n (obsL os ++ List.replicate z 0) m = scan os m := by
  induction os with
  | nil => intro n z m _ hn; exact par_zeros z n m (by simpa [obsL] using hn)
  | cons o os ih =>
    intro n z m hm hn
    obtain ⟨h0, h1, h2⟩ := (mayS_iff o).1 (hm o (List.mem_cons_self ..))
    have hr := fun x hx => hm x (List.mem_cons_of_mem _ hx)
    have e : obsL (o :: os) = obL o ++ obsL os := rfl
    rw [e] at hn ⊢
    obtain ⟨b1, b2⟩ := byte_of o.f0 h0 h1
    obtain ⟨t, d⟩ := o
    dsimp only at h0 h1 h2 b1 b2
    simp only [List.length_append] at hn
    simp only [scan]
    by_cases h32 : 32 ≤ t
    · have eo : obL ⟨t, d⟩ = UInt8.ofNat t.toNat :: UInt8.ofNat (d.size + 2) :: d.data.toList := by unfold obL; rw [if_pos h32]
      rw [eo] at hn ⊢
      simp only [List.length_cons] at hn
      obtain ⟨n, rfl⟩ : ∃ j, n = j + 1 := ⟨n - 1, by omega⟩
      have hd : d.size ≤ 253 := by omega
      have hs : (UInt8.ofNat (d.size + 2)).toNat = d.size + 2 := by rw [UInt8.toNat_ofNat']; omega
      have hl := len_size d
      simp only [List.cons_append, par]
      rw [b2, if_neg (by omega), if_neg (by omega), if_neg (by omega), hs, if_neg (by rw [List.length_append, List.length_append, hl]; omega), if_neg (by omega), if_neg (by omega)]
      have e1 : (d.data.toList ++ (obsL os ++ List.replicate z 0)).drop (d.size + 2 - 2) = obsL os ++ List.replicate z 0 := by
        rw [show d.size + 2 - 2 = d.data.toList.length from by rw [hl]; omega, List.drop_left]
      have e2 : (d.data.toList ++ (obsL os ++ List.replicate z 0)).take (d.size + 2 - 2) = d.data.toList := by
        rw [show d.size + 2 - 2 = d.data.toList.length from by rw [hl]; omega, List.take_left]
      have hf : decide (t = 1) = false := decide_eq_false (by omega)
      rw [List.append_assoc, e1, e2, ih n z false hr (by omega), hf, mkB_self]
      have : ((t.toNat : Nat) : Int) = t := by omega
      rw [this]
    · have eo : obL ⟨t, d⟩ = [UInt8.ofNat t.toNat] := by unfold obL; rw [if_neg h32]
      rw [eo] at hn ⊢
      simp only [List.length_cons, List.length_nil] at hn
      obtain ⟨n, rfl⟩ : ∃ j, n = j + 1 := ⟨n - 1, by omega⟩
      have hd : d = ⟨#[]⟩ := empty_of d (by omega)
      subst hd
      simp only [List.cons_append, List.nil_append, par]
      rw [b2]
      have et : ((t.toNat : Nat) : Int) = t := by omega
      by_cases ht0 : t = 0
      · rw [if_pos (by omega), if_pos ht0]
        exact ih n z m hr (by omega)
      · rw [if_neg (by omega), if_neg ht0]
        by_cases hm1 : m = true ∧ t = 1
        · rw [if_pos ⟨hm1.1, by omega⟩, if_pos hm1]
        · have hd1 : decide (t.toNat = 1) = decide (t = 1) := by rw [decide_eq_decide]; omega
          rw [if_neg (fun h : m = true ∧ t.toNat = 1 => hm1 ⟨h.1, by omega⟩), if_neg hm1, if_pos (by omega), hd1, ih n z _ hr (by omega), et]
/-- what is written of options that may be. -/
theorem nb_back (d : ByteArray) : (nb d).map (fun n => UInt8.ofNat n.toNat) = d.data.toList := by
  unfold nb
  rw [List.map_map]
  have : ((fun n : Int => UInt8.ofNat n.toNat) ∘ fun b : UInt8 => (b.toNat : Int)) = id := by funext b; simp
  rw [this, List.map_id]
theorem obs_back (os : List SO) (h : ∀ o, o ∈ os → mayS o = true) : (obs (os.map ofS)).map (fun n => UInt8.ofNat n.toNat) = obsL os := by
  induction os with
  | nil => rfl
  | cons o os ih =>
    have e1 : obs ((o :: os).map ofS) = ob (ofS o) ++ obs (os.map ofS) := rfl
    have e2 : obsL (o :: os) = obL o ++ obsL os := rfl
    rw [e1, e2, List.map_append, ih (fun x hx => h x (List.mem_cons_of_mem _ hx))]
    congr 1
    unfold ob obL ofS
    dsimp only
    by_cases h32 : 32 ≤ o.f0
    · rw [if_pos h32, if_pos h32, List.map_cons, List.map_cons, nb_back, Int.toNat_natCast]
    · rw [if_neg h32, if_neg h32]; rfl
def padL (l : List UInt8) : List UInt8 := l ++ List.replicate ((4 - l.length % 4) % 4) 0
theorem put_back (os : List SO) (h : ∀ o, o ∈ os → mayS o = true) : strOfNums (putO (os.map ofS)) = mkB (padL (obsL os)) := by
  have ha : (os.map ofS).all mayO = true := by
    rw [List.all_map]; exact List.all_eq_true.2 (fun o ho => h o ho)
  have hl : (obs (os.map ofS)).length = (obsL os).length := by rw [← obs_back os h, List.length_map]
  unfold putO
  rw [if_pos ha, ← mkB_self (strOfNums _), strOfNums_data]
  unfold pad4 padL
  rw [List.map_append, obs_back os h, List.map_replicate, hl]; rfl
theorem obL_len (o : SO) (h : mayS o = true) : (obL o).length ≤ 257 := by
  have := (mayS_iff o).1 h
  unfold obL
  split
  · rw [List.length_cons, List.length_cons, len_size]; omega
  · simp
theorem obsL_len (os : List SO) (h : ∀ o, o ∈ os → mayS o = true) : (obsL os).length ≤ 257 * os.length := by
  induction os with
  | nil => simp [obsL]
  | cons o os ih =>
    have e2 : obsL (o :: os) = obL o ++ obsL os := rfl
    have h1 := obL_len o (h o (List.mem_cons_self ..))
    have h2 := ih (fun x hx => h x (List.mem_cons_of_mem _ hx))
    rw [e2, List.length_append, List.length_cons]; omega
theorem all_may (os : List SO) (h : ∀ o, o ∈ os → mayS o = true) : (os.map ofS).all mayO = true := by
  rw [List.all_map]; exact List.all_eq_true.2 (fun o ho => h o ho)
def oneR : List UInt8 → Int × ByteArray × Int
  | [] => (0, ⟨#[]⟩, 0)
  | t :: r => if t.toNat < 32 then ((t.toNat : Int), ⟨#[]⟩, 1) else match r with
    | [] => ((t.toNat : Int), ⟨#[]⟩, 0)
    | k :: r' => if k.toNat < 2 ∨ r'.length + 2 < k.toNat then ((t.toNat : Int), ⟨#[]⟩, 0) else ((t.toNat : Int), mkB (r'.take (k.toNat - 2)), (k.toNat : Int))
theorem wrap_byte (t : UInt8) : wrap64 (t.toNat : Int) = (t.toNat : Int) := by have := t.toNat_lt; rw [wrap64_eq]; omega
theorem one_some (s : ByteArray) (t : UInt8) (r : List UInt8) (h : s.data.toList = t :: r) : opt_one.f s = some (oneR (t :: r)) := by
  have hl : s.size = r.length + 1 := by rw [← len_size, h]; rfl
  have h0 : bt s 0 = (t.toNat : Int) := bt_drop s 0 t r h
  unfold opt_one.f
  simp only [oneR]
  rw [if_pos (by omega), h0, wrap_byte]
  by_cases h1 : t.toNat < 32
  · rw [if_pos (by omega), if_pos h1]
  · rw [if_neg (by omega), if_neg h1]
    cases r with
    | nil => rw [if_pos (by simp at hl; omega)]
    | cons k r' =>
      simp only [List.length_cons] at hl
      have hk : bt s 1 = (k.toNat : Int) := bt_drop s 1 k r' (by rw [h]; rfl)
      have hkt := k.toNat_lt
      rw [if_neg (by omega), if_pos (by omega), hk, wrap_byte]
      simp only
      by_cases h2 : k.toNat < 2
      · rw [if_pos (by omega), if_pos (.inl h2)]
      · rw [if_neg (by omega)]
        by_cases h3 : r'.length + 2 < k.toNat
        · rw [if_pos (by omega), if_pos (.inr h3)]
        · rw [if_neg (by omega), if_pos (by omega), if_pos (by omega), if_neg (by omega)]
          rw [ext_mkB, h, Int.toNat_natCast]; rfl
theorem oget_loop (n : Nat) : ∀ (s : ByteArray) (acc : List SO) (m : Bool) (k : Nat), s.data.toList.length ≤ n → 2 * n + 2 ≤ k → acc.length + n ≤ 1000000000 →
    opt_Get.l0 k s acc m = some (parR acc (par n s.data.toList m)) := by
  induction n with
  | zero =>
    intro s acc m k hs hk _
    obtain ⟨k, rfl⟩ : ∃ q, k = q + 1 := ⟨k - 1, by omega⟩
    have hl : s.data.toList = [] := List.eq_nil_of_length_eq_zero (by omega)
    have hz : s.size = 0 := by rw [← len_size, hl]; rfl
    simp only [opt_Get.l0]
    rw [if_neg (by omega), hl]
    cases m <;> simp [par, parR]
  | succ n ih =>
    intro s acc m k hs hk ha
    obtain ⟨k, rfl⟩ : ∃ q, k = q + 2 := ⟨k - 2, by omega⟩
    rcases hl : s.data.toList with _ | ⟨t, r⟩
    · have hz : s.size = 0 := by rw [← len_size, hl]; rfl
      simp only [opt_Get.l0]
      rw [if_neg (by omega)]
      cases m <;> simp [par, parR]
    · have hz : s.size = r.length + 1 := by rw [← len_size, hl]; rfl
      have hr : r.length ≤ n := by rw [hl] at hs; simpa using hs
      have ht := t.toNat_lt
      simp only [opt_Get.l0]
      rw [if_pos (by omega)]
      refine obind (one_some s t r hl) ?_
      -- what is behind the test
      have fin : ∀ (x : Int) (d : ByteArray) (j : Nat), 0 < j → j ≤ s.size → (x = (t.toNat : Int)) → ¬ (m = true ∧ t.toNat = 1) →
          opt_Get.j1 (k + 1) s acc m (j : Int) (if m = true then (x == 1) else false) x d = some (parR acc (if t.toNat = 0 then par n (s.data.toList.drop j) m else (par n (s.data.toList.drop j) (decide (t.toNat = 1))).map (fun l => (⟨x, d⟩ : SO) :: l))) := by
        intro x d j hj0 hj hx hm
        have hb : (if m = true then (x == 1) else false) = false := by
          cases m with
          | false => rfl
          | true => rw [if_pos rfl, beq_eq_false_iff_ne]; intro h1; exact hm ⟨rfl, by omega⟩
        rw [hb]
        have hdl : (s.extract j s.size).data.toList.length ≤ n := by rw [ext_drop, List.length_drop, len_size]; omega
        simp only [opt_Get.j1, Bool.false_eq_true, if_false]
        rw [if_pos (by omega), if_pos (by omega), Int.toNat_natCast]
        by_cases h0 : t.toNat = 0
        · rw [if_pos (by omega), if_pos h0, ih (s.extract j s.size) acc m k hdl (by omega) (by omega), ext_drop]
        · rw [if_neg (by omega), if_neg h0, if_pos (by omega), ih (s.extract j s.size) _ (x == 1) k hdl (by omega) (by simp; omega), ext_drop, parR_map]
          have : (x == 1) = decide (t.toNat = 1) := by rw [Bool.eq_iff_iff, beq_iff_eq, decide_eq_true_eq]; omega
          rw [this]
      have bad : ∀ (x7 x : Int) (d : ByteArray), opt_Get.j1 (k + 1) s acc m x7 true x d = some ([], 7) := fun x7 x d => by simp only [opt_Get.j1, if_true]
      have join : ∀ (x7 x : Int) (d : ByteArray) (q : List SO × Int), opt_Get.j1 (k + 1) s acc m x7 (if m = true then (x == 1) else false) x d = some q →
          (if m = true then opt_Get.j1 (k + 1) s acc m x7 (x == 1) x d else opt_Get.j1 (k + 1) s acc m x7 false x d) = some q := by
        intro x7 x d q hq
        cases m with
        | false => rw [if_neg Bool.false_ne_true]; rw [if_neg Bool.false_ne_true] at hq; exact hq
        | true => rw [if_pos rfl]; rw [if_pos rfl] at hq; exact hq
      simp only [par, oneR]
      by_cases h32 : t.toNat < 32
      · simp only [if_pos h32]
        refine (if_neg (by omega)).trans (join _ _ _ _ ?_)
        by_cases hm : m = true ∧ t.toNat = 1
        · have hx : ((t.toNat : Int) == 1) = true := by rw [beq_iff_eq]; omega
          rw [if_pos hm.1, hx, bad, if_neg (by omega), if_pos hm]; rfl
        · have := fin (t.toNat : Int) ⟨#[]⟩ 1 (by omega) (by omega) rfl hm
          rw [hl] at this
          rw [if_neg hm]
          exact this
      · simp only [if_neg h32]
        rw [if_neg (show ¬ t.toNat = 0 by omega), if_neg (show ¬ (m = true ∧ t.toNat = 1) by omega)]
        rcases r with _ | ⟨q, r'⟩
        · exact (if_pos rfl).trans (bad _ _ _)
        · simp only
          simp only [List.length_cons] at hz hr
          have hq := q.toNat_lt
          by_cases h2 : q.toNat < 2 ∨ r'.length + 2 < q.toNat
          · simp only [if_pos h2]
            rw [if_pos trivial]; exact bad _ _ _
          · simp only [if_neg h2]
            refine (if_neg (by omega)).trans (join _ _ _ _ ?_)
            rw [fin (t.toNat : Int) _ q.toNat (by omega) (by omega) rfl (by omega), if_neg (show ¬ t.toNat = 0 by omega), hl]
            have hd : (t :: q :: r').drop q.toNat = r'.drop (q.toNat - 2) := by
              obtain ⟨j, hj⟩ : ∃ j, q.toNat = j + 2 := ⟨q.toNat - 2, by omega⟩
              rw [hj]; rfl
            have hd1 : decide (t.toNat = 1) = false := decide_eq_false (by omega)
            rw [hd, hd1]
theorem oget_some (s : ByteArray) (k : Nat) (hs : s.size ≤ 100000000) (hk : 2 * s.size + 2 ≤ k) : opt_Get.f k s = some (parR [] (par s.size s.data.toList false)) := by
  unfold opt_Get.f
  exact oget_loop s.size s [] false k (by rw [len_size]; exact Nat.le_refl _) hk (by simp; omega)
/-- options that may be, written and read. -/
theorem oput_some (os : List SO) (hm : ∀ o, o ∈ os → mayS o = true) (hl : os.length ≤ 1000000) : opt_Put.f os = some (strOfNums (putO (os.map ofS))) := by
  have h1 := obsL_len os hm
  have h2 := congrArg List.length (obs_back os hm)
  rw [List.length_map] at h2
  unfold opt_Put.f
  rw [if_pos]
  rw [tw_all _ (all_may os hm)]
  omega
theorem oput_get (os : List SO) (hm : ∀ o, o ∈ os → mayS o = true) (hl : os.length ≤ 100000) (k : Nat) (hk : 520 * os.length + 20 ≤ k) : opt_Get.f k (strOfNums (putO (os.map ofS))) = some (parR [] (scan os false)) ∧ (strOfNums (putO (os.map ofS))).size % 4 = 0 := by
  have hol := obsL_len os hm
  have hput := put_back os hm
  have hz : (strOfNums (putO (os.map ofS))).size = (padL (obsL os)).length := by rw [hput, ← len_size]; rfl
  have hpl : (padL (obsL os)).length = (obsL os).length + (4 - (obsL os).length % 4) % 4 := by unfold padL; rw [List.length_append, List.length_replicate]
  have hpar : par (strOfNums (putO (os.map ofS))).size (strOfNums (putO (os.map ofS))).data.toList false = scan os false := by
    rw [hz, hput, mkB_data]
    exact par_obs os _ _ false hm (by rw [hpl]; exact Nat.le_refl _)
  refine ⟨?_, by omega⟩
  rw [oget_some _ k (by omega) (by omega), hpar]
theorem scan_plain (os : List SO) : (∀ o, o ∈ os → 2 ≤ o.f0) → ∀ m, m = false → scan os m = some os := by
  induction os with
  | nil => rintro _ m rfl; rfl
  | cons o os ih =>
    rintro h m rfl
    have h2 := h o (List.mem_cons_self ..)
    simp only [scan]
    rw [if_neg (by omega), if_neg (by simp), ih (fun x hx => h x (List.mem_cons_of_mem _ hx)) _ (decide_eq_false (by omega))]; rfl
theorem rdT_get (l : List S36) (i : Nat) (h : i < l.length) : rd_T36 l (i : Int) = l[i] := by
  unfold rd_T36
  rw [Int.toNat_natCast, List.getD_eq_getElem?_getD, List.getElem?_eq_getElem h]; rfl
theorem opts_loop (l : List S36) (d : Nat) : ∀ (i k : Nat), i + d = l.length → d < k → l.length ≤ 1000000000 → muleteerlaw1_Opts.l0 k l l (l.length : Int) (i : Int) = some true := by
  induction d with
  | zero =>
    intro i k hi hk _
    obtain ⟨k, rfl⟩ : ∃ j, k = j + 1 := ⟨k - 1, by omega⟩
    simp only [muleteerlaw1_Opts.l0]
    rw [if_neg (by omega)]
  | succ d ih =>
    intro i k hi hk hl
    obtain ⟨k, rfl⟩ : ∃ j, k = j + 1 := ⟨k - 1, by omega⟩
    have e : wrap64 ((i : Int) + 1) = ((i + 1 : Nat) : Int) := by rw [wrap64_eq]; omega
    simp only [muleteerlaw1_Opts.l0]
    rw [if_pos (by omega), if_pos (by omega), if_pos (by omega), if_pos (by omega), rdT_get l i (by omega), beq_self_eq_true, beq_self_eq_true, e]
    exact (if_neg (by simp)).trans (ih (i + 1) k (by omega) (by omega) hl)
theorem opts_same (l : List S36) (k : Nat) (hk : l.length < k) (hl : l.length ≤ 1000000000) : muleteerlaw1_Opts.f k l l = some true := by
  unfold muleteerlaw1_Opts.f
  rw [if_pos rfl]
  exact opts_loop l l.length 0 k (by omega) hk hl
theorem empty_toList : (⟨#[]⟩ : ByteArray).toList = [] := by rw [ByteArray.toList, ByteArray.toList.loop]; rfl
/-- options of this law: such that may be, none of them a pad or a mandatory one. -/
def goodO (os : List SO) (i : Nat) : Prop := (∀ o, o ∈ os → mayS o = true ∧ 2 ≤ o.f0) ∧ os.length ≤ 2 * i
theorem good_snoc (os : List SO) (o : SO) (h : ∀ q, q ∈ os → mayS q = true ∧ 2 ≤ q.f0) (ho : mayS o = true ∧ 2 ≤ o.f0) : ∀ q, q ∈ os ++ [o] → mayS q = true ∧ 2 ≤ q.f0 := by
  intro q hq
  rcases List.mem_append.1 hq with h1 | h1
  · exact h q h1
  · rw [List.mem_singleton.1 h1]; exact ho
theorem many_end (n : Nat) (a1 a2 : Int) (os : List SO) (hn : n ≤ 39) (hg : goodO os n) (k : Nat) (hk : 50000 < k) : muleteerlaw1_OptMany.l0 k n a1 a2 os (n : Int) = some true := by
  obtain ⟨k, rfl⟩ : ∃ q, k = q + 1 := ⟨k - 1, by omega⟩
  obtain ⟨h1, h2⟩ := hg
  have hm : ∀ o, o ∈ os → mayS o = true := fun o ho => (h1 o ho).1
  obtain ⟨g1, g2⟩ := oput_get os hm (by omega) k (by omega)
  rw [scan_plain os (fun o ho => (h1 o ho).2) false rfl] at g1
  simp only [muleteerlaw1_OptMany.l0]
  refine (if_neg (by omega)).trans (obind (oput_some os hm (by omega)) (obind g1 ((if_pos (by omega)).trans ((if_pos rfl).trans ?_))))
  simp only [parR, List.nil_append]
  refine obind (opts_same os k (by omega) (by omega)) ((if_pos rfl).trans ?_)
  by_cases h : n = 0
  · refine (if_neg (by omega)).trans ?_
    have : os = [] := List.eq_nil_of_length_eq_zero (by omega)
    subst this
    have e : (strOfNums (putO (([] : List SO).map ofS))).toList = [] := empty_toList
    rw [e]; rfl
  · exact if_pos (by omega)
theorem inner (x0 x1 x2 x9 : Int) (x8 : List SO) (len : Nat) (hl : len ≤ 253) (K : Nat)
    (hfin : ∀ (k : Nat) (xs : List Int), K ≤ k → xs.length = len → (if x8.length < 5864062014805 then ((some (x8 ++ [(⟨wrap64 (32 + (Int.tmod (wrap64 (x9 * 5)) 224)), strOfNums xs⟩ : SO)] : List SO)).bind fun y123 => (if (Int.tmod x9 3) = 1 then (if y123.length < 5864062014805 then (muleteerlaw1_OptMany.l0 k x0 x1 x2 (y123 ++ [(⟨wrap64 (2 + (Int.tmod x9 30)), (⟨#[]⟩ : ByteArray)⟩ : SO)]) (wrap64 (x9 + 1))) else (none)) else (muleteerlaw1_OptMany.l0 k x0 x1 x2 y123 (wrap64 (x9 + 1))))) else (none)) = some true) (d : Nat) :
    ∀ (j k : Nat) (xs : List Int), j + d = len → xs.length = len → K + d < k → muleteerlaw1_OptMany.l1 k x0 x1 x2 x8 x9 xs (len : Int) (j : Int) = some true := by
  induction d with
  | zero =>
    intro j k xs hj hx hk
    obtain ⟨k, rfl⟩ : ∃ q, k = q + 1 := ⟨k - 1, by omega⟩
    simp only [muleteerlaw1_OptMany.l1]
    exact (if_neg (by omega)).trans (hfin k xs (by omega) hx)
  | succ d ih =>
    intro j k xs hj hx hk
    obtain ⟨k, rfl⟩ : ∃ q, k = q + 1 := ⟨k - 1, by omega⟩
    have e : wrap64 ((j : Int) + 1) = ((j + 1 : Nat) : Int) := by rw [wrap64_eq]; omega
    simp only [muleteerlaw1_OptMany.l1]
    rw [if_pos (by omega), if_pos (by omega), if_pos (by omega), e]
    exact ih (j + 1) k _ (by omega) (by rw [List.length_set]; exact hx) (by omega)
theorem wm5 (i : Nat) (h : i ≤ 39) : wrap64 (32 + Int.tmod (wrap64 ((i : Int) * 5)) 224) = ((32 + i * 5 % 224 : Nat) : Int) := by
  have : wrap64 ((i : Int) * 5) = ((i * 5 : Nat) : Int) := by rw [wrap64_eq]; omega
  rw [this, Int.tmod_eq_emod_of_nonneg (by omega), wrap64_eq]; omega
theorem wm2 (i : Nat) (h : i ≤ 39) : wrap64 (2 + Int.tmod (i : Int) 30) = ((2 + i % 30 : Nat) : Int) := by
  rw [Int.tmod_eq_emod_of_nonneg (by omega), wrap64_eq]; omega
theorem wm1 (i : Nat) (h : i ≤ 39) : wrap64 ((i : Int) + 1) = ((i + 1 : Nat) : Int) := by rw [wrap64_eq]; omega
theorem many_loop (n : Nat) (a1 a2 : Int) (hn : n ≤ 39) (d : Nat) : ∀ (i k : Nat) (os : List SO), i + d = n → goodO os i → 50000 + 300 * d < k → muleteerlaw1_OptMany.l0 k n a1 a2 os (i : Int) = some true := by
  induction d with
  | zero =>
    intro i k os hi hg hk
    obtain rfl : i = n := by omega
    exact many_end i a1 a2 os hn hg k (by omega)
  | succ d ih =>
    intro i k os hi hg hk
    obtain ⟨k, rfl⟩ : ∃ q, k = q + 1 := ⟨k - 1, by omega⟩
    have ht := tmod_pos (wrap64 (a1 + (wrap64 ((i : Int) * 7)))) 254 (by omega) (by omega)
    simp only [muleteerlaw1_OptMany.l0]
    generalize Int.tmod (wrap64 ((Int.tmod (wrap64 (a1 + (wrap64 ((i : Int) * 7)))) 254) + 254)) 254 = q at *
    obtain ⟨len, rfl⟩ := Int.eq_ofNat_of_zero_le ht.1
    refine (if_pos (by omega)).trans ((if_pos ht.1).trans ((if_pos (by omega)).trans (obind rfl ?_)))
    rw [Int.toNat_natCast, List.length_replicate]
    refine inner _ _ _ _ _ len (by omega) (50000 + 300 * d + 1) ?_ len 0 k _ (by omega) (by rw [List.length_replicate]) (by omega)
    intro k' xs hk' hx
    obtain ⟨h1, h2⟩ := hg
    rw [wm5 i (by omega), wm2 i (by omega), wm1 i (by omega)]
    have hz : (strOfNums xs).size = len := by rw [strOfNums_size]; exact hx
    have o1 : mayS (⟨((32 + i * 5 % 224 : Nat) : Int), strOfNums xs⟩ : SO) = true ∧ 2 ≤ (⟨((32 + i * 5 % 224 : Nat) : Int), strOfNums xs⟩ : SO).f0 := by
      refine ⟨(mayS_iff _).2 ?_, ?_⟩
      · dsimp only; rw [hz]; omega
      · dsimp only; omega
    have o2 : mayS (⟨((2 + i % 30 : Nat) : Int), ⟨#[]⟩⟩ : SO) = true ∧ 2 ≤ (⟨((2 + i % 30 : Nat) : Int), ⟨#[]⟩⟩ : SO).f0 := by
      refine ⟨(mayS_iff _).2 ?_, ?_⟩
      · dsimp only
        have : (⟨#[]⟩ : ByteArray).size = 0 := rfl
        rw [this]; omega
      · dsimp only; omega
    have g1 := good_snoc os _ h1 o1
    refine (if_pos (by omega)).trans (obind rfl ?_)
    by_cases h3 : Int.tmod (i : Int) 3 = 1
    · refine (if_pos h3).trans ((if_pos (by rw [List.length_append, List.length_cons, List.length_nil]; omega)).trans ?_)
      exact ih (i + 1) k' _ (by omega) ⟨good_snoc _ _ g1 o2, by simp only [List.length_append, List.length_cons, List.length_nil]; omega⟩ (by omega)
    · refine (if_neg h3).trans ?_
      exact ih (i + 1) k' _ (by omega) ⟨g1, by simp only [List.length_append, List.length_cons, List.length_nil]; omega⟩ (by omega)
theorem OptMany : muleteerlaw1_OptMany.Pure := by
  intro a0 a1 a2 w0 w1 w2
  have t0 := tmod_pos a0 40 (by omega) (by omega)
  refine ⟨70000, ?_⟩
  unfold muleteerlaw1_OptMany.f
  generalize Int.tmod (wrap64 (Int.tmod a0 40 + 40)) 40 = p at *
  obtain ⟨p, rfl⟩ := Int.eq_ofNat_of_zero_le t0.1
  refine obind (x := muleteerlaw1_begun.f) rfl ((if_pos rfl).trans ?_)
  exact many_loop p a1 a2 (by omega) p 0 70000 [] (by omega) ⟨fun o ho => (List.not_mem_nil ho).elim, by simp⟩ (by omega)
end Go.Proofs.YtpebccpimcofoaaDoor.Pure
