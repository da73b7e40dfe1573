/- Contracts and laws that the claim's proof needs: RefPutOpts, RefSum. Conditions: each theorem's own. -/
import Derived.Test.YtjlnbahanghhcaaGreatDoorZCardPktAllUptop3
import Derived.Test.YtjlnbahanghhcaaGreatDoorZCardPktAllUptop2
import Derived.Test.YtjlnbahanghhcaaGreatDoorZCardPktAllUptop0
import Derived.Test.YtjlnbahanghhcaaGreatDoorBaseD

/- The contract of the document's PutOpts at options that may be. -/
namespace Go.Proofs.YtjlnbahanghhcaaGreatDoor.RPO
open Go.RowKit Go.Proofs.YtjlnbahanghhcaaGreatDoor.Pmuleteerref1PutOpts Go.Proofs.YtjlnbahanghhcaaGreatDoorW.PrintWords Go.Proofs.YtjlnbahanghhcaaGreatDoorW.PrintLast Go.Proofs.YtjlnbahanghhcaaGreatDoorW.PrintMore
set_option linter.unusedVariables false
set_option linter.unusedSimpArgs false
def ofS (o : S50) : Op := ⟨o.f0, o.f1⟩
theorem obind {α β : Type} {x : Option α} {a : α} {f : α → Option β} {r : Option β} (h : x = some a) (k : f a = r) : x.bind f = r := by subst h; exact k
theorem rdT_get (l : List S50) (i : Nat) (h : i < l.length) : rd_T50 l (i : Int) = l[i] := by
  unfold rd_T50
  rw [Int.toNat_natCast, List.getD_eq_getElem?_getD, List.getElem?_eq_getElem h]; rfl
def mkB (l : List UInt8) : ByteArray := ⟨l.toArray⟩
theorem mkB_data (l : List UInt8) : (mkB l).data.toList = l := rfl
theorem mkB_self (s : ByteArray) : mkB s.data.toList = s := ByteArray.ext (by unfold mkB; rw [Array.toArray_toList])
theorem ext_list (s : ByteArray) (a b : Nat) : (s.extract a b).data.toList = (s.data.toList.drop a).take (b - a) := by
  rw [ByteArray.data_extract, Array.toList_extract, List.extract_eq_take_drop]
theorem ext_mkB (s : ByteArray) (a b : Nat) : s.extract a b = mkB ((s.data.toList.drop a).take (b - a)) := by
  rw [← mkB_self (s.extract a b), ext_list]
theorem ext_drop (s : ByteArray) (a : Nat) : (s.extract a s.size).data.toList = s.data.toList.drop a := by
  rw [ext_list, List.take_of_length_le]
  rw [List.length_drop, Array.length_toList]; exact Nat.le_refl _
theorem len_size (s : ByteArray) : s.data.toList.length = s.size := by rw [Array.length_toList]; rfl
theorem bt_drop (s : ByteArray) (i : Nat) (t : UInt8) (r : List UInt8) (h : s.data.toList.drop i = t :: r) : bt s (i : Int) = (t.toNat : Int) := by
  have hlt : i < s.data.toList.length := by
    rcases Nat.lt_or_ge i s.data.toList.length with h' | h'
    · exact h'
    · rw [List.drop_eq_nil_of_le h'] at h; cases h
  have hlt' : i < s.size := by rw [← len_size]; exact hlt
  rw [List.drop_eq_getElem_cons hlt] at h
  rw [← bt_at s (i : Int) (by rw [Int.toNat_natCast]; exact hlt')]
  have e : s[i] = t := (List.cons.inj h).1
  show ((s[(i : Int).toNat]'_).toNat : Int) = _
  simp only [Int.toNat_natCast]
  rw [e]
abbrev SO := S50
/-- what bytes say of options; m: what came last must be known. -/
def par : Nat → List UInt8 → Bool → Option (List SO)
  | _, [], m => if m then none else some []
  | 0, _ :: _, _ => none
  | n + 1, t :: r, m =>
    if t.toNat = 0 then par n r m
    else if m = true ∧ t.toNat = 1 then none
    else if t.toNat < 32 then (par n r (decide (t.toNat = 1))).map (fun l => ⟨(t.toNat : Int), ⟨#[]⟩⟩ :: l)
    else match r with
      | [] => none
      | k :: r' => if k.toNat < 2 ∨ r'.length + 2 < k.toNat then none else (par n (r'.drop (k.toNat - 2)) false).map (fun l => ⟨(t.toNat : Int), mkB (r'.take (k.toNat - 2))⟩ :: l)
def parR (acc : List SO) : Option (List SO) → List SO × Int
  | none => ([], 7)
  | some l => (acc ++ l, 0)
theorem parR_map (acc : List SO) (o : SO) (x : Option (List SO)) : parR acc (x.map (fun l => o :: l)) = parR (acc ++ [o]) x := by
  cases x with
  | none => rfl
  | some l => simp [parR]
def obL (o : SO) : List UInt8 := UInt8.ofNat o.f0.toNat :: if 32 ≤ o.f0 then UInt8.ofNat (o.f1.size + 2) :: o.f1.data.toList else []
def obsL (os : List SO) : List UInt8 := (os.map obL).flatten
def mayS (o : SO) : Bool := mayO (ofS o)
theorem mayS_iff (o : SO) : mayS o = true ↔ (0 ≤ o.f0 ∧ o.f0 ≤ 255 ∧ (o.f1.size = 0 ∨ (32 ≤ o.f0 ∧ o.f1.size ≤ 253))) := by
  unfold mayS mayO ofS
  rw [decide_eq_true_eq]
theorem empty_of (s : ByteArray) (h : s.size = 0) : s = ⟨#[]⟩ := by
  have : s.data.toList = [] := List.eq_nil_of_length_eq_zero (by rw [len_size]; exact h)
  rw [← mkB_self s, this]; rfl
theorem byte_of (n : Int) (h0 : 0 ≤ n) (h1 : n ≤ 255) : ((UInt8.ofNat n.toNat).toNat : Int) = n ∧ (UInt8.ofNat n.toNat).toNat = n.toNat := by
  rw [UInt8.toNat_ofNat']; omega
def scan : List SO → Bool → Option (List SO)
  | [], m => if m then none else some []
  | o :: r, m => if o.f0 = 0 then scan r m else if m = true ∧ o.f0 = 1 then none else (scan r (decide (o.f0 = 1))).map (fun l => o :: l)
theorem par_zeros (z : Nat) : ∀ (n : Nat) (m : Bool), z ≤ n → par n (List.replicate z 0) m = if m then none else some [] := by
  induction z with
  | zero => intro n m _; cases n <;> rfl
  | succ z ih =>
    intro n m hn
    obtain ⟨n, rfl⟩ : ∃ j, n = j + 1 := ⟨n - 1, by omega⟩
    rw [List.replicate_succ]
    simp only [par]
    rw [if_pos (by rfl)]
    exact ih n m (by omega)
theorem par_obs (os : List SO) : ∀ (n z : Nat) (m : Bool), (∀ o, o ∈ os → mayS o = true) → (obsL os).length + z ≤ n → par n (obsL os ++ List.replicate z 0) m = scan os m := by
  induction os with
  | nil => intro n z m _ hn; exact par_zeros z n m (by simpa [obsL] using hn)
  | cons o os ih =>
    intro n z m hm hn
    obtain ⟨h0, h1, h2⟩ := (mayS_iff o).1 (hm o (List.mem_cons_self ..))
    have hr := fun x hx => hm x (List.mem_cons_of_mem _ hx)
    have e : obsL (o :: os) = obL o ++ obsL os := rfl
    rw [e] at hn ⊢
    obtain ⟨b1, b2⟩ := byte_of o.f0 h0 h1
    obtain ⟨t, d⟩ := o
    dsimp only at h0 h1 h2 b1 b2
    simp only [List.length_append] at hn
    simp only [scan]
    by_cases h32 : 32 ≤ t
    · have eo : obL ⟨t, d⟩ = UInt8.ofNat t.toNat :: UInt8.ofNat (d.size + 2) :: d.data.toList := by unfold obL; rw [if_pos h32]
      rw [eo] at hn ⊢
      simp only [List.length_cons] at hn
      obtain ⟨n, rfl⟩ : ∃ j, n = j + 1 := ⟨n - 1, by omega⟩
      have hd : d.size ≤ 253 := by omega
      have hs : (UInt8.ofNat (d.size + 2)).toNat = d.size + 2 := by rw [UInt8.toNat_ofNat']; omega
      have hl := len_size d
      simp only [List.cons_append, par]
      rw [b2, if_neg (by omega), if_neg (by omega), if_neg (by omega), hs, if_neg (by rw [List.length_append, List.length_append, hl]; omega), if_neg (by omega), if_neg (by omega)]
      have e1 : (d.data.toList ++ (obsL os ++ List.replicate z 0)).drop (d.size + 2 - 2) = obsL os ++ List.replicate z 0 := by
        rw [show d.size + 2 - 2 = d.data.toList.length from by rw [hl]; omega, List.drop_left]
      have e2 : (d.data.toList ++ (obsL os ++ List.replicate z 0)).take (d.size + 2 - 2) = d.data.toList := by
        rw [show d.size + 2 - 2 = d.data.toList.length from by rw [hl]; omega, List.take_left]
      have hf : decide (t = 1) = false := decide_eq_false (by omega)
      rw [List.append_assoc, e1, e2, ih n z false hr (by omega), hf, mkB_self]
      have : ((t.toNat : Nat) : Int) = t := by omega
      rw [this]
    · have eo : obL ⟨t, d⟩ = [UInt8.ofNat t.toNat] := by unfold obL; rw [if_neg h32]
      rw [eo] at hn ⊢
      simp only [List.length_cons, List.length_nil] at hn
      obtain ⟨n, rfl⟩ : ∃ j, n = j + 1 := ⟨n - 1, by omega⟩
      have hd : d = ⟨#[]⟩ := empty_of d (by omega)
      subst hd
      simp only [List.cons_append, List.nil_append, par]
      rw [b2]
      have et : ((t.toNat : Nat) : Int) = t := by omega
      by_cases ht0 : t = 0
      · rw [if_pos (by omega), if_pos ht0]
        exact ih n z m hr (by omega)
      · rw [if_neg (by omega), if_neg ht0]
        by_cases hm1 : m = true ∧ t = 1
        · rw [if_pos ⟨hm1.1, by omega⟩, if_pos hm1]
        · have hd1 : decide (t.toNat = 1) = decide (t = 1) := by rw [decide_eq_decide]; omega
          rw [if_neg (fun h : m = true ∧ t.toNat = 1 => hm1 ⟨h.1, by omega⟩), if_neg hm1, if_pos (by omega), hd1, ih n z _ hr (by omega), et]
/-- what is written of options that may be. -/
theorem nb_back (d : ByteArray) : (nb d).map (fun n => UInt8.ofNat n.toNat) = d.data.toList := by
  unfold nb
  rw [List.map_map]
  have : ((fun n : Int => UInt8.ofNat n.toNat) ∘ fun b : UInt8 => (b.toNat : Int)) = id := by funext b; simp
  rw [this, List.map_id]
theorem obs_back (os : List SO) (h : ∀ o, o ∈ os → mayS o = true) : (obs (os.map ofS)).map (fun n => UInt8.ofNat n.toNat) = obsL os := by
  induction os with
  | nil => rfl
  | cons o os ih =>
    have e1 : obs ((o :: os).map ofS) = ob (ofS o) ++ obs (os.map ofS) := rfl
    have e2 : obsL (o :: os) = obL o ++ obsL os := rfl
    rw [e1, e2, List.map_append, ih (fun x hx => h x (List.mem_cons_of_mem _ hx))]
    congr 1
    unfold ob obL ofS
    dsimp only
    by_cases h32 : 32 ≤ o.f0
    · rw [if_pos h32, if_pos h32, List.map_cons, List.map_cons, nb_back, Int.toNat_natCast]
    · rw [if_neg h32, if_neg h32]; rfl
def padL (l : List UInt8) : List UInt8 := l ++ List.replicate ((4 - l.length % 4) % 4) 0
theorem put_back (os : List SO) (h : ∀ o, o ∈ os → mayS o = true) : strOfNums (putO (os.map ofS)) = mkB (padL (obsL os)) := by
  have ha : (os.map ofS).all mayO = true := by
    rw [List.all_map]; exact List.all_eq_true.2 (fun o ho => h o ho)
  have hl : (obs (os.map ofS)).length = (obsL os).length := by rw [← obs_back os h, List.length_map]
  unfold putO
  rw [if_pos ha, ← mkB_self (strOfNums _), strOfNums_data]
  unfold pad4 padL
  rw [List.map_append, obs_back os h, List.map_replicate, hl]; rfl
theorem obL_len (o : SO) (h : mayS o = true) : (obL o).length ≤ 257 := by
  have := (mayS_iff o).1 h
  unfold obL
  split
  · rw [List.length_cons, List.length_cons, len_size]; omega
  · simp
/-- a number's lowest k bytes, the highest first. -/
def bx (n : Nat) : Nat → List Int
  | 0 => []
  | k + 1 => bx (n / 256) k ++ [((n % 256 : Nat) : Int)]
theorem strOfNums_append (a b : List Int) : strOfNums (a ++ b) = strOfNums a ++ strOfNums b :=
  ByteArray.ext (by rw [ByteArray.data_append]; simp [strOfNums])
theorem rbytes_loop (k : Nat) : ∀ (f n : Nat) (s : ByteArray), k < f → n < 18446744073709551616 → s.size + k ≤ 1000000 → muleteerref1_Bytes.l0 f n k s = some (strOfNums (bx n k) ++ s) := by
  induction k with
  | zero =>
    intro f n s hf _ _
    obtain ⟨f, rfl⟩ : ∃ m, f = m + 1 := ⟨f - 1, by omega⟩
    simp only [muleteerref1_Bytes.l0]
    rw [if_neg (by omega)]
    exact congrArg some ByteArray.empty_append.symm
  | succ k ih =>
    intro f n s hf hn hk
    obtain ⟨f, rfl⟩ : ∃ m, f = m + 1 := ⟨f - 1, by omega⟩
    simp only [muleteerref1_Bytes.l0]
    rw [if_pos (by omega)]
    have e1 : Int.tmod (n : Int) 256 % 256 = ((n % 256 : Nat) : Int) := by rw [Int.tmod_eq_emod_of_nonneg (by omega)]; omega
    have e2 : IntKind.u64.wrap (Int.tdiv (n : Int) 256) = ((n / 256 : Nat) : Int) := by rw [Int.tdiv_eq_ediv_of_nonneg (by omega), IntKind.wrap_u64]; omega
    have e3 : wrap64 (((k + 1 : Nat) : Int) - 1) = (k : Int) := by rw [wrap64_eq]; omega
    refine obind rfl ?_
    rw [e1, e2, e3]
    have hz : (strOfNums [((n % 256 : Nat) : Int)]).size = 1 := by rw [strOfNums_size]; rfl
    rw [if_pos (by rw [hz]; omega), ih f (n / 256) _ (by omega) (by omega) (by rw [ByteArray.size_append, hz]; omega)]
    rw [bx, strOfNums_append, ByteArray.append_assoc]
theorem rbytes_some (f n k : Nat) (hf : k < f) (hn : n < 18446744073709551616) (hk : k ≤ 100000) : muleteerref1_Bytes.f f n k = some (strOfNums (bx n k)) := by
  unfold muleteerref1_Bytes.f
  rw [rbytes_loop k f n _ hf hn (by show 0 + k ≤ _; omega)]
  congr 1
  exact ByteArray.append_empty
theorem one_byte (k n : Nat) (hn : n ≤ 255) (hk : 2 ≤ k) : muleteerref1_Bytes.f k (n : Int) 1 = some (mkB [UInt8.ofNat n]) := by
  have := rbytes_some k n 1 (by omega) (by omega) (by omega)
  have e : bx n 1 = [((n % 256 : Nat) : Int)] := rfl
  rw [e, Nat.mod_eq_of_lt (by omega)] at this
  exact this
theorem mkB_append (a b : List UInt8) : mkB a ++ mkB b = mkB (a ++ b) := ByteArray.ext (by rw [ByteArray.data_append]; simp [mkB])
theorem mkB_size (l : List UInt8) : (mkB l).size = l.length := by rw [← len_size, mkB_data]
theorem pad_loop (j : Nat) : ∀ (l : List UInt8) (k : Nat), (l.length + j) % 4 = 0 → j < 4 → j < k → l.length ≤ 1000000000 → muleteerref1_PutOpts.l1 k (mkB l) = some (mkB (l ++ List.replicate j 0)) := by
  induction j with
  | zero =>
    intro l k h _ hk hl
    obtain ⟨k, rfl⟩ : ∃ q, k = q + 1 := ⟨k - 1, by omega⟩
    simp only [muleteerref1_PutOpts.l1]
    rw [mkB_size, if_neg (by omega), List.replicate_zero, List.append_nil]
  | succ j ih =>
    intro l k h hj hk hl
    obtain ⟨k, rfl⟩ : ∃ q, k = q + 1 := ⟨k - 1, by omega⟩
    simp only [muleteerref1_PutOpts.l1]
    have e : mkB l ++ (⟨#[0]⟩ : ByteArray) = mkB (l ++ [0]) := mkB_append l [0]
    rw [mkB_size, if_pos (by omega), if_pos (by omega), e, ih (l ++ [0]) k (by simp; omega) (by omega) (by omega) (by simp; omega), List.append_assoc]
    rfl
theorem uw2 (n : Nat) (h : n ≤ 1000000) : IntKind.u64.wrap (wrap64 ((n : Int) + 2)) = ((n + 2 : Nat) : Int) := by rw [wrap64_eq, IntKind.wrap_u64]; omega
theorem uw0 (n : Int) (h : 0 ≤ n ∧ n ≤ 255) : IntKind.u64.wrap n = ((n.toNat : Nat) : Int) := by rw [IntKind.wrap_u64]; omega
theorem rput_loop (x0 : List SO) (hx : x0.length ≤ 2000000) (rest : List SO) : ∀ (i : Nat) (l : List UInt8) (k : Nat), x0.drop i = rest → rest.length + 10 ≤ k → l.length + 257 * rest.length ≤ 900000000 → (∀ o, o ∈ rest → mayS o = true) →
    muleteerref1_PutOpts.l0 k x0 (mkB l) (i : Int) = some (mkB (padL (l ++ obsL rest))) := by
  induction rest with
  | nil =>
    intro i l k hd hk hl _
    have hi : x0.length ≤ i := List.drop_eq_nil_iff.1 hd
    obtain ⟨k, rfl⟩ : ∃ q, k = q + 1 := ⟨k - 1, by omega⟩
    simp only [muleteerref1_PutOpts.l0]
    simp only [List.length_nil, Nat.mul_zero] at hk hl
    rw [if_neg (by omega), pad_loop ((4 - l.length % 4) % 4) l k (by omega) (by omega) (by omega) (by omega)]
    unfold padL
    rw [show l ++ obsL [] = l from List.append_nil l]
  | cons o rest ih =>
    intro i l k hd hk hl hm
    have hlt : i < x0.length := by
      rcases Nat.lt_or_ge i x0.length with h | h
      · exact h
      · rw [List.drop_eq_nil_of_le h] at hd; cases hd
    have hoo : x0[i] = o := by rw [List.drop_eq_getElem_cons hlt] at hd; exact (List.cons.inj hd).1
    have hdr : x0.drop (i + 1) = rest := by rw [List.drop_eq_getElem_cons hlt] at hd; exact (List.cons.inj hd).2
    obtain ⟨k, rfl⟩ : ∃ q, k = q + 1 := ⟨k - 1, by omega⟩
    simp only [List.length_cons] at hk hl
    have hmo := hm o (List.mem_cons_self ..)
    have hol := obL_len o hmo
    obtain ⟨h0, h1, h2⟩ := (mayS_iff o).1 hmo
    have e1 : wrap64 ((i : Int) + 1) = ((i + 1 : Nat) : Int) := by rw [wrap64_eq]; omega
    have ew : IntKind.u64.wrap o.f0 = ((o.f0.toNat : Nat) : Int) := uw0 _ (by omega)
    have next := fun (l' : List UInt8) (h : l'.length + 257 * rest.length ≤ 900000000) => ih (i + 1) l' k hdr (by omega) h (fun x hx => hm x (List.mem_cons_of_mem _ hx))
    simp only [muleteerref1_PutOpts.l0]
    rw [if_pos (by omega), if_pos (by omega), rdT_get x0 i hlt, hoo, ew, e1]
    refine obind (one_byte k o.f0.toNat (by omega) (by omega)) ?_
    rw [mkB_size, mkB_size, if_pos (by simp; omega), mkB_append]
    have ecat : l ++ obsL (o :: rest) = (l ++ obL o) ++ obsL rest := by rw [List.append_assoc]; rfl
    by_cases h32 : o.f0 ≥ 32
    · have eo : obL o = UInt8.ofNat o.f0.toNat :: UInt8.ofNat (o.f1.size + 2) :: o.f1.data.toList := by unfold obL; rw [if_pos h32]
      have ew2 : IntKind.u64.wrap (wrap64 ((o.f1.size : Int) + 2)) = ((o.f1.size + 2 : Nat) : Int) := uw2 _ (by omega)
      rw [if_pos h32, ew2]
      refine obind (one_byte k (o.f1.size + 2) (by omega) (by omega)) ?_
      have hb : mkB [UInt8.ofNat (o.f1.size + 2)] ++ o.f1 = mkB (UInt8.ofNat (o.f1.size + 2) :: o.f1.data.toList) := by
        rw [← mkB_self o.f1, mkB_append]; rfl
      rw [hb, mkB_size, mkB_size, mkB_size, if_pos (by simp; omega), if_pos (by simp only [List.length_append, List.length_cons, List.length_nil, len_size]; omega), mkB_append]
      have el : l ++ [UInt8.ofNat o.f0.toNat] ++ UInt8.ofNat (o.f1.size + 2) :: o.f1.data.toList = l ++ obL o := by rw [eo, List.append_assoc]; rfl
      rw [el, ecat]
      exact next _ (by rw [List.length_append]; omega)
    · have eo : obL o = [UInt8.ofNat o.f0.toNat] := by unfold obL; rw [if_neg h32]
      rw [if_neg h32, ← eo, ecat]
      exact next _ (by rw [List.length_append]; omega)
theorem rput_some (x0 : List SO) (k : Nat) (hx : x0.length ≤ 2000000) (hk : x0.length + 10 ≤ k) (hm : ∀ o, o ∈ x0 → mayS o = true) : muleteerref1_PutOpts.f k x0 = some (strOfNums (putO (x0.map ofS))) := by
  unfold muleteerref1_PutOpts.f
  have := rput_loop x0 hx x0 0 [] k rfl hk (by simp; omega) hm
  rw [put_back x0 hm]
  exact this
def toS (o : Op) : S50 := ⟨o.typ, o.data⟩
theorem cells_row {w : World} {B : Nat} {A : Option Addr} {l : List Op} (h : CellsAt w B A (ocells l)) (hl : l.length ≤ 1000000000) : Kd.C k50 w A (l.map toS).length (l.map toS) := by
  refine ⟨rfl, by rw [List.length_map]; omega, fun hp => ?_⟩
  rw [List.length_map] at hp
  obtain ⟨ad, e, _, _⟩ := h 0 _ (ocells_at l 0 hp).1
  refine ⟨ad, e, fun j p hj => ?_⟩
  have hjl : j < l.length := by have := (List.getElem?_eq_some_iff.1 hj).1; rwa [List.length_map] at this
  obtain rfl : toS l[j] = p := by rw [List.getElem?_map, List.getElem?_eq_getElem hjl] at hj; exact Option.some.inj hj
  have hat := ocells_at l j hjl
  refine ⟨[.int .i64 l[j].typ, .string l[j].data], rfl, k50_mk _ _, fun i u hu => ?_⟩
  match i, hu with
  | 0, hu =>
    cases hu
    obtain ⟨ad', e', _, hc⟩ := h _ _ hat.1
    rw [e] at e'; cases e'; exact hc
  | 1, hu =>
    cases hu
    obtain ⟨ad', e', _, hc⟩ := h _ _ hat.2
    rw [e] at e'; cases e'; exact hc
theorem ref_PutOpts (A : Option Addr) (c B : Nat) (os : List Op) (w : World) (hA : CellsAt w B A (ocells os)) (hc : os.length ≤ c) (hn : os.length ≤ 2000000) (hm : os.all mayO = true) :
    Calls Tryz.prog 22 #[.slice A os.length c] w fun e w' => e = .returned (.string (strOfNums (putO os))) ∧ Below w.heap.size w w' := by
  have em : (os.map toS).map ofS = os := by rw [List.map_map]; exact List.map_id'' (fun o => rfl) os
  have hf := rput_some (os.map toS) (os.length + 10) (by rw [List.length_map]; exact hn) (by rw [List.length_map]; exact Nat.le_refl _) (fun o ho => by
    obtain ⟨q, hq, rfl⟩ := List.mem_map.1 ho
    exact List.all_eq_true.1 hm q hq)
  rw [em] at hf
  have h := muleteerref1_PutOpts.calls (os.length + 10) A c (os.map toS) _ w (cells_row hA (by omega)) (by rw [List.length_map]; exact hc) hf
  rw [List.length_map] at h
  exact h
end Go.Proofs.YtjlnbahanghhcaaGreatDoor.RPO

/- The contract of the document's Sum. -/
namespace Go.Proofs.YtjlnbahanghhcaaGreatDoor
open Go.RowKit
set_option linter.unusedVariables false
set_option linter.unusedSimpArgs false
theorem fold_add (a v : Nat) (h : v ≤ 65535) : Sum.fold (a + v) = if 65535 < Sum.fold a + v then Sum.fold a + v - 65535 else Sum.fold a + v := by
  unfold Sum.fold
  split <;> split <;> split <;> omega
theorem sum_take (s : ByteArray) (k : Nat) (h : k < s.size) : s.data.toList.take (k + 1) = s.data.toList.take k ++ [s[k]] := take_bytes s k h
set_option maxHeartbeats 1000000 in
set_option maxRecDepth 1000000 in
theorem ref_Sum (s : ByteArray) (hs : s.size ≤ 1000000000) (w : World) : Calls Tryz.prog 24 #[.string s] w fun e w' => e = .returned (.int .i64 (Sum.sum s.data.toList : Nat)) ∧ w = w' := by
  have hl : s.data.toList.length = s.size := size_bytes s
  replace hl := hide hl
  go_enter Tryz.func24, Tryz.ntmps24
  go_wp2
  go_loop [3, 4] (fun u x => ∃ i m : Nat, i ≤ s.size ∧ x = .int .i64 i ∧ u = .int .i64 m ∧ m ≤ 65535 ∧ Hid (m = Sum.fold (Sum.wt 0 (s.data.toList.take i)))) (fun _ x => s.size - (intOf x).toNat)
  case atStart => exact ⟨0, 0, by omega, rfl, rfl, by omega, hide (by simp [Sum.wt, Sum.fold])⟩
  case round =>
    obtain ⟨i, m, hi, rfl, rfl, hm, H⟩ := hrel
    by_cases h : i < s.size
    · have h256 := s[i].toNat_lt
      have hsn := hide (sum_take s i h)
      have hli : (s.data.toList.take i).length = i := by rw [List.length_take, hl.out]; omega
      have HLI := hide hli
      clear hli
      have hii : (i : Int) < (s.size : Int) := by omega
      by_cases he : i % 2 = 0
      · have e2 : ((i : Int).tmod 2 == 0) = true := by rw [beq_iff_eq, Int.tmod_eq_emod_of_nonneg (by omega)]; omega
        have hf := fold_add (Sum.wt 0 (s.data.toList.take i)) (s[i].toNat * 256) (by omega)
        have hw : Sum.wt 0 (s.data.toList.take (i + 1)) = Sum.wt 0 (s.data.toList.take i) + s[i].toNat * 256 := by
          rw [hsn.out, Sum.wt_snoc, HLI.out, if_pos he]
        rw [← hw, ← H.out] at hf
        by_cases hg : 65535 < m + s[i].toNat * 256
        · rw [if_pos hg] at hf
          have HF := hide hf
          have hgi : (65535 : Int) < (m : Int) + ((s[i].toNat : Nat) : Int) * 256 := by omega
          clear hf hw
          go_wp2
          go_round
          case rel => exact ⟨i + 1, m + s[i].toNat * 256 - 65535, by omega, by go_num, by go_num, by omega, hide HF.out.symm⟩
          case measure => simp [intOf]; omega
        · rw [if_neg hg] at hf
          have HF := hide hf
          have hgi : (m : Int) + ((s[i].toNat : Nat) : Int) * 256 ≤ 65535 := by omega
          clear hf hw
          go_wp2
          go_round
          case rel => exact ⟨i + 1, m + s[i].toNat * 256, by omega, by go_num, by go_num, by omega, hide HF.out.symm⟩
          case measure => simp [intOf]; omega
      · have e2 : ((i : Int).tmod 2 == 0) = false := by rw [beq_eq_false_iff_ne, Int.tmod_eq_emod_of_nonneg (by omega)]; omega
        have hf := fold_add (Sum.wt 0 (s.data.toList.take i)) s[i].toNat (by omega)
        have hw : Sum.wt 0 (s.data.toList.take (i + 1)) = Sum.wt 0 (s.data.toList.take i) + s[i].toNat := by
          rw [hsn.out, Sum.wt_snoc, HLI.out, if_neg he, Nat.mul_one]
        rw [← hw, ← H.out] at hf
        by_cases hg : 65535 < m + s[i].toNat
        · rw [if_pos hg] at hf
          have HF := hide hf
          have hgi : (65535 : Int) < (m : Int) + ((s[i].toNat : Nat) : Int) := by omega
          clear hf hw
          go_wp2
          go_round
          case rel => exact ⟨i + 1, m + s[i].toNat - 65535, by omega, by go_num, by go_num, by omega, hide HF.out.symm⟩
          case measure => simp [intOf]; omega
        · rw [if_neg hg] at hf
          have HF := hide hf
          have hgi : (m : Int) + ((s[i].toNat : Nat) : Int) ≤ 65535 := by omega
          clear hf hw
          go_wp2
          go_round
          case rel => exact ⟨i + 1, m + s[i].toNat, by omega, by go_num, by go_num, by omega, hide HF.out.symm⟩
          case measure => simp [intOf]; omega
    · have HM : Hid (((65535 - m : Nat)) = Sum.sum s.data.toList) := hide (by unfold Sum.sum; rw [H.out, List.take_of_length_le (by rw [hl.out]; omega)])
      have hni : (s.size : Int) ≤ (i : Int) := by omega
      go_wp2
      go_ret
      exact ⟨by rw [← HM.out]; exact ret_int (by omega), rfl⟩
end Go.Proofs.YtjlnbahanghhcaaGreatDoor
