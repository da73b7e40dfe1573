/- OptTorn: options whose end is cut off, whose length is another one: plain. -/
import Derived.Test.YthallmapddihgaaGreatDoorOptGetAny
import Derived.Test.YthallmapddihgaaGreatDoorRaw
namespace Go.Proofs.YthallmapddihgaaGreatDoor.PkB
open Go.RowKit Go.Proofs.YthallmapddihgaaGreatDoor.PoptGet Go.Proofs.YthallmapddihgaaGreatDoor.PkF Go.Proofs.YthallmapddihgaaGreatDoorW.PrintWords Go.Proofs.YthallmapddihgaaGreatDoorW.PrintLast Go.Proofs.YthallmapddihgaaGreatDoorW.PrintMore
set_option linter.unusedVariables false
set_option linter.unusedSimpArgs false

theorem put_one (d : ByteArray) (hd : d.size ≤ 60) : ∃ Z, (strOfNums (putO [⟨40, d⟩])).data.toList = 40 :: UInt8.ofNat (d.size + 2) :: (d.data.toList ++ Z) := by
  have h := put_back [(⟨40, d⟩ : SO)] (fun o ho => by
    rw [List.mem_singleton] at ho; subst ho
    exact (mayS_iff _).2 ⟨show (0 : Int) ≤ 40 from by decide, show (40 : Int) ≤ 255 from by decide, .inr ⟨show (32 : Int) ≤ 40 from by decide, by dsimp only; omega⟩⟩)
  have e : [(⟨40, d⟩ : SO)].map ofS = [(⟨40, d⟩ : Op)] := rfl
  rw [e] at h
  rw [h]
  have h2 : obsL [(⟨40, d⟩ : SO)] = 40 :: UInt8.ofNat (d.size + 2) :: d.data.toList := by
    unfold obsL obL
    rw [List.map_cons, List.map_nil, List.flatten_cons, List.flatten_nil, List.append_nil]
    rw [if_pos (show (32 : Int) ≤ 40 from by decide)]; rfl
  unfold padL
  rw [h2]
  exact ⟨_, rfl⟩
theorem put_one_size (d : ByteArray) (hd : d.size ≤ 60) : (strOfNums (putO [⟨40, d⟩])).size ≤ 70 := by
  rw [strOfNums_size]
  unfold putO
  split
  · unfold pad4 obs
    simp only [List.map_cons, List.map_nil, List.flatten_cons, List.flatten_nil, List.append_nil]
    rw [List.length_append, List.length_replicate]
    have : (ob ⟨40, d⟩).length = d.size + 2 := by
      unfold ob
      rw [if_pos (show (32 : Int) ≤ 40 from by decide)]
      simp only [List.length_cons, nb_len]
    omega
  · simp
theorem getO_list (b : ByteArray) (l : List UInt8) (h : b.data.toList = l) : getO b = getR (parO l.length l false) := by
  unfold getO; rw [← len_size, h]
theorem torn_cut (d s : ByteArray) (Z : List UInt8) (hs : s.data.toList = 40 :: UInt8.ofNat (d.size + 2) :: (d.data.toList ++ Z)) (hd : d.size ≤ 60) (c : Nat) (hc : c < d.size + 2) : getO (s.extract 0 c) = ([], if c = 0 then 0 else 7) := by
  have hl : (s.extract 0 c).data.toList = (40 :: UInt8.ofNat (d.size + 2) :: (d.data.toList ++ Z)).take c := by rw [ext_list, hs]; rfl
  rw [getO_list _ _ hl]
  have hk : (UInt8.ofNat (d.size + 2)).toNat = d.size + 2 := UInt8.toNat_ofNat_of_lt' (by show d.size + 2 < 256; omega)
  match c, hc with
  | 0, _ => rfl
  | 1, _ => rfl
  | c + 2, hc =>
    rw [List.take_succ_cons, List.take_succ_cons]
    have ht : ((d.data.toList ++ Z).take c).length = c := by rw [List.length_take, List.length_append, len_size]; omega
    generalize (d.data.toList ++ Z).take c = r at ht
    rw [List.length_cons, List.length_cons]
    rw [if_neg (by omega)]
    have h40 : (40 : UInt8).toNat = 40 := rfl
    simp only [parO, h40]
    rw [if_neg (by decide), if_neg (by simp), if_neg (by decide), if_pos (.inr (by rw [hk, ht]; omega))]
    rfl
theorem torn_len (d u : ByteArray) (n : Nat) (hu : u.data.toList = 40 :: UInt8.ofNat n :: d.data.toList) (hn : n ≤ 255) (hd : d.size ≤ 60) :
    ((n < 2 ∨ d.size + 2 < n) → getO u = ([], 7)) ∧ (n = d.size + 2 → getO u = ([⟨40, d⟩], 0)) := by
  have hk : (UInt8.ofNat n).toNat = n := UInt8.toNat_ofNat_of_lt' (by show n < 256; omega)
  rw [getO_list _ _ hu, List.length_cons, List.length_cons]
  have h40 : (40 : UInt8).toNat = 40 := rfl
  have hl := len_size d
  constructor
  · intro h
    simp only [parO, h40]
    rw [if_neg (by decide), if_neg (by simp), if_neg (by decide), if_pos (by rw [hk, hl]; exact h)]
    rfl
  · intro h
    simp only [parO, h40]
    rw [if_neg (by decide), if_neg (by simp), if_neg (by decide), if_neg (by rw [hk, hl]; omega), hk]
    rw [List.drop_eq_nil_of_le (by rw [hl]; omega), List.take_of_length_le (by rw [hl]; omega), mkB_self]
    simp [parO, getR]
theorem parO_len : ∀ (n : Nat) (l : List UInt8) (m : Bool) (r : List Op), parO n l m = some r → r.length ≤ l.length
  | 0, [], m, r, h => by cases m <;> simp [parO] at h; subst h; simp
  | n + 1, [], m, r, h => by cases m <;> simp [parO] at h; subst h; simp
  | 0, t :: q, m, r, h => by simp [parO] at h
  | n + 1, t :: q, m, r, h => by
    simp only [parO] at h
    by_cases h0 : t.toNat = 0
    · rw [if_pos h0] at h; have := parO_len n q m r h; simp only [List.length_cons]; omega
    rw [if_neg h0] at h
    by_cases h1 : m = true ∧ t.toNat = 1
    · rw [if_pos h1] at h; cases h
    rw [if_neg h1] at h
    by_cases h2 : t.toNat < 32
    · rw [if_pos h2] at h
      obtain ⟨x, hx, rfl⟩ := Option.map_eq_some_iff.1 h
      have := parO_len n q _ x hx
      simp only [List.length_cons]; omega
    rw [if_neg h2] at h
    cases q with
    | nil => cases h
    | cons k q' =>
      simp only at h
      by_cases h3 : k.toNat < 2 ∨ q'.length + 2 < k.toNat
      · rw [if_pos h3] at h; cases h
      · rw [if_neg h3] at h
        obtain ⟨x, hx, rfl⟩ := Option.map_eq_some_iff.1 h
        have h4 := parO_len n _ _ x hx
        rw [List.length_drop] at h4
        simp only [List.length_cons]; omega
theorem getO_len (b : ByteArray) : (getO b).1.length ≤ b.size := by
  unfold getO
  cases h : parO b.size b.data.toList false with
  | none => exact Nat.zero_le _
  | some l => have := parO_len _ _ _ _ h; rw [len_size] at this; exact this
theorem torn_set (d t : ByteArray) (k : UInt8) (ht : t.data.toList = 40 :: k :: d.data.toList) (n : Int) : (strOfNums ((t.data.toList.map fun c => (c.toNat : Int)).set 1 n)).data.toList = 40 :: UInt8.ofNat n.toNat :: d.data.toList := by
  rw [strOfNums_data, ht]
  simp only [List.map_cons, List.set_cons_succ, List.set_cons_zero, List.map_map]
  congr 2
  rw [List.map_congr_left (g := id) (fun x _ => by simp), List.map_id]
end Go.Proofs.YthallmapddihgaaGreatDoor.PkB
