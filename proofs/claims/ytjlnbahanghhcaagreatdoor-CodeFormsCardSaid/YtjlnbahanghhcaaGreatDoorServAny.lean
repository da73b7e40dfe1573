/- code.Service at whatever text. -/
import Derived.Test.YtjlnbahanghhcaaGreatDoorByNum
namespace Go.Proofs.YtjlnbahanghhcaaGreatDoor
open Go.RowKit
set_option linter.unusedVariables false
set_option linter.unusedSimpArgs false
def numOf (r : List UInt8) : Nat × Bool :=
  if Lib.hasPrefix r [120] = true ∨ Lib.hasPrefix r [88] = true then numberOf 16 8 (r.drop 1)
  else if 1 < r.length ∧ r.head? = some 48 then (0, false) else numberOf 10 10 r
def servOf (l : List UInt8) : Nat × Bool :=
  if Lib.hasPrefix l [83, 67, 58] = true then (codeOf (l.drop 3), bySignsB (l.drop 3))
  else if Lib.hasPrefix l [83, 67, 61] = true then numOf (l.drop 3) else (0, false)
theorem parses16 (t : ByteArray) (h1 : 1 ≤ t.size) (h8 : t.size ≤ 8) (w : World) (ev : Value) (hv : w.cell? ⟨6, 0, none⟩ = some ev) (hev : ev = .nilIface ∨ ∃ te pe, ev = .iface te pe) : Parses 16 t w := by
  have h := ParseUint16 t (by omega) h8 w ev hv hev
  rw [hexP_dig] at h
  exact h
theorem parses10 (t : ByteArray) (h1 : 1 ≤ t.size) (h8 : t.size ≤ 10) (w : World) (ev : Value) (hv : w.cell? ⟨6, 0, none⟩ = some ev) (hev : ev = .nilIface ∨ ∃ te pe, ev = .iface te pe) : Parses 10 t w := by
  have hl := size_bytes t
  have hp : Lib.parseUintB 64 t.data.toList = match digP 10 0 t.data.toList with | some u => .ok u | none => .syntax := by
    unfold Lib.parseUintB
    rw [if_neg (fun e => by rw [e] at hl; simp at hl; omega)]
    exact parse_dig _ 0 0 (by decide) (by omega)
  unfold Parses
  cases hd : digP 10 0 t.data.toList with
  | none =>
    rw [hd] at hp
    exact (Tryz.strconv_ParseUint_10_at64_syntax t (by omega) hp ev w hv hev).mono fun e w' ⟨M, he, _, _, hb⟩ => ⟨⟨_, _, he, rfl, M, rfl⟩, hb⟩
  | some u =>
    rw [hd] at hp
    refine (Tryz.strconv_ParseUint_10_at64_ok t (by omega) u hp w).mono fun e w' ⟨he, hw⟩ => ⟨⟨_, _, he, rfl, rfl⟩, ?_⟩
    rcases hw with rfl | rfl
    · exact Below.refl _ _
    · exact ⟨rfl, rfl, rfl, by rw [Lib.bytesWorld_size]; omega, fun k hk => Lib.bytesWorld_at_old _ _ _ k hk⟩
theorem trim_of (l p : List UInt8) (h : Lib.hasPrefix l p = true) : Lib.trimPrefix l p = l.drop p.length := by unfold Lib.trimPrefix; rw [if_pos h]
set_option maxHeartbeats 2000000 in
set_option maxRecDepth 100000 in
theorem code_Service_any (s : ByteArray) (hs : s.size ≤ 1000) (w : World) (ev : Value) (hv : w.cell? ⟨6, 0, none⟩ = some ev) (hev : ev = .nilIface ∨ ∃ te pe, ev = .iface te pe) :
    Calls Tryz.prog 30 #[.string s] w fun e w' => e = .returned (.tuple #[.int .u32 ((servOf s.data.toList).1 : Nat), .bool (servOf s.data.toList).2]) ∧ Below w.heap.size w w' := by
  cases hp : Lib.hasPrefix s.data.toList [83, 67, 58] with
  | true =>
    have h := code_Service_signs s w hp
    rw [trim_of _ _ hp] at h
    have e : servOf s.data.toList = (codeOf (s.data.toList.drop 3), bySignsB (s.data.toList.drop 3)) := by unfold servOf; rw [if_pos hp]
    rw [e]
    exact h.mono fun e w' hq => ⟨hq.1, hq.2 ▸ Below.refl _ _⟩
  | false =>
    have c1 := fun W => Tryz.strings_CutPrefix s ⟨#[83, 67, 58]⟩ W
    have c2 := fun W => Tryz.strings_CutPrefix s ⟨#[83, 67, 61]⟩ W
    rw [show Lib.hasPrefix s.data.toList (⟨#[83, 67, 58]⟩ : ByteArray).data.toList = false from hp] at c1
    generalize (⟨(Lib.trimPrefix s.data.toList (⟨#[83, 67, 58]⟩ : ByteArray).data.toList).toArray⟩ : ByteArray) = junk at c1
    have C1 := hide (fun W => (c1 W).mono fun _ _ h => And.intro h.1 h.2.symm)
    clear c1
    cases hq : Lib.hasPrefix s.data.toList [83, 67, 61] with
    | false =>
      have e : servOf s.data.toList = (0, false) := by unfold servOf; rw [if_neg (by rw [hp]; decide), if_neg (by rw [hq]; decide)]
      rw [e]
      rw [show Lib.hasPrefix s.data.toList (⟨#[83, 67, 61]⟩ : ByteArray).data.toList = false from hq] at c2
      generalize (⟨(Lib.trimPrefix s.data.toList (⟨#[83, 67, 61]⟩ : ByteArray).data.toList).toArray⟩ : ByteArray) = junk2 at c2
      have C2 := hide (fun W => (c2 W).mono fun _ _ h => And.intro h.1 h.2.symm)
      clear c2 hp hq e hv
      go_enter Tryz.func30, Tryz.ntmps30
      go_upto_region 2 with (go_at_call 62; (refine (C1.out _).mono ?_); rintro e w' ⟨rfl, rfl⟩)
      go_upto_region 5 with (go_at_call 62; (refine (C2.out _).mono ?_); rintro e w' ⟨rfl, rfl⟩)
      go_wp2
      go_ret2
      exact ⟨rfl, Below.refl _ _⟩
    | true =>
      have e : servOf s.data.toList = numOf (s.data.toList.drop 3) := by unfold servOf; rw [if_neg (by rw [hp]; decide), if_pos hq]
      rw [e]
      rw [show Lib.hasPrefix s.data.toList (⟨#[83, 67, 61]⟩ : ByteArray).data.toList = true from hq, show Lib.trimPrefix s.data.toList (⟨#[83, 67, 61]⟩ : ByteArray).data.toList = s.data.toList.drop 3 from trim_of _ _ hq] at c2
      obtain ⟨r, hr⟩ : ∃ r : ByteArray, (⟨(s.data.toList.drop 3).toArray⟩ : ByteArray) = r := ⟨_, rfl⟩
      have hrl : r.data.toList = s.data.toList.drop 3 := by rw [← hr]
      have hrz : r.size ≤ 1000 := by rw [← size_bytes, hrl, List.length_drop, size_bytes]; omega
      rw [hr] at c2
      rw [← hrl]
      have C2 := hide (fun W => (c2 W).mono fun _ _ h => And.intro h.1 h.2.symm)
      have c3 := fun W => Tryz.strings_HasPrefix r ⟨#[120]⟩ W
      have c4 := fun W => Tryz.strings_HasPrefix r ⟨#[88]⟩ W
      have hrs := size_bytes r
      clear c2 hp hq e hr hrl
      by_cases hx : Lib.hasPrefix r.data.toList [120] = true ∨ Lib.hasPrefix r.data.toList [88] = true
      · have e : numOf r.data.toList = numberOf 16 8 (r.data.toList.drop 1) := by unfold numOf; rw [if_pos hx]
        have h1 : 1 ≤ r.size := by
          rcases Nat.lt_or_ge 0 r.size with h | h
          · exact h
          · have : r.data.toList = [] := List.eq_nil_of_length_eq_zero (by omega)
            rw [this] at hx
            rcases hx with h | h <;> exact absurd h (by decide)
        have hxl : (r.extract 1 r.size).data.toList = r.data.toList.drop 1 := by
          rw [ByteArray.data_extract, Array.toList_extract, List.extract_eq_take_drop, List.take_of_length_le (by rw [List.length_drop]; omega)]
        have hxz : (r.extract 1 r.size).size = r.size - 1 := by rw [ByteArray.size_extract]; omega
        have HN := byNumber_gen 16 8 (by decide) (by decide) (r.extract 1 r.size) (by omega) w (fun a b => parses16 _ a b w ev hv hev)
        rw [hxl] at HN
        rw [e]
        have HN := hide HN
        have g1 : (1 : Int) ≤ (r.size : Int) := by omega
        generalize (numberOf 16 8 (r.data.toList.drop 1)).1 = R1 at *
        generalize (numberOf 16 8 (r.data.toList.drop 1)).2 = R2 at *
        cases h3 : Lib.hasPrefix r.data.toList [120] with
        | true =>
          rw [show Lib.hasPrefix r.data.toList (⟨#[120]⟩ : ByteArray).data.toList = true from h3] at c3
          have C3 := hide (fun W => (c3 W).mono fun _ _ h => And.intro h.1 h.2.symm)
          clear c3 c4 hx h3 e hxl hxz hrs h1 hv
          as_aux_lemma =>
            go_enter Tryz.func30, Tryz.ntmps30
            go_upto_region 2 with (go_at_call 62; (refine (C1.out _).mono ?_); rintro e w' ⟨rfl, rfl⟩)
            go_upto_region 5 with (go_at_call 62; (refine (C2.out _).mono ?_); rintro e w' ⟨rfl, rfl⟩)
            go_upto_region 9 with (go_at_call 63; (refine (C3.out _).mono ?_); rintro e w' ⟨rfl, rfl⟩)
            go_wp2_with (go_at_call 64; refine HN.out.mono ?_; rintro e w2 ⟨rfl, hb⟩)
            go_ret2
            exact ⟨rfl, hb⟩
        | false =>
          have h4 : Lib.hasPrefix r.data.toList [88] = true := by rcases hx with h | h; exact absurd h (by rw [h3]; decide); exact h
          rw [show Lib.hasPrefix r.data.toList (⟨#[120]⟩ : ByteArray).data.toList = false from h3] at c3
          rw [show Lib.hasPrefix r.data.toList (⟨#[88]⟩ : ByteArray).data.toList = true from h4] at c4
          have C3 := hide (fun W => (c3 W).mono fun _ _ h => And.intro h.1 h.2.symm)
          have C4 := hide (fun W => (c4 W).mono fun _ _ h => And.intro h.1 h.2.symm)
          clear c3 c4 hx h3 h4 e hxl hxz hrs h1 hv
          as_aux_lemma =>
            go_enter Tryz.func30, Tryz.ntmps30
            go_upto_region 2 with (go_at_call 62; (refine (C1.out _).mono ?_); rintro e w' ⟨rfl, rfl⟩)
            go_upto_region 5 with (go_at_call 62; (refine (C2.out _).mono ?_); rintro e w' ⟨rfl, rfl⟩)
            go_upto_region 8 with (go_at_call 63; (refine (C3.out _).mono ?_); rintro e w' ⟨rfl, rfl⟩)
            go_upto_region 9 with (go_at_call 63; (refine (C4.out _).mono ?_); rintro e w' ⟨rfl, rfl⟩)
            go_wp2_with (go_at_call 64; refine HN.out.mono ?_; rintro e w2 ⟨rfl, hb⟩)
            go_ret2
            exact ⟨rfl, hb⟩
      · have h3 : Lib.hasPrefix r.data.toList [120] = false := by cases h : Lib.hasPrefix r.data.toList [120] with | false => rfl | true => exact absurd (.inl h) hx
        have h4 : Lib.hasPrefix r.data.toList [88] = false := by cases h : Lib.hasPrefix r.data.toList [88] with | false => rfl | true => exact absurd (.inr h) hx
        rw [show Lib.hasPrefix r.data.toList (⟨#[120]⟩ : ByteArray).data.toList = false from h3] at c3
        rw [show Lib.hasPrefix r.data.toList (⟨#[88]⟩ : ByteArray).data.toList = false from h4] at c4
        have C3 := hide (fun W => (c3 W).mono fun _ _ h => And.intro h.1 h.2.symm)
        have C4 := hide (fun W => (c4 W).mono fun _ _ h => And.intro h.1 h.2.symm)
        clear c3 c4 h3 h4
        by_cases h0 : 1 < r.data.toList.length ∧ r.data.toList.head? = some 48
        · have e : numOf r.data.toList = (0, false) := by unfold numOf; rw [if_neg hx, if_pos h0]
          rw [e]
          have g1 : (1 : Int) < (r.size : Int) := by omega
          have z0 : 0 < r.size := by omega
          have g0 : (0 : Int) < (r.size : Int) := by omega
          have e48 : ((((r[0]'z0).toNat : Nat) : Int) == 48) = true := by
            have hh := h0.2
            rw [List.head?_eq_getElem?, List.getElem?_eq_getElem (by omega)] at hh
            have : r[0]'z0 = 48 := Option.some.inj hh
            rw [this]; rfl
          clear h0 hx e hrs hv
          as_aux_lemma =>
            go_enter Tryz.func30, Tryz.ntmps30
            go_upto_region 2 with (go_at_call 62; (refine (C1.out _).mono ?_); rintro e w' ⟨rfl, rfl⟩)
            go_upto_region 5 with (go_at_call 62; (refine (C2.out _).mono ?_); rintro e w' ⟨rfl, rfl⟩)
            go_upto_region 8 with (go_at_call 63; (refine (C3.out _).mono ?_); rintro e w' ⟨rfl, rfl⟩)
            go_upto_region 10 with (go_at_call 63; (refine (C4.out _).mono ?_); rintro e w' ⟨rfl, rfl⟩)
            go_wp2
            go_ret2
            exact ⟨rfl, Below.refl _ _⟩
        · have e : numOf r.data.toList = numberOf 10 10 r.data.toList := by unfold numOf; rw [if_neg hx, if_neg h0]
          rw [e]
          have HN := hide (byNumber_gen 10 10 (by decide) (by decide) r (by omega) w (fun a b => parses10 _ a b w ev hv hev))
          have hcs : ¬ ((1 : Int) < (r.size : Int)) ∨ (∃ z0 : 0 < r.size, (1 : Int) < (r.size : Int) ∧ ((((r[0]'z0).toNat : Nat) : Int) == 48) = false) := by
            by_cases h1 : 1 < r.size
            · refine .inr ⟨by omega, by omega, beq_eq_false_iff_ne.2 (fun e => h0 ⟨by omega, ?_⟩)⟩
              rw [List.head?_eq_getElem?, List.getElem?_eq_getElem (by omega)]
              have : (r[0]'(by omega)) = 48 := by rw [← UInt8.toNat_inj]; show _ = 48; omega
              exact congrArg some this
            · exact .inl (by omega)
          generalize (numberOf 10 10 r.data.toList).1 = R1 at *
          generalize (numberOf 10 10 r.data.toList).2 = R2 at *
          clear h0 hx e hrs hv
          rcases hcs with g | ⟨z0, g, e48⟩
          · as_aux_lemma =>
              go_enter Tryz.func30, Tryz.ntmps30
              go_upto_region 2 with (go_at_call 62; (refine (C1.out _).mono ?_); rintro e w' ⟨rfl, rfl⟩)
              go_upto_region 5 with (go_at_call 62; (refine (C2.out _).mono ?_); rintro e w' ⟨rfl, rfl⟩)
              go_upto_region 8 with (go_at_call 63; (refine (C3.out _).mono ?_); rintro e w' ⟨rfl, rfl⟩)
              go_upto_region 10 with (go_at_call 63; (refine (C4.out _).mono ?_); rintro e w' ⟨rfl, rfl⟩)
              go_wp2_with (go_at_call 64; refine HN.out.mono ?_; rintro e w2 ⟨rfl, hb⟩)
              go_ret2
              exact ⟨rfl, hb⟩
          · have g0 : (0 : Int) < (r.size : Int) := by omega
            as_aux_lemma =>
              go_enter Tryz.func30, Tryz.ntmps30
              go_upto_region 2 with (go_at_call 62; (refine (C1.out _).mono ?_); rintro e w' ⟨rfl, rfl⟩)
              go_upto_region 5 with (go_at_call 62; (refine (C2.out _).mono ?_); rintro e w' ⟨rfl, rfl⟩)
              go_upto_region 8 with (go_at_call 63; (refine (C3.out _).mono ?_); rintro e w' ⟨rfl, rfl⟩)
              go_upto_region 10 with (go_at_call 63; (refine (C4.out _).mono ?_); rintro e w' ⟨rfl, rfl⟩)
              go_wp2_with (go_at_call 64; refine HN.out.mono ?_; rintro e w2 ⟨rfl, hb⟩)
              go_ret2
              exact ⟨rfl, hb⟩
end Go.Proofs.YtjlnbahanghhcaaGreatDoor
