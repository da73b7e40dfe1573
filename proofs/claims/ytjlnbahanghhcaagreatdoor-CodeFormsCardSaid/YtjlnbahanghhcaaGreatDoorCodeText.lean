/- code.Text whole; code.Service at what it writes. -/
import Derived.Test.YtjlnbahanghhcaaGreatDoorServDec
import Derived.Test.YtjlnbahanghhcaaGreatDoorRefText
import Derived.Test.YtjlnbahanghhcaaGreatDoorRefServ
import Derived.Test.YtjlnbahanghhcaaGreatDoorBaseD
import Derived.StillTailTactics
import Derived.Deep.AppendLies
import Derived.Deep.RegionLaw
import Derived.Lib.AppendIntMem
namespace Go.Proofs.YtjlnbahanghhcaaGreatDoor
open Go.RowKit Go.Proofs.YtjlnbahanghhcaaGreatDoorW.PrintWords
set_option linter.unusedVariables false
set_option linter.unusedSimpArgs false
set_option maxHeartbeats 4000000 in
set_option maxRecDepth 100000 in
/-- code.Text where the signs do not do. -/
theorem code_Text_num (c : Nat) (hc : c < 4294967296) (t : ByteArray) (ht9 : t.size ≤ 1000) (w : World) (hF : ∀ W : World, Below w.heap.size w W → Calls Tryz.prog 61 #[.int .u64 c, .int .i64 10] W fun e w' => e = .returned (.string t) ∧ Below W.heap.size W w') (b : Bool) (hb0 : bySignsB (textOf c) = b) (h2 : b = false ∨ ((codeOf (textOf c) : Int) == (c : Int)) = false) :
    Calls Tryz.prog 29 #[.int .u32 c] w fun e w' => e = .returned (.string (⟨#[83, 67, 61]⟩ ++ t)) ∧ Below w.heap.size w w' := by
  go_enter Tryz.func29, Tryz.ntmps29
  have h4 : textOf c = Lib.trimRightB (strOfNums (be c 4)).data.toList 32 := rfl
  have c1 := fun W hs => Tryz.strings_TrimRight_one (strOfNums (be c 4)) 32 (by decide) W hs
  have c2 := fun W => code_bySigns ⟨(textOf c).toArray⟩ W
  simp only at c1 c2
  rw [← h4] at c1
  rw [hb0] at c2
  generalize hq : (codeOf (textOf c) : Int) = q at c2 h2
  have C1 := hide (fun W hs => (c1 W hs).mono fun _ _ h => And.intro h.1 h.2.symm); have C2 := hide c2; have CF := hide hF; have H2 := hide h2
  clear c1 c2 h2 h4 hb0 hq hF
  go_wp2
  go_loopw [3, 4] (fun u x wr => ∃ (j : Nat) (i : Int) (d : List Int), j ≤ 4 ∧ d.length + j = 4 ∧ i + 1 = j ∧ x = .int .i64 i ∧ Owns wr w.heap.size u d ∧ Below w.heap.size w wr ∧ Hid (d ++ be c j = be c 4)) (fun _ x _ => (intOf x + 1).toNat)
  case atStart => exact ⟨4, 3, [], by omega, by simp, by omega, rfl, owns_nil _ _, Below.refl _ _, hide rfl⟩
  case round =>
    obtain ⟨j, i, d, hj, hd, hi, rfl, ho, hb, H⟩ := hrel
    cases j with
    | zero =>
      obtain rfl : i = -1 := by omega
      have hdk : d = be c 4 := by simpa [be] using H.out
      subst hdk
      clear H
      generalize ht : textOf c = tt at C1 C2
      replace ht := hide ht
      have hsz : (strOfNums (be c 4)).size ≤ 9223372036854775807 := by rw [strOfNums_size, be_len]; decide
      go_wp2
      rw [own_text rfl rfl rfl ho]
      generalize strOfNums (be c 4) = u at C1 hsz
      have HB := hide hb
      clear hb ho
      cases b with
      | false =>
        clear H2
        go_wp2_with (first | (go_at_call 59; (refine (C1.out _ hsz).mono ?_); rintro e w' ⟨rfl, rfl⟩) | (go_at_call 60; (refine (C2.out _).mono ?_); rintro e w' ⟨rfl, rfl⟩))
        refine (CF.out _ HB.out).mono ?_
        rintro e w2 ⟨rfl, hb2⟩
        have HB2 := hide (HB.out.trans (hb2.mono HB.out.size))
        clear hb2
        go_wp2
        go_ret
        exact ⟨rfl, HB2.out⟩
      | true =>
        have hne : (q == (c : Int)) = false := by rcases H2.out with h | h; exact absurd h (by decide); exact h
        clear H2
        go_wp2_with (first | (go_at_call 59; (refine (C1.out _ hsz).mono ?_); rintro e w' ⟨rfl, rfl⟩) | (go_at_call 60; (refine (C2.out _).mono ?_); rintro e w' ⟨rfl, rfl⟩))
        refine (CF.out _ HB.out).mono ?_
        rintro e w2 ⟨rfl, hb2⟩
        have HB2 := hide (HB.out.trans (hb2.mono HB.out.size))
        clear hb2
        go_wp2
        go_ret
        exact ⟨rfl, HB2.out⟩
    | succ j =>
      obtain rfl : i = (j : Int) := by omega
      have hsz := hb.size
      go_wp2_with (at_builtin; refine app_new rfl _ _ rfl w.heap.size d [(c : Int) / 2 ^ (8 * j) % 256] ho rfl 1 1 rfl rfl rfl (by omega) hsz ?_)
      intro v' w1 hown' hb'
      have hH : Hid ((d ++ [(c : Int) / 2 ^ (8 * j) % 256]) ++ be c j = be c 4) := hide (by rw [← H.out]; simp [be])
      have hb1 := hb.trans hb'
      have RR := hide hown'
      clear hown' hb' hb H ho
      go_wp2
      go_roundw
      case rel => exact ⟨j, (j : Int) - 1, d ++ [(c : Int) / 2 ^ (8 * j) % 256], by omega, by simp; omega, by omega, by go_num, RR.out, hb1, hH⟩
      case measure => first | (simp [intOf]; done) | (simp [intOf]; omega)
theorem be4 (c : Nat) : (strOfNums (be c 4)).data.toList = [UInt8.ofNat (c / 16777216 % 256), UInt8.ofNat (c / 65536 % 256), UInt8.ofNat (c / 256 % 256), UInt8.ofNat (c % 256)] := by
  rw [strOfNums_data]
  have e : be c 4 = [((c / 16777216 % 256 : Nat) : Int), ((c / 65536 % 256 : Nat) : Int), ((c / 256 % 256 : Nat) : Int), ((c % 256 : Nat) : Int)] := by
    show [(c : Int) / 16777216 % 256, (c : Int) / 65536 % 256, (c : Int) / 256 % 256, (c : Int) / 1 % 256] = _
    simp only [List.cons.injEq, and_true]
    refine ⟨by omega, by omega, by omega, by omega⟩
  rw [e]
  simp only [List.map_cons, List.map_nil, Int.toNat_natCast]
theorem trim_codeN (p q r t : UInt8) : codeN (Lib.trimRightB [p, q, r, t] 32) 4 = ((p.toNat * 256 + q.toNat) * 256 + r.toNat) * 256 + t.toNat := by
  have e32 : ∀ b : UInt8, (b == 32) = decide (b.toNat = 32) := fun b => by
    rw [Bool.eq_iff_iff, beq_iff_eq, decide_eq_true_eq, ← UInt8.toNat_inj]; rfl
  unfold Lib.trimRightB
  simp only [List.reverse_cons, List.reverse_nil, List.nil_append, List.cons_append, List.dropWhile_cons, e32]
  by_cases c3 : t.toNat = 32 <;> by_cases c2 : r.toNat = 32 <;> by_cases c1 : q.toNat = 32 <;> by_cases c0 : p.toNat = 32 <;> simp [c0, c1, c2, c3, codeN, byteOr]
theorem codeOf_text (c : Nat) (hc : c < 4294967296) (h : bySignsB (textOf c) = true) : codeOf (textOf c) = c := by
  unfold codeOf
  rw [if_pos h]
  unfold textOf
  rw [be4, trim_codeN]
  have e : ∀ n : Nat, (UInt8.ofNat (n % 256)).toNat = n % 256 := fun n => UInt8.toNat_ofNat_of_lt' (by show n % 256 < 256; omega)
  rw [e, e, e, e]
  omega
theorem text_max : bySignsB (textOf 4294967295) = false := by decide +kernel
/-- what a code is written as. -/
def textC (c : Nat) : ByteArray := if bySignsB (textOf c) = true then ⟨#[83, 67, 58]⟩ ++ ⟨(textOf c).toArray⟩ else ⟨#[83, 67, 61]⟩ ++ ⟨(Lib.decDigits c).toArray⟩
theorem code_Text_any (c : Nat) (hc : c < 4294967296) (w : World) (htab : Lib.TabIs Tryz.prog w "internal/strconv.uint64pow10" .u64 Lib.pow10Tab) :
    Calls Tryz.prog 29 #[.int .u32 c] w fun e w' => e = .returned (.string (textC c)) ∧ Below w.heap.size w w' := by
  cases h : bySignsB (textOf c) with
  | true =>
    have e : textC c = ⟨#[83, 67, 58]⟩ ++ ⟨(textOf c).toArray⟩ := by unfold textC; rw [if_pos h]
    rw [e]
    exact code_Text_signs c w hc h (codeOf_text c hc h)
  | false =>
    have e : textC c = ⟨#[83, 67, 61]⟩ ++ ⟨(Lib.decDigits c).toArray⟩ := by unfold textC; rw [h]; rfl
    rw [e]
    exact code_Text_num c hc _ (by have := dec_len20 c (by omega); rw [← size_bytes]; exact Nat.le_trans this (by decide)) w (fun W hb => FormatUint_10 c (by omega) W (Lib.tabBelow_of_tabIs htab W hb)) false h (.inl rfl)
theorem code_Service_text (c : Nat) (hc : c < 4294967296) (w : World) : Calls Tryz.prog 30 #[.string (textC c)] w fun e w' => e = .returned (.tuple #[.int .u32 (if c ≤ 4294967294 then c else 0 : Nat), .bool (decide (c ≤ 4294967294))]) ∧ Below w.heap.size w w' := by
  cases h : bySignsB (textOf c) with
  | true =>
    have e : textC c = ⟨#[83, 67, 58]⟩ ++ ⟨(textOf c).toArray⟩ := by unfold textC; rw [if_pos h]
    have hl : (⟨#[83, 67, 58]⟩ ++ ⟨(textOf c).toArray⟩ : ByteArray).data.toList = 83 :: 67 :: 58 :: textOf c := by
      rw [ByteArray.data_append, Array.toList_append]; rfl
    have hm : c ≤ 4294967294 := by
      rcases Nat.lt_or_ge c 4294967295 with h' | h'
      · omega
      · obtain rfl : c = 4294967295 := by omega
        rw [text_max] at h; cases h
    have hs := code_Service_signs (⟨#[83, 67, 58]⟩ ++ ⟨(textOf c).toArray⟩) w (by rw [hl]; simp [Lib.hasPrefix, List.isPrefixOf])
    rw [hl, show Lib.trimPrefix (83 :: 67 :: 58 :: textOf c) [83, 67, 58] = textOf c from by simp [Lib.trimPrefix, Lib.hasPrefix, List.isPrefixOf], codeOf_text c hc h, h] at hs
    rw [e, if_pos hm, decide_eq_true hm]
    exact hs.mono fun e w' hq => ⟨hq.1, hq.2 ▸ Below.refl _ _⟩
  | false =>
    have e : textC c = ⟨#[83, 67, 61]⟩ ++ ⟨(Lib.decDigits c).toArray⟩ := by unfold textC; rw [h]; rfl
    rw [e]
    exact code_Service_dec c hc _ (dec_is c hc) w
end Go.Proofs.YtjlnbahanghhcaaGreatDoor
