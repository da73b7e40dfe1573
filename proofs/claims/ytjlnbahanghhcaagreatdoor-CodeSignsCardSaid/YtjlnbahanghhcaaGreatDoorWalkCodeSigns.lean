/- CodeSigns: the walk. -/
import Derived.Test.YtjlnbahanghhcaaGreatDoorCodeText
import Derived.Laws.BitsAllLaws
import Derived.Laws.BitsLemmas
namespace Go.Proofs.YtjlnbahanghhcaaGreatDoor
open Go.RowKit
set_option linter.unusedVariables false
set_option linter.unusedSimpArgs false
theorem or_parts (x y k : Nat) (hy : y < 2 ^ k) (h : x * 2 ^ k + y < 4294967296) : bits .or .u32 ((x * 2 ^ k : Nat) : Int) (y : Int) = ((x * 2 ^ k + y : Nat) : Int) := by
  rw [u32_or_nat _ _ (by omega) (by omega)]
  have h := Nat.shiftLeft_add_eq_or_of_lt (i := k) (b := y) hy x
  rw [Nat.shiftLeft_eq] at h
  rw [← h]
theorem four_eq (a b c d : Nat) (ha : a < 256) (hb : b < 256) (hc : c < 256) (hd : d < 256) : strOfNums [(a : Int), (b : Int), (c : Int), (d : Int)] = strOfNums (be (a * 16777216 + b * 65536 + c * 256 + d) 4) := by
  congr 1
  show _ = [((a * 16777216 + b * 65536 + c * 256 + d : Nat) : Int) / 16777216 % 256, ((a * 16777216 + b * 65536 + c * 256 + d : Nat) : Int) / 65536 % 256, ((a * 16777216 + b * 65536 + c * 256 + d : Nat) : Int) / 256 % 256, ((a * 16777216 + b * 65536 + c * 256 + d : Nat) : Int) / 1 % 256]
  simp only [List.cons.injEq, and_true]
  refine ⟨by omega, by omega, by omega, by omega⟩
/-- four signs are their own text. -/
theorem signs_text (n : Nat) (hn : n < 4294967296) (h : bySignsB (strOfNums (be n 4)).data.toList = true) : textOf n = (strOfNums (be n 4)).data.toList ∧ bySignsB (textOf n) = true ∧ codeOf (strOfNums (be n 4)).data.toList = n := by
  have hl : (strOfNums (be n 4)).data.toList.length = 4 := by rw [size_bytes, strOfNums_size, be_len]
  have ha : (strOfNums (be n 4)).data.toList.all (fun b => signB b.toNat) = true := by
    unfold bySignsB at h
    rw [Bool.and_eq_true] at h
    exact h.2
  have hf := (Cd.four_signs signB (by decide) _ hl 4 (Nat.le_refl _) (fun j hj _ => List.all_eq_true.1 ha _ (List.getElem_mem hj)) (fun h => absurd h (by omega))).1 ⟨by omega, fun j hj h4 => absurd hj (by omega)⟩
  have ht : textOf n = (strOfNums (be n 4)).data.toList := by
    unfold textOf
    rw [hf.1, List.take_of_length_le (by omega)]
  refine ⟨ht, by rw [ht]; exact h, ?_⟩
  have := codeOf_text n hn (by rw [ht]; exact h)
  rwa [ht] at this
set_option maxHeartbeats 2000000 in
set_option maxRecDepth 100000 in
theorem CodeSigns_walk (HB0 : ∀ W : World, Calls Tryz.prog 11 #[] W fun e w' => e = .returned (.bool true) ∧ Below W.heap.size W w') (a b c d : Nat) (ha : a < 256) (hb : b < 256) (hc : c < 256) (hd : d < 256) (w : World) (htab : Lib.TabIs Tryz.prog w "internal/strconv.uint64pow10" .u64 Lib.pow10Tab) :
    Calls Tryz.prog 6 #[.int .u8 a, .int .u8 b, .int .u8 c, .int .u8 d] w fun e w' => e = .returned (.bool true) ∧ Below w.heap.size w w' := by
  have HB := hide HB0
  obtain ⟨n, hn⟩ : ∃ n, a * 16777216 + b * 65536 + c * 256 + d = n := ⟨_, rfl⟩
  have hn4 : n < 4294967296 := by omega
  obtain ⟨n1, hn1⟩ : ∃ n1, a * 256 + b = n1 := ⟨_, rfl⟩
  obtain ⟨n2, hn2⟩ : ∃ n2, a * 65536 + b * 256 + c = n2 := ⟨_, rfl⟩
  have o1 : bits .or .u32 ((a : Int) * 16777216) ((b : Int) * 65536) = (n1 : Int) * 65536 := by
    have := or_parts a (b * 65536) 24 (by omega) (by omega)
    rw [show ((a : Int) * 16777216) = ((a * 2 ^ 24 : Nat) : Int) from by omega, show ((b : Int) * 65536) = ((b * 65536 : Nat) : Int) from by omega, this]
    omega
  have o2 : bits .or .u32 ((n1 : Int) * 65536) ((c : Int) * 256) = (n2 : Int) * 256 := by
    have := or_parts n1 (c * 256) 16 (by omega) (by omega)
    rw [show ((n1 : Int) * 65536) = ((n1 * 2 ^ 16 : Nat) : Int) from by omega, show ((c : Int) * 256) = ((c * 256 : Nat) : Int) from by omega, this]
    omega
  have o3 : bits .or .u32 ((n2 : Int) * 256) (d : Int) = (n : Int) := by
    have := or_parts n2 d 8 (by omega) (by omega)
    rw [show ((n2 : Int) * 256) = ((n2 * 2 ^ 8 : Nat) : Int) from by omega, this]
    omega
  have hi1 : (n1 : Int) < 65536 := by omega
  have hi2 : (n2 : Int) < 16777216 := by omega
  have hS := four_eq a b c d ha hb hc hd
  rw [hn] at hS
  obtain ⟨S, hSe⟩ : ∃ S, strOfNums (be n 4) = S := ⟨_, rfl⟩
  have hSz : S.size = 4 := by rw [← hSe, strOfNums_size, be_len]
  have hst := signs_text n hn4
  rw [hSe] at hS hst
  have hr := fun W => run_fresh W [(a : Int), (b : Int), (c : Int), (d : Int)] #[.int .u8 a, .int .u8 b, .int .u8 c, .int .u8 d] rfl 4 rfl
  rw [hS] at hr
  have HT := hide (fun W (hb : Below w.heap.size w W) => code_Text_any n hn4 W (Lib.tabBelow_of_tabIs htab W hb))
  have HST := hide (fun W => code_Service_text n hn4 W)
  have HCT := hide (fun W => ref_CodeText n hn4 W)
  have hl : (⟨#[83, 67, 58]⟩ ++ S : ByteArray).data.toList = 83 :: 67 :: 58 :: S.data.toList := by
    rw [ByteArray.data_append, Array.toList_append]; rfl
  have hss := fun W => code_Service_signs (⟨#[83, 67, 58]⟩ ++ S) W (by rw [hl]; simp [Lib.hasPrefix, List.isPrefixOf])
  rw [hl, show Lib.trimPrefix (83 :: 67 :: 58 :: S.data.toList) [83, 67, 58] = S.data.toList from by simp [Lib.trimPrefix, Lib.hasPrefix, List.isPrefixOf]] at hss
  have hrs := fun W => ref_Service_signs S (by omega) W
  have hsame : bySignsB S.data.toList = true → textC n = ⟨#[83, 67, 58]⟩ ++ S ∧ codeOf S.data.toList = n := fun h => by
    obtain ⟨e1, e2, e3⟩ := hst h
    refine ⟨?_, e3⟩
    unfold textC
    rw [if_pos e2, e1]
  have hct : (if bySignsB (textOf n) = true then ⟨#[83, 67, 58]⟩ ++ ⟨(textOf n).toArray⟩ else ⟨#[83, 67, 61]⟩ ++ ⟨(Lib.decDigits n).toArray⟩ : ByteArray) = textC n := rfl
  rw [hct] at HCT
  have hTz : (textC n).size ≤ 100 := by
    unfold textC
    split
    · rename_i h
      rw [ByteArray.size_append]
      have : (⟨(textOf n).toArray⟩ : ByteArray).size = (textOf n).length := rfl
      have h4 : (textOf n).length ≤ 4 := by unfold bySignsB at h; rw [Bool.and_eq_true] at h; exact (of_decide_eq_true h.1).2
      have : (⟨#[83, 67, 58]⟩ : ByteArray).size = 3 := rfl
      omega
    · rw [ByteArray.size_append]
      have := dec_len20 n (by omega)
      have h1 : (⟨(Lib.decDigits n).toArray⟩ : ByteArray).size = (Lib.decDigits n).length := rfl
      have h2 : (⟨#[83, 67, 61]⟩ : ByteArray).size = 3 := rfl
      omega
  have hKM : decide (n ≤ 4294967294) = true → (if n ≤ 4294967294 then n else 0) = n := fun h => if_pos (of_decide_eq_true h)
  have hKN : ((n : Int) != 4294967295) = decide (n ≤ 4294967294) := by
    by_cases h : n ≤ 4294967294
    · rw [decide_eq_true h]; exact bne_iff_ne.2 (by omega)
    · rw [decide_eq_false h]
      obtain rfl : n = 4294967295 := by omega
      rfl
  generalize (if n ≤ 4294967294 then n else 0) = M at *
  generalize decide (n ≤ 4294967294) = K at *
  generalize textC n = T at *
  generalize codeOf S.data.toList = R at *
  generalize bySignsB S.data.toList = F at *
  have HKM := hide hKM; have HKN := hide hKN
  clear hKM hKN
  have HSS := hide hss; have HRS := hide hrs; have HSA := hide hsame
  clear hss hrs hsame hct hl hst HB0 hS hSe htab
  have hTz2 : (T.size : Int) ≤ 100 := by omega
  have hSz4 : (S.size : Int) ≤ 4 := by omega
  clear hSz
  have ha' : (a : Int) < 256 := by omega
  have hb' : (b : Int) < 256 := by omega
  have hc' : (c : Int) < 256 := by omega
  have hd' : (d : Int) < 256 := by omega
  go_enter Tryz.func6, Tryz.ntmps6
  go_upto_region 5 with (go_at_call 11; refine (HB.out _).mono ?_; rintro e w1 ⟨rfl, hb1⟩)
  have HB1 := hide hb1
  clear hb1 o1 o2 o3
  go_upto_region 6 with (go_at_call 29; refine (HT.out _ HB1.out).mono ?_; rintro e w2 ⟨rfl, hb2⟩)
  have HB2 := hide (HB1.out.trans (hb2.mono HB1.out.size))
  clear hb2 HB1 HT
  go_upto_region 7 with (go_at_call 30; refine (HST.out _).mono ?_; rintro e w3 ⟨rfl, hb3⟩)
  have HB3 := hide (HB2.out.trans (hb3.mono HB2.out.size))
  clear hb3 HB2 HST
  clear hn hn1 hn2 hi1 hi2
  have hz3 := HB3.out.size
  go_upto_region 8 with (go_at_call 30; refine (HSS.out _).mono ?_; rintro e w4 ⟨rfl, rfl⟩)
  have HB4 := hide (HB3.out.alloc hz3 (.cells #[.int .u8 a, .int .u8 b, .int .u8 c, .int .u8 d] 5))
  clear HB3 HSS hz3
  generalize (w3.alloc (.cells #[.int .u8 a, .int .u8 b, .int .u8 c, .int .u8 d] 5)) = w4 at *
  have hz4 := HB4.out.size
  go_upto_region 9 with (go_at_call 31; refine (HRS.out _).mono ?_; rintro e w5 ⟨rfl, rfl⟩)
  have HB5 := hide (HB4.out.alloc hz4 (.cells #[.int .u8 a, .int .u8 b, .int .u8 c, .int .u8 d] 5))
  clear HB4 HRS hz4
  generalize (w4.alloc (.cells #[.int .u8 a, .int .u8 b, .int .u8 c, .int .u8 d] 5)) = w5 at *
  have hz5 := HB5.out.size
  have HSA2 := HSA.out
  cases K
  · have k1 := HKN.out
    clear HSA2
    cases F
    · as_aux_lemma =>
        go_wp2_with (go_at_call 32; refine (HCT.out _).mono ?_; rintro e w6 ⟨rfl, hb6⟩)
        all_goals go_ret
        all_goals exact ⟨rfl, HB5.out.trans (hb6.mono hz5)⟩
    · obtain ⟨e1, e2⟩ := HSA.out rfl
      have r1 : ((R : Int) == (n : Int)) = true := beq_iff_eq.2 (by omega)
      subst e1
      clear e2
      as_aux_lemma =>
        go_wp2_with (go_at_call 32; refine (HCT.out _).mono ?_; rintro e w6 ⟨rfl, hb6⟩; have hz6 := (HB5.out.trans (hb6.mono hz5)).size)
        all_goals go_ret
        all_goals exact ⟨rfl, (HB5.out.trans (hb6.mono hz5)).alloc hz6 _⟩
  · have k1 := HKN.out
    have k2 : ((M : Int) == (n : Int)) = true := beq_iff_eq.2 (by have := HKM.out rfl; omega)
    clear HSA2
    cases F
    · as_aux_lemma =>
        go_wp2_with (go_at_call 32; refine (HCT.out _).mono ?_; rintro e w6 ⟨rfl, hb6⟩)
        all_goals go_ret
        all_goals exact ⟨rfl, HB5.out.trans (hb6.mono hz5)⟩
    · obtain ⟨e1, e2⟩ := HSA.out rfl
      have r1 : ((R : Int) == (n : Int)) = true := beq_iff_eq.2 (by omega)
      subst e1
      clear e2
      as_aux_lemma =>
        go_wp2_with (go_at_call 32; refine (HCT.out _).mono ?_; rintro e w6 ⟨rfl, hb6⟩; have hz6 := (HB5.out.trans (hb6.mono hz5)).size)
        all_goals go_ret
        all_goals exact ⟨rfl, (HB5.out.trans (hb6.mono hz5)).alloc hz6 _⟩
end Go.Proofs.YtjlnbahanghhcaaGreatDoor
