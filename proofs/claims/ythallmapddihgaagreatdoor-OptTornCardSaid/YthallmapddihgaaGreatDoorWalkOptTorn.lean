/- OptTorn: the walk. -/
import Derived.Test.YthallmapddihgaaGreatDoorPureTorn
import Derived.Test.YthallmapddihgaaGreatDoorRefGetOpts
import Derived.Test.YthallmapddihgaaGreatDoorLawOpts
import Derived.Test.YthallmapddihgaaGreatDoorRaw
import Derived.Test.YthallmapddihgaaGreatDoorText
import Derived.StillTailTactics
import Derived.Deep.DeepCutAuto
import Derived.Deep.CutBlock
import Derived.IntWalk
namespace Go.Proofs.YthallmapddihgaaGreatDoor
open Go.RowKit
set_option linter.unusedVariables false
set_option linter.unusedSimpArgs false
theorem put_torn (d s : ByteArray) (hd : d.size ≤ 60) (hs : strOfNums (putO [⟨40, d⟩]) = s) (W : World) (B : Nat) (hB : W.heap.size = B) :
    Calls Tryz.prog 31 #[.slice (some ⟨B, 0, none⟩) 1 1] (W.alloc (.cells #[.int .i64 40, .string d] 45)) fun e w' => e = .returned (.string s) ∧ Below B W w' := by
  subst hB
  have hA : CellsAt (W.alloc (.cells #[.int .i64 40, .string d] 45)) (W.heap.size + 1) (some ⟨W.heap.size, 0, none⟩) (ocells [⟨40, d⟩]) := fun k u hu => by
    match k, hu with
    | 0, hu => cases hu; exact ⟨_, rfl, Nat.lt_succ_self _, by simp [Addr.add]⟩
    | 1, hu => cases hu; exact ⟨_, rfl, Nat.lt_succ_self _, by simp [Addr.add]⟩
  refine (opt_Put (some ⟨W.heap.size, 0, none⟩) 1 (W.heap.size + 1) [⟨40, d⟩] _ hA (by simp) ?_ (by simp)).mono fun e w' h => ?_
  · have := PkB.put_one d hd
    unfold obs; simp only [List.map_cons, List.map_nil, List.flatten_cons, List.flatten_nil, List.append_nil]
    unfold ob; split
    · simp only [List.length_cons, nb_len]; omega
    · simp
  · obtain ⟨rfl, hb⟩ := h
    exact ⟨by rw [hs], ((Below.refl _ _).alloc (Nat.le_refl _) _).trans (hb.mono (by simp))⟩
set_option maxHeartbeats 4000000 in
set_option maxRecDepth 100000 in
theorem OptTorn_walk (HB0 : ∀ W : World, Calls Tryz.prog 14 #[] W fun e w' => e = .returned (.bool true) ∧ Below W.heap.size W w') (data : ByteArray) (hd0 : data.size ≤ 140737488351232) (cut : Int) (v0 : -9223372036854775808 ≤ cut) (v1 : cut ≤ 9223372036854775807) (n : Int) (n0 : 0 ≤ n) (n1 : n ≤ 255) (w : World) :
    Calls Tryz.prog 6 #[.string data, .int .i64 cut, .int .u8 n] w fun e w' => e = .returned (.bool true) ∧ Below w.heap.size w w' := by
  have HT := hide (fun W : World => law_Text data 60 W hd0)
  obtain ⟨d, hdd⟩ : ∃ d, data.extract 0 (min data.size 60) = d := ⟨_, rfl⟩
  have hd : d.size ≤ 60 := by rw [← hdd, ByteArray.size_extract]; omega
  rw [hdd] at HT
  replace HT : Hid (∀ W : World, Calls Tryz.prog 15 #[.string data, .int .i64 60] W fun e w' => e = .returned (.string d) ∧ W = w') := HT
  obtain ⟨s, hs⟩ : ∃ s, strOfNums (putO [⟨40, d⟩]) = s := ⟨_, rfl⟩
  obtain ⟨Z, hZ⟩ := PkB.put_one d hd
  rw [hs] at hZ
  have HP := hide (put_torn d s hd hs)
  obtain ⟨c, hc, ec⟩ : ∃ c : Nat, c < d.size + 2 ∧ (wrap64 (cut.tmod (d.size + 2 : Int) + (d.size + 2 : Int))).tmod (d.size + 2 : Int) = (c : Int) := by
    obtain ⟨h1, h2⟩ := tmod_pos cut (d.size + 2 : Int) (by omega) (by omega)
    exact ⟨_, by omega, (Int.toNat_of_nonneg h1).symm⟩
  have hss : d.size + 2 ≤ s.size := by
    have h1 := congrArg List.length hZ
    simp only [List.length_cons, List.length_append, PkB.len_size] at h1; omega
  have hss2 : s.size ≤ 70 := by
    have h1 := PkB.put_one_size d hd
    rw [hs] at h1; exact h1
  have hG1 := fun W => PkB.opt_Get_any (s.extract 0 c) (by rw [ByteArray.size_extract]; omega) W
  rw [PkB.torn_cut d s Z hZ hd c hc] at hG1
  simp only [List.length_nil] at hG1
  obtain ⟨t, ht⟩ : ∃ t, s.extract 0 (d.size + 2) = t := ⟨_, rfl⟩
  have htl : t.data.toList = 40 :: UInt8.ofNat (d.size + 2) :: d.data.toList := by
    rw [← ht, PkB.ext_list, hZ, List.drop_zero, Nat.sub_zero, List.take_succ_cons, List.take_succ_cons, List.take_append_of_le_length (by rw [PkB.len_size]; exact Nat.le_refl _), List.take_of_length_le (by rw [PkB.len_size]; exact Nat.le_refl _)]
  have htz : t.size = d.size + 2 := by
    have h1 := congrArg List.length htl
    simpa only [List.length_cons, PkB.len_size] using h1
  have hus := PkB.torn_set d t _ htl n
  have HG1 := hide hG1; have HB := hide HB0; have HUS := hide hus; have HTZ := hide htz; have HTX := hide ht
  clear hG1 HB0 hZ hs hdd hd0 htl hus htz ht
  go_enter Tryz.func6, Tryz.ntmps6
  go_upto_region 5 with (first | (go_at_call 14; refine (HB.out _).mono ?_; rintro e w1 ⟨rfl, hb1⟩) | (go_at_call 15; refine (HT.out _).mono ?_; rintro e w2 ⟨rfl, rfl⟩))
  have HB1 := hide hb1
  clear hb1
  go_upto_region 6 with (first | (go_at_call 31; refine (HP.out _ _ rfl).mono ?_; rintro e w2 ⟨rfl, hb2⟩))
  have HB2 := hide (HB1.out.trans (hb2.mono HB1.out.size))
  clear hb2 HB1
  have hdI : (d.size : Int) ≤ 60 := by omega
  have hcI : (c : Int) ≤ (s.size : Int) := by omega
  have hcd : (c : Int) < (d.size : Int) + 2 := by omega
  have hsI : (s.size : Int) ≤ 70 := by omega
  have hsd : (d.size : Int) + 2 ≤ (s.size : Int) := by omega
  go_upto_region 9 with (first | (go_at_call 32; refine (HG1.out _).mono ?_; rintro e w3 ⟨A1, c1, rfl, hcc, hcl, hg0, hb3⟩))
  have HB3 := hide (HB2.out.trans (hb3.mono HB2.out.size))
  clear hb3 hcl hcc hg0 HB2 ec HG1 HP HT v0 v1
  go_cut [11, 64] (fun v11 v64 wx => (∃ E : Int, v11 = .int .i64 E) ∧ v64 = .bool false ∧ wx = w3)
  case first =>
    as_aux_lemma =>
      by_cases h0 : c = 0
      · subst h0
        simp only [if_true]
        go_wp2_with fail
        all_goals go_meet
        all_goals exact ⟨⟨_, rfl⟩, rfl, rfl⟩
      · have h1 : ((c : Int) == 0) = false := beq_eq_false_iff_ne.2 (by omega)
        have h2 : (0 : Int) < (c : Int) := by omega
        simp only [if_neg h0]
        clear h0
        go_wp2_with fail
        all_goals go_meet
        all_goals exact ⟨⟨_, rfl⟩, rfl, rfl⟩
  case rest =>
    obtain ⟨⟨E0, rfl⟩, rfl, rfl⟩ := hcut
    go_upto_region 11 with fail
    go_upto_region 12 with (refine wpList_bytes_of rfl (.tmp 67) rfl (s.extract 0 (d.size + 2)) rfl ?_; intro cap2 w4 hraw hb4 hsz4)
    have hraw : Raw w4 wc.heap.size (t.data.toList.map fun c => (c.toNat : Int)) := by rw [← HTX.out]; exact hraw
    have hll : (t.data.toList.map fun c => (c.toNat : Int)).length = d.size + 2 := by rw [List.length_map, PkB.len_size]; exact HTZ.out
    obtain ⟨u, hu⟩ : ∃ u, strOfNums ((t.data.toList.map fun c => (c.toNat : Int)).set 1 n) = u := ⟨_, rfl⟩
    have hul : u.data.toList = 40 :: UInt8.ofNat n.toNat :: d.data.toList := by rw [← hu]; exact HUS.out
    have huz : u.size = d.size + 2 := by
      have h1 := congrArg List.length hul
      simpa only [List.length_cons, PkB.len_size] using h1
    obtain ⟨x1, hc1⟩ : ∃ x1, w4.cell? ⟨wc.heap.size, 1, none⟩ = some (.int .u8 x1) := ⟨_, hraw.cell 1 (by omega)⟩
    have hf1 := hraw.frozen 1 (by omega)
    have htl := PkB.torn_len d u n.toNat hul (by omega) hd
    have HU := hide hu; have HLL := hide hll; have HTL := hide htl
    clear hu hll hul htl HUS
    generalize (t.data.toList.map fun c => (c.toNat : Int)) = L at *
    have hl1 : 1 < L.length := by have := HLL.out; omega
    have hd1 : (1 : Int) < (d.size : Int) + 2 := by omega
    go_upto_region 13 with fail
    have hraw2 := hraw.setCell 1 hl1 n
    have hb5 : Below w.heap.size w (w4.setCell ⟨wc.heap.size, 1, none⟩ (.int .u8 n)) := (HB3.out.trans (hb4.mono HB3.out.size)).setCell (p := ⟨wc.heap.size, 1, none⟩) HB3.out.size _
    have hz5 : wc.heap.size < (w4.setCell ⟨wc.heap.size, 1, none⟩ (.int .u8 n)).heap.size := hraw2.lt
    have hl2 : d.size + 2 = (L.set 1 n).length := by rw [List.length_set]; exact HLL.out.symm
    generalize L.set 1 n = L2 at *
    clear hraw hc1 hf1 hb4 hsz4
    generalize (w4.setCell ⟨wc.heap.size, 1, none⟩ (.int .u8 n)) = w5 at *
    obtain ⟨⟨l, E⟩, hg⟩ : ∃ g, PkB.getO u = g := ⟨_, rfl⟩
    have hlen := PkB.getO_len u
    have hG2 := fun W => PkB.opt_Get_any u (by omega) W
    have hG3 := fun W => RG.ref_GetOpts_any u (by omega) W
    rw [hg] at hG2 hG3 hlen
    dsimp only at hG2 hG3 hlen
    have HG2 := hide hG2; have HG3 := hide hG3; have HG := hide hg; have HRW := hide hraw2; have HB5 := hide hb5; have HL2 := hide hl2
    have hl9 : l.length ≤ 1000 := by omega
    clear hG2 hG3 hg hraw2 hb5 hl2 hl1 HLL HTZ HTX huz hlen
    go_upto_region 14 with (first | (refine wpList_bytes_back rfl (.tmp 73) rfl wc.heap.size cap2 (d.size + 2) L2 HL2.out rfl HRW.out ?_; rw [HU.out]) | (go_at_call 32; refine (HG2.out _).mono ?_; rintro e w6 ⟨A2, c2, rfl, hcc2, hcl2, hg2, hb6⟩))
    have HB6 := hide (HB5.out.trans (hb6.mono HB5.out.size))
    have hr6 := HRW.out.below hb6 hz5
    have hz6 := hr6.lt
    have HR6 := hide hr6; have HC2 := hide hcl2; have HGA := hide hg2
    clear hb6 hcl2 hr6 HRW HG2 hg2
    rcases Int.lt_trichotomy n ((d.size : Int) + 2) with hn | hn | hn
    · by_cases hn2 : n < 2
      · obtain ⟨rfl, rfl⟩ : l = [] ∧ E = 7 := by
          have h1 := HTL.out.1 (.inl (by omega))
          rw [HG.out] at h1
          exact ⟨congrArg Prod.fst h1, congrArg Prod.snd h1⟩
        simp only [List.length_nil]
        clear HG HTL
        as_aux_lemma =>
          go_wp2
          all_goals go_ret
          all_goals exact ⟨rfl, HB6.out⟩
      · have hn2 : 2 ≤ n := by omega
        have hnle : n ≤ (d.size : Int) + 2 := by omega
        clear HG HTL
        have hnw : wc.heap.size < wc.heap.size + 1 := Nat.lt_succ_self _
        by_cases hn3 : n = (d.size : Int) + 2
        · exact absurd hn3 (by omega)
        · as_aux_lemma =>
            go_upto_region 18 with (first | (refine wpList_bytes_back rfl (.tmp 98) rfl wc.heap.size cap2 (d.size + 2) L2 HL2.out rfl HR6.out ?_; rw [HU.out]) | (go_at_call 33; refine (HG3.out _).mono ?_; rintro e w7 ⟨A3, c3, rfl, hcc3, hcl3, hb7⟩))
            have hz7 := hb7.size
            have hA2 : CellsAt w7 w7.heap.size A2 (ocells l) := (HC2.out.below hb7).more hz7
            have OP := hide (RO.law_Opts_same A2 A3 c2 c3 w7.heap.size l w7 (by omega) hA2 hcl3 hcc2 hcc3)
            have HB7 := hide (HB6.out.trans (hb7.mono HB6.out.size))
            clear hb7 hA2 hcl3
            go_wp2_with (go_at_call 34; refine (OP.out).mono ?_; rintro e w8 ⟨rfl, hd8⟩)
            all_goals go_ret
            all_goals exact ⟨rfl, by obtain ⟨m, rfl⟩ := hd8.out; exact HB7.out.trans ⟨rfl, rfl, rfl, Nat.le_refl _, fun _ _ => rfl⟩⟩
    · obtain ⟨rfl, rfl⟩ : l = [⟨40, d⟩] ∧ E = 0 := by
        have h1 := HTL.out.2 (by omega)
        rw [HG.out] at h1
        exact ⟨congrArg Prod.fst h1, congrArg Prod.snd h1⟩
      obtain ⟨ad, rfl, _, hcell⟩ := HC2.out 1 (.string d) rfl
      obtain ⟨g, rfl⟩ := HGA.out ad rfl
      have hcell : w6.cell? ⟨g, 1, none⟩ = some (.string d) := by simpa [Addr.add] using hcell
      have hn2 : 2 ≤ n := by omega
      have hlen1 : [(⟨40, d⟩ : Op)].length = 1 := rfl
      simp only [List.length_cons, List.length_nil]
      clear HG HTL
      as_aux_lemma =>
        go_wp2
        all_goals go_ret
        all_goals exact ⟨rfl, HB6.out⟩
    · obtain ⟨rfl, rfl⟩ : l = [] ∧ E = 7 := by
        have h1 := HTL.out.1 (.inr (by omega))
        rw [HG.out] at h1
        exact ⟨congrArg Prod.fst h1, congrArg Prod.snd h1⟩
      have hn2 : 2 ≤ n := by omega
      simp only [List.length_nil]
      clear HG HTL
      as_aux_lemma =>
        go_wp2
        all_goals go_ret
        all_goals exact ⟨rfl, HB6.out⟩
end Go.Proofs.YthallmapddihgaaGreatDoor
