/- The contract of pkt.Get at whatever bytes, over the plain function getP. -/
import Derived.Test.YthallmapddihgaaGreatDoorGetP
namespace Go.Proofs.YthallmapddihgaaGreatDoor.PkB
open Go.RowKit Go.Proofs.YthallmapddihgaaGreatDoor.PoptGet Go.Proofs.YthallmapddihgaaGreatDoor.PkF Go.Proofs.YthallmapddihgaaGreatDoorW.PrintWords Go.Proofs.YthallmapddihgaaGreatDoorW.PrintLast Go.Proofs.YthallmapddihgaaGreatDoorW.PrintMore
set_option linter.unusedVariables false
set_option linter.unusedSimpArgs false
theorem opts_cells {w : World} {A : Option Addr} {l : List S45} (h : Kd.C k45 w A l.length l) : CellsAt w w.heap.size A (ocells (l.map ofS)) := fun k u hu => by
  have hk : k < 2 * l.length := by have := (List.getElem?_eq_some_iff.1 hu).1; rw [ocells_len, List.length_map] at this; exact this
  have hi : k / 2 < l.length := by omega
  obtain ⟨ad, c, e, _, hK, hc⟩ := Kd.C_get h z45 (k / 2 : Nat) (by omega) (by omega)
  simp only [Int.toNat_natCast] at hK hc
  have hl : l.getD (k / 2) z45 = l[k / 2] := by rw [List.getD_eq_getElem?_getD, List.getElem?_eq_getElem hi]; rfl
  rw [hl] at hK
  obtain rfl := k45_open hK
  have hat := ocells_at (l.map ofS) (k / 2) (by simpa using hi)
  rw [List.getElem_map] at hat
  have hc' : ∀ j v, ([.int .i64 l[k / 2].f0, .string l[k / 2].f1] : List Value)[j]? = some v → w.cell? (ad.add (k / 2 * 2 + j)) = some v := hc
  have hcell : w.cell? (ad.add k) = some u := by
    rcases Nat.mod_two_eq_zero_or_one k with hm | hm
    · have ek : k / 2 * 2 = k := by omega
      rw [ek, hu] at hat
      rw [ek] at hc'
      rw [Option.some.inj hat.1]; exact hc' 0 _ rfl
    · have ek : k / 2 * 2 + 1 = k := by omega
      have h1 := hat.2
      rw [ek, hu] at h1
      have h2 := hc' 1 _ rfl
      rw [ek] at h2
      rw [Option.some.inj h1]; exact h2
  exact ⟨ad, e, by have := block_lt_of_cell hcell; rwa [add_block] at this, hcell⟩
theorem pkt_Get_any (b : ByteArray) (w : World) : Calls Tryz.prog 38 #[.string b] w fun e w' => ∃ (A : Option Addr) (c : Nat), e = .returned (.tuple #[.agg #[.int .i64 (PkB.getP b).1.src, .int .i64 (PkB.getP b).1.dst, .int .i64 (PkB.getP b).1.off, .int .i64 (PkB.getP b).1.cc, .int .i64 (PkB.getP b).1.cs, .int .i64 (PkB.getP b).1.sum, .int .i64 (PkB.getP b).1.typ, .bool (PkB.getP b).1.x, .int .u64 (PkB.getP b).1.seq, .int .u64 (PkB.getP b).1.ack, .int .u32 (PkB.getP b).1.serv, .int .i64 (PkB.getP b).1.code, .int .u8 (PkB.getP b).1.i0, .int .u8 (PkB.getP b).1.i1, .int .u8 (PkB.getP b).1.i2, .slice A (PkB.getP b).2.1.length c, .string (PkB.getP b).2.2.1], .int .i64 (PkB.getP b).2.2.2]) ∧ (PkB.getP b).2.1.length ≤ c ∧ CellsAt w' w'.heap.size A (ocells ((PkB.getP b).2.1.map PkB.ofS)) ∧ Below w.heap.size w w' := by
  refine (pkt_Get.calls 6000 b _ _ _ _ _ _ _ _ _ _ _ _ _ _ _ _ _ _ w (PkB.getP_f b)).mono fun e w' hq => ?_
  obtain ⟨v, rfl, hr, hb⟩ := hq
  obtain ⟨A, c, rfl, hc, hC⟩ := Kd.R_reads hr
  exact ⟨A, c, rfl, hc, opts_cells hC, hb⟩
end Go.Proofs.YthallmapddihgaaGreatDoor.PkB
