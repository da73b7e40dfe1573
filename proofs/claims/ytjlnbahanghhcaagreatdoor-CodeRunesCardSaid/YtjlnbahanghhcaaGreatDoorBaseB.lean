/- Contracts of head.Put, opt.Put, pkt.Put, code's signs, sum.Covered, head.number. Conditions: each theorem's own. -/
import Derived.Test.YtjlnbahanghhcaaGreatDoorBaseA
import Derived.Laws.AppendOwn
import Derived.OwnWalk
import Derived.Laws.BytesArg
import Derived.Lib.AppendStr
import Derived.Maps.AppendAt
import Derived.Deep.RegionHeld3
import Derived.Deep.DeepCutAuto
import Derived.Deep.CutBlock
import Derived.Laws.BitsAllLaws
import Derived.Laws.Runes
import Derived.Deep.RegionLaw

/- The contract of head.put: a number's lowest bytes behind what the call owns. -/
namespace Go.Proofs.YtjlnbahanghhcaaGreatDoor
open Go.RowKit
set_option linter.unusedVariables false
set_option linter.unusedSimpArgs false

/-- a number's lowest k bytes, the highest first. -/
def be (n : Nat) : Nat → List Int
  | 0 => []
  | k + 1 => ((n : Int) / 2 ^ (8 * k) % 256) :: be n k
theorem be_len (n : Nat) : ∀ k, (be n k).length = k
  | 0 => rfl
  | k + 1 => by simp [be, be_len n k]
def bytesOf (l : List Int) : List Value := l.map (Value.int .u8)
/-- v owns the bytes l among the blocks from base on. -/
def Owns (w : World) (base : Nat) (v : Value) (l : List Int) : Prop := w.ownsRow base 5 1 v l.length (bytesOf l)
theorem u8_info : (Tryz.prog.info? 5).map (fun i => (i.zero, i.size, i.bytes)) = some (some (.int .u8 0), 1, 1) := by kernel_rfl
theorem pow256 (k : Nat) : (2 : Nat) ^ (8 * k) = 256 ^ k := by rw [Nat.pow_mul]

set_option maxHeartbeats 1000000 in
set_option maxRecDepth 100000 in
theorem head_put (base : Nat) (v : Value) (l : List Int) (n k : Nat) (w : World) (hown : Owns w base v l) (hbase : base ≤ w.heap.size) (hk : k ≤ 8) (hl : l.length ≤ 1000000000) (hn : n < 18446744073709551616) :
    Calls Tryz.prog 82 #[v, .int .u64 n, .int .i64 k] w fun e w' => ∃ v', e = .returned v' ∧ Owns w' base v' (l ++ be n k) ∧ Below base w w' := by
  obtain ⟨i0, hi0, hz0, hz1, hz2⟩ := info_parts u8_info
  go_enter Tryz.func82, Tryz.ntmps82
  go_wp2
  go_loopw [0, 7] (fun u x wr => ∃ (j : Nat) (i : Int) (d : List Int), j ≤ k ∧ d.length + j = k ∧ i + 1 = j ∧ x = .int .i64 i ∧ Owns wr base u (l ++ d) ∧ Below base w wr ∧ Hid (d ++ be n j = be n k)) (fun _ x _ => (intOf x + 1).toNat)
  case atStart => exact ⟨k, (k : Int) - 1, [], by omega, by simp, by omega, rfl, by simpa using hown, Below.refl _ _, hide rfl⟩
  case round =>
    obtain ⟨j, i, d, hj, hd, hi, rfl, ho, hb, H⟩ := hrel
    cases j with
    | zero =>
      obtain rfl : i = -1 := by omega
      have hdk : d = be n k := by simpa [be] using H.out
      subst hdk
      clear H
      go_wp2
      go_ret
      exact ⟨_, rfl, ho, hb⟩
    | succ j =>
      obtain rfl : i = (j : Int) := by omega
      have hsz := hb.size
      have hb2 : base ≤ wr.heap.size := by omega
      have hw : wr.ownsRow base 5 1 _ (l ++ d).length (bytesOf (l ++ d)) := ho
      have hll : (l ++ d).length = l.length + d.length := List.length_append
      have HLL := hide hll
      have hdl : d.length ≤ 8 := by omega
      have hln : (l ++ d).length ≤ 1000000008 := by rw [HLL.out]; omega
      clear hll ho hown
      go_wp2_with (at_builtin; refine wpList_append_own _ rfl _ _ 35 rfl base 5 i0 (.int .u8 0) 1 1 Tryz.underlying35 hi0 hz0 hz1 hz2 rfl (by decide) _ _ _ rfl (hw.alloc _) ⟨wr.heap.size, 0, none⟩ 1 1 [.int .u8 ((n : Int) / 2 ^ (8 * j) % 256)] rfl rfl ?c1 ?c2 ?c3 ?c4 ?c5 ?_)
      case c1 => intro i u hi; match i, hi with | 0, hi => simp at hi; subst hi; simp [Addr.add]
      case c2 => intro u hu; simp at hu; subst hu; rfl
      case c3 => unfold maxLen; omega
      case c4 => omega
      case c5 => simp; omega
      · intro v' w1 hown' hgrow _
        have R : Owns w1 base v' (l ++ (d ++ [(n : Int) / 2 ^ (8 * j) % 256])) := by
          unfold Owns bytesOf
          rw [show (l ++ (d ++ [(n : Int) / 2 ^ (8 * j) % 256])).length = l.length + d.length + 1 from by simp [Nat.add_assoc], ← List.append_assoc, List.map_append]
          exact hown'
        have hb1 : Below base w w1 := (hb.alloc (by omega) _).grown hgrow (by simp; omega) (fun g hg => (hw.lt g hg).1)
        have hH : Hid ((d ++ [(n : Int) / 2 ^ (8 * j) % 256]) ++ be n j = be n k) := hide (by rw [← H.out]; simp [be])
        have RR := hide R
        clear hown' hgrow hw hb R H
        go_wp2
        go_roundw
        case rel => exact ⟨j, (j : Int) - 1, d ++ [(n : Int) / 2 ^ (8 * j) % 256], by omega, by simp; omega, by omega, by go_num, RR.out, hb1, hH⟩
        case measure => first | (simp [intOf]; done) | (simp [intOf]; omega)
theorem head_putI (base : Nat) (v : Value) (l : List Int) (n k : Int) (m j : Nat) (w : World) (hn : n = (m : Int)) (hk : k = (j : Int)) (hown : Owns w base v l) (hbase : base ≤ w.heap.size) (hj : j ≤ 8) (hl : l.length ≤ 1000000000) (hm : m < 18446744073709551616) :
    Calls Tryz.prog 82 #[v, .int .u64 n, .int .i64 k] w fun e w' => ∃ v', e = .returned v' ∧ Owns w' base v' (l ++ be m j) ∧ Below base w w' := by
  subst hn; subst hk; exact head_put base v l m j w hown hbase hj hl hm
end Go.Proofs.YtjlnbahanghhcaaGreatDoor

/- The bytes of a head, as the document has them. -/
namespace Go.Proofs.YtjlnbahanghhcaaGreatDoor
open Go.RowKit
set_option linter.unusedVariables false

theorem own_text {src dst : TypeId} {w : World} {base : Nat} {v : Value} {l : List Int} (hs : Tryz.prog.underlying src = some (.slice 5)) (he : Tryz.prog.underlying 5 = some (.int .u8)) (hd : Tryz.prog.underlying dst = some .string)
    (h : Owns w base v l) : (convert src dst v).run Tryz.prog w = .ok (.string (strOfNums l)) w := by
  rcases h.2 with ⟨rfl, h0⟩ | ⟨g, cap, cur, rfl, _⟩
  · have hl : l = [] := List.eq_nil_of_length_eq_zero h0
    subst hl
    exact run_convert_bytes_nil w src 5 hs he _ _ dst hd
  · refine run_convert_bytes_arg w src 5 hs he g 0 l.length cap l rfl (fun i hi => ?_) dst hd
    have hc := World.ownsRow.cells h (g := g) rfl i (.int .u8 (l.getD i 0)) (by unfold bytesOf; simp [hi])
    have e : (Addr.add ⟨g, 0, none⟩ i) = ⟨g, 0 + i, none⟩ := by unfold Addr.add; split <;> simp_all
    rw [← e]; exact hc

theorem box_cell {w wx : World} {cs : Array Value} {t : TypeId} {i : Nat} {u : Value} {B : Nat} (hb : Below B (w.alloc (.cells cs t)) wx) (hB : w.heap.size < B) (h : cs[i]? = some u) : wx.cell? ⟨w.heap.size, i, none⟩ = some u :=
  (hb.cell hB).trans (by rw [World.cell?_alloc_at _ _ _ _ rfl]; exact h)
theorem owns_nil (w : World) (base : Nat) : Owns w base (.slice none 0 0) [] := World.ownsRow_nil _ _ _ _
/-- a head in bytes: the parts, one behind the other. -/
def hb1 (src dst off cc cs sum : Nat) : List Int := be src 2 ++ be dst 2 ++ [(off : Int), ((cc * 16 + cs : Nat) : Int)] ++ be sum 2
def hb2 (typ : Nat) (x : Bool) (seq : Nat) : List Int := if x then ((typ * 2 + 1 : Nat) : Int) :: be seq 7 else ((typ * 2 : Nat) : Int) :: be seq 3
def hb3 (typ : Nat) (x : Bool) (ack : Nat) : List Int := if ackB typ then (if x then be ack 8 else be ack 4) else []
def hb4 (typ serv code i0 i1 i2 : Nat) : List Int := if servB typ then be serv 4 else if typ = 7 then [(code : Int), (i0 : Int), (i1 : Int), (i2 : Int)] else []
end Go.Proofs.YtjlnbahanghhcaaGreatDoor

/- append on bytes that the call owns, in one step: from a block that was just made, from cells that lie anywhere, from a text. -/
namespace Go.Proofs.YtjlnbahanghhcaaGreatDoor
open Go.RowKit Lib
set_option linter.unusedVariables false
set_option linter.unusedSimpArgs false

theorem or_16 (a b : Nat) (ha : a ≤ 15) (hb : b ≤ 15) : bits .or .i64 ((a : Int) * 16) (b : Int) = ((a * 16 + b : Nat) : Int) := by
  have h : ∀ x y : Fin 16, bits .or .i64 ((x.val : Int) * 16) (y.val : Int) = ((x.val * 16 + y.val : Nat) : Int) := by decide +kernel
  exact h ⟨a, by omega⟩ ⟨b, by omega⟩
theorem typ_0 (a : Nat) (ha : a ≤ 9) : IntKind.u8.wrap (IntKind.i64.wrap ((a : Int) * 2)) = ((a * 2 : Nat) : Int) := by
  have h : ∀ x : Fin 10, IntKind.u8.wrap (IntKind.i64.wrap ((x.val : Int) * 2)) = ((x.val * 2 : Nat) : Int) := by decide +kernel
  exact h ⟨a, by omega⟩
theorem typ_1 (a : Nat) (ha : a ≤ 9) : IntKind.u8.wrap (bits .or .i64 (IntKind.i64.wrap ((a : Int) * 2)) 1) = ((a * 2 + 1 : Nat) : Int) := by
  have h : ∀ x : Fin 10, IntKind.u8.wrap (bits .or .i64 (IntKind.i64.wrap ((x.val : Int) * 2)) 1) = ((x.val * 2 + 1 : Nat) : Int) := by decide +kernel
  exact h ⟨a, by omega⟩
theorem bytesOf_append (l m : List Int) : bytesOf (l ++ m) = bytesOf l ++ bytesOf m := List.map_append
theorem bytesOf_len (l : List Int) : (bytesOf l).length = l.length := List.length_map _
theorem owns_below {w w' : World} {base : Nat} {v : Value} {l : List Int} (h : Owns w base v l) (hg : ∀ k, k < w.heap.size → w'.heap[k]? = w.heap[k]?) : Owns w' base v l := by
  refine ⟨h.1, ?_⟩
  rcases h.2 with hn | ⟨g, cap, cur, rfl, hb, hgg, rest⟩
  · exact .inl hn
  · exact .inr ⟨g, cap, cur, rfl, hb, by rw [hg g (Array.getElem?_eq_some_iff.1 hgg).1]; exact hgg, rest⟩
section
variable {w : World} {ops : Array Oper} {rest : List Oper} {o : Oper} {a : Act} {Q : Exit → Act → World → Prop}
theorem app_at (hgd : o.guard = none) (s x : Operand) (ho : o.op = .call { callee := .builtin .append, args := #[s, x], argTypes := #[35, 35] })
    (base : Nat) (l xs : List Int) {v : Value} (hown : Owns w base v l) (hs : a.eval s = v) (ad : Addr) (m c : Nat) (hx : a.eval x = .slice (some ad) m c) (hm : xs.length = m)
    (hnews : ∀ j u, (bytesOf xs)[j]? = some u → w.cell? (ad.add j) = some u) (hl : l.length + m ≤ 140737488355328) (hbase : base ≤ w.heap.size)
    (h : ∀ v' w', Owns w' base v' (l ++ xs) → Below base w w' → wpList Tryz.prog ops Q rest (a.put o.dst v') w') : wpList Tryz.prog ops Q (o :: rest) a w := by
  obtain ⟨ii, hi0, hz0, hz1, hz2⟩ := info_parts u8_info
  refine wpList_append_own w hgd s x 35 ho base 5 ii (.int .u8 0) 1 1 Tryz.underlying35 hi0 hz0 hz1 hz2 rfl (by decide) _ _ _ hs hown ad m c (bytesOf xs) hx (by rw [bytesOf_len, hm, Nat.mul_one]) hnews ?_ ?_ ?_ hbase ?_
  · intro u hu; simp [bytesOf] at hu; obtain ⟨z, _, rfl⟩ := hu; rfl
  · unfold maxLen; omega
  · omega
  · intro v' w' hown' hgrow _
    refine h v' w' ?_ ((Below.refl _ _).grown hgrow hbase (fun g hg => (hown.lt g hg).1))
    unfold Owns
    rw [bytesOf_append, show (l ++ xs).length = l.length + m from by rw [List.length_append, hm]]
    exact hown'
theorem app_new (hgd : o.guard = none) (s x : Operand) (ho : o.op = .call { callee := .builtin .append, args := #[s, x], argTypes := #[35, 35] })
    (base : Nat) (l xs : List Int) {v : Value} {cs : Array Value} {t : TypeId} (hown : Owns w base v l) (hs : a.eval s = v) (m c : Nat) (hx : a.eval x = .slice (some ⟨w.heap.size, 0, none⟩) m c) (hm : xs.length = m)
    (hcs : cs = (bytesOf xs).toArray) (hl : l.length + m ≤ 140737488355328) (hbase : base ≤ w.heap.size)
    (h : ∀ v' w', Owns w' base v' (l ++ xs) → Below base w w' → wpList Tryz.prog ops Q rest (a.put o.dst v') w') : wpList Tryz.prog ops Q (o :: rest) a (w.alloc (.cells cs t)) := by
  subst hcs
  refine app_at hgd s x ho base l xs (World.ownsRow.alloc hown _) hs ⟨w.heap.size, 0, none⟩ m c hx hm ?_ hl (by simp; omega) fun v' w' h1 h2 => h v' w' h1 (((Below.refl _ _).alloc hbase _).trans h2)
  intro j u hu
  have e : (Addr.add ⟨w.heap.size, 0, none⟩ j) = ⟨w.heap.size, j, none⟩ := by unfold Addr.add; split <;> simp_all
  rw [e, World.cell?_alloc_at _ _ _ _ rfl]
  simpa using hu
/-- the bytes of a text. -/
def nb (s : ByteArray) : List Int := s.data.toList.map fun b => (b.toNat : Int)
theorem nb_len (s : ByteArray) : (nb s).length = s.size := by simp [nb]
theorem strCells_nb (s : ByteArray) : strCells s = bytesOf (nb s) := by simp [strCells, bytesOf, nb]
theorem app_text (hgd : o.guard = none) (s x : Operand) (ho : o.op = .call { callee := .builtin .append, args := #[s, x], argTypes := #[35, 9] })
    (base : Nat) (l : List Int) {v : Value} (t : ByteArray) (hown : Owns w base v l) (hs : a.eval s = v) (hx : a.eval x = .string t) (hl : l.length + t.size ≤ 140737488355328) (hbase : base ≤ w.heap.size)
    (h : ∀ v' w', Owns w' base v' (l ++ nb t) → Below base w w' → wpList Tryz.prog ops Q rest (a.put o.dst v') w') : wpList Tryz.prog ops Q (o :: rest) a w := by
  obtain ⟨ii, hi0, hz0, hz1, hz2⟩ := info_parts u8_info
  refine Lib.wpList_append_own_string w hgd s x 35 9 ho base 5 ii Tryz.underlying35 Tryz.underlying9 hi0 hz0 hz1 hz2 v l.length (bytesOf l) hs hown t hx (by unfold maxLen; omega) hl hbase ?_
  intro v' w' hown' hgrow _
  refine h v' w' ?_ ((Below.refl _ _).grown hgrow hbase (fun g hg => (hown.lt g hg).1))
  unfold Owns
  rw [bytesOf_append, show (l ++ nb t).length = l.length + t.size from by rw [List.length_append, nb_len], ← strCells_nb]
  exact hown'
section
variable {w : World} {ops : Array Oper} {o : Oper} {a : Act} {K : Act → World → Prop} {Q : Exit → Act → World → Prop} {E : Prop}
theorem step_at (hgd : o.guard = none) (s x : Operand) (ho : o.op = .call { callee := .builtin .append, args := #[s, x], argTypes := #[35, 35] })
    (base : Nat) (l xs : List Int) {v : Value} (hown : Owns w base v l) (hs : a.eval s = v) (ad : Addr) (m c : Nat) (hx : a.eval x = .slice (some ad) m c) (hm : xs.length = m)
    (hnews : ∀ j u, (bytesOf xs)[j]? = some u → w.cell? (ad.add j) = some u) (hl : l.length + m ≤ 140737488355328) (hbase : base ≤ w.heap.size)
    (h : ∀ v' w', Owns w' base v' (l ++ xs) → Below base w w' → K (a.put o.dst v') w') : if Region.wanted o (yielded ops a.tmps) = true then Oper.wp Tryz.prog o a w K Q else E := by
  rw [if_pos (by simp [Region.wanted, hgd])]
  obtain ⟨ii, hi0, hz0, hz1, hz2⟩ := info_parts u8_info
  obtain ⟨v', w', hr, hown', hgrow, _⟩ := run_append_own (P := Tryz.prog) w base 35 o.type 5 ii (.int .u8 0) 1 1 Tryz.underlying35 hi0 hz0 hz1 hz2 rfl (by decide) _ _ _ hown ad m c (bytesOf xs) (by rw [bytesOf_len, hm, Nat.mul_one]) hnews (by intro u hu; simp [bytesOf] at hu; obtain ⟨z, _, rfl⟩ := hu; rfl) (by unfold maxLen; omega) (by omega) hbase
  unfold Oper.wp execOp
  simp only [ho, resolve, invoke, builtin, Sem.run_bind, Sem.run_pure, Result.andThen_ok, List.map_toArray, List.map_cons, List.map_nil, hs, hx, hr]
  refine h v' w' ?_ ((Below.refl _ _).grown hgrow hbase (fun g hg => (hown.lt g hg).1))
  unfold Owns
  rw [bytesOf_append, show (l ++ xs).length = l.length + m from by rw [List.length_append, hm]]
  exact hown'
theorem step_new (hgd : o.guard = none) (s x : Operand) (ho : o.op = .call { callee := .builtin .append, args := #[s, x], argTypes := #[35, 35] })
    (base : Nat) (l xs : List Int) {v : Value} {cs : Array Value} {t : TypeId} (hown : Owns w base v l) (hs : a.eval s = v) (m c : Nat) (hx : a.eval x = .slice (some ⟨w.heap.size, 0, none⟩) m c) (hm : xs.length = m)
    (hcs : cs = (bytesOf xs).toArray) (hl : l.length + m ≤ 140737488355328) (hbase : base ≤ w.heap.size)
    (h : ∀ v' w', Owns w' base v' (l ++ xs) → Below base w w' → K (a.put o.dst v') w') : if Region.wanted o (yielded ops a.tmps) = true then Oper.wp Tryz.prog o a (w.alloc (.cells cs t)) K Q else E := by
  subst hcs
  refine step_at hgd s x ho base l xs (World.ownsRow.alloc hown _) hs ⟨w.heap.size, 0, none⟩ m c hx hm ?_ hl (by simp; omega) fun v' w' h1 h2 => h v' w' h1 (((Below.refl _ _).alloc hbase _).trans h2)
  intro j u hu
  have e : (Addr.add ⟨w.heap.size, 0, none⟩ j) = ⟨w.heap.size, j, none⟩ := by unfold Addr.add; split <;> simp_all
  rw [e, World.cell?_alloc_at _ _ _ _ rfl]
  simpa using hu
theorem step_text (hgd : o.guard = none) (s x : Operand) (ho : o.op = .call { callee := .builtin .append, args := #[s, x], argTypes := #[35, 9] })
    (base : Nat) (l : List Int) {v : Value} (t : ByteArray) (hown : Owns w base v l) (hs : a.eval s = v) (hx : a.eval x = .string t) (hl : l.length + t.size ≤ 140737488355328) (hbase : base ≤ w.heap.size)
    (h : ∀ v' w', Owns w' base v' (l ++ nb t) → Below base w w' → K (a.put o.dst v') w') : if Region.wanted o (yielded ops a.tmps) = true then Oper.wp Tryz.prog o a w K Q else E := by
  rw [if_pos (by simp [Region.wanted, hgd])]
  obtain ⟨ii, hi0, hz0, hz1, hz2⟩ := info_parts u8_info
  obtain ⟨v', w', hr, hown', hgrow, _⟩ := Lib.run_append_own_string (P := Tryz.prog) w base 35 9 o.type 5 ii Tryz.underlying35 Tryz.underlying9 hi0 hz0 hz1 hz2 v l.length (bytesOf l) hown t (by unfold maxLen; omega) hl hbase
  unfold Oper.wp execOp
  simp only [ho, resolve, invoke, builtin, Sem.run_bind, Sem.run_pure, Result.andThen_ok, List.map_toArray, List.map_cons, List.map_nil, hs, hx, hr]
  refine h v' w' ?_ ((Below.refl _ _).grown hgrow hbase (fun g hg => (hown.lt g hg).1))
  unfold Owns
  rw [bytesOf_append, show (l ++ nb t).length = l.length + t.size from by rw [List.length_append, nb_len], ← strCells_nb]
  exact hown'
theorem step_textX (hgd : o.guard = none) (s x : Operand) (ho : o.op = .call { callee := .builtin .append, args := #[s, x], argTypes := #[35, 9] })
    (base : Nat) (l : List Int) {v : Value} (t : ByteArray) (hown : Owns w base v l) (hs : a.eval s = v) (hx : a.eval x = .string t) (hl : l.length + t.size ≤ 140737488355328) (hbase : base ≤ w.heap.size) (x0 : Nat) (hx0 : x0 < w.heap.size) (hv : v.ownBlock ≠ some x0)
    (h : ∀ v' w', Owns w' base v' (l ++ nb t) → Below base w w' → (∀ p : Addr, p.block = x0 → w'.cell? p = w.cell? p) → K (a.put o.dst v') w') : if Region.wanted o (yielded ops a.tmps) = true then Oper.wp Tryz.prog o a w K Q else E := by
  rw [if_pos (by simp [Region.wanted, hgd])]
  obtain ⟨ii, hi0, hz0, hz1, hz2⟩ := info_parts u8_info
  obtain ⟨v', w', hr, hown', hgrow, _⟩ := Lib.run_append_own_string (P := Tryz.prog) w base 35 9 o.type 5 ii Tryz.underlying35 Tryz.underlying9 hi0 hz0 hz1 hz2 v l.length (bytesOf l) hown t (by unfold maxLen; omega) hl hbase
  unfold Oper.wp execOp
  simp only [ho, resolve, invoke, builtin, Sem.run_bind, Sem.run_pure, Result.andThen_ok, List.map_toArray, List.map_cons, List.map_nil, hs, hx, hr]
  refine h v' w' ?_ ((Below.refl _ _).grown hgrow hbase (fun g hg => (hown.lt g hg).1)) (fun p hp => by subst hp; exact World.cell?_of_block (hgrow.block p.block hx0 (fun e => hv e.symm)))
  unfold Owns
  rw [bytesOf_append, show (l ++ nb t).length = l.length + t.size from by rw [List.length_append, nb_len], ← strCells_nb]
  exact hown'
end
end
section
variable {w : World} {ops : Array Oper} {rest : List Oper} {o : Oper} {a : Act} {Q : Exit → Act → World → Prop}
theorem app_newX (hgd : o.guard = none) (s x : Operand) (ho : o.op = .call { callee := .builtin .append, args := #[s, x], argTypes := #[35, 35] })
    (base : Nat) (l xs : List Int) {v : Value} {cs : Array Value} {t : TypeId} (hown : Owns w base v l) (hs : a.eval s = v) (m c : Nat) (hx : a.eval x = .slice (some ⟨w.heap.size, 0, none⟩) m c) (hm : xs.length = m)
    (hcs : cs = (bytesOf xs).toArray) (hl : l.length + m ≤ 140737488355328) (hbase : base ≤ w.heap.size) (x0 : Nat) (hx0 : x0 < w.heap.size) (hv : v.ownBlock ≠ some x0)
    (h : ∀ v' w', Owns w' base v' (l ++ xs) → Below base w w' → v'.ownBlock ≠ some x0 → (∀ p : Addr, p.block = x0 → w'.cell? p = w.cell? p) → wpList Tryz.prog ops Q rest (a.put o.dst v') w') : wpList Tryz.prog ops Q (o :: rest) a (w.alloc (.cells cs t)) := by
  subst hcs
  obtain ⟨ii, hi0, hz0, hz1, hz2⟩ := info_parts u8_info
  have hn : ∀ j u, (bytesOf xs)[j]? = some u → (w.alloc (.cells (bytesOf xs).toArray t)).cell? ((⟨w.heap.size, 0, none⟩ : Addr).add j) = some u := by
    intro j u hu
    have e : (Addr.add ⟨w.heap.size, 0, none⟩ j) = ⟨w.heap.size, j, none⟩ := by unfold Addr.add; split <;> simp_all
    rw [e, World.cell?_alloc_at _ _ _ _ rfl]
    simpa using hu
  obtain ⟨v', w', hr, hown', hgrow, _, hbk⟩ := run_append_own_at (P := Tryz.prog) (w.alloc (.cells (bytesOf xs).toArray t)) base 35 o.type 5 ii (.int .u8 0) 1 1 Tryz.underlying35 hi0 hz0 hz1 hz2 rfl (by decide) _ _ _ (World.ownsRow.alloc hown _) ⟨w.heap.size, 0, none⟩ m c (bytesOf xs) (by rw [bytesOf_len, hm, Nat.mul_one]) hn (by intro u hu; simp [bytesOf] at hu; obtain ⟨z, _, rfl⟩ := hu; rfl) (by unfold maxLen; omega) (by omega) (by simp; omega)
  have hO : Owns w' base v' (l ++ xs) := by
    unfold Owns
    rw [bytesOf_append, show (l ++ xs).length = l.length + m from by rw [List.length_append, hm]]
    exact hown'
  have hB : Below base w w' := ((Below.refl _ _).alloc hbase _).grown hgrow (by simp; omega) (fun g hg => (hown.lt g hg).1)
  have hV : v'.ownBlock ≠ some x0 := by
    rcases hbk with h1 | h1
    · rw [h1]; exact hv
    · rw [h1]; simp; omega
  have hC : ∀ p : Addr, p.block = x0 → w'.cell? p = w.cell? p := fun p hp => by
    subst hp
    exact (World.cell?_of_block (hgrow.block p.block (by simp; omega) (fun e => hv e.symm))).trans (World.cell?_alloc_lt _ _ _ hx0)
  refine wpList_plain hgd fun K hK => ?_
  unfold Oper.wp execOp
  simp only [ho, resolve, invoke, builtin, Sem.run_bind, Sem.run_pure, Result.andThen_ok, List.map_toArray, List.map_cons, List.map_nil, hs, hx, hr]
  exact hK _ _ (h v' w' hO hB hV hC)
end
section
variable {w : World} {ops : Array Oper} {o : Oper} {a : Act} {K : Act → World → Prop} {Q : Exit → Act → World → Prop} {E : Prop}
theorem step_newX (hgd : o.guard = none) (s x : Operand) (ho : o.op = .call { callee := .builtin .append, args := #[s, x], argTypes := #[35, 35] })
    (base : Nat) (l xs : List Int) {v : Value} {cs : Array Value} {t : TypeId} (hown : Owns w base v l) (hs : a.eval s = v) (m c : Nat) (hx : a.eval x = .slice (some ⟨w.heap.size, 0, none⟩) m c) (hm : xs.length = m)
    (hcs : cs = (bytesOf xs).toArray) (hl : l.length + m ≤ 140737488355328) (hbase : base ≤ w.heap.size) (x0 : Nat) (hx0 : x0 < w.heap.size) (hv : v.ownBlock ≠ some x0)
    (h : ∀ v' w', Owns w' base v' (l ++ xs) → Below base w w' → v'.ownBlock ≠ some x0 → (∀ p : Addr, p.block = x0 → w'.cell? p = w.cell? p) → K (a.put o.dst v') w') : if Region.wanted o (yielded ops a.tmps) = true then Oper.wp Tryz.prog o a (w.alloc (.cells cs t)) K Q else E := by
  subst hcs
  obtain ⟨ii, hi0, hz0, hz1, hz2⟩ := info_parts u8_info
  have hn : ∀ j u, (bytesOf xs)[j]? = some u → (w.alloc (.cells (bytesOf xs).toArray t)).cell? ((⟨w.heap.size, 0, none⟩ : Addr).add j) = some u := by
    intro j u hu
    have e : (Addr.add ⟨w.heap.size, 0, none⟩ j) = ⟨w.heap.size, j, none⟩ := by unfold Addr.add; split <;> simp_all
    rw [e, World.cell?_alloc_at _ _ _ _ rfl]
    simpa using hu
  obtain ⟨v', w', hr, hown', hgrow, _, hbk⟩ := run_append_own_at (P := Tryz.prog) (w.alloc (.cells (bytesOf xs).toArray t)) base 35 o.type 5 ii (.int .u8 0) 1 1 Tryz.underlying35 hi0 hz0 hz1 hz2 rfl (by decide) _ _ _ (World.ownsRow.alloc hown _) ⟨w.heap.size, 0, none⟩ m c (bytesOf xs) (by rw [bytesOf_len, hm, Nat.mul_one]) hn (by intro u hu; simp [bytesOf] at hu; obtain ⟨z, _, rfl⟩ := hu; rfl) (by unfold maxLen; omega) (by omega) (by simp; omega)
  have hO : Owns w' base v' (l ++ xs) := by
    unfold Owns
    rw [bytesOf_append, show (l ++ xs).length = l.length + m from by rw [List.length_append, hm]]
    exact hown'
  have hB : Below base w w' := ((Below.refl _ _).alloc hbase _).grown hgrow (by simp; omega) (fun g hg => (hown.lt g hg).1)
  have hV : v'.ownBlock ≠ some x0 := by
    rcases hbk with h1 | h1
    · rw [h1]; exact hv
    · rw [h1]; simp; omega
  have hC : ∀ p : Addr, p.block = x0 → w'.cell? p = w.cell? p := fun p hp => by
    subst hp
    exact (World.cell?_of_block (hgrow.block p.block (by simp; omega) (fun e => hv e.symm))).trans (World.cell?_alloc_lt _ _ _ hx0)
  rw [if_pos (by simp [Region.wanted, hgd])]
  unfold Oper.wp execOp
  simp only [ho, resolve, invoke, builtin, Sem.run_bind, Sem.run_pure, Result.andThen_ok, List.map_toArray, List.map_cons, List.map_nil, hs, hx, hr]
  exact h v' w' hO hB hV hC
end
end Go.Proofs.YtjlnbahanghhcaaGreatDoor

/- The contract of head.Put at a head that may be. -/
namespace Go.Proofs.YtjlnbahanghhcaaGreatDoor
open Go.RowKit
set_option linter.unusedVariables false
set_option linter.unusedSimpArgs false

set_option maxHeartbeats 3200000 in
set_option maxRecDepth 100000 in
theorem head_Put (src dst off cc cs sum typ : Nat) (x : Bool) (seq ack serv code i0 i1 i2 : Nat) (w : World)
    (hm : mayB ⟨src, dst, off, cc, cs, sum, typ, x, seq, ack, serv, code, i0, i1, i2⟩ = true)
    (b1 : src ≤ 65535) (b2 : dst ≤ 65535) (b3 : off ≤ 255) (b4 : cc ≤ 15) (b5 : cs ≤ 15) (b6 : sum ≤ 65535) (b7 : typ ≤ 9) (b8 : seq < 281474976710656) (b9 : ack < 281474976710656) (b10 : serv ≤ 4294967295) (b11 : code ≤ 255) (b12 : i0 ≤ 255) (b13 : i1 ≤ 255) (b14 : i2 ≤ 255) :
    Calls Tryz.prog 50 #[Hd.val ⟨src, dst, off, cc, cs, sum, typ, x, seq, ack, serv, code, i0, i1, i2⟩] w fun e w' => e = .returned (.string (strOfNums (hb1 src dst off cc cs sum ++ hb2 typ x seq ++ hb3 typ x ack ++ hb4 typ serv code i0 i1 i2))) ∧ Below w.heap.size w w' := by
  have cm := head_May ⟨src, dst, off, cc, cs, sum, typ, x, seq, ack, serv, code, i0, i1, i2⟩
  rw [hm] at cm; rw [Hd.val_mk] at cm
  rw [Hd.val_mk]
  have CM := hide cm
  clear cm hm
  obtain ⟨ii, hi0, hz0, hz1, hz2⟩ := info_parts u8_info
  have hor : bits .or .i64 ((cc : Int) * 16) (cs : Int) = ((cc * 16 + cs : Nat) : Int) := or_16 cc cs b4 b5
  go_enter Tryz.func50, Tryz.ntmps50
  go_wp2_with fail
  refine (CM.out _).mono ?_
  rintro e w2 ⟨rfl, hb⟩
  have hb : Below (w.heap.size + 1) (w.alloc (.cells #[.int .i64 src, .int .i64 dst, .int .i64 off, .int .i64 cc, .int .i64 cs, .int .i64 sum, .int .i64 typ, .bool x, .int .u64 seq, .int .u64 ack, .int .u32 serv, .int .i64 code, .int .u8 i0, .int .u8 i1, .int .u8 i2] 26)) w2 := by simpa using hb
  have hz := hb.size
  have hsz : w.heap.size + 1 ≤ w2.heap.size := by simpa using hz
  clear hz
  go_upto_region 3 with fail
  go_cut [3] (fun v wx => Owns wx (w.heap.size + 1) v (be src 2 ++ be dst 2) ∧ Below (w.heap.size + 1) (w.alloc (.cells #[.int .i64 src, .int .i64 dst, .int .i64 off, .int .i64 cc, .int .i64 cs, .int .i64 sum, .int .i64 typ, .bool x, .int .u64 seq, .int .u64 ack, .int .u32 serv, .int .i64 code, .int .u8 i0, .int .u8 i1, .int .u8 i2] 26)) wx)
  case first =>
    have f0 : w2.cell? ⟨w.heap.size, 0, none⟩ = some (.int .i64 src) := box_cell hb (by omega) rfl
    have f1 : w2.cell? ⟨w.heap.size, 1, none⟩ = some (.int .i64 dst) := box_cell hb (by omega) rfl
    have P0 := hide (fun W h => head_putI (w.heap.size + 1) (.slice none 0 0) [] src 2 src 2 W rfl rfl (owns_nil _ _) h (by decide) (by decide) (by omega))
    have P1 := hide (fun v W ho h => head_putI (w.heap.size + 1) v (be src 2) dst 2 dst 2 W rfl rfl ho h (by decide) (by rw [be_len]; decide) (by omega))
    have e0 : IntKind.u64.wrap (src : Int) = src := by rw [IntKind.wrap_u64]; omega
    have e1 : IntKind.u64.wrap (dst : Int) = dst := by rw [IntKind.wrap_u64]; omega
    go_region_held3 (fun w' => w'.cell? ⟨w.heap.size, 0, none⟩ = some (.int .i64 src) ∧ w'.cell? ⟨w.heap.size, 1, none⟩ = some (.int .i64 dst)) (first | go_keep | (go_split_ands; refine ⟨(hb2.cell (Nat.lt_succ_self _)).trans ?_, (hb2.cell (Nat.lt_succ_self _)).trans ?_⟩ <;> assumption) | (refine ⟨(hb'.cell (Nat.lt_succ_self _)).trans ?_, (hb'.cell (Nat.lt_succ_self _)).trans ?_⟩ <;> assumption))
      (first | (go_at_call 82; (with_reducible refine (P0.out _ ?_).mono ?_); (first | assumption | (simp; omega)); rintro e w' ⟨v', rfl, ho', hb'⟩; have hz' := hb'.size) | (go_at_call 82; (with_reducible refine (P1.out _ _ ?_ ?_).mono ?_); (assumption); (first | assumption | (simp; omega) | (simp at hz'; omega)); rintro e w' ⟨v2, rfl, ho2, hb2⟩; have hz2 := hb2.size))
    all_goals (go_wp2_with fail; go_meet; exact ⟨ho2, (hb.drew.trans hb').trans hb2⟩)
  case rest =>
    obtain ⟨ho, hb⟩ := hcut
    clear hsz CM
    have hz := hb.size
    have hsz : w.heap.size + 1 ≤ wc.heap.size := by simpa using hz
    clear hz
    have f2 : wc.cell? ⟨w.heap.size, 2, none⟩ = some (.int .i64 off) := box_cell hb (Nat.lt_succ_self _) rfl
    have f3 : wc.cell? ⟨w.heap.size, 3, none⟩ = some (.int .i64 cc) := box_cell hb (Nat.lt_succ_self _) rfl
    have f4 : wc.cell? ⟨w.heap.size, 4, none⟩ = some (.int .i64 cs) := box_cell hb (Nat.lt_succ_self _) rfl
    have o0 := ho
    clear ho
    go_wp2_with (at_builtin; refine app_new rfl _ _ rfl (w.heap.size + 1) _ [(off : Int), (cc : Int) * 16 + (cs : Int)] o0 rfl 2 2 rfl rfl rfl (by simp [be_len]) hsz ?_)
    intro v1 w3 o1 hb1
    have hb := hb.trans hb1
    clear hb1 o0 f2 f3 f4
    have hsz : w.heap.size + 1 ≤ w3.heap.size := by have hz := hb.size; simpa using hz
    have f5 : w3.cell? ⟨w.heap.size, 5, none⟩ = some (.int .i64 sum) := box_cell hb (Nat.lt_succ_self _) rfl
    have e5 : IntKind.u64.wrap (sum : Int) = sum := by rw [IntKind.wrap_u64]; omega
    go_wp2_with (refine (head_putI (w.heap.size + 1) _ _ sum 2 sum 2 _ rfl rfl o1 hsz (by decide) (by simp [be_len]) (by omega)).mono ?_)
    rintro e w4 ⟨v2, rfl, o2, hb1⟩
    have hb := hb.trans hb1
    clear hb1 o1 f5 e5
    have hsz : w.heap.size + 1 ≤ w4.heap.size := by have hz := hb.size; simpa using hz
    have o2 : Owns w4 (w.heap.size + 1) v2 (hb1 src dst off cc cs sum) := by unfold hb1; simpa using o2
    have L1 : (hb1 src dst off cc cs sum).length = 8 := by simp [hb1, be_len]
    have f7 : w4.cell? ⟨w.heap.size, 7, none⟩ = some (.bool x) := box_cell hb (Nat.lt_succ_self _) rfl
    generalize hL1 : hb1 src dst off cc cs sum = l1 at o2 L1
    replace hL1 := hide hL1
    go_upto_if 34 with fail
    go_cut [3] (fun v wx => Owns wx (w.heap.size + 1) v (l1 ++ hb2 typ x seq) ∧ Below (w.heap.size + 1) (w.alloc (.cells #[.int .i64 src, .int .i64 dst, .int .i64 off, .int .i64 cc, .int .i64 cs, .int .i64 sum, .int .i64 typ, .bool x, .int .u64 seq, .int .u64 ack, .int .u32 serv, .int .i64 code, .int .u8 i0, .int .u8 i1, .int .u8 i2] 26)) wx)
    case first =>
      have f6 : w4.cell? ⟨w.heap.size, 6, none⟩ = some (.int .i64 typ) := box_cell hb (Nat.lt_succ_self _) rfl
      have f8 : w4.cell? ⟨w.heap.size, 8, none⟩ = some (.int .u64 seq) := box_cell hb (Nat.lt_succ_self _) rfl
      clear f7
      cases x
      · have hc : hb2 typ false seq = ((typ * 2 : Nat) : Int) :: be seq 3 := rfl
        have T0 : Hid (#[Value.int .u8 (IntKind.u8.wrap (IntKind.i64.wrap ((typ : Int) * 2)))] = (bytesOf [((typ * 2 : Nat) : Int)]).toArray) := hide (by rw [typ_0 typ b7]; rfl)
        go_upto_region 8 with fail
        go_region_held3 (fun w' => w'.cell? ⟨w.heap.size, 6, none⟩ = some (.int .i64 typ) ∧ w'.cell? ⟨w.heap.size, 8, none⟩ = some (.int .u64 seq)) (first | go_keep | (go_split_ands; refine ⟨(hb2.cell (Nat.lt_succ_self _)).trans ?_, (hb2.cell (Nat.lt_succ_self _)).trans ?_⟩ <;> assumption) | (refine ⟨(hb'.cell (Nat.lt_succ_self _)).trans ?_, (hb'.cell (Nat.lt_succ_self _)).trans ?_⟩ <;> assumption))
          (first | (go_at_call 82; refine (head_putI (w.heap.size + 1) _ _ seq 3 seq 3 _ rfl rfl ho' hz' (by decide) (by simp [L1]) (by omega)).mono ?_; rintro e w' ⟨v2, rfl, ho2, hb2⟩) | (refine step_new (w := w4.drew) rfl _ _ rfl (w.heap.size + 1) l1 [((typ * 2 : Nat) : Int)] o2 rfl 1 1 rfl rfl T0.out (by rw [L1]; decide) hsz ?_; intro v' w' ho' hb'; have hz' : w.heap.size + 1 ≤ w'.heap.size := Nat.le_trans hsz hb'.size))
        all_goals (go_wp2_with fail; go_meet; exact ⟨by rw [hc, List.append_cons]; exact ho2, (hb.drew.trans hb').trans hb2⟩)
      · have hc : hb2 typ true seq = ((typ * 2 + 1 : Nat) : Int) :: be seq 7 := rfl
        have T1 : Hid (#[Value.int .u8 (IntKind.u8.wrap (bits .or .i64 (IntKind.i64.wrap ((typ : Int) * 2)) 1))] = (bytesOf [((typ * 2 + 1 : Nat) : Int)]).toArray) := hide (by rw [typ_1 typ b7]; rfl)
        go_upto_region 7 with fail
        go_region_held3 (fun w' => w'.cell? ⟨w.heap.size, 6, none⟩ = some (.int .i64 typ) ∧ w'.cell? ⟨w.heap.size, 8, none⟩ = some (.int .u64 seq)) (first | go_keep | (go_split_ands; refine ⟨(hb2.cell (Nat.lt_succ_self _)).trans ?_, (hb2.cell (Nat.lt_succ_self _)).trans ?_⟩ <;> assumption) | (refine ⟨(hb'.cell (Nat.lt_succ_self _)).trans ?_, (hb'.cell (Nat.lt_succ_self _)).trans ?_⟩ <;> assumption))
          (first | (go_at_call 82; refine (head_putI (w.heap.size + 1) _ _ seq 7 seq 7 _ rfl rfl ho' hz' (by decide) (by simp [L1]) (by omega)).mono ?_; rintro e w' ⟨v2, rfl, ho2, hb2⟩) | (refine step_new (w := w4.drew) rfl _ _ rfl (w.heap.size + 1) l1 [((typ * 2 + 1 : Nat) : Int)] o2 rfl 1 1 rfl rfl T1.out (by rw [L1]; decide) hsz ?_; intro v' w' ho' hb'; have hz' : w.heap.size + 1 ≤ w'.heap.size := Nat.le_trans hsz hb'.size))
        all_goals (go_wp2_with fail; go_meet; exact ⟨by rw [hc, List.append_cons]; exact ho2, (hb.drew.trans hb').trans hb2⟩)
    case rest =>
      obtain ⟨o3, hb⟩ := hcut
      have L2 : (l1 ++ hb2 typ x seq).length ≤ 16 := by cases x <;> simp [hb2, be_len, L1]
      have hsz : w.heap.size + 1 ≤ wc.heap.size := by have hz := hb.size; simpa using hz
      generalize hL2 : l1 ++ hb2 typ x seq = l2 at o3 L2
      replace hL2 := hide hL2
      go_upto_block 0 with fail
      go_cut [3] (fun v wx => Owns wx (w.heap.size + 1) v (l2 ++ hb3 typ x ack) ∧ Below (w.heap.size + 1) (w.alloc (.cells #[.int .i64 src, .int .i64 dst, .int .i64 off, .int .i64 cc, .int .i64 cs, .int .i64 sum, .int .i64 typ, .bool x, .int .u64 seq, .int .u64 ack, .int .u32 serv, .int .i64 code, .int .u8 i0, .int .u8 i1, .int .u8 i2] 26)) wx)
      case first =>
        have f6 : wc.cell? ⟨w.heap.size, 6, none⟩ = some (.int .i64 typ) := box_cell hb (Nat.lt_succ_self _) rfl
        have f7 : wc.cell? ⟨w.heap.size, 7, none⟩ = some (.bool x) := box_cell hb (Nat.lt_succ_self _) rfl
        have f9 : wc.cell? ⟨w.heap.size, 9, none⟩ = some (.int .u64 ack) := box_cell hb (Nat.lt_succ_self _) rfl
        have hc : ∀ A, ackB (typ : Int) = A → hb3 typ x ack = if A then (if x then be ack 8 else be ack 4) else [] := fun A h => by unfold hb3; rw [h]
        have H9 : ∀ A, ackB (typ : Int) = A → Hid (∀ W, Calls Tryz.prog 77 #[.int .i64 typ] W fun e w' => e = .returned (.bool A) ∧ W = w') := fun A h => hide (fun W => h ▸ head_HasAck typ W)
        have P4 := hide (head_putI (w.heap.size + 1) _ _ ack 4 ack 4 wc rfl rfl o3 hsz (by decide) (by omega) (by omega))
        have P8 := hide (head_putI (w.heap.size + 1) _ _ ack 8 ack 8 wc rfl rfl o3 hsz (by decide) (by omega) (by omega))
        generalize ackB (typ : Int) = A at hc H9
        have hc := hide (hc A rfl)
        have H9 := H9 A rfl
        cases A
        · go_wp2_with (first | (go_at_call 77; (with_reducible refine (H9.out _).mono ?_); rintro e w' ⟨rfl, rfl⟩))
          go_meet
          exact ⟨by rw [hc.out]; simpa using o3, hb⟩
        · cases x
          · go_wp2_with (first | (go_at_call 77; (with_reducible refine (H9.out _).mono ?_); rintro e w' ⟨rfl, rfl⟩))
            (with_reducible refine P4.out.mono ?_)
            rintro e w' ⟨v', rfl, ho, hb'⟩
            go_wp2_with fail
            go_meet
            exact ⟨by rw [hc.out]; exact ho, hb.trans hb'⟩
          · go_wp2_with (first | (go_at_call 77; (with_reducible refine (H9.out _).mono ?_); rintro e w' ⟨rfl, rfl⟩))
            (with_reducible refine P8.out.mono ?_)
            rintro e w' ⟨v', rfl, ho, hb'⟩
            go_wp2_with fail
            go_meet
            exact ⟨by rw [hc.out]; exact ho, hb.trans hb'⟩
      case rest =>
        obtain ⟨o4, hb⟩ := hcut
        have L3 : (l2 ++ hb3 typ x ack).length ≤ 24 := by unfold hb3; split <;> cases x <;> simp [be_len] <;> omega
        have hsz : w.heap.size + 1 ≤ wc.heap.size := by have hz := hb.size; simpa using hz
        generalize hL3 : l2 ++ hb3 typ x ack = l3 at o4 L3
        replace hL3 := hide hL3
        go_upto_block 1 with fail
        go_cut [3] (fun v wx => Owns wx (w.heap.size + 1) v (l3 ++ hb4 typ serv code i0 i1 i2) ∧ Below (w.heap.size + 1) (w.alloc (.cells #[.int .i64 src, .int .i64 dst, .int .i64 off, .int .i64 cc, .int .i64 cs, .int .i64 sum, .int .i64 typ, .bool x, .int .u64 seq, .int .u64 ack, .int .u32 serv, .int .i64 code, .int .u8 i0, .int .u8 i1, .int .u8 i2] 26)) wx)
        case first =>
          have f6 : wc.cell? ⟨w.heap.size, 6, none⟩ = some (.int .i64 typ) := box_cell hb (Nat.lt_succ_self _) rfl
          have f10 : wc.cell? ⟨w.heap.size, 10, none⟩ = some (.int .u32 serv) := box_cell hb (Nat.lt_succ_self _) rfl
          have e10 : IntKind.u64.wrap (serv : Int) = serv := by rw [IntKind.wrap_u64]; omega
          have hc : ∀ A, servB (typ : Int) = A → hb4 typ serv code i0 i1 i2 = if A then be serv 4 else if typ = 7 then [(code : Int), (i0 : Int), (i1 : Int), (i2 : Int)] else [] := fun A h => by unfold hb4; rw [h]
          have H9 : ∀ A, servB (typ : Int) = A → Hid (∀ W, Calls Tryz.prog 78 #[.int .i64 typ] W fun e w' => e = .returned (.bool A) ∧ W = w') := fun A h => hide (fun W => h ▸ head_service typ W)
          have P4 := hide (head_putI (w.heap.size + 1) _ _ serv 4 serv 4 wc rfl rfl o4 hsz (by decide) (by omega) (by omega))
          generalize servB (typ : Int) = A at hc H9
          have hc := hide (hc A rfl)
          have H9 := H9 A rfl
          cases A
          · by_cases ht : typ = 7
            · subst ht
              have f11 : wc.cell? ⟨w.heap.size, 11, none⟩ = some (.int .i64 code) := box_cell hb (Nat.lt_succ_self _) rfl
              have f12 : wc.cell? ⟨w.heap.size, 12, none⟩ = some (.int .u8 i0) := box_cell hb (Nat.lt_succ_self _) rfl
              have f13 : wc.cell? ⟨w.heap.size, 13, none⟩ = some (.int .u8 i1) := box_cell hb (Nat.lt_succ_self _) rfl
              have f14 : wc.cell? ⟨w.heap.size, 14, none⟩ = some (.int .u8 i2) := box_cell hb (Nat.lt_succ_self _) rfl
              go_upto_region 16 with (first | (go_at_call 78; (refine (H9.out _).mono ?_); rintro e w' ⟨rfl, rfl⟩))
              have T0 : Hid (#[Value.int .u8 (IntKind.u8.wrap (code : Int))] = (bytesOf [(code : Int)]).toArray) := hide (by rw [IntKind.wrap_u8, Int.emod_eq_of_lt (by omega) (by omega)]; rfl)
              have N := hide (fun (W : World) (h : Below (w.heap.size + 1) wc.drew W) (j : Nat) (u : Value) (hj : (bytesOf [(i0 : Int), (i1 : Int), (i2 : Int)])[j]? = some u) => (show W.cell? (Addr.add ⟨w.heap.size, 12, none⟩ j) = some u from by
                match j, hj with
                | 0, hj => (simp [bytesOf] at hj; subst hj; exact (h.cell (Nat.lt_succ_self _)).trans f12)
                | 1, hj => (simp [bytesOf] at hj; subst hj; exact (h.cell (Nat.lt_succ_self _)).trans f13)
                | 2, hj => (simp [bytesOf] at hj; subst hj; exact (h.cell (Nat.lt_succ_self _)).trans f14)
                | j + 3, hj => simp [bytesOf] at hj))
              go_region_held3 (fun w' => w'.cell? ⟨w.heap.size, 11, none⟩ = some (.int .i64 code)) (first | go_keep | exact (hb2.cell (Nat.lt_succ_self _)).trans ((hb'.cell (Nat.lt_succ_self _)).trans f11) | exact (hb'.cell (Nat.lt_succ_self _)).trans f11)
                (first | (refine step_new (w := wc.drew) rfl _ _ rfl (w.heap.size + 1) l3 [(code : Int)] o4 rfl 1 1 rfl rfl T0.out (by omega) hsz ?_; intro v' w' ho' hb'; have hz' : w.heap.size + 1 ≤ w'.heap.size := Nat.le_trans hsz hb'.size) | (refine step_at rfl _ _ rfl (w.heap.size + 1) (l3 ++ [(code : Int)]) [(i0 : Int), (i1 : Int), (i2 : Int)] ho' rfl ⟨w.heap.size, 12, none⟩ 3 3 rfl rfl (N.out _ hb') (by simp; omega) hz' ?_; intro v2 w2 ho2 hb2))
              all_goals (go_wp2_with fail; go_meet; exact ⟨by rw [hc.out]; simpa using ho2, (hb.drew.trans hb').trans hb2⟩)
            · have h7 : ((typ : Int) == 7) = false := by simp; omega
              replace ht := hide ht
              go_wp2_with (first | (go_at_call 78; (with_reducible refine (H9.out _).mono ?_); rintro e w' ⟨rfl, rfl⟩))
              go_meet
              exact ⟨by rw [hc.out, if_neg ht.out]; simpa using o4, hb⟩
          · go_wp2_with (first | (go_at_call 78; (with_reducible refine (H9.out _).mono ?_); rintro e w' ⟨rfl, rfl⟩))
            (with_reducible refine P4.out.mono ?_)
            rintro e w' ⟨v', rfl, ho, hb'⟩
            go_wp2_with fail
            go_meet
            exact ⟨by rw [hc.out]; exact ho, hb.trans hb'⟩
        case rest =>
          obtain ⟨o5, hb⟩ := hcut
          have L4 : (l3 ++ hb4 typ serv code i0 i1 i2).length ≤ 28 := by unfold hb4; split <;> simp [be_len] <;> (first | omega | (split <;> simp <;> omega))
          go_wp2
          rw [own_text rfl rfl rfl o5]
          go_wp2
          go_ret
          exact ⟨by rw [hL1.out, hL2.out, hL3.out]; rfl, (Below.refl _ _).alloc (Nat.le_refl _) _ |>.trans (hb.mono (Nat.le_succ _))⟩
end Go.Proofs.YtjlnbahanghhcaaGreatDoor

/- The contracts of code.letter, code.digit, code.sign. -/
namespace Go.Proofs.YtjlnbahanghhcaaGreatDoor
open Go.RowKit
set_option linter.unusedVariables false
set_option linter.unusedSimpArgs false

def letB (r : Int) : Bool := decide ((65 ≤ r ∧ r ≤ 90) ∨ (97 ≤ r ∧ r ≤ 122))
def digB (r : Int) : Bool := decide (48 ≤ r ∧ r ≤ 57)
def othB (b : Nat) : Bool := (([45, 95, 43, 46, 42, 47, 63, 64] : List Nat).contains b)
def signB (b : Nat) : Bool := letB b || (digB b || othB b)
theorem code_letter (r : Int) (w : World) : Calls Tryz.prog 68 #[.int .i32 r] w fun e w' => e = .returned (.bool (letB r)) ∧ w = w' := by
  go_enter Tryz.func68, Tryz.ntmps68
  go_wp2
  all_goals go_ret
  all_goals exact ⟨ret_bool (by unfold letB; rw [Bool.eq_iff_iff]; simp only [Bool.or_eq_true, Bool.and_eq_true, Bool.not_eq_true', Bool.false_eq_true, false_iff, true_iff, decide_eq_true_eq, decide_eq_false_iff_not, beq_iff_eq, bne_iff_ne, ne_eq] <;> omega), rfl⟩
theorem code_digit (r : Int) (w : World) : Calls Tryz.prog 69 #[.int .i32 r] w fun e w' => e = .returned (.bool (digB r)) ∧ w = w' := by
  go_enter Tryz.func69, Tryz.ntmps69
  go_wp2
  all_goals go_ret
  all_goals exact ⟨ret_bool (by unfold digB; rw [Bool.eq_iff_iff]; simp only [Bool.or_eq_true, Bool.and_eq_true, Bool.not_eq_true', Bool.false_eq_true, false_iff, true_iff, decide_eq_true_eq, decide_eq_false_iff_not, beq_iff_eq, bne_iff_ne, ne_eq] <;> omega), rfl⟩
theorem oth_index (b : Nat) (h : b < 256) : decide (0 ≤ Lib.indexByte [45, 95, 43, 46, 42, 47, 63, 64] (b : Int).toNat.toUInt8) = othB b := by
  have H : ∀ x : Fin 256, decide (0 ≤ Lib.indexByte [45, 95, 43, 46, 42, 47, 63, 64] (x.val : Int).toNat.toUInt8) = othB x.val := by decide +kernel
  exact H ⟨b, h⟩
set_option maxRecDepth 100000 in
theorem code_sign (b : Nat) (hb : b < 256) (w : World) : Calls Tryz.prog 91 #[.int .u8 b] w fun e w' => e = .returned (.bool (signB b)) ∧ w = w' := by
  have hs : ∀ p q, letB b = p → digB b = q → signB b = (p || (q || othB b)) := fun p q h1 h2 => by unfold signB; rw [h1, h2]
  have c1 := fun W => code_letter (b : Int) W
  have c2 := fun W => code_digit (b : Int) W
  have c3 := fun W => Tryz.strings_IndexByte ⟨#[45, 95, 43, 46, 42, 47, 63, 64]⟩ (b : Int) W
  have c4 := oth_index b hb
  have ew : IntKind.i32.wrap (b : Int) = b := by rw [IntKind.wrap_i32]; omega
  generalize hp : letB b = p at c1
  generalize hq : digB b = q at c2
  have hs := hs p q hp hq
  rw [hs]
  clear hs hp hq
  simp only at c3
  generalize hk : Lib.indexByte [45, 95, 43, 46, 42, 47, 63, 64] (b : Int).toNat.toUInt8 = k at c3 c4
  clear hk
  generalize othB b = o at c4
  have C1 := hide c1; have C2 := hide c2; have C3 := hide c3
  clear c1 c2 c3
  go_enter Tryz.func91, Tryz.ntmps91
  cases p <;> cases q <;> go_wp2_with (first | (go_at_call 68; (refine (C1.out _).mono ?_); rintro e w' ⟨rfl, rfl⟩) | (go_at_call 69; (refine (C2.out _).mono ?_); rintro e w' ⟨rfl, rfl⟩) | (go_at_call 105; (refine (C3.out _).mono ?_); rintro e w' ⟨rfl, rfl⟩))
  all_goals go_ret
  all_goals exact ⟨ret_bool (by simp [c4]), rfl⟩
end Go.Proofs.YtjlnbahanghhcaaGreatDoor

/- The contract of code.bySigns. -/
namespace Go.Proofs.YtjlnbahanghhcaaGreatDoor
open Go.RowKit
set_option linter.unusedVariables false
set_option linter.unusedSimpArgs false

/-- the byte at place i, blanks behind the end. -/
def byteOr (l : List UInt8) (i : Nat) : Nat := if h : i < l.length then l[i].toNat else 32
def codeN (l : List UInt8) : Nat → Nat
  | 0 => 0
  | i + 1 => codeN l i * 256 + byteOr l i
theorem ret_ib {k : IntKind} {a a' : Int} {b b' : Bool} (h : a = a') (g : b = b') : Ending.returned (.tuple #[.int k a, .bool b]) = .returned (.tuple #[.int k a', .bool b']) := by rw [h, g]
def bySignsB (l : List UInt8) : Bool := decide (1 ≤ l.length ∧ l.length ≤ 4) && l.all fun b => signB b.toNat
/-- the code that a text of signs stands for. -/
def codeOf (l : List UInt8) : Nat := if bySignsB l then codeN l 4 else 0
theorem byteOr_lt (l : List UInt8) (i : Nat) : byteOr l i < 256 := by
  unfold byteOr
  split
  · exact UInt8.toNat_lt _
  · decide
theorem byteOr_at (s : ByteArray) (i : Nat) (h : i < s.size) : byteOr s.data.toList i = s[i].toNat := by
  unfold byteOr
  rw [dif_pos (by rw [Array.length_toList]; exact h)]; rfl
theorem byteOr_behind (s : ByteArray) (i : Nat) (h : ¬ i < s.size) : byteOr s.data.toList i = 32 := by
  unfold byteOr
  rw [dif_neg (by rw [Array.length_toList]; exact h)]
theorem codeN_lt (l : List UInt8) : ∀ i, codeN l i < 256 ^ i
  | 0 => by simp [codeN]
  | i + 1 => by have := codeN_lt l i; have := byteOr_lt l i; simp only [codeN, Nat.pow_succ]; omega
theorem or_byte32 (n b : Nat) (hn : n < 16777216) (hb : b < 256) : bits .or .u32 ((n : Int) * 256) (b : Int) = ((n * 256 + b : Nat) : Int) := by
  rw [show ((n : Int) * 256) = ((n * 256 : Nat) : Int) from by omega, u32_or_nat _ _ (by omega) (by omega)]
  have h := Nat.shiftLeft_add_eq_or_of_lt (i := 8) (b := b) (by omega) n
  rw [Nat.shiftLeft_eq] at h
  rw [← h]
theorem signs_take (s : ByteArray) (i : Nat) (h : i < s.size) : ((s.data.toList.take (i + 1)).all fun b => signB b.toNat) = (((s.data.toList.take i).all fun b => signB b.toNat) && signB s[i].toNat) := by
  rw [List.take_succ_eq_append_getElem (by rw [Array.length_toList]; exact h), List.all_append]; simp; rfl

set_option maxHeartbeats 1000000 in
set_option maxRecDepth 1000000 in
theorem code_bySigns (s : ByteArray) (w : World) : Calls Tryz.prog 60 #[.string s] w fun e w' => e = .returned (.tuple #[.int .u32 (codeOf s.data.toList), .bool (bySignsB s.data.toList)]) ∧ w = w' := by
  have hl : s.data.toList.length = s.size := by rw [Array.length_toList]; rfl
  by_cases h1 : s.size < 1
  · have hb : bySignsB s.data.toList = false := by unfold bySignsB; rw [hl]; simp; omega
    have hc : codeOf s.data.toList = 0 := by unfold codeOf; rw [hb]; rfl
    rw [hb, hc]; clear hb hl hc
    go_enter Tryz.func60, Tryz.ntmps60
    go_wp2
    go_ret2
    exact ⟨rfl, rfl⟩
  by_cases h4 : 4 < s.size
  · have hb : bySignsB s.data.toList = false := by unfold bySignsB; rw [hl]; simp; omega
    have hc : codeOf s.data.toList = 0 := by unfold codeOf; rw [hb]; rfl
    rw [hb, hc]; clear hb hl hc
    go_enter Tryz.func60, Tryz.ntmps60
    go_wp2
    go_ret2
    exact ⟨rfl, rfl⟩
  have hB : bySignsB s.data.toList = s.data.toList.all fun b => signB b.toNat := by unfold bySignsB; rw [hl, decide_eq_true (by omega)]; rfl
  have HB := hide hB
  have HL := hide hl
  clear hB hl
  go_enter Tryz.func60, Tryz.ntmps60
  go_wp2
  go_loop [4, 15] (fun u x => ∃ i m : Nat, i ≤ 4 ∧ x = .int .i64 i ∧ u = .int .u32 m ∧ Hid (m = codeN s.data.toList i ∧ ((s.data.toList.take i).all fun b => signB b.toNat) = true)) (fun _ x => 4 - (intOf x).toNat)
  case atStart => exact ⟨0, 0, by omega, rfl, rfl, hide ⟨rfl, by simp⟩⟩
  case round =>
    obtain ⟨i, m, hi, rfl, rfl, H⟩ := hrel
    by_cases h : i < 4
    · have hm : m < 16777216 := by rw [H.out.1]; exact Nat.lt_of_lt_of_le (codeN_lt _ i) (by calc 256 ^ i ≤ 256 ^ 3 := Nat.pow_le_pow_right (by omega) (by omega)
          _ = 16777216 := rfl)
      by_cases hs : i < s.size
      · have hsn := signs_take s i hs
        have hbo := byteOr_at s i hs
        have h256 := s[i].toNat_lt
        have cs := fun W => code_sign s[i].toNat h256 W
        have eo := or_byte32 m s[i].toNat hm h256
        have ew : IntKind.u32.wrap (s[i].toNat : Int) = s[i].toNat := by rw [IntKind.wrap_u32']; omega
        rw [H.out.2, Bool.true_and] at hsn
        generalize signB s[i].toNat = p at cs hsn
        have C := hide cs; have HS := hide hsn; have HO := hide hbo
        clear cs hsn hbo
        cases p
        · have HF : Hid (bySignsB s.data.toList = false) := hide (by
            rw [HB.out]
            have e : (s.data.toList.all fun b => signB b.toNat) = (((s.data.toList.take (i + 1)).all fun b => signB b.toNat) && ((s.data.toList.drop (i + 1)).all fun b => signB b.toNat)) := by rw [← List.all_append, List.take_append_drop]
            rw [e, HS.out]; rfl)
          go_wp2_with (go_at_call 91; (refine (C.out _).mono ?_); rintro e w' ⟨rfl, rfl⟩)
          go_ret2
          exact ⟨ret_ib (by unfold codeOf; rw [HF.out]; rfl) HF.out.symm, rfl⟩
        · go_wp2_with (go_at_call 91; (refine (C.out _).mono ?_); rintro e w' ⟨rfl, rfl⟩)
          go_round
          case rel => exact ⟨i + 1, m * 256 + s[i].toNat, by omega, by go_num, by go_num, hide ⟨by rw [codeN, HO.out, H.out.1], HS.out⟩⟩
          case measure => simp [intOf]; omega
      · have hbo := byteOr_behind s i hs
        have eo := or_byte32 m 32 hm (by decide)
        have HO := hide hbo
        have HT : Hid (((s.data.toList.take (i + 1)).all fun b => signB b.toNat) = true) := hide (by rw [List.take_of_length_le (by rw [HL.out]; omega)]; have := H.out.2; rwa [List.take_of_length_le (by rw [HL.out]; omega)] at this)
        clear hbo
        go_wp2
        go_round
        case rel => exact ⟨i + 1, m * 256 + 32, by omega, by go_num, by go_num, hide ⟨by rw [codeN, HO.out, H.out.1], HT.out⟩⟩
        case measure => simp [intOf]; omega
    · have HT : Hid (bySignsB s.data.toList = true) := hide (by rw [HB.out]; have := H.out.2; rwa [List.take_of_length_le (by rw [HL.out]; omega)] at this)
      have HM : Hid (m = codeN s.data.toList 4) := hide (by rw [H.out.1, show i = 4 from by omega])
      go_wp2
      go_ret2
      exact ⟨ret_ib (by unfold codeOf; rw [HT.out, HM.out]; rfl) HT.out.symm, rfl⟩
end Go.Proofs.YtjlnbahanghhcaaGreatDoor

/- The contracts of code.Service and code.Text at the form of signs. -/
namespace Go.Proofs.YtjlnbahanghhcaaGreatDoor
open Go.RowKit
set_option linter.unusedVariables false
set_option linter.unusedSimpArgs false

theorem code_Service_signs (s : ByteArray) (w : World) (h : Lib.hasPrefix s.data.toList [83, 67, 58] = true) :
    Calls Tryz.prog 30 #[.string s] w fun e w' => e = .returned (.tuple #[.int .u32 (codeOf (Lib.trimPrefix s.data.toList [83, 67, 58])), .bool (bySignsB (Lib.trimPrefix s.data.toList [83, 67, 58]))]) ∧ w = w' := by
  have c1 := fun W => Tryz.strings_CutPrefix s ⟨#[83, 67, 58]⟩ W
  have c2 := fun W => code_bySigns ⟨(Lib.trimPrefix s.data.toList [83, 67, 58]).toArray⟩ W
  simp only at c1 c2
  rw [h] at c1
  generalize Lib.trimPrefix s.data.toList [83, 67, 58] = t at c1 c2
  have C1 := hide c1; have C2 := hide c2
  clear c1 c2 h
  go_enter Tryz.func30, Tryz.ntmps30
  go_wp2_with (first | (go_at_call 62; (refine (C1.out _).mono ?_); rintro e w' ⟨rfl, rfl⟩) | (go_at_call 60; (refine (C2.out _).mono ?_); rintro e w' ⟨rfl, rfl⟩))
  go_ret2
  exact ⟨rfl, rfl⟩

/-- what is written of a code by signs. -/
def textOf (c : Nat) : List UInt8 := Lib.trimRightB (strOfNums (be c 4)).data.toList 32
set_option maxHeartbeats 1000000 in
set_option maxRecDepth 100000 in
theorem code_Text_signs (c : Nat) (w : World) (hc : c < 4294967296) (h : bySignsB (textOf c) = true) (h2 : codeOf (textOf c) = c) :
    Calls Tryz.prog 29 #[.int .u32 c] w fun e w' => e = .returned (.string (⟨#[83, 67, 58]⟩ ++ ⟨(textOf c).toArray⟩)) ∧ Below w.heap.size w w' := by
  go_enter Tryz.func29, Tryz.ntmps29
  have h4 : textOf c = Lib.trimRightB (strOfNums (be c 4)).data.toList 32 := rfl
  have c1 := fun W hs => Tryz.strings_TrimRight_one (strOfNums (be c 4)) 32 (by decide) W hs
  have c2 := fun W => code_bySigns ⟨(textOf c).toArray⟩ W
  have tl : (textOf c).length ≤ 4 := by unfold bySignsB at h; simp at h; omega
  simp only at c1 c2
  rw [← h4] at c1
  rw [h, h2] at c2
  have C1 := hide c1; have C2 := hide c2
  clear c1 c2 h h2 h4
  go_wp2
  go_loopw [3, 4] (fun u x wr => ∃ (j : Nat) (i : Int) (d : List Int), j ≤ 4 ∧ d.length + j = 4 ∧ i + 1 = j ∧ x = .int .i64 i ∧ Owns wr w.heap.size u d ∧ Below w.heap.size w wr ∧ Hid (d ++ be c j = be c 4)) (fun _ x _ => (intOf x + 1).toNat)
  case atStart => exact ⟨4, 3, [], by omega, by simp, by omega, rfl, owns_nil _ _, Below.refl _ _, hide rfl⟩
  case round =>
    obtain ⟨j, i, d, hj, hd, hi, rfl, ho, hb, H⟩ := hrel
    cases j with
    | zero =>
      obtain rfl : i = -1 := by omega
      have hdk : d = be c 4 := by simpa [be] using H.out
      subst hdk
      clear H
      generalize ht : textOf c = t at C1 C2 tl
      replace ht := hide ht
      have hsz : (strOfNums (be c 4)).size ≤ 9223372036854775807 := by rw [strOfNums_size, be_len]; decide
      go_wp2
      rw [own_text rfl rfl rfl ho]
      generalize strOfNums (be c 4) = u at C1 hsz
      go_wp2_with (first | (go_at_call 59; (refine (C1.out _ hsz).mono ?_); rintro e w' ⟨rfl, rfl⟩) | (go_at_call 60; (refine (C2.out _).mono ?_); rintro e w' ⟨rfl, rfl⟩))
      go_ret
      exact ⟨by rw [ht.out]; rfl, hb⟩
    | succ j =>
      obtain rfl : i = (j : Int) := by omega
      have hsz := hb.size
      go_wp2_with (at_builtin; refine app_new rfl _ _ rfl w.heap.size d [(c : Int) / 2 ^ (8 * j) % 256] ho rfl 1 1 rfl rfl rfl (by omega) hsz ?_)
      intro v' w1 hown' hb'
      have hH : Hid ((d ++ [(c : Int) / 2 ^ (8 * j) % 256]) ++ be c j = be c 4) := hide (by rw [← H.out]; simp [be])
      have hb1 := hb.trans hb'
      have RR := hide hown'
      clear hown' hb' hb H ho
      go_wp2
      go_roundw
      case rel => exact ⟨j, (j : Int) - 1, d ++ [(c : Int) / 2 ^ (8 * j) % 256], by omega, by simp; omega, by omega, by go_num, RR.out, hb1, hH⟩
      case measure => first | (simp [intOf]; done) | (simp [intOf]; omega)
end Go.Proofs.YtjlnbahanghhcaaGreatDoor

/- The contract of opt.May. -/
namespace Go.Proofs.YtjlnbahanghhcaaGreatDoor
open Go.RowKit
set_option linter.unusedVariables false
set_option linter.unusedSimpArgs false

/-- an option: its type, its data. -/
structure Op where
  typ : Int
  data : ByteArray
def Op.cells (o : Op) : List Value := [.int .i64 o.typ, .string o.data]
def Op.val (o : Op) : Value := .agg #[.int .i64 o.typ, .string o.data]
def mayO (o : Op) : Bool := decide (0 ≤ o.typ ∧ o.typ ≤ 255 ∧ (o.data.size = 0 ∨ (32 ≤ o.typ ∧ o.data.size ≤ 253)))
theorem opt_May (t : Int) (d : ByteArray) (w : World) : Calls Tryz.prog 49 #[.agg #[.int .i64 t, .string d]] w fun e w' => e = .returned (.bool (mayO ⟨t, d⟩)) ∧ Below w.heap.size w w' := by
  have fin : ∀ (a : Bool) (W : World), (a = true ↔ (0 ≤ t ∧ t ≤ 255 ∧ (d.size = 0 ∨ (32 ≤ t ∧ d.size ≤ 253)))) → W = w.alloc (.cells #[.int .i64 t, .string d] 50) → Ending.returned (.bool a) = Ending.returned (.bool (mayO ⟨t, d⟩)) ∧ Below w.heap.size w W := fun a W h hW => ⟨ret_bool (by unfold mayO; rw [Bool.eq_iff_iff, h]; simp), hW ▸ (Below.refl _ _).alloc (Nat.le_refl _) _⟩
  by_cases hd : d.size = 0
  · have hb : ((d.size : Int) == 0) = true := by rw [hd]; rfl
    have H := hide hd; clear hd
    go_enter Tryz.func49, Tryz.ntmps49
    go_wp2
    all_goals go_ret
    all_goals (refine fin _ _ ?_ rfl; have hd := H.out; simp only [Bool.or_eq_true, Bool.and_eq_true, Bool.false_eq_true, false_iff, true_iff, decide_eq_true_eq]; omega)
  · have hb : ((d.size : Int) == 0) = false := by simpa using hd
    have H := hide hd; clear hd
    go_enter Tryz.func49, Tryz.ntmps49
    go_wp2
    all_goals go_ret
    all_goals (refine fin _ _ ?_ rfl; have hd := H.out; simp only [hb, Bool.or_eq_true, Bool.and_eq_true, Bool.false_eq_true, false_or, false_iff, true_iff, decide_eq_true_eq]; omega)
end Go.Proofs.YtjlnbahanghhcaaGreatDoor

/- The contract of opt.Put. -/
namespace Go.Proofs.YtjlnbahanghhcaaGreatDoor
open Go.RowKit
set_option linter.unusedVariables false
set_option linter.unusedSimpArgs false

/-- an option in bytes. -/
def ob (o : Op) : List Int := o.typ :: if 32 ≤ o.typ then ((o.data.size + 2 : Nat) : Int) :: nb o.data else []
def obs (os : List Op) : List Int := (os.map ob).flatten
/-- the options' cells, one behind the other. -/
def ocells (os : List Op) : List Value := (os.map Op.cells).flatten
theorem ocells_len : ∀ os, (ocells os).length = 2 * os.length
  | [] => rfl
  | o :: os => by have h := ocells_len os; unfold ocells at h ⊢; simp only [List.map_cons, List.flatten_cons, List.length_append, List.length_cons, h]; simp [Op.cells]; omega
theorem ocells_at : ∀ (os : List Op) (i : Nat) (h : i < os.length), (ocells os)[i * 2]? = some (.int .i64 os[i].typ) ∧ (ocells os)[i * 2 + 1]? = some (.string os[i].data)
  | o :: os, 0, h => ⟨rfl, rfl⟩
  | o :: os, i + 1, h => by
    have e : ocells (o :: os) = .int .i64 o.typ :: .string o.data :: ocells os := rfl
    have := ocells_at os i (by simpa using h)
    rw [e, show (i + 1) * 2 = i * 2 + 1 + 1 from by omega]
    simpa using this
theorem obs_take (os : List Op) (k : Nat) (h : k < os.length) : obs (os.take (k + 1)) = obs (os.take k) ++ ob os[k] := by
  unfold obs
  rw [List.take_succ_eq_append_getElem h, List.map_append, List.flatten_append]; simp
theorem obs_take_len (os : List Op) (k : Nat) (h : k < os.length) : (obs (os.take k)).length + (ob os[k]).length ≤ (obs os).length := by
  have e : obs os = obs (os.take (k + 1)) ++ obs (os.drop (k + 1)) := by
    unfold obs; rw [← List.flatten_append, ← List.map_append, List.take_append_drop]
  have := congrArg List.length e
  rw [obs_take os k h] at this
  simp only [List.length_append] at this
  omega
theorem all_take (os : List Op) (k : Nat) (h : k < os.length) : ((os.take (k + 1)).all mayO) = (((os.take k).all mayO) && mayO os[k]) := by
  rw [List.take_succ_eq_append_getElem h, List.all_append]; simp
theorem tw_len (os : List Op) (k : Nat) (h : k < os.length) (ha : (os.take k).all mayO = true) (hm : mayO os[k] = true) : (obs (os.take k)).length + (ob os[k]).length ≤ (obs (os.takeWhile mayO)).length := by
  have e1 : (os.take (k + 1)).all mayO = true := by rw [all_take os k h, ha, hm]; rfl
  have e2 : os.takeWhile mayO = os.take (k + 1) ++ (os.drop (k + 1)).takeWhile mayO := by
    have := List.takeWhile_append_of_pos (p := mayO) (l₁ := os.take (k + 1)) (l₂ := os.drop (k + 1)) (fun a ha => List.all_eq_true.1 e1 a ha)
    rwa [List.take_append_drop] at this
  have e3 := obs_take os k h
  have e4 : obs (os.takeWhile mayO) = obs (os.take (k + 1)) ++ obs ((os.drop (k + 1)).takeWhile mayO) := by
    rw [e2]; unfold obs; rw [List.map_append, List.flatten_append]
  rw [e4, e3]
  simp only [List.length_append]
  omega
theorem tw_all (os : List Op) (h : os.all mayO = true) : os.takeWhile mayO = os := by
  have := List.takeWhile_append_of_pos (p := mayO) (l₁ := os) (l₂ := []) (fun a ha => List.all_eq_true.1 h a ha)
  simpa using this
/-- noughts up to the next multiple of four. -/
def pad4 (l : List Int) : List Int := l ++ List.replicate ((4 - l.length % 4) % 4) 0
def putO (os : List Op) : List Int := if os.all mayO then pad4 (obs os) else []

theorem owns_slice {w : World} {base : Nat} {v : Value} {l : List Int} (h : Owns w base v l) : ∃ A cap, v = .slice A l.length cap := by
  rcases h.2 with ⟨rfl, h0⟩ | ⟨g, cap, cur, rfl, _⟩
  · exact ⟨none, 0, by rw [h0]⟩
  · exact ⟨_, _, rfl⟩
def lenV : Value → Nat
  | .slice _ n _ => n
  | _ => 0
set_option maxHeartbeats 1000000 in
set_option maxRecDepth 1000000 in
theorem opt_PutW (A : Option Addr) (cap B : Nat) (os : List Op) (w : World) (hA : CellsAt w B A (ocells os)) (hB : B ≤ w.heap.size) (hl : (obs (os.takeWhile mayO)).length ≤ 140737488355000) (hn : os.length ≤ 140737488355328) :
    Calls Tryz.prog 45 #[.slice A os.length cap] w fun e w' => e = .returned (.string (strOfNums (putO os))) ∧ Below w.heap.size w w' := by
  have HA := hide hA
  have HL := hide hl
  clear hA hl
  go_enter Tryz.func45, Tryz.ntmps45
  go_wp2
  go_loopw [3, 8] (fun u x wr => ∃ k : Nat, k ≤ os.length ∧ x = .int .i64 k ∧ Owns wr w.heap.size u (obs (os.take k)) ∧ Below w.heap.size w wr ∧ Hid ((os.take k).all mayO = true)) (fun _ x _ => os.length - (intOf x).toNat)
  case atStart => exact ⟨0, by omega, rfl, by simpa [obs] using owns_nil _ _, Below.refl _ _, hide (by simp)⟩
  case round =>
    obtain ⟨k, hk, rfl, ho, hb, H⟩ := hrel
    by_cases hlt : k < os.length
    · have hc := ocells_at os k hlt
      obtain ⟨ad, e, hbl, hc0⟩ := HA.out (k * 2) _ hc.1
      obtain ⟨ad', e', hbl', hc1⟩ := HA.out (k * 2 + 1) _ hc.2
      subst e
      cases e'
      have hlen := tw_len os k hlt H.out
      have hjt := obs_take os k hlt
      have hat := all_take os k hlt
      obtain ⟨o, ho'⟩ : ∃ o, os[k] = o := ⟨_, rfl⟩
      rw [ho'] at hc0 hc1 hlen hjt hat
      clear ho'
      obtain ⟨t, d⟩ := o
      rw [H.out, Bool.true_and] at hat
      have hsz := hb.size
      have f0 : wr.cell? (ad.add (k * 2)) = some (.int .i64 t) := (hb.cell (by rw [add_block]; omega)).trans hc0
      have f1 : wr.cell? ⟨(ad.add (k * 2)).block, (ad.add (k * 2)).off + 1, none⟩ = some (.string d) := by
        have e : ad.add (k * 2 + 1) = ⟨(ad.add (k * 2)).block, (ad.add (k * 2)).off + 1, none⟩ := by
          unfold Addr.add
          by_cases hm : k * 2 = 0
          · simp [hm]
          · simp [hm, Nat.add_assoc]
        rw [← e]
        exact (hb.cell (by rw [add_block]; omega)).trans hc1
      have HJ := hide hjt
      have hlk : mayO ⟨t, d⟩ = true → (obs (os.take k)).length + (ob ⟨t, d⟩).length ≤ 140737488355000 := fun h => Nat.le_trans (hlen h) HL.out
      have HLK := hide hlk
      clear hc0 hc1 hlen hjt hc hbl hbl' hlk
      generalize obs (os.take k) = l at ho HJ HLK
      cases hm : mayO ⟨t, d⟩
      · have HF : Hid (os.all mayO = false) := hide (by
          have e : os.all mayO = (((os.take (k + 1)).all mayO) && ((os.drop (k + 1)).all mayO)) := by rw [← List.all_append, List.take_append_drop]
          rw [e, hat, hm]; rfl)
        have cm := fun W => opt_May t d W
        rw [hm] at cm
        have CM := hide cm
        clear cm hm hat
        go_wp2_with (go_at_call 49; (refine (CM.out _).mono ?_); rintro e w' ⟨rfl, hb'⟩)
        go_ret
        refine ⟨?_, ?_⟩
        · rw [show putO os = [] from by unfold putO; rw [HF.out]; rfl]; rfl
        · exact (hb.alloc hsz _).trans (hb'.mono (by simp; omega))
      · have HT : Hid (((os.take (k + 1)).all mayO) = true) := hide (by rw [hat, hm])
        have cm := fun W => opt_May t d W
        rw [hm] at cm
        have CM := hide cm
        replace HLK := hide (HLK.out hm)
        have hmm : 0 ≤ t ∧ t ≤ 255 ∧ d.size ≤ 253 := by unfold mayO at hm; have hm := of_decide_eq_true hm; simp only at hm; omega
        obtain ⟨ht0, ht1, hd⟩ := hmm
        clear cm hm hat
        have et : IntKind.u8.wrap t = t := by rw [IntKind.wrap_u8]; omega
        go_wp2_with fail
        refine (CM.out _).mono ?_
        rintro e w2 ⟨rfl, hb'⟩
        have hb' : Below (wr.heap.size + 1) (wr.alloc (.cells #[.int .i64 t, .string d] 50)) w2 := by simpa using hb'
        have hs2 : wr.heap.size + 1 ≤ w2.heap.size := by have := hb'.size; simpa using this
        have o2 : Owns w2 w.heap.size _ l := owns_below (World.ownsRow.alloc ho _) (fun j hj => hb'.block j (by simpa using hj))
        have g0 : w2.cell? ⟨wr.heap.size, 0, none⟩ = some (.int .i64 t) := box_cell hb' (Nat.lt_succ_self _) rfl
        have g1 : w2.cell? ⟨wr.heap.size, 1, none⟩ = some (.string d) := box_cell hb' (Nat.lt_succ_self _) rfl
        have hb2 : Below w.heap.size w w2 := (hb.alloc hsz _).trans (hb'.mono (by omega))
        have hs3 := hb2.size
        have hlob : 1 ≤ (ob ⟨t, d⟩).length := by unfold ob; simp
        have hll : l.length + 1 ≤ 140737488355000 := by have := HLK.out; omega
        have nv : ∀ e, e = wr.heap.size → Hid (Value.ownBlock _ ≠ some e) := fun e he => hide (fun h => Nat.lt_irrefl _ (he ▸ (World.ownsRow.lt ho _ h).2))
        have nv := nv _ rfl
        clear CM ho f0 f1 hb hsz hb' hlob
        go_wp2_with (at_builtin; refine app_newX rfl _ _ rfl w.heap.size l [t] o2 rfl 1 1 rfl rfl rfl (by omega) hs3 wr.heap.size hs2 nv.out ?_)
        intro v3 w3 o3 hb3 nv3 hc3
        have g0 : w3.cell? ⟨wr.heap.size, 0, none⟩ = some (.int .i64 t) := (hc3 _ rfl).trans g0
        have g1 : w3.cell? ⟨wr.heap.size, 1, none⟩ = some (.string d) := (hc3 _ rfl).trans g1
        have hbb : Below w.heap.size w w3 := hb2.trans hb3
        have hs4 := hbb.size
        have hs5 : wr.heap.size < w3.heap.size := by have := hb3.size; omega
        replace nv3 := hide nv3
        clear nv hb2 hb3 hc3 hs2 hs3 o2
        by_cases h32 : 32 ≤ t
        · have hob : Hid (l ++ ob ⟨t, d⟩ = l ++ [t] ++ [((d.size + 2 : Nat) : Int)] ++ nb d) := hide (by unfold ob; simp [h32])
          have hl2 : l.length + 2 + d.size ≤ 140737488355000 := by have := HLK.out; have := congrArg List.length hob.out; simp [nb_len] at this; omega
          have T0 : Hid (#[Value.int .u8 (IntKind.u8.wrap (IntKind.i64.wrap ((d.size : Int) + 2)))] = (bytesOf [((d.size + 2 : Nat) : Int)]).toArray) := hide (by
            rw [wrap_small _ (by omega) (by omega), IntKind.wrap_u8, Int.emod_eq_of_lt (by omega) (by omega)]; rfl)
          go_upto_region 9 with fail
          go_region_held3 (fun w' => w'.cell? ⟨wr.heap.size, 1, none⟩ = some (.string d)) (first | go_keep | exact (hc2 _ rfl).trans ((hc' _ rfl).trans g1) | exact (hc' _ rfl).trans g1)
            (first | (refine step_textX rfl _ _ rfl w.heap.size (l ++ [t] ++ [((d.size + 2 : Nat) : Int)]) d ho' rfl rfl (by simp; omega) hz' wr.heap.size (Nat.lt_of_lt_of_le hs5 hzz) nv'.out ?_; intro v2 w5 ho2 hb2 hc2) | (refine step_newX (w := w3.drew) rfl _ _ rfl w.heap.size (l ++ [t]) [((d.size + 2 : Nat) : Int)] o3 rfl 1 1 rfl rfl T0.out (by simp; omega) hs4 wr.heap.size hs5 nv3.out ?_; intro v' w' ho' hb' nv' hc'; have hz' : w.heap.size ≤ w'.heap.size := Nat.le_trans hs4 hb'.size; have hzz : w3.heap.size ≤ w'.heap.size := hb'.size; replace nv' := hide nv'))
          all_goals
            go_wp2_with fail
            go_roundw
          case rel => exact ⟨k + 1, by omega, by go_num, by rw [HJ.out, hob.out]; exact ho2, (hbb.drew.trans hb').trans hb2, HT⟩
          case measure => first | (simp [intOf]; done) | (simp [intOf]; omega)
        · have hob : Hid (l ++ ob ⟨t, d⟩ = l ++ [t]) := hide (by unfold ob; simp [h32])
          go_wp2
          go_roundw
          case rel => exact ⟨k + 1, by omega, by go_num, by rw [HJ.out, hob.out]; exact o3, hbb, HT⟩
          case measure => first | (simp [intOf]; done) | (simp [intOf]; omega)
    · have hkk : k = os.length := by omega
      have hP : Hid (putO os = pad4 (obs os)) := hide (by unfold putO; have h := H.out; rw [hkk, List.take_length] at h; rw [h]; rfl)
      rw [hkk, List.take_length] at ho
      have hl := HL.out
      rw [tw_all os (by have h := H.out; rw [hkk, List.take_length] at h; exact h)] at hl
      clear H HA hkk
      generalize obs os = l at ho hl hP
      clear HL
      go_wp2
      go_loopw [3] (fun u wr => ∃ (j : Nat) (E : Option Addr) (cp : Nat), j ≤ (4 - l.length % 4) % 4 ∧ u = .slice E (l.length + j) cp ∧ Owns wr w.heap.size u (l ++ List.replicate j 0) ∧ Below w.heap.size w wr) (fun u _ => l.length + 4 - lenV u)
      case atStart =>
        obtain ⟨E, cp, rfl⟩ := owns_slice ho
        exact ⟨0, E, cp, by omega, rfl, by simpa using ho, hb⟩
      case round =>
        obtain ⟨j, E, cp, hj, rfl, ho, hb⟩ := hrel
        have hsz := hb.size
        by_cases hjl : j < (4 - l.length % 4) % 4
        · have h0 : 0 < ((l.length : Int) + j) % 4 := by omega
          have hll : (l ++ List.replicate j (0 : Int)).length + 1 ≤ 140737488355328 := by simp; omega
          go_wp2_with (at_builtin; refine app_new rfl _ _ rfl w.heap.size (l ++ List.replicate j 0) [0] ho rfl 1 1 rfl rfl rfl hll hsz ?_)
          intro v' w' ho' hb'
          replace ho' : Owns w' w.heap.size v' (l ++ List.replicate (j + 1) 0) := by rw [List.replicate_succ', ← List.append_assoc]; simpa using ho'
          obtain ⟨E', cp', hv⟩ := owns_slice ho'
          rw [show (l ++ List.replicate (j + 1) (0 : Int)).length = l.length + (j + 1) from by simp] at hv
          subst hv
          have hb1 := hb.trans hb'
          clear ho hb hb'
          go_wp2
          go_roundw
          case rel => exact ⟨j + 1, E', cp', by omega, rfl, ho', hb1⟩
          case measure => simp [lenV]; omega
        · have h0 : ((l.length : Int) + j) % 4 = 0 := by omega
          have hjj : Hid (j = (4 - l.length % 4) % 4) := hide (by omega)
          go_wp2
          rw [own_text rfl rfl rfl ho]
          go_wp2
          go_ret
          exact ⟨by rw [hP.out, pad4, ← hjj.out]; rfl, hb⟩
theorem tw_le (os : List Op) : (obs (os.takeWhile mayO)).length ≤ (obs os).length := by
  have e : obs os = obs (os.takeWhile mayO) ++ obs (os.dropWhile mayO) := by
    unfold obs; rw [← List.flatten_append, ← List.map_append, List.takeWhile_append_dropWhile]
  rw [e, List.length_append]
  exact Nat.le_add_right _ _
theorem opt_Put (A : Option Addr) (cap B : Nat) (os : List Op) (w : World) (hA : CellsAt w B A (ocells os)) (hB : B ≤ w.heap.size) (hl : (obs os).length ≤ 140737488355000) (hn : os.length ≤ 140737488355328) :
    Calls Tryz.prog 45 #[.slice A os.length cap] w fun e w' => e = .returned (.string (strOfNums (putO os))) ∧ Below w.heap.size w w' :=
  opt_PutW A cap B os w hA hB (Nat.le_trans (tw_le os) hl) hn
end Go.Proofs.YtjlnbahanghhcaaGreatDoor

/- The contracts of slices.IndexFunc, slices.ContainsFunc at pkt.Put's own function. -/
namespace Go.Proofs.YtjlnbahanghhcaaGreatDoor
open Go.RowKit
set_option linter.unusedVariables false
set_option linter.unusedSimpArgs false

theorem pkt_Put1 (t : Int) (d : ByteArray) (w : World) : Calls Tryz.prog 48 #[.agg #[.int .i64 t, .string d]] w fun e w' => e = .returned (.bool (!mayO ⟨t, d⟩)) ∧ Below w.heap.size w w' := by
  have CM := hide (fun W => opt_May t d W)
  generalize mayO ⟨t, d⟩ = b at CM ⊢
  go_enter Tryz.func48, Tryz.ntmps48
  go_wp2_with (go_at_call 49; (refine (CM.out _).mono ?_); rintro e w' ⟨rfl, hb'⟩)
  go_ret
  exact ⟨rfl, ((Below.refl _ _).alloc (Nat.le_refl _) _).trans (hb'.mono (by simp))⟩
theorem opts_at {A : Option Addr} {B : Nat} {os : List Op} {w wr : World} (HA : CellsAt w B A (ocells os)) (hb : Below w.heap.size w wr) (hB : B ≤ w.heap.size) (k : Nat) (hlt : k < os.length) :
    ∃ ad, A = some ad ∧ wr.cell? (ad.add (k * 2)) = some (.int .i64 os[k].typ) ∧ wr.cell? ⟨(ad.add (k * 2)).block, (ad.add (k * 2)).off + 1, none⟩ = some (.string os[k].data) := by
  have hc := ocells_at os k hlt
  obtain ⟨ad, e, hbl, hc0⟩ := HA (k * 2) _ hc.1
  obtain ⟨ad', e', hbl', hc1⟩ := HA (k * 2 + 1) _ hc.2
  subst e
  cases e'
  refine ⟨ad, rfl, (hb.cell (by rw [add_block]; omega)).trans hc0, ?_⟩
  have e : ad.add (k * 2 + 1) = ⟨(ad.add (k * 2)).block, (ad.add (k * 2)).off + 1, none⟩ := by
    unfold Addr.add
    by_cases hm : k * 2 = 0
    · simp [hm]
    · simp [hm, Nat.add_assoc]
  rw [← e]
  exact (hb.cell (by rw [add_block]; omega)).trans hc1
/-- pkt.Put's own function, as a value. -/
def put1 : Value := .func (.func 48) #[] #[]
theorem index_func (A : Option Addr) (cap B : Nat) (os : List Op) (w : World) (hA : CellsAt w B A (ocells os)) (hB : B ≤ w.heap.size) (hn : os.length ≤ 140737488355328) :
    Calls Tryz.prog 81 #[.slice A os.length cap, put1] w fun e w' => (∃ i : Int, e = .returned (.int .i64 i) ∧ decide (0 ≤ i) = (!os.all mayO)) ∧ Below w.heap.size w w' := by
  have HA := hide hA
  clear hA
  go_enter Tryz.func81, Tryz.ntmps81
  go_wp2
  go_loopw [8] (fun x wr => ∃ k : Nat, k ≤ os.length ∧ x = .int .i64 k ∧ Below w.heap.size w wr ∧ Hid ((os.take k).all mayO = true)) (fun x _ => os.length - (intOf x).toNat)
  case atStart => exact ⟨0, by omega, rfl, Below.refl _ _, hide (by simp)⟩
  case round =>
    obtain ⟨k, hk, rfl, hb, H⟩ := hrel
    by_cases hlt : k < os.length
    · obtain ⟨ad, rfl, f0, f1⟩ := opts_at HA.out hb hB k hlt
      have hat := all_take os k hlt
      have HS : ∀ b, os.all mayO = b → Hid (os.all mayO = b) := fun b h => hide h
      obtain ⟨o, ho'⟩ : ∃ o, os[k] = o := ⟨_, rfl⟩
      rw [ho'] at f0 f1 hat
      have hsz := hb.size
      obtain ⟨t, d⟩ := o
      rw [H.out, Bool.true_and] at hat
      have c1 := fun W => pkt_Put1 t d W
      cases hm : mayO ⟨t, d⟩
      · have HF : Hid (os.all mayO = false) := hide (by
          have e : os.all mayO = (((os.take (k + 1)).all mayO) && ((os.drop (k + 1)).all mayO)) := by rw [← List.all_append, List.take_append_drop]
          rw [e, hat, hm]; rfl)
        rw [hm] at c1
        have C := hide c1
        clear c1 hm hat ho' HS
        unfold put1
        go_wp2_with (go_at_call 48; (refine (C.out _).mono ?_); rintro e w' ⟨rfl, hb'⟩)
        go_ret
        exact ⟨⟨k, rfl, by rw [HF.out]; simp⟩, hb.trans (hb'.mono hsz)⟩
      · have HT : Hid (((os.take (k + 1)).all mayO) = true) := hide (by rw [hat, hm])
        rw [hm] at c1
        have C := hide c1
        clear c1 hm hat ho' HS
        unfold put1
        go_wp2_with (go_at_call 48; (refine (C.out _).mono ?_); rintro e w' ⟨rfl, hb'⟩)
        go_roundw
        case rel => exact ⟨k + 1, by omega, by go_num, hb.trans (hb'.mono hsz), HT⟩
        case measure => first | (simp [intOf]; done) | (simp [intOf]; omega)
    · have HT : Hid (os.all mayO = true) := hide (by have h := H.out; rwa [show k = os.length from by omega, List.take_length] at h)
      go_wp2
      go_ret
      exact ⟨⟨-1, rfl, by rw [HT.out]; decide⟩, hb⟩
theorem contains_func (A : Option Addr) (cap B : Nat) (os : List Op) (w : World) (hA : CellsAt w B A (ocells os)) (hB : B ≤ w.heap.size) (hn : os.length ≤ 140737488355328) :
    Calls Tryz.prog 47 #[.slice A os.length cap, put1] w fun e w' => e = .returned (.bool (!os.all mayO)) ∧ Below w.heap.size w w' := by
  have C := hide (index_func A cap B os w hA hB hn)
  clear hA
  go_enter Tryz.func47, Tryz.ntmps47
  unfold put1 at C ⊢
  go_wp2_with fail
  refine C.out.mono ?_
  rintro e w' ⟨⟨i, rfl, hi⟩, hb⟩
  replace hi := hide hi
  go_wp2
  go_ret
  exact ⟨ret_bool hi.out, hb⟩
end Go.Proofs.YtjlnbahanghhcaaGreatDoor

/- The contract of sum.Covered. -/
namespace Go.Proofs.YtjlnbahanghhcaaGreatDoor
open Go.RowKit
set_option linter.unusedVariables false
set_option linter.unusedSimpArgs false

/-- how many bytes are summed, where nothing is wrong. -/
def covN (total off cover : Int) : Int := if 0 < cover then off + 4 * (cover - 1) else total
def covB (total off cover : Int) : Bool := decide (0 ≤ off ∧ off ≤ total ∧ 0 ≤ cover ∧ cover ≤ 15 ∧ covN total off cover ≤ total)
theorem ret_ib' {k : IntKind} {a a' : Int} {b b' : Bool} (h : a = a') (g : b = b') : Ending.returned (.tuple #[.int k a, .bool b]) = .returned (.tuple #[.int k a', .bool b']) := by rw [h, g]
theorem sum_Covered (total off cover : Int) (w : World) (ht : total ≤ 9223372036854775000) :
    Calls Tryz.prog 25 #[.int .i64 total, .int .i64 off, .int .i64 cover] w fun e w' => e = .returned (.tuple #[.int .i64 (bif covB total off cover then covN total off cover else 0), .bool (covB total off cover)]) ∧ w = w' := by
  have fin : ∀ (n : Int) (b : Bool), covB total off cover = b → (b = true → n = covN total off cover) → (b = false → n = 0) → Ending.returned (.tuple #[.int .i64 n, .bool b]) = .returned (.tuple #[.int .i64 (bif covB total off cover then covN total off cover else 0), .bool (covB total off cover)]) := fun n b h h1 h0 => by
    rw [h]; cases b
    · exact ret_ib' (h0 rfl) rfl
    · exact ret_ib' (h1 rfl) rfl
  by_cases h : 0 ≤ off ∧ off ≤ total ∧ 0 ≤ cover ∧ cover ≤ 15
  · obtain ⟨h1, h2, h3, h4⟩ := h
    have t1 : decide (off < 0) = false := by simp; omega
    have t2 : decide (total < off) = false := by simp; omega
    have t3 : decide (cover < 0) = false := by simp; omega
    have t4 : decide (15 < cover) = false := by simp; omega
    by_cases hc : 0 < cover
    · have hN : covN total off cover = off + 4 * (cover - 1) := by unfold covN; rw [if_pos hc]
      by_cases hn : off + 4 * (cover - 1) ≤ total
      · have hb : covB total off cover = true := by unfold covB; rw [hN]; simp; omega
        have F := hide (fin (off + 4 * (cover - 1)) true hb (fun _ => hN.symm) (fun h => by cases h))
        clear fin hb hN
        generalize (Value.tuple #[.int .i64 (bif covB total off cover then covN total off cover else 0), .bool (covB total off cover)]) = r at F ⊢
        go_enter Tryz.func25, Tryz.ntmps25
        go_wp2
        go_ret2
        exact ⟨F.out, rfl⟩
      · have hb : covB total off cover = false := by unfold covB; rw [hN]; simp; omega
        have F := hide (fin 0 false hb (fun h => by cases h) (fun _ => rfl))
        clear fin hb hN
        generalize (Value.tuple #[.int .i64 (bif covB total off cover then covN total off cover else 0), .bool (covB total off cover)]) = r at F ⊢
        go_enter Tryz.func25, Tryz.ntmps25
        go_wp2
        go_ret2
        exact ⟨F.out, rfl⟩
    · have hN : covN total off cover = total := by unfold covN; rw [if_neg hc]
      have hb : covB total off cover = true := by unfold covB; rw [hN]; simp; omega
      have F := hide (fin total true hb (fun _ => hN.symm) (fun h => by cases h))
      clear fin hb hN
      generalize (Value.tuple #[.int .i64 (bif covB total off cover then covN total off cover else 0), .bool (covB total off cover)]) = r at F ⊢
      go_enter Tryz.func25, Tryz.ntmps25
      go_wp2
      go_ret2
      exact ⟨F.out, rfl⟩
  · have hb : covB total off cover = false := by unfold covB; simp; omega
    have F := hide (fin 0 false hb (fun h => by cases h) (fun _ => rfl))
    clear fin hb
    generalize (Value.tuple #[.int .i64 (bif covB total off cover then covN total off cover else 0), .bool (covB total off cover)]) = r at F ⊢
    go_enter Tryz.func25, Tryz.ntmps25
    go_wp2
    all_goals first
      | (exfalso; omega)
      | (go_ret2; exact ⟨F.out, rfl⟩)
end Go.Proofs.YtjlnbahanghhcaaGreatDoor

/- Blocks of cells as whole facts: what stands in them, what a store makes of them, what calls leave. -/
namespace Go.Proofs.YtjlnbahanghhcaaGreatDoor
open Go.RowKit
set_option linter.unusedVariables false
set_option linter.unusedSimpArgs false

/-- block g holds just these cells. -/
def Blk (w : World) (g : Nat) (cs : Array Value) (t : TypeId) : Prop := w.heap[g]? = some (.cells cs t (0, 0))
section
variable {w w' : World} {g : Nat} {cs : Array Value} {t : TypeId}
theorem Blk.lt (h : Blk w g cs t) : g < w.heap.size := (Array.getElem?_eq_some_iff.1 h).1
theorem Blk.cell (h : Blk w g cs t) {i : Nat} {u : Value} (hu : cs[i]? = some u) : w.cell? ⟨g, i, none⟩ = some u := (cell_of_row w g i cs t (0, 0) h).trans hu
theorem Blk.frozen (h : Blk w g cs t) (i : Nat) : w.frozen? ⟨g, i, none⟩ = false := by unfold Blk at h; simp [World.frozen?, h]
theorem Blk.below (h : Blk w g cs t) {B : Nat} (hb : Below B w w') (hB : g < B) : Blk w' g cs t := (hb.block g hB).trans h
theorem Blk.alloc (h : Blk w g cs t) (o : Obj) : Blk (w.alloc o) g cs t := (Below.heap_alloc w o g h.lt).trans h
theorem Blk.new (w : World) (cs : Array Value) (t : TypeId) : Blk (w.alloc (.cells cs t)) w.heap.size cs t := heap_alloc_new w _
theorem Blk.set (h : Blk w g cs t) (i : Nat) (u : Value) {cs' : Array Value} (e : cs.setIfInBounds i u = cs') : Blk (w.setCell ⟨g, i, none⟩ u) g cs' t := by
  subst e
  unfold Blk at *
  simp [World.setCell, Array.getElem?_modify, h]
theorem Blk.far (h : Blk w g cs t) {p : Addr} (hp : g ≠ p.block) (u : Value) : Blk (w.setCell p u) g cs t := (Below.heap_setCell w p u g hp).trans h
theorem Blk.drew (h : Blk w g cs t) : Blk w.drew g cs t := h
end
/-- the cells of a head. -/
def hcells (src dst off cc cs sum typ : Nat) (x : Bool) (seq ack serv code i0 i1 i2 : Nat) : Array Value := #[.int .i64 src, .int .i64 dst, .int .i64 off, .int .i64 cc, .int .i64 cs, .int .i64 sum, .int .i64 typ, .bool x, .int .u64 seq, .int .u64 ack, .int .u32 serv, .int .i64 code, .int .u8 i0, .int .u8 i1, .int .u8 i2]
theorem Blk.head {w : World} {g : Nat} {t : TypeId} {src dst off cc cs sum typ : Nat} {x : Bool} {seq ack serv code i0 i1 i2 : Nat} (h : Blk w g (hcells src dst off cc cs sum typ x seq ack serv code i0 i1 i2) t) :
    w.cell? ⟨g, 0, none⟩ = some (.int .i64 src) ∧ w.cell? ⟨g, 1, none⟩ = some (.int .i64 dst) ∧ w.cell? ⟨g, 2, none⟩ = some (.int .i64 off) ∧ w.cell? ⟨g, 3, none⟩ = some (.int .i64 cc) ∧ w.cell? ⟨g, 4, none⟩ = some (.int .i64 cs) ∧ w.cell? ⟨g, 5, none⟩ = some (.int .i64 sum) ∧ w.cell? ⟨g, 6, none⟩ = some (.int .i64 typ) ∧ w.cell? ⟨g, 7, none⟩ = some (.bool x) ∧ w.cell? ⟨g, 8, none⟩ = some (.int .u64 seq) ∧ w.cell? ⟨g, 9, none⟩ = some (.int .u64 ack) ∧ w.cell? ⟨g, 10, none⟩ = some (.int .u32 serv) ∧ w.cell? ⟨g, 11, none⟩ = some (.int .i64 code) ∧ w.cell? ⟨g, 12, none⟩ = some (.int .u8 i0) ∧ w.cell? ⟨g, 13, none⟩ = some (.int .u8 i1) ∧ w.cell? ⟨g, 14, none⟩ = some (.int .u8 i2) :=
  ⟨h.cell rfl, h.cell rfl, h.cell rfl, h.cell rfl, h.cell rfl, h.cell rfl, h.cell rfl, h.cell rfl, h.cell rfl, h.cell rfl, h.cell rfl, h.cell rfl, h.cell rfl, h.cell rfl, h.cell rfl⟩
end Go.Proofs.YtjlnbahanghhcaaGreatDoor

/- The contract of pkt.Put at a packet that may be. -/
namespace Go.Proofs.YtjlnbahanghhcaaGreatDoor
open Go.RowKit
set_option linter.unusedVariables false
set_option linter.unusedSimpArgs false
theorem hb_len (src dst off cc cs sum typ : Nat) (x : Bool) (seq ack serv code i0 i1 i2 z : Nat) (ht : typ ≤ 9) (hz : sizeB typ x = ((4 * z : Nat) : Int)) (h0 : z ≠ 0) :
    (strOfNums (hb1 src dst off cc cs sum ++ hb2 typ x seq ++ hb3 typ x ack ++ hb4 typ serv code i0 i1 i2)).size = 4 * z := by
  rw [strOfNums_size]
  have h : typ = 0 ∨ typ = 1 ∨ typ = 2 ∨ typ = 3 ∨ typ = 4 ∨ typ = 5 ∨ typ = 6 ∨ typ = 7 ∨ typ = 8 ∨ typ = 9 := by omega
  rcases h with rfl | rfl | rfl | rfl | rfl | rfl | rfl | rfl | rfl | rfl <;> cases x <;> simp [hb1, hb2, hb3, hb4, be_len, ackB, servB, sizeB, isB, shortB] at hz ⊢ <;> omega
set_option maxHeartbeats 3200000 in
set_option maxRecDepth 100000 in
theorem pkt_Put (src dst : Nat) (off : Int) (cc cs : Nat) (sum : Int) (typ : Nat) (x : Bool) (seq ack serv code i0 i1 i2 z q n S : Nat) (A : Option Addr) (cap B : Nat) (os : List Op) (data : ByteArray) (w : World)
    (hA : CellsAt w B A (ocells os)) (hB : B ≤ w.heap.size) (hl : (obs os).length ≤ 1020) (hn : os.length ≤ 140737488355328)
    (hz : sizeB typ x = ((4 * z : Nat) : Int)) (hz0 : z ≠ 0) (hm : ∀ o s, z ≤ o → o ≤ 255 → s ≤ 65535 → mayB ⟨src, dst, (o : Nat), cc, cs, (s : Nat), typ, x, seq, ack, serv, code, i0, i1, i2⟩ = true)
    (ho : os.all mayO = true) (hq : 4 * z + (pad4 (obs os)).length = 4 * q) (hq1 : q ≤ 255) (hd : data.size ≤ 1400) (hd2 : 4 * q + data.size ≤ 2500)
    (hc : covB ((4 * q + data.size : Nat) : Int) ((4 * q : Nat) : Int) cs = true) (hcn : covN ((4 * q + data.size : Nat) : Int) ((4 * q : Nat) : Int) cs = (n : Int))
    (hS : S = Sum.sum (joined [(strOfNums (hb1 src dst q cc cs 0 ++ hb2 typ x seq ++ hb3 typ x ack ++ hb4 typ serv code i0 i1 i2) ++ strOfNums (putO os) ++ data).extract 0 n]))
    (b1 : src ≤ 65535) (b2 : dst ≤ 65535) (b4 : cc ≤ 15) (b5 : cs ≤ 15) (b7 : typ ≤ 9) (b8 : seq < 281474976710656) (b9 : ack < 281474976710656) (b10 : serv ≤ 4294967295) (b11 : code ≤ 255) (b12 : i0 ≤ 255) (b13 : i1 ≤ 255) (b14 : i2 ≤ 255) :
    Calls Tryz.prog 13 #[.agg #[.int .i64 src, .int .i64 dst, .int .i64 off, .int .i64 cc, .int .i64 cs, .int .i64 sum, .int .i64 typ, .bool x, .int .u64 seq, .int .u64 ack, .int .u32 serv, .int .i64 code, .int .u8 i0, .int .u8 i1, .int .u8 i2, .slice A os.length cap, .string data]] w fun e w' => e = .returned (.tuple #[.string (strOfNums (hb1 src dst q cc cs S ++ hb2 typ x seq ++ hb3 typ x ack ++ hb4 typ serv code i0 i1 i2) ++ strOfNums (putO os) ++ data), .int .i64 0]) ∧ Below w.heap.size w w' := by
  have cS := fun W => head_Size (typ : Int) x W
  rw [hz] at cS
  have CS := hide cS
  replace hS := hide hS
  have HA := hide hA; have HZ := hide hz; have HM := hide hm; have HO := hide ho; have HQ := hide hq; have HC := hide hc; have HN := hide hcn; have HL := hide hl
  clear cS hA hz hm ho hq hc hcn hl
  go_enter Tryz.func13, Tryz.ntmps13
  go_wp2_with (first | (go_at_call 43; refine (CS.out _).mono ?_; rintro e w' ⟨rfl, rfl⟩))
  have bp0 := Blk.new w #[.int .i64 src, .int .i64 dst, .int .i64 off, .int .i64 cc, .int .i64 cs, .int .i64 sum, .int .i64 typ, .bool x, .int .u64 seq, .int .u64 ack, .int .u32 serv, .int .i64 code, .int .u8 i0, .int .u8 i1, .int .u8 i2, .slice A os.length cap, .string data] 29
  have bp1 := bp0.alloc (.cells #[.int .i64 src, .int .i64 dst, .int .i64 off, .int .i64 cc, .int .i64 cs, .int .i64 sum, .int .i64 typ, .bool x, .int .u64 seq, .int .u64 ack, .int .u32 serv, .int .i64 code, .int .u8 i0, .int .u8 i1, .int .u8 i2] 26)
  have bh1 := Blk.new (w.alloc (.cells #[.int .i64 src, .int .i64 dst, .int .i64 off, .int .i64 cc, .int .i64 cs, .int .i64 sum, .int .i64 typ, .bool x, .int .u64 seq, .int .u64 ack, .int .u32 serv, .int .i64 code, .int .u8 i0, .int .u8 i1, .int .u8 i2, .slice A os.length cap, .string data] 29)) #[.int .i64 src, .int .i64 dst, .int .i64 off, .int .i64 cc, .int .i64 cs, .int .i64 sum, .int .i64 typ, .bool x, .int .u64 seq, .int .u64 ack, .int .u32 serv, .int .i64 code, .int .u8 i0, .int .u8 i1, .int .u8 i2] 26
  have hA1 := (HA.out.alloc hB (.cells #[.int .i64 src, .int .i64 dst, .int .i64 off, .int .i64 cc, .int .i64 cs, .int .i64 sum, .int .i64 typ, .bool x, .int .u64 seq, .int .u64 ack, .int .u32 serv, .int .i64 code, .int .u8 i0, .int .u8 i1, .int .u8 i2, .slice A os.length cap, .string data] 29)).alloc (by simp; omega) (.cells #[.int .i64 src, .int .i64 dst, .int .i64 off, .int .i64 cc, .int .i64 cs, .int .i64 sum, .int .i64 typ, .bool x, .int .u64 seq, .int .u64 ack, .int .u32 serv, .int .i64 code, .int .u8 i0, .int .u8 i1, .int .u8 i2] 26)
  have hw1 : Below w.heap.size w ((w.alloc (.cells #[.int .i64 src, .int .i64 dst, .int .i64 off, .int .i64 cc, .int .i64 cs, .int .i64 sum, .int .i64 typ, .bool x, .int .u64 seq, .int .u64 ack, .int .u32 serv, .int .i64 code, .int .u8 i0, .int .u8 i1, .int .u8 i2, .slice A os.length cap, .string data] 29)).alloc (.cells #[.int .i64 src, .int .i64 dst, .int .i64 off, .int .i64 cc, .int .i64 cs, .int .i64 sum, .int .i64 typ, .bool x, .int .u64 seq, .int .u64 ack, .int .u32 serv, .int .i64 code, .int .u8 i0, .int .u8 i1, .int .u8 i2] 26)) := ((Below.refl _ _).alloc (Nat.le_refl _) _).alloc (by simp) _
  have hs1 : ((w.alloc (.cells #[.int .i64 src, .int .i64 dst, .int .i64 off, .int .i64 cc, .int .i64 cs, .int .i64 sum, .int .i64 typ, .bool x, .int .u64 seq, .int .u64 ack, .int .u32 serv, .int .i64 code, .int .u8 i0, .int .u8 i1, .int .u8 i2, .slice A os.length cap, .string data] 29)).alloc (.cells #[.int .i64 src, .int .i64 dst, .int .i64 off, .int .i64 cc, .int .i64 cs, .int .i64 sum, .int .i64 typ, .bool x, .int .u64 seq, .int .u64 ack, .int .u32 serv, .int .i64 code, .int .u8 i0, .int .u8 i1, .int .u8 i2] 26)).heap.size = w.heap.size + 2 := by simp
  rw [World.size_alloc] at bh1
  generalize (w.alloc (.cells #[.int .i64 src, .int .i64 dst, .int .i64 off, .int .i64 cc, .int .i64 cs, .int .i64 sum, .int .i64 typ, .bool x, .int .u64 seq, .int .u64 ack, .int .u32 serv, .int .i64 code, .int .u8 i0, .int .u8 i1, .int .u8 i2, .slice A os.length cap, .string data] 29)).alloc (.cells #[.int .i64 src, .int .i64 dst, .int .i64 off, .int .i64 cc, .int .i64 cs, .int .i64 sum, .int .i64 typ, .bool x, .int .u64 seq, .int .u64 ack, .int .u32 serv, .int .i64 code, .int .u8 i0, .int .u8 i1, .int .u8 i2] 26) = w1 at bp1 bh1 hA1 hw1 hs1 ⊢
  clear bp0
  refine (opt_Put A cap B os w1 hA1 (by omega) (by have := HL.out; omega) hn).mono ?_
  rintro e w2 ⟨rfl, hb2⟩
  rw [hs1] at hb2
  replace bp1 := bp1.below hb2 (by omega)
  replace bh1 := bh1.below hb2 (by omega)
  replace hA1 : CellsAt w2 B A (ocells os) := hA1.keep (fun p hp => hb2.cell (by omega))
  replace hw1 := hw1.trans (hb2.mono (by omega))
  have hs2 : w.heap.size + 2 ≤ w2.heap.size := by have := hb2.size; omega
  clear hb2 hs1
  have hts : (strOfNums (putO os)).size + 4 * z = 4 * q := by rw [strOfNums_size, show putO os = pad4 (obs os) from by unfold putO; rw [HO.out]; rfl]; have := HQ.out; omega
  generalize hT : strOfNums (putO os) = T at hts
  replace hT := hide hT
  have hz255 : z ≤ 255 := by omega
  have p2 : w2.cell? ⟨w.heap.size, 16, none⟩ = some (.string data) := bp1.cell rfl
  have p15 : w2.cell? ⟨w.heap.size, 15, none⟩ = some (.slice A os.length cap) := bp1.cell rfl
  have g0 : w2.cell? ⟨w.heap.size + 1, 0, none⟩ = some (.int .i64 src) := bh1.cell rfl
  have g1 : w2.cell? ⟨w.heap.size + 1, 1, none⟩ = some (.int .i64 dst) := bh1.cell rfl
  have g2 : w2.cell? ⟨w.heap.size + 1, 2, none⟩ = some (.int .i64 off) := bh1.cell rfl
  have g3 : w2.cell? ⟨w.heap.size + 1, 3, none⟩ = some (.int .i64 cc) := bh1.cell rfl
  have g4 : w2.cell? ⟨w.heap.size + 1, 4, none⟩ = some (.int .i64 cs) := bh1.cell rfl
  have g5 : w2.cell? ⟨w.heap.size + 1, 5, none⟩ = some (.int .i64 sum) := bh1.cell rfl
  have g6 : w2.cell? ⟨w.heap.size + 1, 6, none⟩ = some (.int .i64 typ) := bh1.cell rfl
  have g7 : w2.cell? ⟨w.heap.size + 1, 7, none⟩ = some (.bool x) := bh1.cell rfl
  have g8 : w2.cell? ⟨w.heap.size + 1, 8, none⟩ = some (.int .u64 seq) := bh1.cell rfl
  have g9 : w2.cell? ⟨w.heap.size + 1, 9, none⟩ = some (.int .u64 ack) := bh1.cell rfl
  have g10 : w2.cell? ⟨w.heap.size + 1, 10, none⟩ = some (.int .u32 serv) := bh1.cell rfl
  have g11 : w2.cell? ⟨w.heap.size + 1, 11, none⟩ = some (.int .i64 code) := bh1.cell rfl
  have g12 : w2.cell? ⟨w.heap.size + 1, 12, none⟩ = some (.int .u8 i0) := bh1.cell rfl
  have g13 : w2.cell? ⟨w.heap.size + 1, 13, none⟩ = some (.int .u8 i1) := bh1.cell rfl
  have g14 : w2.cell? ⟨w.heap.size + 1, 14, none⟩ = some (.int .u8 i2) := bh1.cell rfl
  have r2 := bh1.frozen 2
  have r5 := bh1.frozen 5
  have BH := hide bh1; have BP := hide bp1; have HA1 := hide hA1
  clear bh1 bp1 hA1
  go_wp2_with fail
  have hm0 : mayB ⟨src, dst, z, cc, cs, 0, typ, x, seq, ack, serv, code, i0, i1, i2⟩ = true := by simpa using HM.out z 0 (Nat.le_refl _) hz255 (by omega)
  have cm := head_May ⟨src, dst, z, cc, cs, 0, typ, x, seq, ack, serv, code, i0, i1, i2⟩
  rw [hm0, Hd.val_mk] at cm
  have bh3 : Blk ((w2.setCell ⟨w.heap.size + 1, 2, none⟩ (.int .i64 z)).setCell ⟨w.heap.size + 1, 5, none⟩ (.int .i64 0)) (w.heap.size + 1) #[.int .i64 src, .int .i64 dst, .int .i64 z, .int .i64 cc, .int .i64 cs, .int .i64 0, .int .i64 typ, .bool x, .int .u64 seq, .int .u64 ack, .int .u32 serv, .int .i64 code, .int .u8 i0, .int .u8 i1, .int .u8 i2] 26 := (BH.out.set 2 (.int .i64 z) rfl).set 5 (.int .i64 0) rfl
  have bp3 := (BP.out.far (p := ⟨w.heap.size + 1, 2, none⟩) (by simp) (.int .i64 z)).far (p := ⟨w.heap.size + 1, 5, none⟩) (by simp) (.int .i64 0)
  have hA3 : CellsAt ((w2.setCell ⟨w.heap.size + 1, 2, none⟩ (.int .i64 z)).setCell ⟨w.heap.size + 1, 5, none⟩ (.int .i64 0)) B A (ocells os) := HA1.out.keep (fun p hp => World.cell?_of_block ((Below.heap_setCell _ _ _ _ (by simp; omega)).trans (Below.heap_setCell _ _ _ _ (by simp; omega))))
  have hw3 : Below w.heap.size w ((w2.setCell ⟨w.heap.size + 1, 2, none⟩ (.int .i64 z)).setCell ⟨w.heap.size + 1, 5, none⟩ (.int .i64 0)) := (hw1.setCell (by simp) _).setCell (by simp) _
  have hs3 : w.heap.size + 2 ≤ ((w2.setCell ⟨w.heap.size + 1, 2, none⟩ (.int .i64 z)).setCell ⟨w.heap.size + 1, 5, none⟩ (.int .i64 0)).heap.size := by simpa using hs2
  generalize (w2.setCell ⟨w.heap.size + 1, 2, none⟩ (.int .i64 z)).setCell ⟨w.heap.size + 1, 5, none⟩ (.int .i64 0) = w3 at bh3 bp3 hA3 hw3 hs3 ⊢
  clear BH BP HA1 hw1 hs2 p2 p15 g0 g1 g2 g3 g4 g5 g6 g7 g8 g9 g10 g11 g12 g13 g14 r2 r5 hm0
  refine (cm _).mono ?_
  rintro e w4 ⟨rfl, hb⟩
  clear cm
  replace bp3 := bp3.below hb (by omega)
  replace bh3 := bh3.below hb (by omega)
  replace hA3 : CellsAt w4 B A (ocells os) := hA3.keep (fun p hp => hb.cell (by omega))
  replace hw3 := hw3.trans (hb.mono (by omega))
  replace hs3 : w.heap.size + 2 ≤ w4.heap.size := by have := hb.size; omega
  clear hb
  have p15 : w4.cell? ⟨w.heap.size, 15, none⟩ = some (.slice A os.length cap) := bp3.cell rfl
  have cf := contains_func A cap B os w4 hA3 (by omega) hn
  rw [HO.out] at cf
  unfold put1 at cf
  replace cf := hide cf
  have BH := hide bh3; have BP := hide bp3; have HA3 := hide hA3
  clear bh3 bp3 hA3
  go_wp2_with fail
  refine cf.out.mono ?_
  rintro e w5 ⟨rfl, hb⟩
  have bp5 := BP.out.below hb (by omega)
  have bh5 := BH.out.below hb (by omega)
  replace hw3 := hw3.trans (hb.mono (by omega))
  replace hs3 : w.heap.size + 2 ≤ w5.heap.size := by have := hb.size; omega
  clear hb cf BP BH HA3 p15
  have p16 : w5.cell? ⟨w.heap.size, 16, none⟩ = some (.string data) := bp5.cell rfl
  have g4 : w5.cell? ⟨w.heap.size + 1, 4, none⟩ = some (.int .i64 cs) := bh5.cell rfl
  have g2 : w5.cell? ⟨w.heap.size + 1, 2, none⟩ = some (.int .i64 z) := bh5.cell rfl
  have r2 := bh5.frozen 2
  have tt : ((4 * z : Int) + T.size) = 4 * q := by omega
  have cc' := fun W => sum_Covered ((4 * q + data.size : Nat) : Int) ((4 * q : Nat) : Int) cs W (by omega)
  rw [HC.out, HN.out] at cc'
  push_cast at cc'
  have CC := hide cc'
  clear cc'
  have BH := hide bh5; have BP := hide bp5
  clear bh5 bp5
  go_wp2_with fail
  refine (CC.out _).mono ?_
  rintro e w' ⟨rfl, rfl⟩
  go_upto_region 16 with fail
  have bh6 : Blk (w5.setCell ⟨w.heap.size + 1, 2, none⟩ (.int .i64 q)) (w.heap.size + 1) #[.int .i64 src, .int .i64 dst, .int .i64 q, .int .i64 cc, .int .i64 cs, .int .i64 0, .int .i64 typ, .bool x, .int .u64 seq, .int .u64 ack, .int .u32 serv, .int .i64 code, .int .u8 i0, .int .u8 i1, .int .u8 i2] 26 := BH.out.set 2 (.int .i64 q) rfl
  have bp6 := BP.out.far (p := ⟨w.heap.size + 1, 2, none⟩) (by simp) (.int .i64 q)
  have hw6 : Below w.heap.size w (w5.setCell ⟨w.heap.size + 1, 2, none⟩ (.int .i64 q)) := hw3.setCell (by simp) _
  have hs6 : w.heap.size + 2 ≤ (w5.setCell ⟨w.heap.size + 1, 2, none⟩ (.int .i64 q)).heap.size := by simpa using hs3
  generalize w5.setCell ⟨w.heap.size + 1, 2, none⟩ (.int .i64 q) = w6 at bh6 bp6 hw6 hs6 ⊢
  clear BH BP hw3 hs3 g4 g2 p16 r2 CC
  have BH := hide bh6; have BP := hide bp6
  have hzq : z ≤ q := by omega
  have mq := fun s => HM.out q s hzq hq1
  go_cut [] (fun wx => Blk wx (w.heap.size + 1) #[.int .i64 src, .int .i64 dst, .int .i64 q, .int .i64 cc, .int .i64 cs, .int .i64 (S : Nat), .int .i64 typ, .bool x, .int .u64 seq, .int .u64 ack, .int .u32 serv, .int .i64 code, .int .u8 i0, .int .u8 i1, .int .u8 i2] 26 ∧ Blk wx w.heap.size #[.int .i64 src, .int .i64 dst, .int .i64 off, .int .i64 cc, .int .i64 cs, .int .i64 sum, .int .i64 typ, .bool x, .int .u64 seq, .int .u64 ack, .int .u32 serv, .int .i64 code, .int .u8 i0, .int .u8 i1, .int .u8 i2, .slice A os.length cap, .string data] 29 ∧ Below w.heap.size w wx)
  case first =>
    obtain ⟨g0, g1, g2, g3, g4, g5, g6, g7, g8, g9, g10, g11, g12, g13, g14⟩ := Blk.head bh6
    have p16 : w6.cell? ⟨w.heap.size, 16, none⟩ = some (.string data) := bp6.cell rfl
    have r5 := bh6.frozen 5
    clear bh6 bp6
    have P0 := hide (fun W => head_Put src dst q cc cs 0 typ x seq ack serv code i0 i1 i2 W (mq 0 (by omega)) b1 b2 hq1 b4 b5 (by omega) b7 b8 b9 b10 b11 b12 b13 b14)
    generalize hT0 : strOfNums (hb1 src dst q cc cs 0 ++ hb2 typ x seq ++ hb3 typ x ack ++ hb4 typ serv code i0 i1 i2) = h0 at P0
    have hs0 : h0.size = 4 * z := by rw [← hT0]; exact hb_len _ _ _ _ _ _ _ _ _ _ _ _ _ _ _ z b7 HZ.out hz0
    have hnn : n ≤ 4 * q + data.size := by have h := HC.out; unfold covB at h; have h := of_decide_eq_true h; have := HN.out; omega
    have s1 : ¬ 9223372036854775807 < h0.size + T.size := by omega
    have s2 : ¬ 9223372036854775807 < h0.size + T.size + data.size := by omega
    have s3 : (n : Int) ≤ (h0.size : Int) + T.size + data.size := by omega
    have hel : ((h0 ++ T ++ data).extract 0 n).size ≤ 140737488355328 := by rw [ByteArray.size_extract, ByteArray.size_append, ByteArray.size_append]; omega
    replace hs0 := hide hs0
    have hSS : Hid (Sum.sum (joined [(h0 ++ T ++ data).extract 0 n]) = S) := hide (by rw [hS.out, hT0, hT.out])
    generalize he : (h0 ++ T ++ data).extract 0 n = e0 at hSS hel
    have SO := hide (fun W : World => sum_Of (some ⟨W.heap.size, 0, none⟩) 1 (W.heap.size + 1) [e0] (W.alloc (.cells #[.string e0] 9)) (cells_new W [.string e0] 9) (by simpa [joined, size_bytes] using hel) (by simp))
    rw [hSS.out] at SO
    replace hT0 := hide hT0
    go_region_law (first | (go_simp; go_at_call 50; refine (P0.out _).mono ?_; rintro e w' ⟨rfl, hb'⟩; have p16' : w'.cell? ⟨w.heap.size, 16, none⟩ = some (.string data) := (hb'.cell (by simp; omega)).trans p16; have hlt' : w.heap.size + 1 < w'.heap.size := (by have := hb'.size; simp at this; omega); have r5' : w'.frozen? ⟨w.heap.size + 1, 5, none⟩ = false := (hb'.frozen (by simp; omega)).trans r5; have g5' : w'.cell? ⟨w.heap.size + 1, 5, none⟩ = some (.int .i64 0) := (hb'.cell (by simp; omega)).trans g5) | (go_simp; go_at_call 26; refine (SO.out _).mono ?_; rintro e w'' ⟨rfl, rfl⟩))
    all_goals (go_wp2_with fail; go_meet; have hsd : w6.drew.heap.size = w6.heap.size := rfl; exact ⟨((BH.out.drew.below hb' (by omega)).set 5 (.int .i64 S) rfl).alloc _, ((BP.out.drew.below hb' (by omega)).far (p := ⟨w.heap.size + 1, 5, none⟩) (by simp) (.int .i64 S)).alloc _, (((hw6.drew.trans (hb'.mono (by omega))).setCell (p := ⟨w.heap.size + 1, 5, none⟩) (by simp) (.int .i64 S)).alloc (by simp; omega) _)⟩)
  case rest =>
    obtain ⟨bh7, bp7, hw7⟩ := hcut
    have hs7 := hw7.size
    obtain ⟨g0, g1, g2, g3, g4, g5, g6, g7, g8, g9, g10, g11, g12, g13, g14⟩ := Blk.head bh7
    have p16 : wc.cell? ⟨w.heap.size, 16, none⟩ = some (.string data) := bp7.cell rfl
    have hSle : S ≤ 65535 := by rw [hS.out]; exact Sum.sum_le _
    have P1 := hide (fun W => head_Put src dst q cc cs S typ x seq ack serv code i0 i1 i2 W (mq S hSle) b1 b2 hq1 b4 b5 hSle b7 b8 b9 b10 b11 b12 b13 b14)
    generalize hT1 : strOfNums (hb1 src dst q cc cs S ++ hb2 typ x seq ++ hb3 typ x ack ++ hb4 typ serv code i0 i1 i2) = h1 at P1
    have hs1 : h1.size ≤ 1020 := by rw [← hT1, hb_len _ _ _ _ _ _ _ _ _ _ _ _ _ _ _ z b7 HZ.out hz0]; omega
    have s1 : ¬ 9223372036854775807 < h1.size + T.size := by omega
    have s2 : ¬ 9223372036854775807 < h1.size + T.size + data.size := by omega
    replace hs1 := hide hs1
    replace hT1 := hide hT1
    have hs8 := bh7.lt
    clear bh7 bp7
    go_upto_region 17 with fail
    go_region_law (first | (go_simp; go_at_call 50; refine (P1.out _).mono ?_; rintro e w' ⟨rfl, hb'⟩; have p16' : w'.cell? ⟨w.heap.size, 16, none⟩ = some (.string data) := (hb'.cell (by simp; omega)).trans p16))
    all_goals (go_wp2_with fail; go_ret2; exact ⟨by rw [hT.out, hT1.out]; rfl, hw7.drew.trans (hb'.mono hs7)⟩)
end Go.Proofs.YtjlnbahanghhcaaGreatDoor

/- The contract of head.number: bytes as a number, the highest first. -/
namespace Go.Proofs.YtjlnbahanghhcaaGreatDoor
open Go.RowKit
set_option linter.unusedVariables false
set_option linter.unusedSimpArgs false

/-- bytes as a number, the highest first. -/
def num (l : List UInt8) : Nat := l.foldl (fun n b => n * 256 + b.toNat) 0
theorem num_snoc (l : List UInt8) (c : UInt8) : num (l ++ [c]) = num l * 256 + c.toNat := by unfold num; rw [List.foldl_append]; rfl
theorem num_from (l : List UInt8) : ∀ a, l.foldl (fun n b => n * 256 + b.toNat) a < (a + 1) * 256 ^ l.length := by
  induction l with
  | nil => intro a; simp
  | cons c l ih =>
    intro a
    have h := ih (a * 256 + c.toNat)
    have hc := c.toNat_lt
    have h2 : (a * 256 + c.toNat + 1) * 256 ^ l.length ≤ (a + 1) * 256 * 256 ^ l.length := Nat.mul_le_mul_right _ (by omega)
    rw [List.foldl_cons, List.length_cons, Nat.pow_succ, Nat.mul_comm (256 ^ _) 256, ← Nat.mul_assoc]
    omega
theorem num_lt (l : List UInt8) : num l < 256 ^ l.length := by have := num_from l 0; simpa [num] using this
theorem or_byte64 (n b : Nat) (hn : n < 72057594037927936) (hb : b < 256) : bits .or .u64 ((n : Int) * 256) (b : Int) = ((n * 256 + b : Nat) : Int) := by
  rw [show ((n : Int) * 256) = ((n * 256 : Nat) : Int) from by omega, u64_or_nat _ _ (by omega) (by omega)]
  have h := Nat.shiftLeft_add_eq_or_of_lt (i := 8) (b := b) (by omega) n
  rw [Nat.shiftLeft_eq] at h
  rw [← h]
theorem take_byte (s : ByteArray) (k : Nat) (h : k < s.size) : s.data.toList.take (k + 1) = s.data.toList.take k ++ [s[k]] := by
  rw [List.take_succ_eq_append_getElem (by rw [Array.length_toList]; exact h)]; rfl
theorem pow_256 (i k : Nat) (h : i ≤ k) : 256 ^ i ≤ 256 ^ k := Nat.pow_le_pow_right (by decide) h
set_option maxHeartbeats 1000000 in
set_option maxRecDepth 1000000 in
theorem head_number (s : ByteArray) (hs : s.size ≤ 8) (w : World) : Calls Tryz.prog 83 #[.string s] w fun e w' => e = .returned (.int .u64 (num s.data.toList : Nat)) ∧ w = w' := by
  have hl : s.data.toList.length = s.size := by rw [Array.length_toList]; rfl
  replace hl := hide hl
  go_enter Tryz.func83, Tryz.ntmps83
  go_wp2
  go_loop [3, 7] (fun u x => ∃ i m : Nat, i ≤ s.size ∧ x = .int .i64 i ∧ u = .int .u64 m ∧ Hid (m = num (s.data.toList.take i))) (fun _ x => s.size - (intOf x).toNat)
  case atStart => exact ⟨0, 0, by omega, rfl, rfl, hide (by simp [num])⟩
  case round =>
    obtain ⟨i, m, hi, rfl, rfl, H⟩ := hrel
    by_cases h : i < s.size
    · have hm : m < 72057594037927936 := by
        rw [H.out]
        refine Nat.lt_of_lt_of_le (num_lt _) (Nat.le_trans (pow_256 _ 7 ?_) (by decide))
        rw [List.length_take, hl.out]; omega
      have h256 := s[i].toNat_lt
      have eo := or_byte64 m s[i].toNat hm h256
      have hsn := hide (take_byte s i h)
      go_wp2
      go_round
      case rel => exact ⟨i + 1, m * 256 + s[i].toNat, by omega, by go_num, by go_num, hide (by rw [hsn.out, num_snoc, ← H.out])⟩
      case measure => simp [intOf]; omega
    · have HM : Hid (m = num s.data.toList) := hide (by rw [H.out, List.take_of_length_le (by rw [hl.out]; omega)])
      go_wp2
      go_ret
      exact ⟨ret_int (by rw [HM.out]), rfl⟩
end Go.Proofs.YtjlnbahanghhcaaGreatDoor
