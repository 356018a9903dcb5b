/- Part.put: a part's octets, behind those that there are: its contract. -/
import Derived.Test.YtdodfelbejkbiaaDoorGet
import Derived.Lib.AppendStr
namespace Go.Proofs.YtdodfelbejkbiaaDoor.K
open Go Go.RowKit Go.Shelf Go.Proofs.YtdodfelbejkbiaaDoorW.PrintWords Go.Proofs.YtdodfelbejkbiaaDoorW.PrintLast Go.Proofs.YtdodfelbejkbiaaDoorW.PrintMore

/-- a number's octet at place i, of eight -/
def octet (M i : Nat) : UInt8 := UInt8.ofNat (M / 256 ^ (7 - i) % 256)
def octets (M : Nat) : Nat → List UInt8
  | 0 => []
  | k + 1 => octets M k ++ [octet M k]
/-- a row of octets that the call owns -/
def OwnB (B : Nat) (v : Value) (l : List UInt8) (w : World) : Prop := w.ownsRow B 5 1 v (Lib.byteCells l).length (Lib.byteCells l)
/-- what a call hands back: the row, longer -/
def PutPost (B : Nat) (l : List UInt8) (w : World) (e : Ending) (w' : World) : Prop :=
  ∃ v, e = .returned v ∧ OwnB B v l w' ∧ Below B w w'
theorem own_slice {w : World} {B n : Nat} {v : Value} {xs : List Value} (h : w.ownsRow B 5 1 v n xs) : ∃ ao c, v = .slice ao n c := by
  rcases h.2 with ⟨rfl, rfl⟩ | ⟨g, cap, _, rfl, _⟩
  · exact ⟨none, 0, rfl⟩
  · exact ⟨_, _, rfl⟩
theorem ownB_slice {w : World} {B : Nat} {v : Value} {l : List UInt8} (h : OwnB B v l w) : ∃ ao c, v = .slice ao (Lib.byteCells l).length c := own_slice h
theorem cells_snoc (l : List UInt8) (c : UInt8) : Lib.byteCells l ++ [.int .u8 (c.toNat : Int)] = Lib.byteCells (l ++ [c]) := by simp [Lib.byteCells]
theorem cells_more (l m : List UInt8) : Lib.byteCells l ++ Lib.byteCells m = Lib.byteCells (l ++ m) := by simp [Lib.byteCells]
theorem octet_cell (M i s : Nat) (h : 256 ^ (7 - i) = s) : ((M : Int) / (s : Int)) % 256 = ((octet M i).toNat : Int) := by
  unfold octet
  rw [h, UInt8.toNat_ofNat']
  omega
theorem own_ne {w : World} {B g : Nat} {v : Value} {l : List UInt8} {cs : Array Value} (h : OwnB B v l w) (hg : w.heap[g]? = some (.cells cs 44 (0, 0))) : v.ownBlock ≠ some g := by
  rcases h.2 with ⟨rfl, _⟩ | ⟨g', cap, cur, rfl, _, hh, _⟩
  · simp [Value.ownBlock]
  · intro he
    have e : g' = g := by simpa [Value.ownBlock] using he
    subst e
    rw [hg] at hh
    injection hh with hh
    injection hh with _ ht
    exact absurd ht (by decide)
section
variable {P : Program}
/-- one octet more -/
theorem wp_octet {ops : Array Oper} {rest : List Oper} {o : Oper} {a : Act} {Q : Exit → Act → World → Prop} {w0 W : World} (B : Nat) (hgd : o.guard = none) (s x : Operand)
    (ho : o.op = .call { callee := .builtin .append, args := #[s, x], argTypes := #[51, 51] }) (h51 : P.underlying 51 = some (.slice 5)) (h5 : (P.info? 5).map (fun i => (i.zero, i.size, i.bytes)) = some (some (.int .u8 0), 1, 1))
    (v : Value) (l : List UInt8) (c : Int) (b : UInt8) (hc : c = (b.toNat : Int)) (hs : a.eval s = v) (g : Nat) (hg : W.heap.size = g) (hx : a.eval x = .slice (some ⟨g, 0, none⟩) 1 1)
    (HO : OwnB B v l W) (HB : Below B w0 W) (hbase : B ≤ W.heap.size) (hl : l.length + 1 ≤ 140737488355328)
    (h : ∀ v1 w1, OwnB B v1 (l ++ [b]) w1 → Below B w0 w1 → B ≤ w1.heap.size → (∀ (g : Nat) (cs : Array Value), W.heap[g]? = some (Obj.cells cs 44 (0, 0)) → w1.heap[g]? = some (Obj.cells cs 44 (0, 0))) → wpList P ops Q rest (a.put o.dst v1) w1) :
    wpList P ops Q (o :: rest) a (W.alloc (.cells #[.int .u8 c] 5)) := by
  subst hc
  subst hg
  refine print_append B hgd s x 51 5 (.int .u8 0) 1 ho h51 h5 rfl (by decide) v (Lib.byteCells l) (.int .u8 (b.toNat : Int)) hs hx rfl HO HB hbase (by rw [Lib.byteCells_length]; omega) ?_
  intro v1 w1 h1 h2 h3 _
  rw [cells_snoc] at h1
  exact h v1 w1 h1 h2 (Nat.le_trans hbase h3.size) (fun g cs hg => (h3.block g (blk_lt hg) (fun e => own_ne HO hg e.symm)).trans hg)
/-- two octets more -/
theorem wp_two {ops : Array Oper} {rest : List Oper} {o : Oper} {a : Act} {Q : Exit → Act → World → Prop} {w0 W : World} (B : Nat) (hgd : o.guard = none) (s x : Operand)
    (ho : o.op = .call { callee := .builtin .append, args := #[s, x], argTypes := #[51, 51] }) (h51 : P.underlying 51 = some (.slice 5)) (h5 : (P.info? 5).map (fun i => (i.zero, i.size, i.bytes)) = some (some (.int .u8 0), 1, 1))
    (v : Value) (l : List UInt8) (c d : Int) (b b' : UInt8) (hc : c = (b.toNat : Int)) (hd : d = (b'.toNat : Int)) (hs : a.eval s = v) (g : Nat) (hg : W.heap.size = g) (hx : a.eval x = .slice (some ⟨g, 0, none⟩) 2 2)
    (HO : OwnB B v l W) (HB : Below B w0 W) (hbase : B ≤ W.heap.size) (hl : l.length + 2 ≤ 140737488355328)
    (h : ∀ v1 w1, OwnB B v1 (l ++ [b, b']) w1 → Below B w0 w1 → B ≤ w1.heap.size → wpList P ops Q rest (a.put o.dst v1) w1) :
    wpList P ops Q (o :: rest) a (W.alloc (.cells #[.int .u8 c, .int .u8 d] 5)) := by
  subst hc hd hg
  obtain ⟨i0, hi, hz, hs1, hb1⟩ := info_parts h5
  have hbk := blk_new W (.cells #[.int .u8 (b.toNat : Int), .int .u8 (b'.toNat : Int)] 5)
  refine wpList_append_own _ hgd s x 51 ho B 5 i0 (.int .u8 0) 1 1 h51 hi hz hs1 hb1 rfl (by decide) v _ _ hs (own_alloc HO _) ⟨W.heap.size, 0, none⟩ 2 2 [.int .u8 (b.toNat : Int), .int .u8 (b'.toNat : Int)] hx rfl (fun j u hj => ?_) (fun u hu => by simp at hu; rcases hu with rfl | rfl <;> rfl) (by rw [Lib.byteCells_length]; unfold maxLen; omega) (by rw [Lib.byteCells_length]; omega) (by rw [World.size_alloc]; omega) ?_
  · rw [add_plain, blk_cell hbk j]
    rw [← hj]
    simp
  · intro v1 w1 h1 h2 _
    have e : Lib.byteCells l ++ [.int .u8 (b.toNat : Int), .int .u8 (b'.toNat : Int)] = Lib.byteCells (l ++ [b, b']) := by simp [Lib.byteCells]
    have e2 : (Lib.byteCells l).length + 2 = (Lib.byteCells (l ++ [b, b'])).length := by rw [Lib.byteCells_length, Lib.byteCells_length, List.length_append]; rfl
    rw [e, e2] at h1
    exact h v1 w1 h1 ((Below.alloc HB hbase _).grown h2 (by rw [World.size_alloc]; omega) (fun q hq => (HO.lt q hq).1)) (Nat.le_trans (Nat.le_trans hbase (by rw [World.size_alloc]; omega)) h2.size)
/-- a text more -/
theorem wp_text {ops : Array Oper} {rest : List Oper} {o : Oper} {a : Act} {Q : Exit → Act → World → Prop} {w0 W : World} (B : Nat) (hgd : o.guard = none) (s x : Operand)
    (ho : o.op = .call { callee := .builtin .append, args := #[s, x], argTypes := #[51, 9] }) (h51 : P.underlying 51 = some (.slice 5)) (h9 : P.underlying 9 = some .string) (h5 : (P.info? 5).map (fun i => (i.zero, i.size, i.bytes)) = some (some (.int .u8 0), 1, 1))
    (v : Value) (l : List UInt8) (t : ByteArray) (hs : a.eval s = v) (hx : a.eval x = .string t)
    (HO : OwnB B v l W) (HB : Below B w0 W) (hbase : B ≤ W.heap.size) (hl : l.length + t.size ≤ 140737488355328)
    (h : ∀ v1 w1, OwnB B v1 (l ++ t.data.toList) w1 → Below B w0 w1 → B ≤ w1.heap.size → wpList P ops Q rest (a.put o.dst v1) w1) :
    wpList P ops Q (o :: rest) a W := by
  obtain ⟨i0, hi, hz, hs1, hb1⟩ := info_parts h5
  refine Lib.wpList_append_own_string _ hgd s x 51 9 ho B 5 i0 h51 h9 hi hz hs1 hb1 v _ _ hs HO t hx (by rw [Lib.byteCells_length]; unfold maxLen; omega) (by rw [Lib.byteCells_length]; omega) hbase ?_
  intro v1 w1 h1 h2 _
  have e : (Lib.byteCells l).length + t.size = (Lib.byteCells (l ++ t.data.toList)).length := by rw [Lib.byteCells_length, Lib.byteCells_length, List.length_append, size_list]
  rw [Lib.strCells_eq, cells_more, e] at h1
  exact h v1 w1 h1 (HB.grown h2 hbase (fun q hq => (HO.lt q hq).1)) (Nat.le_trans hbase h2.size)
end
set_option maxHeartbeats 1000000 in
set_option maxRecDepth 100000 in
theorem put_num (n : Int) (t : ByteArray) (v : Value) (l : List UInt8) (B M : Nat) (w : World) (hown : Aside0 (OwnB B v l w)) (hB : B ≤ w.heap.size) (hl : l.length ≤ 70368744177664)
    (hM : Hid (Go.bits .xor .u64 (IntKind.u64.wrap n) 9223372036854775808 = (M : Int))) :
    Calls Tryd.prog 23 #[.agg #[.bool true, .int .i64 n, .string t], v] w (PutPost B (l ++ 17 :: octets M 8) w) := by
  obtain ⟨ao, cc, rfl⟩ := ownB_slice hown.out
  have hM' := hM.out
  obtain ⟨R, hR⟩ : ∃ R, R = l ++ 17 :: octets M 8 := ⟨_, rfl⟩
  rw [← hR]
  have HR := Aside0.mk hR
  clear hR
  have O1 := Aside0.mk (show OwnB B (.slice ao (Lib.byteCells l).length cc) l (w.alloc (.cells #[.bool true, .int .i64 n, .string t] 44)) from own_alloc hown.out _)
  have B1 := Aside0.mk (Below.alloc (Below.refl B w) hB (.cells #[.bool true, .int .i64 n, .string t] 44))
  go_enter Tryd.func23, Tryd.ntmps23
  go_wp2_with (at_builtin; refine wp_octet (w0 := w) B rfl (.tmp 21) (.tmp 22) rfl Tryd.underlying51 info5 _ l 17 17 rfl rfl _ (by simp) rfl O1.out B1.out (by simp; omega) (by omega) ?_; intro v2 w2 hO2 hB2 hs2 hK2; have hkk := hK2 w.heap.size _ (blk_new w (.cells #[.bool true, .int .i64 n, .string t] 44)); have hc1 : w2.cell? ⟨w.heap.size, 1, none⟩ = some (.int .i64 n) := (blk_cell hkk 1).trans rfl; clear hK2 hkk)
  have O2 := Aside0.mk hO2
  have B2 := Aside0.mk hB2
  obtain ⟨ao2, cc2, rfl⟩ := ownB_slice hO2
  clear hO2 hB2
  go_loopw [1, 6] (fun v1 v6 wr => ∃ k : Nat, k ≤ 8 ∧ v6 = .int .i64 (56 - 8 * (k : Int)) ∧ (∃ ao cv, v1 = .slice ao (Lib.byteCells (l ++ 17 :: octets M k)).length cv) ∧ Aside0 (OwnB B v1 (l ++ 17 :: octets M k) wr) ∧ Aside0 (Below B w wr) ∧ B ≤ wr.heap.size) (fun _ v6 _ => (intOf v6 + 8).toNat)
  case atStart => exact ⟨0, by decide, rfl, ⟨_, _, rfl⟩, O2, B2, hs2⟩
  case round =>
    clear hs2 hc1 O2 B2
    obtain ⟨k, hk, rfl, ⟨ao3, cc3, rfl⟩, hO, hBl, hsz⟩ := hrel
    have k' : k = 0 ∨ k = 1 ∨ k = 2 ∨ k = 3 ∨ k = 4 ∨ k = 5 ∨ k = 6 ∨ k = 7 ∨ k = 8 := by omega
    rcases k' with rfl | rfl | rfl | rfl | rfl | rfl | rfl | rfl | rfl
    · have hoc := octet_cell M 0 72057594037927936 (by decide)
      rw [show (56 : Int) - 8 * ((0 : Nat) : Int) = 56 by decide]
      go_wp2_with (at_builtin; refine wp_octet (w0 := w) B rfl (.tmp 32) (.tmp 37) rfl Tryd.underlying51 info5 _ (l ++ 17 :: octets M 0) _ (octet M 0) (by first | exact hoc | rfl) rfl _ rfl rfl hO.out hBl.out hsz (by simp [octets]; omega) ?_; intro v4 w4 hO4 hB4 hs4 hK4)
      have hO5 := Aside0.mk (show OwnB B v4 (l ++ 17 :: octets M 1) w4 from by rw [show l ++ 17 :: octets M 1 = l ++ 17 :: octets M 0 ++ [octet M 0] by simp [octets]]; exact hO4)
      have hB5 := Aside0.mk hB4
      obtain ⟨ao5, cc5, rfl⟩ := ownB_slice hO5.out
      clear hO4 hB4 hK4 hoc
      go_wp2_with fail
      go_roundw
      case rel => exact ⟨1, by decide, by rfl, ⟨ao5, cc5, rfl⟩, hO5, hB5, hs4⟩
      case measure => simp [intOf]
    · have hoc := octet_cell M 1 281474976710656 (by decide)
      rw [show (56 : Int) - 8 * ((1 : Nat) : Int) = 48 by decide]
      go_wp2_with (at_builtin; refine wp_octet (w0 := w) B rfl (.tmp 32) (.tmp 37) rfl Tryd.underlying51 info5 _ (l ++ 17 :: octets M 1) _ (octet M 1) (by first | exact hoc | rfl) rfl _ rfl rfl hO.out hBl.out hsz (by simp [octets]; omega) ?_; intro v4 w4 hO4 hB4 hs4 hK4)
      have hO5 := Aside0.mk (show OwnB B v4 (l ++ 17 :: octets M 2) w4 from by rw [show l ++ 17 :: octets M 2 = l ++ 17 :: octets M 1 ++ [octet M 1] by simp [octets]]; exact hO4)
      have hB5 := Aside0.mk hB4
      obtain ⟨ao5, cc5, rfl⟩ := ownB_slice hO5.out
      clear hO4 hB4 hK4 hoc
      go_wp2_with fail
      go_roundw
      case rel => exact ⟨2, by decide, by rfl, ⟨ao5, cc5, rfl⟩, hO5, hB5, hs4⟩
      case measure => simp [intOf]
    · have hoc := octet_cell M 2 1099511627776 (by decide)
      rw [show (56 : Int) - 8 * ((2 : Nat) : Int) = 40 by decide]
      go_wp2_with (at_builtin; refine wp_octet (w0 := w) B rfl (.tmp 32) (.tmp 37) rfl Tryd.underlying51 info5 _ (l ++ 17 :: octets M 2) _ (octet M 2) (by first | exact hoc | rfl) rfl _ rfl rfl hO.out hBl.out hsz (by simp [octets]; omega) ?_; intro v4 w4 hO4 hB4 hs4 hK4)
      have hO5 := Aside0.mk (show OwnB B v4 (l ++ 17 :: octets M 3) w4 from by rw [show l ++ 17 :: octets M 3 = l ++ 17 :: octets M 2 ++ [octet M 2] by simp [octets]]; exact hO4)
      have hB5 := Aside0.mk hB4
      obtain ⟨ao5, cc5, rfl⟩ := ownB_slice hO5.out
      clear hO4 hB4 hK4 hoc
      go_wp2_with fail
      go_roundw
      case rel => exact ⟨3, by decide, by rfl, ⟨ao5, cc5, rfl⟩, hO5, hB5, hs4⟩
      case measure => simp [intOf]
    · have hoc := octet_cell M 3 4294967296 (by decide)
      rw [show (56 : Int) - 8 * ((3 : Nat) : Int) = 32 by decide]
      go_wp2_with (at_builtin; refine wp_octet (w0 := w) B rfl (.tmp 32) (.tmp 37) rfl Tryd.underlying51 info5 _ (l ++ 17 :: octets M 3) _ (octet M 3) (by first | exact hoc | rfl) rfl _ rfl rfl hO.out hBl.out hsz (by simp [octets]; omega) ?_; intro v4 w4 hO4 hB4 hs4 hK4)
      have hO5 := Aside0.mk (show OwnB B v4 (l ++ 17 :: octets M 4) w4 from by rw [show l ++ 17 :: octets M 4 = l ++ 17 :: octets M 3 ++ [octet M 3] by simp [octets]]; exact hO4)
      have hB5 := Aside0.mk hB4
      obtain ⟨ao5, cc5, rfl⟩ := ownB_slice hO5.out
      clear hO4 hB4 hK4 hoc
      go_wp2_with fail
      go_roundw
      case rel => exact ⟨4, by decide, by rfl, ⟨ao5, cc5, rfl⟩, hO5, hB5, hs4⟩
      case measure => simp [intOf]
    · have hoc := octet_cell M 4 16777216 (by decide)
      rw [show (56 : Int) - 8 * ((4 : Nat) : Int) = 24 by decide]
      go_wp2_with (at_builtin; refine wp_octet (w0 := w) B rfl (.tmp 32) (.tmp 37) rfl Tryd.underlying51 info5 _ (l ++ 17 :: octets M 4) _ (octet M 4) (by first | exact hoc | rfl) rfl _ rfl rfl hO.out hBl.out hsz (by simp [octets]; omega) ?_; intro v4 w4 hO4 hB4 hs4 hK4)
      have hO5 := Aside0.mk (show OwnB B v4 (l ++ 17 :: octets M 5) w4 from by rw [show l ++ 17 :: octets M 5 = l ++ 17 :: octets M 4 ++ [octet M 4] by simp [octets]]; exact hO4)
      have hB5 := Aside0.mk hB4
      obtain ⟨ao5, cc5, rfl⟩ := ownB_slice hO5.out
      clear hO4 hB4 hK4 hoc
      go_wp2_with fail
      go_roundw
      case rel => exact ⟨5, by decide, by rfl, ⟨ao5, cc5, rfl⟩, hO5, hB5, hs4⟩
      case measure => simp [intOf]
    · have hoc := octet_cell M 5 65536 (by decide)
      rw [show (56 : Int) - 8 * ((5 : Nat) : Int) = 16 by decide]
      go_wp2_with (at_builtin; refine wp_octet (w0 := w) B rfl (.tmp 32) (.tmp 37) rfl Tryd.underlying51 info5 _ (l ++ 17 :: octets M 5) _ (octet M 5) (by first | exact hoc | rfl) rfl _ rfl rfl hO.out hBl.out hsz (by simp [octets]; omega) ?_; intro v4 w4 hO4 hB4 hs4 hK4)
      have hO5 := Aside0.mk (show OwnB B v4 (l ++ 17 :: octets M 6) w4 from by rw [show l ++ 17 :: octets M 6 = l ++ 17 :: octets M 5 ++ [octet M 5] by simp [octets]]; exact hO4)
      have hB5 := Aside0.mk hB4
      obtain ⟨ao5, cc5, rfl⟩ := ownB_slice hO5.out
      clear hO4 hB4 hK4 hoc
      go_wp2_with fail
      go_roundw
      case rel => exact ⟨6, by decide, by rfl, ⟨ao5, cc5, rfl⟩, hO5, hB5, hs4⟩
      case measure => simp [intOf]
    · have hoc := octet_cell M 6 256 (by decide)
      rw [show (56 : Int) - 8 * ((6 : Nat) : Int) = 8 by decide]
      go_wp2_with (at_builtin; refine wp_octet (w0 := w) B rfl (.tmp 32) (.tmp 37) rfl Tryd.underlying51 info5 _ (l ++ 17 :: octets M 6) _ (octet M 6) (by first | exact hoc | rfl) rfl _ rfl rfl hO.out hBl.out hsz (by simp [octets]; omega) ?_; intro v4 w4 hO4 hB4 hs4 hK4)
      have hO5 := Aside0.mk (show OwnB B v4 (l ++ 17 :: octets M 7) w4 from by rw [show l ++ 17 :: octets M 7 = l ++ 17 :: octets M 6 ++ [octet M 6] by simp [octets]]; exact hO4)
      have hB5 := Aside0.mk hB4
      obtain ⟨ao5, cc5, rfl⟩ := ownB_slice hO5.out
      clear hO4 hB4 hK4 hoc
      go_wp2_with fail
      go_roundw
      case rel => exact ⟨7, by decide, by rfl, ⟨ao5, cc5, rfl⟩, hO5, hB5, hs4⟩
      case measure => simp [intOf]
    · have hoc : (M : Int) % 256 = ((octet M 7).toNat : Int) := by have h := octet_cell M 7 1 (by decide); rw [show ((M : Int) / ((1 : Nat) : Int)) = M by omega] at h; exact h
      rw [show (56 : Int) - 8 * ((7 : Nat) : Int) = 0 by decide]
      go_wp2_with (at_builtin; refine wp_octet (w0 := w) B rfl (.tmp 32) (.tmp 37) rfl Tryd.underlying51 info5 _ (l ++ 17 :: octets M 7) _ (octet M 7) (by first | exact hoc | rfl) rfl _ rfl rfl hO.out hBl.out hsz (by simp [octets]; omega) ?_; intro v4 w4 hO4 hB4 hs4 hK4)
      have hO5 := Aside0.mk (show OwnB B v4 (l ++ 17 :: octets M 8) w4 from by rw [show l ++ 17 :: octets M 8 = l ++ 17 :: octets M 7 ++ [octet M 7] by simp [octets]]; exact hO4)
      have hB5 := Aside0.mk hB4
      obtain ⟨ao5, cc5, rfl⟩ := ownB_slice hO5.out
      clear hO4 hB4 hK4 hoc
      go_wp2_with fail
      go_roundw
      case rel => exact ⟨8, by decide, by rfl, ⟨ao5, cc5, rfl⟩, hO5, hB5, hs4⟩
      case measure => simp [intOf]
    · rw [show (56 : Int) - 8 * ((8 : Nat) : Int) = -8 by decide]
      go_wp2_with fail
      go_ret
      exact ⟨_, rfl, by rw [HR.out]; exact hO.out, hBl.out⟩
/-- the world of a library that has looked at the processor: its variable is a number -/
def HasMax (w : World) : Prop := ∃ m : Int, w.cell? ⟨0, 0, none⟩ = some (.int .i64 m)
theorem HasMax.below {B : Nat} {w w' : World} (h : HasMax w) (hb : Below B w w') (hB : 0 < B) : HasMax w' := by
  obtain ⟨m, hm⟩ := h
  exact ⟨m, (hb.cell (p := ⟨0, 0, none⟩) hB).trans hm⟩
theorem own_below_ {w w' : World} {B : Nat} {v : Value} {l : List UInt8} (h : OwnB B v l w) (hb : Below w.heap.size w w') : OwnB B v l w' := by
  refine h.kept (row := none) ⟨hb.os, hb.tape, hb.output, hb.size, fun i hi _ => hb.block i hi⟩ ?_
  cases hv : v.ownBlock with
  | none => exact .inl rfl
  | some q => exact .inr (by simp)
theorem HasMax.on {w w' : World} (h : HasMax w) (hb : Below w.heap.size w w') : HasMax w' := h.below hb (by obtain ⟨m, hm⟩ := h; exact World.block_lt_of_cell? w _ hm)
/-- a text's octets: 0 is told from the end -/
def esc (t : List UInt8) : List UInt8 := Lib.replaceAll t [0] [0, 255]
set_option maxHeartbeats 400000 in
set_option maxRecDepth 100000 in
theorem put_text (n : Int) (t : ByteArray) (v : Value) (l : List UInt8) (B : Nat) (w : World) (hown : Aside0 (OwnB B v l w)) (hB : B ≤ w.heap.size) (hB0 : 0 < B) (hl : l.length ≤ 70368744177664)
    (hm : Aside0 (HasMax w)) (ht : t.size ≤ 4194304) (hlen : Aside0 (t.size + Lib.countB t ⟨#[0]⟩ * 2 ≤ 8388608)) (hel : Aside0 ((esc t.data.toList).length ≤ 8388608)) :
    Calls Tryd.prog 23 #[.agg #[.bool false, .int .i64 n, .string t], v] w (PutPost B (l ++ 34 :: (esc t.data.toList ++ [0, 1])) w) := by
  obtain ⟨ao, cc, rfl⟩ := ownB_slice hown.out
  obtain ⟨R, hR⟩ : ∃ R, R = l ++ 34 :: (esc t.data.toList ++ [0, 1]) := ⟨_, rfl⟩
  rw [← hR]
  have HR := Aside0.mk hR
  clear hR
  have O1 := Aside0.mk (show OwnB B (.slice ao (Lib.byteCells l).length cc) l (w.alloc (.cells #[.bool false, .int .i64 n, .string t] 44)) from own_alloc hown.out _)
  have B1 := Aside0.mk (Below.alloc (Below.refl B w) hB (.cells #[.bool false, .int .i64 n, .string t] 44))
  go_enter Tryd.func23, Tryd.ntmps23
  go_wp2_with (at_builtin; refine wp_octet (w0 := w) B rfl (.tmp 10) (.tmp 11) rfl Tryd.underlying51 info5 _ l 34 34 rfl rfl _ (by simp) rfl O1.out B1.out (by simp; omega) (by omega) ?_; intro v2 w2 hO2 hB2 hs2 hK2; have hkk := hK2 w.heap.size _ (blk_new w (.cells #[.bool false, .int .i64 n, .string t] 44)); have hc1 : w2.cell? ⟨w.heap.size, 2, none⟩ = some (.string t) := (blk_cell hkk 2).trans rfl; clear hK2 hkk)
  have O2 := Aside0.mk hO2
  have B2 := Aside0.mk hB2
  obtain ⟨ao2, cc2, rfl⟩ := ownB_slice hO2
  clear hO2 hB2
  go_wp2_with fail
  obtain ⟨m, hm2⟩ := hm.out.below B2.out hB0
  refine (Tryd.strings_ReplaceAll t ⟨#[0]⟩ ⟨#[0, 255]⟩ m w2 (by omega) hm2 (by decide) (Nat.le_trans hlen.out (by decide))).mono ?_
  rintro e w3 ⟨rfl, hb⟩
  have O3 := Aside0.mk (show OwnB B (.slice ao2 (Lib.byteCells (l ++ [34])).length cc2) (l ++ [34]) w3 from own_below_ O2.out hb)
  have B3 := Aside0.mk (B2.out.trans (Below.mono hb hs2))
  have hs3 : B ≤ w3.heap.size := Nat.le_trans hs2 hb.size
  clear hb hm2
  obtain ⟨E, hE⟩ : ∃ E : ByteArray, E = ⟨(Lib.replaceAll t.data.toList [0] [0, 255]).toArray⟩ := ⟨_, rfl⟩
  rw [← hE]
  have hEd : E.data.toList = esc t.data.toList := by rw [hE]; rfl
  have HE := Aside0.mk hEd
  have hEs : E.size ≤ 8388608 := by rw [← size_list, hEd]; exact hel.out
  clear hE hEd
  have hl1 : (l ++ [(34 : UInt8)]).length + E.size ≤ 140737488355328 := by simp; omega
  have hl2 : (l ++ [(34 : UInt8)] ++ E.data.toList).length + 2 ≤ 140737488355328 := by rw [List.length_append, size_list, List.length_append]; simp only [List.length_cons, List.length_nil]; omega
  go_wp2_with (first | (at_builtin; refine wp_text (w0 := w) B rfl (.tmp 13) (.tmp 16) rfl Tryd.underlying51 Tryd.underlying9 info5 _ (l ++ [34]) E rfl rfl O3.out B3.out hs3 hl1 ?_; intro v4 w4 hO4 hB4 hs4) | (at_builtin; refine wp_two (w0 := w) B rfl (.tmp 18) (.tmp 19) rfl Tryd.underlying51 info5 _ (l ++ [34] ++ E.data.toList) 0 1 0 1 rfl rfl rfl _ rfl rfl hO4 hB4 hs4 hl2 ?_; intro v5 w5 hO5 hB5 hs5))
  go_ret
  exact ⟨_, rfl, by rw [HR.out, ← HE.out]; simpa using hO5, hB5⟩
end Go.Proofs.YtdodfelbejkbiaaDoor.K
