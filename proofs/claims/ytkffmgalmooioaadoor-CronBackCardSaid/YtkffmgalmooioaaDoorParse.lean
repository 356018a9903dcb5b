/- cron.words and cron.Parse at a text of five good fields: their contracts. -/
import Derived.Test.YtkffmgalmooioaaDoorField
import Derived.Test.YtkffmgalmooioaaDoorChk
import Derived.StillTailTactics
import Derived.Deep.RegionHeld3
namespace Go.Proofs.YtkffmgalmooioaaDoor.Cr
open Go Go.RowKit Go.Shelf Go.Proofs.YtkffmgalmooioaaDoor.Sp Go.Proofs.YtkffmgalmooioaaDoorW.PrintWords Go.Proofs.YtkffmgalmooioaaDoorW.PrintLast Go.Proofs.YtkffmgalmooioaaDoorW.PrintMore

theorem blank43 (c : Int) (w : World) : Calls Tryd.prog 43 #[.int .i32 c] w fun e w' => e = .returned (.bool (c == 32)) ∧ w' = w := by
  go_enter Tryd.func43, Tryd.ntmps43
  go_wp2_with fail
  go_ret
  exact ⟨rfl, rfl⟩
/-- a blank -/
def blankP (c : Nat) : Bool := c == 32
theorem blank_pred (w : World) : PredAtRunes Tryd.prog 43 #[] blankP w := fun W x hx _ => by
  unfold FnGives
  refine (blank43 (x : Int) W).mono ?_
  rintro e w' ⟨rfl, rfl⟩
  have h : ((x : Int) == 32) = blankP x := by unfold blankP; rw [Bool.eq_iff_iff]; simp only [beq_iff_eq]; omega
  exact ⟨by rw [h], 0, rfl⟩
/-- the row of words that a call hands back -/
def WordsPost (w : World) (l : List ByteArray) (e : Ending) (w' : World) : Prop :=
  ∃ (A : Nat) (cs : Array Value), e = .returned (.slice (some ⟨A, 0, none⟩) l.length l.length) ∧ w.heap.size ≤ A ∧ w'.heap[A]? = some (.cells cs 9 (0, 0)) ∧ (∀ j : Nat, j < l.length → cs[j]? = (l.map Value.string)[j]?) ∧ Below w.heap.size w w'
theorem words_calls (s : ByteArray) (w : World) (hs : s.size ≤ 4294967296) :
    Calls Tryd.prog 27 #[.string s] w (WordsPost w (Lib.goFieldsP blankP s)) := by
  go_enter Tryd.func27, Tryd.ntmps27
  go_wp2_with fail
  refine (Tryd.strings_FieldsFunc_runes 43 #[] (enters_of Tryd.func43 (by kernel_rfl) rfl) blankP s w hs (blank_pred w)).mono ?_
  rintro e w' ⟨A, rfl, hA, ho, hb⟩
  have hH : Hid (WordsPost w (Lib.goFieldsP blankP s) (.returned (.slice (some ⟨A, 0, none⟩) (Lib.goFieldsP blankP s).length (Lib.goFieldsP blankP s).length)) w') := by
    obtain ⟨cs, hcs⟩ := own_typed ho A rfl
    exact ⟨A, cs, rfl, hA, hcs, fun j hj => by rw [← ho.cellAt j (by omega), blk_cell hcs j], hb⟩
  clear ho hb hA
  go_wp2_with fail
  go_ret
  exact hH.out

theorem keep_call {w3 wx w' : World} {p q r : Addr} {a b c : Value} (hb : Below wx.heap.size wx w') (h1 : wx.cell? p = some a) (h2 : wx.cell? q = some b) (h3 : wx.cell? r = some c) (h4 : Below w3.heap.size w3 wx) :
    w'.cell? p = some a ∧ w'.cell? q = some b ∧ w'.cell? r = some c ∧ Below w3.heap.size w3 w' :=
  ⟨pw_cell_below hb h1, pw_cell_below hb h2, pw_cell_below hb h3, below_step h4 hb⟩
set_option maxHeartbeats 400000 in
set_option maxRecDepth 100000 in
theorem parse_calls (s t0 t1 t2 t3 t4 : ByteArray) (n0 n1 n2 n3 n4 : Nat) (w : World) (hs : s.size ≤ 400) (hl : Hid (Lib.goFieldsP blankP s = [t0, t1, t2, t3, t4]))
    (h0 : Aside0 (∀ w, Calls Tryd.prog 29 #[.agg #[.int .i64 0, .int .i64 59], .string t0] w fun e w' => e = .returned (.tuple #[.int .u64 n0, .bool true]) ∧ Below w.heap.size w w'))
    (h1 : Aside0 (∀ w, Calls Tryd.prog 29 #[.agg #[.int .i64 0, .int .i64 23], .string t1] w fun e w' => e = .returned (.tuple #[.int .u64 n1, .bool true]) ∧ Below w.heap.size w w'))
    (h2 : Aside0 (∀ w, Calls Tryd.prog 29 #[.agg #[.int .i64 1, .int .i64 31], .string t2] w fun e w' => e = .returned (.tuple #[.int .u64 n2, .bool true]) ∧ Below w.heap.size w w'))
    (h3 : Aside0 (∀ w, Calls Tryd.prog 29 #[.agg #[.int .i64 1, .int .i64 12], .string t3] w fun e w' => e = .returned (.tuple #[.int .u64 n3, .bool true]) ∧ Below w.heap.size w w'))
    (h4 : Aside0 (∀ w, Calls Tryd.prog 29 #[.agg #[.int .i64 0, .int .i64 7], .string t4] w fun e w' => e = .returned (.tuple #[.int .u64 n4, .bool true]) ∧ Below w.heap.size w w')) :
    Calls Tryd.prog 14 #[.string s] w fun e w' => e = .returned (.tuple #[.agg #[.int .u64 n0, .int .u64 n1, .int .u64 n2, .int .u64 n3, .int .u64 (Go.bits .or .u64 (Go.bits .and .u64 n4 127) ((n4 : Int) / 128)), .bool (t2.toList == [42]), .bool (t4.toList == [42])], .int .i64 0]) ∧ Below w.heap.size w w' := by
  have i0 : ∀ w, (Instr.index 65 (.agg #[.int .i64 0, .int .i64 59, .int .i64 0, .int .i64 23, .int .i64 1, .int .i64 31, .int .i64 1, .int .i64 12, .int .i64 0, .int .i64 7]) (.int .i64 0)).run Tryd.prog w = .ok (.agg #[.int .i64 0, .int .i64 59]) w := fun _ => by kernel_rfl
  have i1 : ∀ w, (Instr.index 65 (.agg #[.int .i64 0, .int .i64 59, .int .i64 0, .int .i64 23, .int .i64 1, .int .i64 31, .int .i64 1, .int .i64 12, .int .i64 0, .int .i64 7]) (.int .i64 1)).run Tryd.prog w = .ok (.agg #[.int .i64 0, .int .i64 23]) w := fun _ => by kernel_rfl
  have i2 : ∀ w, (Instr.index 65 (.agg #[.int .i64 0, .int .i64 59, .int .i64 0, .int .i64 23, .int .i64 1, .int .i64 31, .int .i64 1, .int .i64 12, .int .i64 0, .int .i64 7]) (.int .i64 2)).run Tryd.prog w = .ok (.agg #[.int .i64 1, .int .i64 31]) w := fun _ => by kernel_rfl
  have i3 : ∀ w, (Instr.index 65 (.agg #[.int .i64 0, .int .i64 59, .int .i64 0, .int .i64 23, .int .i64 1, .int .i64 31, .int .i64 1, .int .i64 12, .int .i64 0, .int .i64 7]) (.int .i64 3)).run Tryd.prog w = .ok (.agg #[.int .i64 1, .int .i64 12]) w := fun _ => by kernel_rfl
  have i4 : ∀ w, (Instr.index 65 (.agg #[.int .i64 0, .int .i64 59, .int .i64 0, .int .i64 23, .int .i64 1, .int .i64 31, .int .i64 1, .int .i64 12, .int .i64 0, .int .i64 7]) (.int .i64 4)).run Tryd.prog w = .ok (.agg #[.int .i64 0, .int .i64 7]) w := fun _ => by kernel_rfl
  go_enter Tryd.func14, Tryd.ntmps14
  go_wp2_with fail
  refine (words_calls s _ (by omega)).mono ?_
  rintro e w1 h
  rw [hl.out] at h
  obtain ⟨A, cs, rfl, hA, hcs, hj, hb⟩ := h
  have HR := Aside0.mk (blk_below (blk_new w _) hb)
  have B1 := Aside0.mk (below_step (below_alloc (Below.refl w.heap.size w) _) hb)
  have HW := Aside0.mk hcs
  have HJ := Aside0.mk hj
  have HA : Aside0 (w.heap.size < A) := Aside0.mk (by simp at hA; omega)
  have hlt : Aside0 (w.heap.size < w1.heap.size) := Aside0.mk (blk_lt HR.out)
  have hAlt : Aside0 (A < w1.heap.size) := Aside0.mk (blk_lt HW.out)
  clear hb hcs hj hA
  go_wp2_with fail
  refine (scopes_calls _).mono ?_
  rintro e w2 ⟨rfl, hb⟩
  have HR2 := Aside0.mk (blk_below (blk_alloc HR.out _) hb)
  have HW2 := Aside0.mk (blk_below (blk_alloc HW.out _) hb)
  have HS2 := Aside0.mk (blk_below (blk_new w1 _) hb)
  have B2 := Aside0.mk (below_step (below_alloc B1.out _) hb)
  clear hb
  go_wp2_with fail
  refine wp_loop_rounds 6 ?_
  rw [rounds_succ]
  go_wp2_with fail
  have HSa0 := Aside0.mk (blk_alloc HS2.out (.cells #[.int .i64 0, .int .i64 59] 64 (0, 0)))
  have HRa0 := Aside0.mk (blk_alloc HR2.out (.cells #[.int .i64 0, .int .i64 59] 64 (0, 0)))
  have HWa0 := Aside0.mk (blk_alloc HW2.out (.cells #[.int .i64 0, .int .i64 59] 64 (0, 0)))
  have HCa0 := Aside0.mk (blk_new (w2) (.cells #[.int .i64 0, .int .i64 59] 64 (0, 0)))
  have Ba0 := Aside0.mk (below_alloc B2.out (.cells #[.int .i64 0, .int .i64 59] 64 (0, 0)))
  generalize (w2).alloc (.cells #[.int .i64 0, .int .i64 59] 64 (0, 0)) = u0 at HSa0 HRa0 HWa0 HCa0 Ba0 ⊢
  have c1 : u0.cell? ⟨w2.heap.size, 0, none⟩ = some (.int .i64 0) := (blk_cell HCa0.out 0).trans rfl
  have c2 : u0.cell? ⟨w2.heap.size, 0 + 1, none⟩ = some (.int .i64 59) := (blk_cell HCa0.out 1).trans rfl
  have c3 : u0.cell? ⟨A, 0, none⟩ = some (.string t0) := (blk_cell HWa0.out 0).trans ((HJ.out 0 (by simp)).trans rfl)
  go_region_held3 (fun w' => w'.cell? ⟨w2.heap.size, 0, none⟩ = some (.int .i64 0) ∧ w'.cell? ⟨w2.heap.size, 0 + 1, none⟩ = some (.int .i64 59) ∧ w'.cell? ⟨A, 0, none⟩ = some (.string t0) ∧ Below u0.heap.size u0 w') (first | exact ⟨c1, c2, c3, below_drew (Below.refl _ _)⟩ | exact keep_call (by assumption) (by assumption) (by assumption) (by assumption) (by first | assumption | exact below_drew (Below.refl _ _))) (first | (go_at_call 29; refine (h0.out _).mono ?_; rintro e v0 ⟨rfl, hb⟩))
  rename_i hHeld
  clear hb
  have hb := hHeld.2.2.2
  have HSb0 := Aside0.mk (blk_below HSa0.out hb)
  have HRb0 := Aside0.mk (blk_below HRa0.out hb)
  have HWb0 := Aside0.mk (blk_below HWa0.out hb)
  have Bb0 := Aside0.mk (below_step Ba0.out hb)
  clear hHeld hb c1 c2 c3
  have c4 : v0.cell? ⟨w1.heap.size, 0, none⟩ = some (.int .u64 0) := (blk_cell HSb0.out 0).trans rfl
  have f4 := blk_frozen HSb0.out 0
  go_wp2_with fail
  clear c4 f4
  have HSc0 := Aside0.mk (blk_put (cs' := #[.int .u64 n0, .int .u64 0, .int .u64 0, .int .u64 0, .int .u64 0]) HSb0.out 0 (.int .u64 n0) rfl)
  have HRc0 := Aside0.mk (blk_far HRb0.out (p := ⟨w1.heap.size, 0, none⟩) (Nat.ne_of_lt hlt.out) (.int .u64 n0))
  have HWc0 := Aside0.mk (blk_far HWb0.out (p := ⟨w1.heap.size, 0, none⟩) (Nat.ne_of_lt hAlt.out) (.int .u64 n0))
  have Bc0 := Aside0.mk (below_set (g := w1.heap.size) (j := 0) (v := .int .u64 n0) Bb0.out (Nat.le_of_lt hlt.out))
  generalize v0.setCell ⟨w1.heap.size, 0, none⟩ (.int .u64 n0) = q0 at HSc0 HRc0 HWc0 Bc0 ⊢
  rw [rounds_succ]
  go_wp2_with fail
  have HSa1 := Aside0.mk (blk_alloc HSc0.out (.cells #[.int .i64 0, .int .i64 23] 64 (0, 0)))
  have HRa1 := Aside0.mk (blk_alloc HRc0.out (.cells #[.int .i64 0, .int .i64 23] 64 (0, 0)))
  have HWa1 := Aside0.mk (blk_alloc HWc0.out (.cells #[.int .i64 0, .int .i64 23] 64 (0, 0)))
  have HCa1 := Aside0.mk (blk_new (q0) (.cells #[.int .i64 0, .int .i64 23] 64 (0, 0)))
  have Ba1 := Aside0.mk (below_alloc Bc0.out (.cells #[.int .i64 0, .int .i64 23] 64 (0, 0)))
  generalize (q0).alloc (.cells #[.int .i64 0, .int .i64 23] 64 (0, 0)) = u1 at HSa1 HRa1 HWa1 HCa1 Ba1 ⊢
  have c1 : u1.cell? ⟨q0.heap.size, 0, none⟩ = some (.int .i64 0) := (blk_cell HCa1.out 0).trans rfl
  have c2 : u1.cell? ⟨q0.heap.size, 0 + 1, none⟩ = some (.int .i64 23) := (blk_cell HCa1.out 1).trans rfl
  have c3 : u1.cell? ⟨A, 1, none⟩ = some (.string t1) := (blk_cell HWa1.out 1).trans ((HJ.out 1 (by simp)).trans rfl)
  go_region_held3 (fun w' => w'.cell? ⟨q0.heap.size, 0, none⟩ = some (.int .i64 0) ∧ w'.cell? ⟨q0.heap.size, 0 + 1, none⟩ = some (.int .i64 23) ∧ w'.cell? ⟨A, 1, none⟩ = some (.string t1) ∧ Below u1.heap.size u1 w') (first | exact ⟨c1, c2, c3, below_drew (Below.refl _ _)⟩ | exact keep_call (by assumption) (by assumption) (by assumption) (by assumption) (by first | assumption | exact below_drew (Below.refl _ _))) (first | (go_at_call 29; refine (h1.out _).mono ?_; rintro e v1 ⟨rfl, hb⟩))
  rename_i hHeld
  clear hb
  have hb := hHeld.2.2.2
  have HSb1 := Aside0.mk (blk_below HSa1.out hb)
  have HRb1 := Aside0.mk (blk_below HRa1.out hb)
  have HWb1 := Aside0.mk (blk_below HWa1.out hb)
  have Bb1 := Aside0.mk (below_step Ba1.out hb)
  clear hHeld hb c1 c2 c3
  have c4 : v1.cell? ⟨w1.heap.size, 1, none⟩ = some (.int .u64 0) := (blk_cell HSb1.out 1).trans rfl
  have f4 := blk_frozen HSb1.out 1
  go_wp2_with fail
  clear c4 f4
  have HSc1 := Aside0.mk (blk_put (cs' := #[.int .u64 n0, .int .u64 n1, .int .u64 0, .int .u64 0, .int .u64 0]) HSb1.out 1 (.int .u64 n1) rfl)
  have HRc1 := Aside0.mk (blk_far HRb1.out (p := ⟨w1.heap.size, 1, none⟩) (Nat.ne_of_lt hlt.out) (.int .u64 n1))
  have HWc1 := Aside0.mk (blk_far HWb1.out (p := ⟨w1.heap.size, 1, none⟩) (Nat.ne_of_lt hAlt.out) (.int .u64 n1))
  have Bc1 := Aside0.mk (below_set (g := w1.heap.size) (j := 1) (v := .int .u64 n1) Bb1.out (Nat.le_of_lt hlt.out))
  generalize v1.setCell ⟨w1.heap.size, 1, none⟩ (.int .u64 n1) = q1 at HSc1 HRc1 HWc1 Bc1 ⊢
  rw [rounds_succ]
  go_wp2_with fail
  have HSa2 := Aside0.mk (blk_alloc HSc1.out (.cells #[.int .i64 1, .int .i64 31] 64 (0, 0)))
  have HRa2 := Aside0.mk (blk_alloc HRc1.out (.cells #[.int .i64 1, .int .i64 31] 64 (0, 0)))
  have HWa2 := Aside0.mk (blk_alloc HWc1.out (.cells #[.int .i64 1, .int .i64 31] 64 (0, 0)))
  have HCa2 := Aside0.mk (blk_new (q1) (.cells #[.int .i64 1, .int .i64 31] 64 (0, 0)))
  have Ba2 := Aside0.mk (below_alloc Bc1.out (.cells #[.int .i64 1, .int .i64 31] 64 (0, 0)))
  generalize (q1).alloc (.cells #[.int .i64 1, .int .i64 31] 64 (0, 0)) = u2 at HSa2 HRa2 HWa2 HCa2 Ba2 ⊢
  have c1 : u2.cell? ⟨q1.heap.size, 0, none⟩ = some (.int .i64 1) := (blk_cell HCa2.out 0).trans rfl
  have c2 : u2.cell? ⟨q1.heap.size, 0 + 1, none⟩ = some (.int .i64 31) := (blk_cell HCa2.out 1).trans rfl
  have c3 : u2.cell? ⟨A, 2, none⟩ = some (.string t2) := (blk_cell HWa2.out 2).trans ((HJ.out 2 (by simp)).trans rfl)
  go_region_held3 (fun w' => w'.cell? ⟨q1.heap.size, 0, none⟩ = some (.int .i64 1) ∧ w'.cell? ⟨q1.heap.size, 0 + 1, none⟩ = some (.int .i64 31) ∧ w'.cell? ⟨A, 2, none⟩ = some (.string t2) ∧ Below u2.heap.size u2 w') (first | exact ⟨c1, c2, c3, below_drew (Below.refl _ _)⟩ | exact keep_call (by assumption) (by assumption) (by assumption) (by assumption) (by first | assumption | exact below_drew (Below.refl _ _))) (first | (go_at_call 29; refine (h2.out _).mono ?_; rintro e v2 ⟨rfl, hb⟩))
  rename_i hHeld
  clear hb
  have hb := hHeld.2.2.2
  have HSb2 := Aside0.mk (blk_below HSa2.out hb)
  have HRb2 := Aside0.mk (blk_below HRa2.out hb)
  have HWb2 := Aside0.mk (blk_below HWa2.out hb)
  have Bb2 := Aside0.mk (below_step Ba2.out hb)
  clear hHeld hb c1 c2 c3
  have c4 : v2.cell? ⟨w1.heap.size, 2, none⟩ = some (.int .u64 0) := (blk_cell HSb2.out 2).trans rfl
  have f4 := blk_frozen HSb2.out 2
  go_wp2_with fail
  clear c4 f4
  have HSc2 := Aside0.mk (blk_put (cs' := #[.int .u64 n0, .int .u64 n1, .int .u64 n2, .int .u64 0, .int .u64 0]) HSb2.out 2 (.int .u64 n2) rfl)
  have HRc2 := Aside0.mk (blk_far HRb2.out (p := ⟨w1.heap.size, 2, none⟩) (Nat.ne_of_lt hlt.out) (.int .u64 n2))
  have HWc2 := Aside0.mk (blk_far HWb2.out (p := ⟨w1.heap.size, 2, none⟩) (Nat.ne_of_lt hAlt.out) (.int .u64 n2))
  have Bc2 := Aside0.mk (below_set (g := w1.heap.size) (j := 2) (v := .int .u64 n2) Bb2.out (Nat.le_of_lt hlt.out))
  generalize v2.setCell ⟨w1.heap.size, 2, none⟩ (.int .u64 n2) = q2 at HSc2 HRc2 HWc2 Bc2 ⊢
  rw [rounds_succ]
  go_wp2_with fail
  have HSa3 := Aside0.mk (blk_alloc HSc2.out (.cells #[.int .i64 1, .int .i64 12] 64 (0, 0)))
  have HRa3 := Aside0.mk (blk_alloc HRc2.out (.cells #[.int .i64 1, .int .i64 12] 64 (0, 0)))
  have HWa3 := Aside0.mk (blk_alloc HWc2.out (.cells #[.int .i64 1, .int .i64 12] 64 (0, 0)))
  have HCa3 := Aside0.mk (blk_new (q2) (.cells #[.int .i64 1, .int .i64 12] 64 (0, 0)))
  have Ba3 := Aside0.mk (below_alloc Bc2.out (.cells #[.int .i64 1, .int .i64 12] 64 (0, 0)))
  generalize (q2).alloc (.cells #[.int .i64 1, .int .i64 12] 64 (0, 0)) = u3 at HSa3 HRa3 HWa3 HCa3 Ba3 ⊢
  have c1 : u3.cell? ⟨q2.heap.size, 0, none⟩ = some (.int .i64 1) := (blk_cell HCa3.out 0).trans rfl
  have c2 : u3.cell? ⟨q2.heap.size, 0 + 1, none⟩ = some (.int .i64 12) := (blk_cell HCa3.out 1).trans rfl
  have c3 : u3.cell? ⟨A, 3, none⟩ = some (.string t3) := (blk_cell HWa3.out 3).trans ((HJ.out 3 (by simp)).trans rfl)
  go_region_held3 (fun w' => w'.cell? ⟨q2.heap.size, 0, none⟩ = some (.int .i64 1) ∧ w'.cell? ⟨q2.heap.size, 0 + 1, none⟩ = some (.int .i64 12) ∧ w'.cell? ⟨A, 3, none⟩ = some (.string t3) ∧ Below u3.heap.size u3 w') (first | exact ⟨c1, c2, c3, below_drew (Below.refl _ _)⟩ | exact keep_call (by assumption) (by assumption) (by assumption) (by assumption) (by first | assumption | exact below_drew (Below.refl _ _))) (first | (go_at_call 29; refine (h3.out _).mono ?_; rintro e v3 ⟨rfl, hb⟩))
  rename_i hHeld
  clear hb
  have hb := hHeld.2.2.2
  have HSb3 := Aside0.mk (blk_below HSa3.out hb)
  have HRb3 := Aside0.mk (blk_below HRa3.out hb)
  have HWb3 := Aside0.mk (blk_below HWa3.out hb)
  have Bb3 := Aside0.mk (below_step Ba3.out hb)
  clear hHeld hb c1 c2 c3
  have c4 : v3.cell? ⟨w1.heap.size, 3, none⟩ = some (.int .u64 0) := (blk_cell HSb3.out 3).trans rfl
  have f4 := blk_frozen HSb3.out 3
  go_wp2_with fail
  clear c4 f4
  have HSc3 := Aside0.mk (blk_put (cs' := #[.int .u64 n0, .int .u64 n1, .int .u64 n2, .int .u64 n3, .int .u64 0]) HSb3.out 3 (.int .u64 n3) rfl)
  have HRc3 := Aside0.mk (blk_far HRb3.out (p := ⟨w1.heap.size, 3, none⟩) (Nat.ne_of_lt hlt.out) (.int .u64 n3))
  have HWc3 := Aside0.mk (blk_far HWb3.out (p := ⟨w1.heap.size, 3, none⟩) (Nat.ne_of_lt hAlt.out) (.int .u64 n3))
  have Bc3 := Aside0.mk (below_set (g := w1.heap.size) (j := 3) (v := .int .u64 n3) Bb3.out (Nat.le_of_lt hlt.out))
  generalize v3.setCell ⟨w1.heap.size, 3, none⟩ (.int .u64 n3) = q3 at HSc3 HRc3 HWc3 Bc3 ⊢
  rw [rounds_succ]
  go_wp2_with fail
  have HSa4 := Aside0.mk (blk_alloc HSc3.out (.cells #[.int .i64 0, .int .i64 7] 64 (0, 0)))
  have HRa4 := Aside0.mk (blk_alloc HRc3.out (.cells #[.int .i64 0, .int .i64 7] 64 (0, 0)))
  have HWa4 := Aside0.mk (blk_alloc HWc3.out (.cells #[.int .i64 0, .int .i64 7] 64 (0, 0)))
  have HCa4 := Aside0.mk (blk_new (q3) (.cells #[.int .i64 0, .int .i64 7] 64 (0, 0)))
  have Ba4 := Aside0.mk (below_alloc Bc3.out (.cells #[.int .i64 0, .int .i64 7] 64 (0, 0)))
  generalize (q3).alloc (.cells #[.int .i64 0, .int .i64 7] 64 (0, 0)) = u4 at HSa4 HRa4 HWa4 HCa4 Ba4 ⊢
  have c1 : u4.cell? ⟨q3.heap.size, 0, none⟩ = some (.int .i64 0) := (blk_cell HCa4.out 0).trans rfl
  have c2 : u4.cell? ⟨q3.heap.size, 0 + 1, none⟩ = some (.int .i64 7) := (blk_cell HCa4.out 1).trans rfl
  have c3 : u4.cell? ⟨A, 4, none⟩ = some (.string t4) := (blk_cell HWa4.out 4).trans ((HJ.out 4 (by simp)).trans rfl)
  go_region_held3 (fun w' => w'.cell? ⟨q3.heap.size, 0, none⟩ = some (.int .i64 0) ∧ w'.cell? ⟨q3.heap.size, 0 + 1, none⟩ = some (.int .i64 7) ∧ w'.cell? ⟨A, 4, none⟩ = some (.string t4) ∧ Below u4.heap.size u4 w') (first | exact ⟨c1, c2, c3, below_drew (Below.refl _ _)⟩ | exact keep_call (by assumption) (by assumption) (by assumption) (by assumption) (by first | assumption | exact below_drew (Below.refl _ _))) (first | (go_at_call 29; refine (h4.out _).mono ?_; rintro e v4 ⟨rfl, hb⟩))
  rename_i hHeld
  clear hb
  have hb := hHeld.2.2.2
  have HSb4 := Aside0.mk (blk_below HSa4.out hb)
  have HRb4 := Aside0.mk (blk_below HRa4.out hb)
  have HWb4 := Aside0.mk (blk_below HWa4.out hb)
  have Bb4 := Aside0.mk (below_step Ba4.out hb)
  clear hHeld hb c1 c2 c3
  have c4 : v4.cell? ⟨w1.heap.size, 4, none⟩ = some (.int .u64 0) := (blk_cell HSb4.out 4).trans rfl
  have f4 := blk_frozen HSb4.out 4
  go_wp2_with fail
  clear c4 f4
  have HSc4 := Aside0.mk (blk_put (cs' := #[.int .u64 n0, .int .u64 n1, .int .u64 n2, .int .u64 n3, .int .u64 n4]) HSb4.out 4 (.int .u64 n4) rfl)
  have HRc4 := Aside0.mk (blk_far HRb4.out (p := ⟨w1.heap.size, 4, none⟩) (Nat.ne_of_lt hlt.out) (.int .u64 n4))
  have HWc4 := Aside0.mk (blk_far HWb4.out (p := ⟨w1.heap.size, 4, none⟩) (Nat.ne_of_lt hAlt.out) (.int .u64 n4))
  have Bc4 := Aside0.mk (below_set (g := w1.heap.size) (j := 4) (v := .int .u64 n4) Bb4.out (Nat.le_of_lt hlt.out))
  generalize v4.setCell ⟨w1.heap.size, 4, none⟩ (.int .u64 n4) = q4 at HSc4 HRc4 HWc4 Bc4 ⊢
  rw [rounds_succ]
  have c0 : q4.cell? ⟨w1.heap.size, 0, none⟩ = some (.int .u64 n0) := (blk_cell HSc4.out 0).trans rfl
  have c1 : q4.cell? ⟨w1.heap.size, 1, none⟩ = some (.int .u64 n1) := (blk_cell HSc4.out 1).trans rfl
  have c2 : q4.cell? ⟨w1.heap.size, 2, none⟩ = some (.int .u64 n2) := (blk_cell HSc4.out 2).trans rfl
  have c3 : q4.cell? ⟨w1.heap.size, 3, none⟩ = some (.int .u64 n3) := (blk_cell HSc4.out 3).trans rfl
  have c4 : q4.cell? ⟨w1.heap.size, 4, none⟩ = some (.int .u64 n4) := (blk_cell HSc4.out 4).trans rfl
  have f4 := blk_frozen HSc4.out 4
  go_wp2_with fail
  clear c0 c1 c2 c3 c4 f4
  have HSd := Aside0.mk (blk_put (cs' := #[.int .u64 n0, .int .u64 n1, .int .u64 n2, .int .u64 n3, .int .u64 (Go.bits .or .u64 (Go.bits .and .u64 n4 127) ((n4 : Int) / 128))]) HSc4.out 4 (.int .u64 (Go.bits .or .u64 (Go.bits .and .u64 n4 127) ((n4 : Int) / 128))) rfl)
  have HRd := Aside0.mk (blk_far HRc4.out (p := ⟨w1.heap.size, 4, none⟩) (Nat.ne_of_lt hlt.out) (.int .u64 (Go.bits .or .u64 (Go.bits .and .u64 n4 127) ((n4 : Int) / 128))))
  have HWd := Aside0.mk (blk_far HWc4.out (p := ⟨w1.heap.size, 4, none⟩) (Nat.ne_of_lt hAlt.out) (.int .u64 (Go.bits .or .u64 (Go.bits .and .u64 n4 127) ((n4 : Int) / 128))))
  have Bd := Aside0.mk (below_set (g := w1.heap.size) (j := 4) (v := .int .u64 (Go.bits .or .u64 (Go.bits .and .u64 n4 127) ((n4 : Int) / 128))) Bc4.out (Nat.le_of_lt hlt.out))
  generalize q4.setCell ⟨w1.heap.size, 4, none⟩ (.int .u64 (Go.bits .or .u64 (Go.bits .and .u64 n4 127) ((n4 : Int) / 128))) = q5 at HSd HRd HWd Bd ⊢
  generalize hm : Go.bits .or .u64 (Go.bits .and .u64 n4 127) ((n4 : Int) / 128) = m at HSd ⊢
  have hm := Aside0.mk hm
  have c0 : q5.cell? ⟨w1.heap.size, 0, none⟩ = some (.int .u64 n0) := (blk_cell HSd.out 0).trans rfl
  have c1 : q5.cell? ⟨w1.heap.size, 1, none⟩ = some (.int .u64 n1) := (blk_cell HSd.out 1).trans rfl
  have c2 : q5.cell? ⟨w1.heap.size, 2, none⟩ = some (.int .u64 n2) := (blk_cell HSd.out 2).trans rfl
  have c3 : q5.cell? ⟨w1.heap.size, 3, none⟩ = some (.int .u64 n3) := (blk_cell HSd.out 3).trans rfl
  have c4 : q5.cell? ⟨w1.heap.size, 4, none⟩ = some (.int .u64 m) := (blk_cell HSd.out 4).trans rfl
  have d2 : q5.cell? ⟨A, 2, none⟩ = some (.string t2) := (blk_cell HWd.out 2).trans ((HJ.out 2 (by simp)).trans rfl)
  have d4 : q5.cell? ⟨A, 4, none⟩ = some (.string t4) := (blk_cell HWd.out 4).trans ((HJ.out 4 (by simp)).trans rfl)
  have f0 := blk_frozen HRd.out 0
  have f1 := blk_frozen HRd.out 1
  have f2 := blk_frozen HRd.out 2
  have f3 := blk_frozen HRd.out 3
  have f4 := blk_frozen HRd.out 4
  have f5 := blk_frozen HRd.out 5
  have f6 := blk_frozen HRd.out 6
  go_still_tail 19, (by kernel_rfl)
  change wpList _ _ _ _ _ q5.drew
  clear c0 c1 c2 c3 c4 d2 d4 f0 f1 f2 f3 f4 f5 f6
  have HSe := Aside0.mk (blk_drew HSd.out)
  have HRe := Aside0.mk (blk_drew HRd.out)
  have HWe := Aside0.mk (blk_drew HWd.out)
  have Be := Aside0.mk (below_drew Bd.out)
  generalize q5.drew = q6 at HSe HRe HWe Be ⊢
  have c0 : q6.cell? ⟨w1.heap.size, 0, none⟩ = some (.int .u64 n0) := (blk_cell HSe.out 0).trans rfl
  have c1 : q6.cell? ⟨w1.heap.size, 1, none⟩ = some (.int .u64 n1) := (blk_cell HSe.out 1).trans rfl
  have c2 : q6.cell? ⟨w1.heap.size, 2, none⟩ = some (.int .u64 n2) := (blk_cell HSe.out 2).trans rfl
  have c3 : q6.cell? ⟨w1.heap.size, 3, none⟩ = some (.int .u64 n3) := (blk_cell HSe.out 3).trans rfl
  have c4 : q6.cell? ⟨w1.heap.size, 4, none⟩ = some (.int .u64 m) := (blk_cell HSe.out 4).trans rfl
  have d2 : q6.cell? ⟨A, 2, none⟩ = some (.string t2) := (blk_cell HWe.out 2).trans ((HJ.out 2 (by simp)).trans rfl)
  have d4 : q6.cell? ⟨A, 4, none⟩ = some (.string t4) := (blk_cell HWe.out 4).trans ((HJ.out 4 (by simp)).trans rfl)
  have f0 := blk_frozen HRe.out 0
  have f1 := blk_frozen HRe.out 1
  have f2 := blk_frozen HRe.out 2
  have f3 := blk_frozen HRe.out 3
  have f4 := blk_frozen HRe.out 4
  have f5 := blk_frozen HRe.out 5
  have f6 := blk_frozen HRe.out 6
  have r0 : q6.cell? ⟨w.heap.size, 0, none⟩ = some (.int .u64 0) := (blk_cell HRe.out 0).trans rfl
  have r1 : q6.cell? ⟨w.heap.size, 1, none⟩ = some (.int .u64 0) := (blk_cell HRe.out 1).trans rfl
  have r2 : q6.cell? ⟨w.heap.size, 2, none⟩ = some (.int .u64 0) := (blk_cell HRe.out 2).trans rfl
  have r3 : q6.cell? ⟨w.heap.size, 3, none⟩ = some (.int .u64 0) := (blk_cell HRe.out 3).trans rfl
  have r4 : q6.cell? ⟨w.heap.size, 4, none⟩ = some (.int .u64 0) := (blk_cell HRe.out 4).trans rfl
  have r5 : q6.cell? ⟨w.heap.size, 5, none⟩ = some (.bool false) := (blk_cell HRe.out 5).trans rfl
  have r6 : q6.cell? ⟨w.heap.size, 6, none⟩ = some (.bool false) := (blk_cell HRe.out 6).trans rfl
  go_wp2_with fail
  clear c0 r0 f0 c1 r1 f1 c2 r2 f2 c3 r3 f3 c4 r4 f4 r5 f5 r6 f6 d2 d4
  have z0 := Aside0.mk (blk_put (cs' := #[.int .u64 n0, .int .u64 0, .int .u64 0, .int .u64 0, .int .u64 0, .bool false, .bool false]) HRe.out 0 (.int .u64 n0) rfl)
  have y0 := Aside0.mk (below_set (g := w.heap.size) (j := 0) (v := .int .u64 n0) Be.out (Nat.le_refl _))
  have z1 := Aside0.mk (blk_put (cs' := #[.int .u64 n0, .int .u64 n1, .int .u64 0, .int .u64 0, .int .u64 0, .bool false, .bool false]) z0.out 1 (.int .u64 n1) rfl)
  have y1 := Aside0.mk (below_set (g := w.heap.size) (j := 1) (v := .int .u64 n1) y0.out (Nat.le_refl _))
  have z2 := Aside0.mk (blk_put (cs' := #[.int .u64 n0, .int .u64 n1, .int .u64 n2, .int .u64 0, .int .u64 0, .bool false, .bool false]) z1.out 2 (.int .u64 n2) rfl)
  have y2 := Aside0.mk (below_set (g := w.heap.size) (j := 2) (v := .int .u64 n2) y1.out (Nat.le_refl _))
  have z3 := Aside0.mk (blk_put (cs' := #[.int .u64 n0, .int .u64 n1, .int .u64 n2, .int .u64 n3, .int .u64 0, .bool false, .bool false]) z2.out 3 (.int .u64 n3) rfl)
  have y3 := Aside0.mk (below_set (g := w.heap.size) (j := 3) (v := .int .u64 n3) y2.out (Nat.le_refl _))
  have z4 := Aside0.mk (blk_put (cs' := #[.int .u64 n0, .int .u64 n1, .int .u64 n2, .int .u64 n3, .int .u64 m, .bool false, .bool false]) z3.out 4 (.int .u64 m) rfl)
  have y4 := Aside0.mk (below_set (g := w.heap.size) (j := 4) (v := .int .u64 m) y3.out (Nat.le_refl _))
  have z5 := Aside0.mk (blk_put (cs' := #[.int .u64 n0, .int .u64 n1, .int .u64 n2, .int .u64 n3, .int .u64 m, .bool (t2.toList == [42]), .bool false]) z4.out 5 (.bool (t2.toList == [42])) rfl)
  have y5 := Aside0.mk (below_set (g := w.heap.size) (j := 5) (v := .bool (t2.toList == [42])) y4.out (Nat.le_refl _))
  have z6 := Aside0.mk (blk_put (cs' := #[.int .u64 n0, .int .u64 n1, .int .u64 n2, .int .u64 n3, .int .u64 m, .bool (t2.toList == [42]), .bool (t4.toList == [42])]) z5.out 6 (.bool (t4.toList == [42])) rfl)
  have y6 := Aside0.mk (below_set (g := w.heap.size) (j := 6) (v := .bool (t4.toList == [42])) y5.out (Nat.le_refl _))
  generalize (((((((q6.setCell ⟨w.heap.size, 0, none⟩ (.int .u64 n0)).setCell ⟨w.heap.size, 1, none⟩ (.int .u64 n1)).setCell ⟨w.heap.size, 2, none⟩ (.int .u64 n2)).setCell ⟨w.heap.size, 3, none⟩ (.int .u64 n3)).setCell ⟨w.heap.size, 4, none⟩ (.int .u64 m)).setCell ⟨w.heap.size, 5, none⟩ (.bool (t2.toList == [42]))).setCell ⟨w.heap.size, 6, none⟩ (.bool (t4.toList == [42]))) = q7 at z6 y6 ⊢
  have r0 : q7.cell? ⟨w.heap.size, 0, none⟩ = some (.int .u64 n0) := (blk_cell z6.out 0).trans rfl
  have r1 : q7.cell? ⟨w.heap.size, 1, none⟩ = some (.int .u64 n1) := (blk_cell z6.out 1).trans rfl
  have r2 : q7.cell? ⟨w.heap.size, 2, none⟩ = some (.int .u64 n2) := (blk_cell z6.out 2).trans rfl
  have r3 : q7.cell? ⟨w.heap.size, 3, none⟩ = some (.int .u64 n3) := (blk_cell z6.out 3).trans rfl
  have r4 : q7.cell? ⟨w.heap.size, 4, none⟩ = some (.int .u64 m) := (blk_cell z6.out 4).trans rfl
  have r5 : q7.cell? ⟨w.heap.size, 5, none⟩ = some (.bool (t2.toList == [42])) := (blk_cell z6.out 5).trans rfl
  have r6 : q7.cell? ⟨w.heap.size, 6, none⟩ = some (.bool (t4.toList == [42])) := (blk_cell z6.out 6).trans rfl
  refine bodyPost_ret (v := .tuple #[.agg #[.int .u64 n0, .int .u64 n1, .int .u64 n2, .int .u64 n3, .int .u64 m, .bool (t2.toList == [42]), .bool (t4.toList == [42])], .int .i64 0]) ?r rfl ⟨by rw [← hm.out], y6.out⟩
  case r => simp [results, Tryd.results14, go_sem, r0, r1, r2, r3, r4, r5, r6]
end Go.Proofs.YtkffmgalmooioaaDoor.Cr
