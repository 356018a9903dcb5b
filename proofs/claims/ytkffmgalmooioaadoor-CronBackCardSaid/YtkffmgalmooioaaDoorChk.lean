/- May a rule be: the contract of cron.Check. -/
import Derived.Test.YtkffmgalmooioaaDoorCrx0
import Derived.Test.YtkffmgalmooioaaDoorCrm
import Derived.Lib.SmallJoins
import Derived.LoopN
namespace Go.Proofs.YtkffmgalmooioaaDoor.Cr
open Go.RowKit Go.Proofs.YtkffmgalmooioaaDoorW.PrintWords Go.Proofs.YtkffmgalmooioaaDoorW.PrintLast Go.Proofs.YtkffmgalmooioaaDoorW.PrintMore

set_option maxHeartbeats 400000 in
set_option maxRecDepth 100000 in
theorem scopes_calls (w : World) :
    Calls Tryd.prog 28 #[] w fun e w' => e = .returned (.agg #[.int .i64 0, .int .i64 59, .int .i64 0, .int .i64 23, .int .i64 1, .int .i64 31, .int .i64 1, .int .i64 12, .int .i64 0, .int .i64 7]) ∧ Below w.heap.size w w' := by
  go_enter Tryd.func28, Tryd.ntmps28
  go_wp2_with fail
  refine bodyPost_ret (v := .agg #[.int .i64 0, .int .i64 59, .int .i64 0, .int .i64 23, .int .i64 1, .int .i64 31, .int .i64 1, .int .i64 12, .int .i64 0, .int .i64 7]) ?r rfl ⟨rfl, ?_⟩
  case r => simp [results, Tryd.results28, go_sem]
  exact below_alloc (Below.refl _ _) _
set_option maxHeartbeats 400000 in
set_option maxRecDepth 100000 in
theorem sets_calls (a b c d e : Int) (f g : Bool) (w : World) :
    Calls Tryd.prog 24 #[.agg #[.int .u64 a, .int .u64 b, .int .u64 c, .int .u64 d, .int .u64 e, .bool f, .bool g]] w fun r w' => r = .returned (.agg #[.int .u64 a, .int .u64 b, .int .u64 c, .int .u64 d, .int .u64 e]) ∧ Below w.heap.size w w' := by
  go_enter Tryd.func24, Tryd.ntmps24
  go_wp2_with fail
  refine bodyPost_ret (v := .agg #[.int .u64 a, .int .u64 b, .int .u64 c, .int .u64 d, .int .u64 e]) ?r rfl ⟨rfl, ?_⟩
  case r => simp [results, Tryd.results24, go_sem]
  exact below_alloc (below_alloc (Below.refl _ _) _) _
set_option maxHeartbeats 400000 in
set_option maxRecDepth 100000 in
theorem wholes_calls (w : World) :
    Calls Tryd.prog 23 #[] w fun r w' => r = .returned (.agg #[.int .u64 1152921504606846975, .int .u64 16777215, .int .u64 4294967294, .int .u64 8190, .int .u64 127]) ∧ Below w.heap.size w w' := by
  have i0 : ∀ w, (Instr.index 65 (.agg #[.int .i64 0, .int .i64 59, .int .i64 0, .int .i64 23, .int .i64 1, .int .i64 31, .int .i64 1, .int .i64 12, .int .i64 0, .int .i64 7]) (.int .i64 0)).run Tryd.prog w = .ok (.agg #[.int .i64 0, .int .i64 59]) w := fun _ => by kernel_rfl
  have i1 : ∀ w, (Instr.index 65 (.agg #[.int .i64 0, .int .i64 59, .int .i64 0, .int .i64 23, .int .i64 1, .int .i64 31, .int .i64 1, .int .i64 12, .int .i64 0, .int .i64 7]) (.int .i64 1)).run Tryd.prog w = .ok (.agg #[.int .i64 0, .int .i64 23]) w := fun _ => by kernel_rfl
  have i2 : ∀ w, (Instr.index 65 (.agg #[.int .i64 0, .int .i64 59, .int .i64 0, .int .i64 23, .int .i64 1, .int .i64 31, .int .i64 1, .int .i64 12, .int .i64 0, .int .i64 7]) (.int .i64 2)).run Tryd.prog w = .ok (.agg #[.int .i64 1, .int .i64 31]) w := fun _ => by kernel_rfl
  have i3 : ∀ w, (Instr.index 65 (.agg #[.int .i64 0, .int .i64 59, .int .i64 0, .int .i64 23, .int .i64 1, .int .i64 31, .int .i64 1, .int .i64 12, .int .i64 0, .int .i64 7]) (.int .i64 3)).run Tryd.prog w = .ok (.agg #[.int .i64 1, .int .i64 12]) w := fun _ => by kernel_rfl
  have i4 : ∀ w, (Instr.index 65 (.agg #[.int .i64 0, .int .i64 59, .int .i64 0, .int .i64 23, .int .i64 1, .int .i64 31, .int .i64 1, .int .i64 12, .int .i64 0, .int .i64 7]) (.int .i64 4)).run Tryd.prog w = .ok (.agg #[.int .i64 0, .int .i64 7]) w := fun _ => by kernel_rfl
  go_enter Tryd.func23, Tryd.ntmps23
  go_wp2_with fail
  refine (scopes_calls _).mono ?_
  rintro e w1 ⟨rfl, hb⟩
  have H0 := Aside0.mk (blk_below (g := w.heap.size) (o := .cells #[.int .u64 0, .int .u64 0, .int .u64 0, .int .u64 0, .int .u64 0] 56 (0, 0)) (blk_new w _) hb)
  have B0 := Aside0.mk (below_step (below_alloc (Below.refl w.heap.size w) _) hb)
  clear hb
  go_wp2_with fail
  refine wp_loop_rounds 6 ?_
  rw [rounds_succ]
  go_wp2_with fail
  refine (cron_scope_all.calls 0 59 1152921504606846975 _ (by kernel_rfl)).mono ?_
  rintro e W1 ⟨rfl, hb⟩
  have H1 := Aside0.mk (blk_below (blk_alloc H0.out _) hb)
  have B1 := Aside0.mk (below_step (below_alloc B0.out _) hb)
  have hc1 : W1.cell? ⟨w.heap.size, 0, none⟩ = some (.int .u64 0) := (blk_cell H1.out 0).trans rfl
  have hf1 := blk_frozen H1.out 0
  clear hb
  go_wp2_with fail
  clear hc1 hf1
  rw [rounds_succ]
  go_wp2_with fail
  refine (cron_scope_all.calls 0 23 16777215 _ (by kernel_rfl)).mono ?_
  rintro e W2 ⟨rfl, hb⟩
  have H2 := Aside0.mk (blk_below (blk_alloc (blk_put (cs := #[.int .u64 0, .int .u64 0, .int .u64 0, .int .u64 0, .int .u64 0]) (cs' := #[.int .u64 1152921504606846975, .int .u64 0, .int .u64 0, .int .u64 0, .int .u64 0]) H1.out 0 _ rfl) _) hb)
  have B2 := Aside0.mk (below_step (below_alloc (below_set B1.out (Nat.le_refl _)) _) hb)
  have hc2 : W2.cell? ⟨w.heap.size, 1, none⟩ = some (.int .u64 0) := (blk_cell H2.out 1).trans rfl
  have hf2 := blk_frozen H2.out 1
  clear hb
  go_wp2_with fail
  clear hc2 hf2
  rw [rounds_succ]
  go_wp2_with fail
  refine (cron_scope_all.calls 1 31 4294967294 _ (by kernel_rfl)).mono ?_
  rintro e W3 ⟨rfl, hb⟩
  have H3 := Aside0.mk (blk_below (blk_alloc (blk_put (cs := #[.int .u64 1152921504606846975, .int .u64 0, .int .u64 0, .int .u64 0, .int .u64 0]) (cs' := #[.int .u64 1152921504606846975, .int .u64 16777215, .int .u64 0, .int .u64 0, .int .u64 0]) H2.out 1 _ rfl) _) hb)
  have B3 := Aside0.mk (below_step (below_alloc (below_set B2.out (Nat.le_refl _)) _) hb)
  have hc3 : W3.cell? ⟨w.heap.size, 2, none⟩ = some (.int .u64 0) := (blk_cell H3.out 2).trans rfl
  have hf3 := blk_frozen H3.out 2
  clear hb
  go_wp2_with fail
  clear hc3 hf3
  rw [rounds_succ]
  go_wp2_with fail
  refine (cron_scope_all.calls 1 12 8190 _ (by kernel_rfl)).mono ?_
  rintro e W4 ⟨rfl, hb⟩
  have H4 := Aside0.mk (blk_below (blk_alloc (blk_put (cs := #[.int .u64 1152921504606846975, .int .u64 16777215, .int .u64 0, .int .u64 0, .int .u64 0]) (cs' := #[.int .u64 1152921504606846975, .int .u64 16777215, .int .u64 4294967294, .int .u64 0, .int .u64 0]) H3.out 2 _ rfl) _) hb)
  have B4 := Aside0.mk (below_step (below_alloc (below_set B3.out (Nat.le_refl _)) _) hb)
  have hc4 : W4.cell? ⟨w.heap.size, 3, none⟩ = some (.int .u64 0) := (blk_cell H4.out 3).trans rfl
  have hf4 := blk_frozen H4.out 3
  clear hb
  go_wp2_with fail
  clear hc4 hf4
  rw [rounds_succ]
  go_wp2_with fail
  refine (cron_scope_all.calls 0 7 255 _ (by kernel_rfl)).mono ?_
  rintro e W5 ⟨rfl, hb⟩
  have H5 := Aside0.mk (blk_below (blk_alloc (blk_put (cs := #[.int .u64 1152921504606846975, .int .u64 16777215, .int .u64 4294967294, .int .u64 0, .int .u64 0]) (cs' := #[.int .u64 1152921504606846975, .int .u64 16777215, .int .u64 4294967294, .int .u64 8190, .int .u64 0]) H4.out 3 _ rfl) _) hb)
  have B5 := Aside0.mk (below_step (below_alloc (below_set B4.out (Nat.le_refl _)) _) hb)
  have hc5 : W5.cell? ⟨w.heap.size, 4, none⟩ = some (.int .u64 0) := (blk_cell H5.out 4).trans rfl
  have hf5 := blk_frozen H5.out 4
  clear hb
  go_wp2_with fail
  clear hc5 hf5
  have HZ := Aside0.mk (blk_put (cs' := #[.int .u64 1152921504606846975, .int .u64 16777215, .int .u64 4294967294, .int .u64 8190, .int .u64 255]) H5.out 4 (.int .u64 255) rfl)
  have BZ := Aside0.mk (below_set (g := w.heap.size) (j := 4) (v := .int .u64 255) B5.out (Nat.le_refl _))
  generalize W5.setCell ⟨w.heap.size, 4, none⟩ (.int .u64 255) = W6 at HZ BZ ⊢
  rw [rounds_succ]
  have hc0 : W6.cell? ⟨w.heap.size, 0, none⟩ = some (.int .u64 1152921504606846975) := (blk_cell HZ.out 0).trans rfl
  have hf0 := blk_frozen HZ.out 0
  have hc1 : W6.cell? ⟨w.heap.size, 1, none⟩ = some (.int .u64 16777215) := (blk_cell HZ.out 1).trans rfl
  have hf1 := blk_frozen HZ.out 1
  have hc2 : W6.cell? ⟨w.heap.size, 2, none⟩ = some (.int .u64 4294967294) := (blk_cell HZ.out 2).trans rfl
  have hf2 := blk_frozen HZ.out 2
  have hc3 : W6.cell? ⟨w.heap.size, 3, none⟩ = some (.int .u64 8190) := (blk_cell HZ.out 3).trans rfl
  have hf3 := blk_frozen HZ.out 3
  have hc4 : W6.cell? ⟨w.heap.size, 4, none⟩ = some (.int .u64 255) := (blk_cell HZ.out 4).trans rfl
  have hf4 := blk_frozen HZ.out 4
  go_wp2_with fail
  refine bodyPost_ret (v := .agg #[.int .u64 1152921504606846975, .int .u64 16777215, .int .u64 4294967294, .int .u64 8190, .int .u64 127]) ?r rfl ⟨rfl, ?_⟩
  case r => simp [results, Tryd.results23, go_sem, hc0, hc1, hc2, hc3, hc4]
  iterate 6 (refine below_set ?_ (Nat.le_refl _))
  exact BZ.out
/-- a set that may be: it has a member, and none that it may not have -/
def okSet (x all : Int) : Bool := !(x == 0) && !(Go.bits .andNot .u64 x all != 0)
def okRule (a b c d e : Int) (f g : Bool) : Bool :=
  okSet a 1152921504606846975 && okSet b 16777215 && okSet c 4294967294 && okSet d 8190 && okSet e 127 && !(f && (c != 4294967294)) && !(g && (e != 127))
def okAt (a b c d e : Int) : Nat → Bool
  | 0 => okSet a 1152921504606846975
  | 1 => okSet b 16777215
  | 2 => okSet c 4294967294
  | 3 => okSet d 8190
  | _ => okSet e 127
theorem okRule_not {a b c d e : Int} {f g : Bool} (k : Nat) (h : okAt a b c d e k = false) : okRule a b c d e f g = false := by
  unfold okRule
  match k with
  | 0 => simp only [okAt] at h; simp [h]
  | 1 => simp only [okAt] at h; simp [h]
  | 2 => simp only [okAt] at h; simp [h]
  | 3 => simp only [okAt] at h; simp [h]
  | n + 4 => simp only [okAt] at h; simp [h]
theorem okRule_is {a b c d e : Int} {f g : Bool} (h : ∀ i, i < 5 → okAt a b c d e i = true) : okRule a b c d e f g = (!(f && (c != 4294967294)) && !(g && (e != 127))) := by
  have h0 := h 0 (by decide); have h1 := h 1 (by decide); have h2 := h 2 (by decide); have h3 := h 3 (by decide); have h4 := h 4 (by decide)
  simp only [okAt] at h0 h1 h2 h3 h4
  unfold okRule
  rw [h0, h1, h2, h3, h4]
  simp
theorem okSet_z {x all : Int} (h : (x == 0) = true) : okSet x all = false := by unfold okSet; rw [h]; rfl
theorem okSet_n {x all : Int} (h : (Go.bits .andNot .u64 x all != 0) = true) : okSet x all = false := by unfold okSet; rw [h]; simp
theorem okSet_y {x all : Int} (h : (x == 0) = false) (k : (Go.bits .andNot .u64 x all != 0) = false) : okSet x all = true := by unfold okSet; rw [h, k]; rfl
def cron_Check.f (a b c d e : Int) (f g : Bool) : Option Int := some (if okRule a b c d e f g = true then 0 else 9)
/-- what Check answers -/
def ChkPost (a b c d e : Int) (f g : Bool) (w : World) (r : Ending) (w' : World) : Prop := r = .returned (.int .i64 (if okRule a b c d e f g = true then 0 else 9)) ∧ Below w.heap.size w w'
theorem chk_no {a b c d e : Int} {f g : Bool} {w W : World} (h : okRule a b c d e f g = false) (hb : Below w.heap.size w W) : ChkPost a b c d e f g w (.returned (.int .i64 9)) W := ⟨by rw [h]; rfl, hb⟩
theorem chk_yes {a b c d e : Int} {f g : Bool} {w W : World} (h : okRule a b c d e f g = true) (hb : Below w.heap.size w W) : ChkPost a b c d e f g w (.returned (.int .i64 0)) W := ⟨by rw [h]; rfl, hb⟩
set_option maxHeartbeats 1000000 in
set_option maxRecDepth 100000 in
theorem check_any (a b c d e : Int) (f g : Bool) (w : World) :
    Calls Tryd.prog 17 #[.agg #[.int .u64 a, .int .u64 b, .int .u64 c, .int .u64 d, .int .u64 e, .bool f, .bool g]] w (ChkPost a b c d e f g w) := by
  have i0 : ∀ w, (Instr.index 56 (.agg #[.int .u64 a, .int .u64 b, .int .u64 c, .int .u64 d, .int .u64 e]) (.int .i64 0)).run Tryd.prog w = .ok (.int .u64 a) w := fun _ => by kernel_rfl
  have i1 : ∀ w, (Instr.index 56 (.agg #[.int .u64 a, .int .u64 b, .int .u64 c, .int .u64 d, .int .u64 e]) (.int .i64 1)).run Tryd.prog w = .ok (.int .u64 b) w := fun _ => by kernel_rfl
  have i2 : ∀ w, (Instr.index 56 (.agg #[.int .u64 a, .int .u64 b, .int .u64 c, .int .u64 d, .int .u64 e]) (.int .i64 2)).run Tryd.prog w = .ok (.int .u64 c) w := fun _ => by kernel_rfl
  have i3 : ∀ w, (Instr.index 56 (.agg #[.int .u64 a, .int .u64 b, .int .u64 c, .int .u64 d, .int .u64 e]) (.int .i64 3)).run Tryd.prog w = .ok (.int .u64 d) w := fun _ => by kernel_rfl
  have i4 : ∀ w, (Instr.index 56 (.agg #[.int .u64 a, .int .u64 b, .int .u64 c, .int .u64 d, .int .u64 e]) (.int .i64 4)).run Tryd.prog w = .ok (.int .u64 e) w := fun _ => by kernel_rfl
  go_enter Tryd.func17, Tryd.ntmps17
  go_wp2_with fail
  refine (wholes_calls _).mono ?_
  rintro r w1 ⟨rfl, hb⟩
  have H0 := Aside0.mk (blk_below (g := w.heap.size) (o := .cells #[.int .u64 a, .int .u64 b, .int .u64 c, .int .u64 d, .int .u64 e, .bool f, .bool g] 29 (0, 0)) (blk_new w _) hb)
  have B0 := Aside0.mk (below_step (below_alloc (Below.refl w.heap.size w) _) hb)
  clear hb
  have hz1 : w.heap.size < w1.heap.size := blk_lt H0.out
  have hc0 : w1.cell? ⟨w.heap.size, 0, none⟩ = some (.int .u64 a) := (blk_cell H0.out 0).trans rfl
  have hc1 : w1.cell? ⟨w.heap.size, 1, none⟩ = some (.int .u64 b) := (blk_cell H0.out 1).trans rfl
  have hc2 : w1.cell? ⟨w.heap.size, 2, none⟩ = some (.int .u64 c) := (blk_cell H0.out 2).trans rfl
  have hc3 : w1.cell? ⟨w.heap.size, 3, none⟩ = some (.int .u64 d) := (blk_cell H0.out 3).trans rfl
  have hc4 : w1.cell? ⟨w.heap.size, 4, none⟩ = some (.int .u64 e) := (blk_cell H0.out 4).trans rfl
  have hc5 : w1.cell? ⟨w.heap.size, 5, none⟩ = some (.bool f) := (blk_cell H0.out 5).trans rfl
  have hc6 : w1.cell? ⟨w.heap.size, 6, none⟩ = some (.bool g) := (blk_cell H0.out 6).trans rfl
  go_wp2_with fail
  refine (sets_calls _ _ _ _ _ _ _ _).mono ?_
  rintro r w2 ⟨rfl, hb⟩
  have H1 := Aside0.mk (blk_below (blk_alloc H0.out _) hb)
  have A1 := Aside0.mk (blk_below (g := w1.heap.size) (o := .cells #[.int .u64 1152921504606846975, .int .u64 16777215, .int .u64 4294967294, .int .u64 8190, .int .u64 127] 56 (0, 0)) (blk_new w1 _) hb)
  have B1 := Aside0.mk (below_step (below_alloc B0.out _) hb)
  clear hb hc0 hc1 hc2 hc3 hc4 hc5 hc6
  have hc0 : w2.cell? ⟨w.heap.size, 0, none⟩ = some (.int .u64 a) := (blk_cell H1.out 0).trans rfl
  have hc1 : w2.cell? ⟨w.heap.size, 1, none⟩ = some (.int .u64 b) := (blk_cell H1.out 1).trans rfl
  have hc2 : w2.cell? ⟨w.heap.size, 2, none⟩ = some (.int .u64 c) := (blk_cell H1.out 2).trans rfl
  have hc3 : w2.cell? ⟨w.heap.size, 3, none⟩ = some (.int .u64 d) := (blk_cell H1.out 3).trans rfl
  have hc4 : w2.cell? ⟨w.heap.size, 4, none⟩ = some (.int .u64 e) := (blk_cell H1.out 4).trans rfl
  have hc5 : w2.cell? ⟨w.heap.size, 5, none⟩ = some (.bool f) := (blk_cell H1.out 5).trans rfl
  have hc6 : w2.cell? ⟨w.heap.size, 6, none⟩ = some (.bool g) := (blk_cell H1.out 6).trans rfl
  have ha0 : w2.cell? ⟨w1.heap.size, 0, none⟩ = some (.int .u64 1152921504606846975) := (blk_cell A1.out 0).trans rfl
  have ha1 : w2.cell? ⟨w1.heap.size, 1, none⟩ = some (.int .u64 16777215) := (blk_cell A1.out 1).trans rfl
  have ha2 : w2.cell? ⟨w1.heap.size, 2, none⟩ = some (.int .u64 4294967294) := (blk_cell A1.out 2).trans rfl
  have ha3 : w2.cell? ⟨w1.heap.size, 3, none⟩ = some (.int .u64 8190) := (blk_cell A1.out 3).trans rfl
  have ha4 : w2.cell? ⟨w1.heap.size, 4, none⟩ = some (.int .u64 127) := (blk_cell A1.out 4).trans rfl
  go_wp2_with fail
  go_loop [9] (fun v => ∃ k : Nat, k ≤ 5 ∧ v = .int .i64 k ∧ Aside0 (∀ i, i < k → okAt a b c d e i = true)) (fun v => 5 - (intOf v).toNat)
  case atStart => exact ⟨0, by decide, rfl, ⟨fun i hi => absurd hi (by omega)⟩⟩
  case round =>
    obtain ⟨k, hk, rfl, hok⟩ := hrel
    have k' : k = 0 ∨ k = 1 ∨ k = 2 ∨ k = 3 ∨ k = 4 ∨ k = 5 := by omega
    rcases k' with rfl | rfl | rfl | rfl | rfl | rfl
    · cases hz : (a == 0) with
      | true =>
        go_wp2_with fail
        go_ret
        exact chk_no (okRule_not 0 (okSet_z hz)) B1.out
      | false =>
        cases hn : (Go.bits .andNot .u64 a 1152921504606846975 != 0) with
        | true =>
          go_wp2_with fail
          go_ret
          exact chk_no (okRule_not 0 (okSet_n hn)) B1.out
        | false =>
          have HO := Aside0.mk (show ∀ i, i < 1 → okAt a b c d e i = true from fun i hi => by
            by_cases q : i = 0
            · subst q; exact okSet_y hz hn
            · exact hok.out i (by omega))
          go_wp2_with fail
          go_round
          case rel => exact ⟨1, by decide, rfl, HO⟩
          case measure => simp [intOf]
    · cases hz : (b == 0) with
      | true =>
        go_wp2_with fail
        go_ret
        exact chk_no (okRule_not 1 (okSet_z hz)) B1.out
      | false =>
        cases hn : (Go.bits .andNot .u64 b 16777215 != 0) with
        | true =>
          go_wp2_with fail
          go_ret
          exact chk_no (okRule_not 1 (okSet_n hn)) B1.out
        | false =>
          have HO := Aside0.mk (show ∀ i, i < 2 → okAt a b c d e i = true from fun i hi => by
            by_cases q : i = 1
            · subst q; exact okSet_y hz hn
            · exact hok.out i (by omega))
          go_wp2_with fail
          go_round
          case rel => exact ⟨2, by decide, rfl, HO⟩
          case measure => simp [intOf]
    · cases hz : (c == 0) with
      | true =>
        go_wp2_with fail
        go_ret
        exact chk_no (okRule_not 2 (okSet_z hz)) B1.out
      | false =>
        cases hn : (Go.bits .andNot .u64 c 4294967294 != 0) with
        | true =>
          go_wp2_with fail
          go_ret
          exact chk_no (okRule_not 2 (okSet_n hn)) B1.out
        | false =>
          have HO := Aside0.mk (show ∀ i, i < 3 → okAt a b c d e i = true from fun i hi => by
            by_cases q : i = 2
            · subst q; exact okSet_y hz hn
            · exact hok.out i (by omega))
          go_wp2_with fail
          go_round
          case rel => exact ⟨3, by decide, rfl, HO⟩
          case measure => simp [intOf]
    · cases hz : (d == 0) with
      | true =>
        go_wp2_with fail
        go_ret
        exact chk_no (okRule_not 3 (okSet_z hz)) B1.out
      | false =>
        cases hn : (Go.bits .andNot .u64 d 8190 != 0) with
        | true =>
          go_wp2_with fail
          go_ret
          exact chk_no (okRule_not 3 (okSet_n hn)) B1.out
        | false =>
          have HO := Aside0.mk (show ∀ i, i < 4 → okAt a b c d e i = true from fun i hi => by
            by_cases q : i = 3
            · subst q; exact okSet_y hz hn
            · exact hok.out i (by omega))
          go_wp2_with fail
          go_round
          case rel => exact ⟨4, by decide, rfl, HO⟩
          case measure => simp [intOf]
    · cases hz : (e == 0) with
      | true =>
        go_wp2_with fail
        go_ret
        exact chk_no (okRule_not 4 (okSet_z hz)) B1.out
      | false =>
        cases hn : (Go.bits .andNot .u64 e 127 != 0) with
        | true =>
          go_wp2_with fail
          go_ret
          exact chk_no (okRule_not 4 (okSet_n hn)) B1.out
        | false =>
          have HO := Aside0.mk (show ∀ i, i < 5 → okAt a b c d e i = true from fun i hi => by
            by_cases q : i = 4
            · subst q; exact okSet_y hz hn
            · exact hok.out i (by omega))
          go_wp2_with fail
          go_round
          case rel => exact ⟨5, by decide, rfl, HO⟩
          case measure => simp [intOf]
    · cases f with
      | true =>
        cases hc : (c != 4294967294) with
        | true =>
          go_wp2_with fail
          go_ret
          exact chk_no ((okRule_is hok.out).trans (by rw [hc]; rfl)) B1.out
        | false =>
          cases g with
          | true =>
            cases he : (e != 127) with
            | true =>
              go_wp2_with fail
              go_ret
              exact chk_no ((okRule_is hok.out).trans (by rw [hc, he]; rfl)) B1.out
            | false =>
              go_wp2_with fail
              go_ret
              exact chk_yes ((okRule_is hok.out).trans (by rw [hc, he]; rfl)) B1.out
          | false =>
            go_wp2_with fail
            go_ret
            exact chk_yes ((okRule_is hok.out).trans (by rw [hc]; rfl)) B1.out
      | false =>
        cases g with
        | true =>
          cases he : (e != 127) with
          | true =>
            go_wp2_with fail
            go_ret
            exact chk_no ((okRule_is hok.out).trans (by rw [he]; rfl)) B1.out
          | false =>
            go_wp2_with fail
            go_ret
            exact chk_yes ((okRule_is hok.out).trans (by rw [he]; rfl)) B1.out
        | false =>
          go_wp2_with fail
          go_ret
          exact chk_yes ((okRule_is hok.out).trans (by rfl)) B1.out
theorem cron_Check.calls (a0_0 : Int) (a0_1 : Int) (a0_2 : Int) (a0_3 : Int) (a0_4 : Int) (a0_5 : Bool) (a0_6 : Bool) (r : Int) (w : World) (h : cron_Check.f a0_0 a0_1 a0_2 a0_3 a0_4 a0_5 a0_6 = some r) :
    Calls Tryd.prog 17 #[.agg #[.int .u64 a0_0, .int .u64 a0_1, .int .u64 a0_2, .int .u64 a0_3, .int .u64 a0_4, .bool a0_5, .bool a0_6]] w fun e w' => e = .returned (.int .i64 r) ∧ Below w.heap.size w w' := by
  refine (check_any a0_0 a0_1 a0_2 a0_3 a0_4 a0_5 a0_6 w).mono ?_
  rintro e w' ⟨rfl, hb⟩
  unfold cron_Check.f at h
  exact ⟨by rw [Option.some.inj h], hb⟩
end Go.Proofs.YtkffmgalmooioaaDoor.Cr
