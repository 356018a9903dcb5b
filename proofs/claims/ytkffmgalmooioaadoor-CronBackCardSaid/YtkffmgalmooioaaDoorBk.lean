/- The law CronBack's walk: a rule comes back from its text. -/
import Derived.Test.YtkffmgalmooioaaDoorPrt
import Derived.Test.YtkffmgalmooioaaDoorWEqStruct
import Derived.Test.YtkffmgalmooioaaDoorCs3
namespace Go.Proofs.YtkffmgalmooioaaDoor.Cr
open Go Go.RowKit Go.Shelf Go.Proofs.YtkffmgalmooioaaDoor.Sp Go.Proofs.YtkffmgalmooioaaDoorW.PrintWords Go.Proofs.YtkffmgalmooioaaDoorW.PrintLast Go.Proofs.YtkffmgalmooioaaDoorW.PrintMore

theorem eqA24 (d : Nat) (w : World) (x0 x1 x2 x3 x4 y0 y1 y2 y3 y4 : Int) (x5 x6 y5 y6 : Bool) :
    (Op.equalIn (d + 2) 24 (.agg #[.int .u64 x0, .int .u64 x1, .int .u64 x2, .int .u64 x3, .int .u64 x4, .bool x5, .bool x6]) (.agg #[.int .u64 y0, .int .u64 y1, .int .u64 y2, .int .u64 y3, .int .u64 y4, .bool y5, .bool y6])).run Tryd.prog w = .ok (x0 == y0 && (x1 == y1 && (x2 == y2 && (x3 == y3 && (x4 == y4 && (x5 == y5 && (x6 == y6))))))) w := by
  refine eqA_of Tryd.underlying24 (by kernel_rfl) ?_
  iterate 6 (refine eqf_cons (by rfl) (by go_simp; rfl) (by go_simp; rfl) (by go_simp) ?_)
  exact eqf_last (by rfl) (by go_simp; rfl) (by go_simp; rfl) (by go_simp)
attribute [local go_sem high] eqA24
set_option maxHeartbeats 400000 in
set_option maxRecDepth 100000 in
theorem back_no (a b c d e : Nat) (f g : Bool) (w : World) (h : Aside0 (okRule a b c d e f g = false)) (ht : Aside0 (HasTab w)) (hC : Aside0 (∀ w, Calls Tryd.prog 11 #[.agg #[.int .u64 a, .int .u64 b, .int .u64 c, .int .u64 d, .int .u64 e, .bool f, .bool g]] w fun e w' => e = .returned (.int .i64 9) ∧ Below w.heap.size w w')) :
    Calls Tryd.prog 4 #[.agg #[.int .u64 a, .int .u64 b, .int .u64 c, .int .u64 d, .int .u64 e, .bool f, .bool g]] w fun r w' => r = .returned (.bool true) ∧ Below w.heap.size w w' := by
  go_enter Tryd.func4, Tryd.ntmps4
  go_wp2_with fail
  have B0 := Aside0.mk (below_alloc (Below.refl w.heap.size w) (.cells #[.int .u64 a, .int .u64 b, .int .u64 c, .int .u64 d, .int .u64 e, .bool f, .bool g] 24))
  refine (alive_walk _ (Aside0.mk parse_alive) (Aside0.mk fun w ht => cron_Next.calls 5000 1 4096 536870912 4 127 false true 1767225600 1835438400 true 0 w alive_next ht) (Aside0.mk (ht.out.below B0.out))).mono ?_
  rintro r w1 ⟨rfl, hb⟩
  have H1 := Aside0.mk (blk_below (g := w.heap.size) (o := .cells #[.int .u64 a, .int .u64 b, .int .u64 c, .int .u64 d, .int .u64 e, .bool f, .bool g] 24 (0, 0)) (blk_new w _) hb)
  have B1 := Aside0.mk (below_step B0.out hb)
  clear hb
  have hc0 : w1.cell? ⟨w.heap.size, 0, none⟩ = some (.int .u64 a) := (blk_cell H1.out 0).trans rfl
  have hc1 : w1.cell? ⟨w.heap.size, 1, none⟩ = some (.int .u64 b) := (blk_cell H1.out 1).trans rfl
  have hc2 : w1.cell? ⟨w.heap.size, 2, none⟩ = some (.int .u64 c) := (blk_cell H1.out 2).trans rfl
  have hc3 : w1.cell? ⟨w.heap.size, 3, none⟩ = some (.int .u64 d) := (blk_cell H1.out 3).trans rfl
  have hc4 : w1.cell? ⟨w.heap.size, 4, none⟩ = some (.int .u64 e) := (blk_cell H1.out 4).trans rfl
  have hc5 : w1.cell? ⟨w.heap.size, 5, none⟩ = some (.bool f) := (blk_cell H1.out 5).trans rfl
  have hc6 : w1.cell? ⟨w.heap.size, 6, none⟩ = some (.bool g) := (blk_cell H1.out 6).trans rfl
  go_wp2_with fail
  refine (print_no a b c d e f g _ h).mono ?_
  rintro r w2 ⟨rfl, hb⟩
  have H2 := Aside0.mk (blk_below H1.out hb)
  have B2 := Aside0.mk (below_step B1.out hb)
  clear hb hc0 hc1 hc2 hc3 hc4 hc5 hc6
  go_wp2_with fail
  refine (ticklerlaw17_num.calls 9 9 _ (by kernel_rfl)).mono ?_
  rintro r w3 ⟨rfl, ⟨nd, rfl⟩⟩
  have H3 := Aside0.mk (show (w2.drewN nd).heap[w.heap.size]? = _ from H2.out)
  have B3 := Aside0.mk (pw_below_drewN B2.out nd)
  generalize w2.drewN nd = w3 at H3 B3 ⊢
  have hc0 : w3.cell? ⟨w.heap.size, 0, none⟩ = some (.int .u64 a) := (blk_cell H3.out 0).trans rfl
  have hc1 : w3.cell? ⟨w.heap.size, 1, none⟩ = some (.int .u64 b) := (blk_cell H3.out 1).trans rfl
  have hc2 : w3.cell? ⟨w.heap.size, 2, none⟩ = some (.int .u64 c) := (blk_cell H3.out 2).trans rfl
  have hc3 : w3.cell? ⟨w.heap.size, 3, none⟩ = some (.int .u64 d) := (blk_cell H3.out 3).trans rfl
  have hc4 : w3.cell? ⟨w.heap.size, 4, none⟩ = some (.int .u64 e) := (blk_cell H3.out 4).trans rfl
  have hc5 : w3.cell? ⟨w.heap.size, 5, none⟩ = some (.bool f) := (blk_cell H3.out 5).trans rfl
  have hc6 : w3.cell? ⟨w.heap.size, 6, none⟩ = some (.bool g) := (blk_cell H3.out 6).trans rfl
  go_wp2_with fail
  refine (hC.out _).mono ?_
  rintro r w4 ⟨rfl, hb⟩
  have B4 := Aside0.mk (below_step B3.out hb)
  clear hb hc0 hc1 hc2 hc3 hc4 hc5 hc6
  go_wp2_with fail
  go_ret
  exact ⟨rfl, B4.out⟩
set_option maxHeartbeats 400000 in
set_option maxRecDepth 100000 in
theorem back_yes (a b c d e : Nat) (f g : Bool) (w : World) (hr : Aside0 (Pure.Rule a b c d e f g)) (ht : Aside0 (HasTab w)) :
    Calls Tryd.prog 4 #[.agg #[.int .u64 a, .int .u64 b, .int .u64 c, .int .u64 d, .int .u64 e, .bool f, .bool g]] w fun r w' => r = .returned (.bool true) ∧ Below w.heap.size w w' := by
  go_enter Tryd.func4, Tryd.ntmps4
  go_wp2_with fail
  have B0 := Aside0.mk (below_alloc (Below.refl w.heap.size w) (.cells #[.int .u64 a, .int .u64 b, .int .u64 c, .int .u64 d, .int .u64 e, .bool f, .bool g] 24))
  refine (alive_walk _ (Aside0.mk parse_alive) (Aside0.mk fun w ht => cron_Next.calls 5000 1 4096 536870912 4 127 false true 1767225600 1835438400 true 0 w alive_next ht) (Aside0.mk (ht.out.below B0.out))).mono ?_
  rintro r w1 ⟨rfl, hb⟩
  have H1 := Aside0.mk (blk_below (g := w.heap.size) (o := .cells #[.int .u64 a, .int .u64 b, .int .u64 c, .int .u64 d, .int .u64 e, .bool f, .bool g] 24 (0, 0)) (blk_new w _) hb)
  have B1 := Aside0.mk (below_step B0.out hb)
  clear hb
  have hc0 : w1.cell? ⟨w.heap.size, 0, none⟩ = some (.int .u64 a) := (blk_cell H1.out 0).trans rfl
  have hc1 : w1.cell? ⟨w.heap.size, 1, none⟩ = some (.int .u64 b) := (blk_cell H1.out 1).trans rfl
  have hc2 : w1.cell? ⟨w.heap.size, 2, none⟩ = some (.int .u64 c) := (blk_cell H1.out 2).trans rfl
  have hc3 : w1.cell? ⟨w.heap.size, 3, none⟩ = some (.int .u64 d) := (blk_cell H1.out 3).trans rfl
  have hc4 : w1.cell? ⟨w.heap.size, 4, none⟩ = some (.int .u64 e) := (blk_cell H1.out 4).trans rfl
  have hc5 : w1.cell? ⟨w.heap.size, 5, none⟩ = some (.bool f) := (blk_cell H1.out 5).trans rfl
  have hc6 : w1.cell? ⟨w.heap.size, 6, none⟩ = some (.bool g) := (blk_cell H1.out 6).trans rfl
  go_wp2_with fail
  refine (print_yes a b c d e f g _ (Aside0.mk hr.out.ok) (Aside0.mk (ht.out.below B1.out)) hr.out.ra hr.out.rb hr.out.rc hr.out.rd hr.out.re).mono ?_
  rintro r w2 ⟨rfl, hb⟩
  have H2 := Aside0.mk (blk_below H1.out hb)
  have B2 := Aside0.mk (below_step B1.out hb)
  clear hb hc0 hc1 hc2 hc3 hc4 hc5 hc6
  obtain ⟨T, hT⟩ : ∃ T, T = ruleText a b c d e f g := ⟨_, rfl⟩
  rw [← hT]
  have HT := Aside0.mk hT
  clear hT
  go_wp2_with fail
  refine (ticklerlaw17_num.calls 0 0 _ (by kernel_rfl)).mono ?_
  rintro r w3 ⟨rfl, ⟨nd, rfl⟩⟩
  have H3 := Aside0.mk (show (w2.drewN nd).heap[w.heap.size]? = _ from H2.out)
  have B3 := Aside0.mk (pw_below_drewN B2.out nd)
  generalize w2.drewN nd = w3 at H3 B3 ⊢
  go_wp2_with fail
  refine (show Calls Tryd.prog 14 #[.string T] _ _ from HT.out ▸ parse_rule hr.out _).mono ?_
  rintro r w4 ⟨rfl, hb⟩
  have H4 := Aside0.mk (blk_below H3.out hb)
  have B4 := Aside0.mk (below_step B3.out hb)
  clear hb
  go_wp2_with fail
  refine (ticklerlaw17_num.calls 0 0 _ (by kernel_rfl)).mono ?_
  rintro r w5 ⟨rfl, ⟨ne, rfl⟩⟩
  have hne : w.heap.size < w4.heap.size := blk_lt H4.out
  have B5 := Aside0.mk (pw_below_drewN (below_alloc B4.out (.cells #[.int .u64 a, .int .u64 b, .int .u64 c, .int .u64 d, .int .u64 e, .bool f, .bool g] 29)) ne)
  have H5 := Aside0.mk (show ((w4.alloc (.cells #[.int .u64 a, .int .u64 b, .int .u64 c, .int .u64 d, .int .u64 e, .bool f, .bool g] 29)).drewN ne).heap[w.heap.size]? = some (.cells #[.int .u64 a, .int .u64 b, .int .u64 c, .int .u64 d, .int .u64 e, .bool f, .bool g] 24 (0, 0)) from blk_alloc H4.out _)
  have P5 := Aside0.mk (show ((w4.alloc (.cells #[.int .u64 a, .int .u64 b, .int .u64 c, .int .u64 d, .int .u64 e, .bool f, .bool g] 29)).drewN ne).heap[w4.heap.size]? = some (.cells #[.int .u64 a, .int .u64 b, .int .u64 c, .int .u64 d, .int .u64 e, .bool f, .bool g] 29 (0, 0)) from blk_new w4 _)
  generalize (w4.alloc (.cells #[.int .u64 a, .int .u64 b, .int .u64 c, .int .u64 d, .int .u64 e, .bool f, .bool g] 29)).drewN ne = w5 at H5 P5 B5 ⊢
  have hc0 : w5.cell? ⟨w.heap.size, 0, none⟩ = some (.int .u64 a) := (blk_cell H5.out 0).trans rfl
  have hc1 : w5.cell? ⟨w.heap.size, 1, none⟩ = some (.int .u64 b) := (blk_cell H5.out 1).trans rfl
  have hc2 : w5.cell? ⟨w.heap.size, 2, none⟩ = some (.int .u64 c) := (blk_cell H5.out 2).trans rfl
  have hc3 : w5.cell? ⟨w.heap.size, 3, none⟩ = some (.int .u64 d) := (blk_cell H5.out 3).trans rfl
  have hc4 : w5.cell? ⟨w.heap.size, 4, none⟩ = some (.int .u64 e) := (blk_cell H5.out 4).trans rfl
  have hc5 : w5.cell? ⟨w.heap.size, 5, none⟩ = some (.bool f) := (blk_cell H5.out 5).trans rfl
  have hc6 : w5.cell? ⟨w.heap.size, 6, none⟩ = some (.bool g) := (blk_cell H5.out 6).trans rfl
  have hp0 : w5.cell? ⟨w4.heap.size, 0, none⟩ = some (.int .u64 a) := (blk_cell P5.out 0).trans rfl
  have hp1 : w5.cell? ⟨w4.heap.size, 1, none⟩ = some (.int .u64 b) := (blk_cell P5.out 1).trans rfl
  have hp2 : w5.cell? ⟨w4.heap.size, 2, none⟩ = some (.int .u64 c) := (blk_cell P5.out 2).trans rfl
  have hp3 : w5.cell? ⟨w4.heap.size, 3, none⟩ = some (.int .u64 d) := (blk_cell P5.out 3).trans rfl
  have hp4 : w5.cell? ⟨w4.heap.size, 4, none⟩ = some (.int .u64 e) := (blk_cell P5.out 4).trans rfl
  have hp5 : w5.cell? ⟨w4.heap.size, 5, none⟩ = some (.bool f) := (blk_cell P5.out 5).trans rfl
  have hp6 : w5.cell? ⟨w4.heap.size, 6, none⟩ = some (.bool g) := (blk_cell P5.out 6).trans rfl
  go_wp2_with fail
  go_ret
  exact ⟨by simp, B5.out⟩
/-- the law's walk -/
theorem back_calls (a b c d e : Nat) (f g : Bool) (w : World) (hraw : Pure.Raw a b c d e) (ht : HasTab w) :
    Calls Tryd.prog 4 #[.agg #[.int .u64 a, .int .u64 b, .int .u64 c, .int .u64 d, .int .u64 e, .bool f, .bool g]] w fun r w' => r = .returned (.bool true) ∧ Below w.heap.size w w' := by
  cases hok : okRule a b c d e f g with
  | true => exact back_yes a b c d e f g w (Aside0.mk (hraw.rule hok)) (Aside0.mk ht)
  | false =>
    exact back_no a b c d e f g w (Aside0.mk hok) (Aside0.mk ht) (Aside0.mk fun w => ticklerref17_Check.calls (0 + 100) a b c d e f g 9 w (by rw [Pure.rcheck_is, hok]; rfl))
end Go.Proofs.YtkffmgalmooioaaDoor.Cr
