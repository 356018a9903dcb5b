/- Contracts of the Go functions over this seat's translation, each beside a Lean function with the same answers. Lines written for this claim by the kit's print tool, turned by this session. -/
import Derived.Test.YtkffmgalmooioaaCivx0
import Derived.Test.YtkffmgalmooioaaCivx1
import Derived.Test.YtkffmgalmooioaaCivx4
import Derived.Test.YtkffmgalmooioaaCivx5
import Derived.Test.YtkffmgalmooioaaCivx8
namespace Go.Proofs.Ytkffmgalmooioaa.Civ
open Go.RowKit Go.Proofs.YtkffmgalmooioaaW.PrintWords Go.Proofs.YtkffmgalmooioaaW.PrintLast Go.Proofs.YtkffmgalmooioaaW.PrintMore
attribute [local go_sem] max2_int min2_int max_two min_two max_three min_three max_four min_four   -- for this text's walks alone
set_option linter.unusedVariables false
set_option linter.unusedSimpArgs false

/-! ### ticklerlaw16_CivilNext: function 4 -/
def ticklerlaw16_CivilNext.j0 : Nat → Int → Bool → Int → Int → Int → Int → Int → Int → Int → Int → Int → Int → Int → Int → Int → Int → Option (Bool)
  | 0, _, _, _, _, _, _, _, _, _, _, _, _, _, _, _, _ => none
  | k + 1, x7, x53, x136000, x136001, x136002, x136003, x136004, x136005, x136006, x145000, x145001, x145002, x145003, x145004, x145005, x145006 => if x53 = true then (some false) else (if x136002 < x7 then (if x145000 = x136000 then (if x145001 = x136001 then (some (x145002 == (wrap64 (x136002 + 1)))) else (some false)) else (some false)) else (if x136001 < 12 then (if x145000 = x136000 then (if x145001 = (wrap64 (x136001 + 1)) then (some (x145002 == 1)) else (some false)) else (some false)) else (if x145000 = (wrap64 (x136000 + 1)) then (if x145001 = 1 then (some (x145002 == 1)) else (some false)) else (some false))))
def ticklerlaw16_CivilNext.f (k : Nat) (a0 : Int) : Option (Bool) := (ticklerlaw16_alive.f k).bind fun t126 => (if t126 = true then ((civil_Split.f k (wrap64 (86400 * (Int.tmod (wrap64 ((Int.tmod a0 376199) + 376199)) 376199)))).bind fun bt127 => ((civil_Split.f k (wrap64 (86400 * (wrap64 ((Int.tmod (wrap64 ((Int.tmod a0 376199) + 376199)) 376199) + 1))))).bind fun bt136 => ((civil_Days.f k bt127.1 bt127.2.1).bind fun bt145 => ((ticklerlaw16_num.f bt127.2.2.2.2.2.2.2).bind fun t147 => ((ticklerlaw16_num.f bt136.2.2.2.2.2.2.2).bind fun t148 => ((ticklerlaw16_num.f bt145.2).bind fun t149 => (if (wrap64 ((wrap64 (t147 + t148)) + t149)) = 0 then (ticklerlaw16_CivilNext.j0 k bt145.1 (bt136.2.2.2.2.2.2.1 != (Int.tmod (wrap64 (bt127.2.2.2.2.2.2.1 + 1)) 7)) bt127.1 bt127.2.1 bt127.2.2.1 bt127.2.2.2.1 bt127.2.2.2.2.1 bt127.2.2.2.2.2.1 bt127.2.2.2.2.2.2.1 bt136.1 bt136.2.1 bt136.2.2.1 bt136.2.2.2.1 bt136.2.2.2.2.1 bt136.2.2.2.2.2.1 bt136.2.2.2.2.2.2.1) else (ticklerlaw16_CivilNext.j0 k bt145.1 true bt127.1 bt127.2.1 bt127.2.2.1 bt127.2.2.2.1 bt127.2.2.2.2.1 bt127.2.2.2.2.2.1 bt127.2.2.2.2.2.2.1 bt136.1 bt136.2.1 bt136.2.2.1 bt136.2.2.2.1 bt136.2.2.2.2.1 bt136.2.2.2.2.2.1 bt136.2.2.2.2.2.2.1)))))))) else (some false))
theorem ticklerlaw16_CivilNext.mono_l : ∀ k, (∀ y0 y1 y2 y3 y4 y5 y6 y7 y8 y9 y10 y11 y12 y13 y14 y15, LeO (ticklerlaw16_CivilNext.j0 k y0 y1 y2 y3 y4 y5 y6 y7 y8 y9 y10 y11 y12 y13 y14 y15) (ticklerlaw16_CivilNext.j0 (k + 1) y0 y1 y2 y3 y4 y5 y6 y7 y8 y9 y10 y11 y12 y13 y14 y15))
  | 0 => fun _ _ _ _ _ _ _ _ _ _ _ _ _ _ _ _ r h => by simp [ticklerlaw16_CivilNext.j0] at h
  | k + 1 => by
    have ih0 := ticklerlaw16_CivilNext.mono_l k
    · intro y0 y1 y2 y3 y4 y5 y6 y7 y8 y9 y10 y11 y12 y13 y14 y15
      unfold ticklerlaw16_CivilNext.j0
      repeat' first
      | (with_reducible exact ih0 _ _ _ _ _ _ _ _ _ _ _ _ _ _ _ _)
      | (with_reducible exact civil_Days.mono _ _ _)
      | (with_reducible exact civil_Split.mono _ _)
      | (with_reducible exact ticklerlaw16_alive.mono _)
      | (with_reducible exact LeO.refl _)
      | (with_reducible exact LeO.none _)
      | (with_reducible refine LeO.ite ?_ ?_)
      | (with_reducible refine LeO.bind ?_ (fun _ => ?_))
      | exact ih0 _ _ _ _ _ _ _ _ _ _ _ _ _ _ _ _
      | exact civil_Days.mono _ _ _
      | exact civil_Split.mono _ _
      | exact ticklerlaw16_alive.mono _
      | exact LeO.none _
      | refine LeO.ite ?_ ?_
      | refine LeO.bind ?_ (fun _ => ?_)
theorem ticklerlaw16_CivilNext.mono : ∀ a0 k, LeO (ticklerlaw16_CivilNext.f k a0) (ticklerlaw16_CivilNext.f (k + 1) a0) := by
  intro a0 k
  have ih0 := ticklerlaw16_CivilNext.mono_l k
  unfold ticklerlaw16_CivilNext.f
  repeat' first
      | (with_reducible exact ih0 _ _ _ _ _ _ _ _ _ _ _ _ _ _ _ _)
      | (with_reducible exact civil_Days.mono _ _ _)
      | (with_reducible exact civil_Split.mono _ _)
      | (with_reducible exact ticklerlaw16_alive.mono _)
      | (with_reducible exact LeO.refl _)
      | (with_reducible exact LeO.none _)
      | (with_reducible refine LeO.ite ?_ ?_)
      | (with_reducible refine LeO.bind ?_ (fun _ => ?_))
      | exact ih0 _ _ _ _ _ _ _ _ _ _ _ _ _ _ _ _
      | exact civil_Days.mono _ _ _
      | exact civil_Split.mono _ _
      | exact ticklerlaw16_alive.mono _
      | exact LeO.none _
      | refine LeO.ite ?_ ?_
      | refine LeO.bind ?_ (fun _ => ?_)
set_option maxHeartbeats 8000000 in
set_option maxRecDepth 100000 in
theorem ticklerlaw16_CivilNext.calls (k : Nat) (a0 : Int) (r : Bool) (w : World) (h : ticklerlaw16_CivilNext.f k a0 = some r) :
    Calls Try.prog 4 #[.int .i64 a0] w fun e w' => e = .returned (.bool r) ∧ Below w.heap.size w w' := by
  have hu29 := Try.underlying29
  have HB := Aside0.mk (Below.refl w.heap.size w)
  have H : ((ticklerlaw16_alive.f k).bind fun t126 => (if t126 = true then ((civil_Split.f k (wrap64 (86400 * (Int.tmod (wrap64 ((Int.tmod a0 376199) + 376199)) 376199)))).bind fun bt127 => ((civil_Split.f k (wrap64 (86400 * (wrap64 ((Int.tmod (wrap64 ((Int.tmod a0 376199) + 376199)) 376199) + 1))))).bind fun bt136 => ((civil_Days.f k bt127.1 bt127.2.1).bind fun bt145 => ((ticklerlaw16_num.f bt127.2.2.2.2.2.2.2).bind fun t147 => ((ticklerlaw16_num.f bt136.2.2.2.2.2.2.2).bind fun t148 => ((ticklerlaw16_num.f bt145.2).bind fun t149 => (if (wrap64 ((wrap64 (t147 + t148)) + t149)) = 0 then (ticklerlaw16_CivilNext.j0 k bt145.1 (bt136.2.2.2.2.2.2.1 != (Int.tmod (wrap64 (bt127.2.2.2.2.2.2.1 + 1)) 7)) bt127.1 bt127.2.1 bt127.2.2.1 bt127.2.2.2.1 bt127.2.2.2.2.1 bt127.2.2.2.2.2.1 bt127.2.2.2.2.2.2.1 bt136.1 bt136.2.1 bt136.2.2.1 bt136.2.2.2.1 bt136.2.2.2.2.1 bt136.2.2.2.2.2.1 bt136.2.2.2.2.2.2.1) else (ticklerlaw16_CivilNext.j0 k bt145.1 true bt127.1 bt127.2.1 bt127.2.2.1 bt127.2.2.2.1 bt127.2.2.2.2.1 bt127.2.2.2.2.2.1 bt127.2.2.2.2.2.2.1 bt136.1 bt136.2.1 bt136.2.2.1 bt136.2.2.2.1 bt136.2.2.2.2.1 bt136.2.2.2.2.2.1 bt136.2.2.2.2.2.2.1)))))))) else (some false))) = some r := h
  clear h
  replace H := Option.bind_eq_some_iff.mp H
  obtain ⟨t126, A20, H⟩ := H
  replace H : (if t126 = true then ((civil_Split.f k (wrap64 (86400 * (Int.tmod (wrap64 ((Int.tmod a0 376199) + 376199)) 376199)))).bind fun bt127 => ((civil_Split.f k (wrap64 (86400 * (wrap64 ((Int.tmod (wrap64 ((Int.tmod a0 376199) + 376199)) 376199) + 1))))).bind fun bt136 => ((civil_Days.f k bt127.1 bt127.2.1).bind fun bt145 => ((ticklerlaw16_num.f bt127.2.2.2.2.2.2.2).bind fun t147 => ((ticklerlaw16_num.f bt136.2.2.2.2.2.2.2).bind fun t148 => ((ticklerlaw16_num.f bt145.2).bind fun t149 => (if (wrap64 ((wrap64 (t147 + t148)) + t149)) = 0 then (ticklerlaw16_CivilNext.j0 k bt145.1 (bt136.2.2.2.2.2.2.1 != (Int.tmod (wrap64 (bt127.2.2.2.2.2.2.1 + 1)) 7)) bt127.1 bt127.2.1 bt127.2.2.1 bt127.2.2.2.1 bt127.2.2.2.2.1 bt127.2.2.2.2.2.1 bt127.2.2.2.2.2.2.1 bt136.1 bt136.2.1 bt136.2.2.1 bt136.2.2.2.1 bt136.2.2.2.2.1 bt136.2.2.2.2.2.1 bt136.2.2.2.2.2.2.1) else (ticklerlaw16_CivilNext.j0 k bt145.1 true bt127.1 bt127.2.1 bt127.2.2.1 bt127.2.2.2.1 bt127.2.2.2.2.1 bt127.2.2.2.2.2.1 bt127.2.2.2.2.2.2.1 bt136.1 bt136.2.1 bt136.2.2.1 bt136.2.2.2.1 bt136.2.2.2.2.1 bt136.2.2.2.2.2.1 bt136.2.2.2.2.2.2.1)))))))) else (some false)) = some r := H
  have A2 := Aside0.mk A20
  clear A20
  by_cases c3 : t126 = true
  · subst c3
    have H1 : ((civil_Split.f k (wrap64 (86400 * (Int.tmod (wrap64 ((Int.tmod a0 376199) + 376199)) 376199)))).bind fun bt127 => ((civil_Split.f k (wrap64 (86400 * (wrap64 ((Int.tmod (wrap64 ((Int.tmod a0 376199) + 376199)) 376199) + 1))))).bind fun bt136 => ((civil_Days.f k bt127.1 bt127.2.1).bind fun bt145 => ((ticklerlaw16_num.f bt127.2.2.2.2.2.2.2).bind fun t147 => ((ticklerlaw16_num.f bt136.2.2.2.2.2.2.2).bind fun t148 => ((ticklerlaw16_num.f bt145.2).bind fun t149 => (if (wrap64 ((wrap64 (t147 + t148)) + t149)) = 0 then (ticklerlaw16_CivilNext.j0 k bt145.1 (bt136.2.2.2.2.2.2.1 != (Int.tmod (wrap64 (bt127.2.2.2.2.2.2.1 + 1)) 7)) bt127.1 bt127.2.1 bt127.2.2.1 bt127.2.2.2.1 bt127.2.2.2.2.1 bt127.2.2.2.2.2.1 bt127.2.2.2.2.2.2.1 bt136.1 bt136.2.1 bt136.2.2.1 bt136.2.2.2.1 bt136.2.2.2.2.1 bt136.2.2.2.2.2.1 bt136.2.2.2.2.2.2.1) else (ticklerlaw16_CivilNext.j0 k bt145.1 true bt127.1 bt127.2.1 bt127.2.2.1 bt127.2.2.2.1 bt127.2.2.2.2.1 bt127.2.2.2.2.2.1 bt127.2.2.2.2.2.2.1 bt136.1 bt136.2.1 bt136.2.2.1 bt136.2.2.2.1 bt136.2.2.2.2.1 bt136.2.2.2.2.2.1 bt136.2.2.2.2.2.2.1)))))))) = some r := by rw [if_pos rfl] at H; exact H
    clear H
    have H := H1
    clear H1
    replace H := Option.bind_eq_some_iff.mp H
    obtain ⟨⟨t127, t128, t129, t130, t131, t132, t133, t134⟩, A40, H⟩ := H
    replace H : ((civil_Split.f k (wrap64 (86400 * (wrap64 ((Int.tmod (wrap64 ((Int.tmod a0 376199) + 376199)) 376199) + 1))))).bind fun bt136 => ((civil_Days.f k t127 t128).bind fun bt145 => ((ticklerlaw16_num.f t134).bind fun t147 => ((ticklerlaw16_num.f bt136.2.2.2.2.2.2.2).bind fun t148 => ((ticklerlaw16_num.f bt145.2).bind fun t149 => (if (wrap64 ((wrap64 (t147 + t148)) + t149)) = 0 then (ticklerlaw16_CivilNext.j0 k bt145.1 (bt136.2.2.2.2.2.2.1 != (Int.tmod (wrap64 (t133 + 1)) 7)) t127 t128 t129 t130 t131 t132 t133 bt136.1 bt136.2.1 bt136.2.2.1 bt136.2.2.2.1 bt136.2.2.2.2.1 bt136.2.2.2.2.2.1 bt136.2.2.2.2.2.2.1) else (ticklerlaw16_CivilNext.j0 k bt145.1 true t127 t128 t129 t130 t131 t132 t133 bt136.1 bt136.2.1 bt136.2.2.1 bt136.2.2.2.1 bt136.2.2.2.2.1 bt136.2.2.2.2.2.1 bt136.2.2.2.2.2.2.1))))))) = some r := H
    have A4 := Aside0.mk A40
    clear A40
    replace H := Option.bind_eq_some_iff.mp H
    obtain ⟨⟨t136, t137, t138, t139, t140, t141, t142, t143⟩, A50, H⟩ := H
    replace H : ((civil_Days.f k t127 t128).bind fun bt145 => ((ticklerlaw16_num.f t134).bind fun t147 => ((ticklerlaw16_num.f t143).bind fun t148 => ((ticklerlaw16_num.f bt145.2).bind fun t149 => (if (wrap64 ((wrap64 (t147 + t148)) + t149)) = 0 then (ticklerlaw16_CivilNext.j0 k bt145.1 (t142 != (Int.tmod (wrap64 (t133 + 1)) 7)) t127 t128 t129 t130 t131 t132 t133 t136 t137 t138 t139 t140 t141 t142) else (ticklerlaw16_CivilNext.j0 k bt145.1 true t127 t128 t129 t130 t131 t132 t133 t136 t137 t138 t139 t140 t141 t142)))))) = some r := H
    have A5 := Aside0.mk A50
    clear A50
    replace H := Option.bind_eq_some_iff.mp H
    obtain ⟨⟨t145, t146⟩, A60, H⟩ := H
    replace H : ((ticklerlaw16_num.f t134).bind fun t147 => ((ticklerlaw16_num.f t143).bind fun t148 => ((ticklerlaw16_num.f t146).bind fun t149 => (if (wrap64 ((wrap64 (t147 + t148)) + t149)) = 0 then (ticklerlaw16_CivilNext.j0 k t145 (t142 != (Int.tmod (wrap64 (t133 + 1)) 7)) t127 t128 t129 t130 t131 t132 t133 t136 t137 t138 t139 t140 t141 t142) else (ticklerlaw16_CivilNext.j0 k t145 true t127 t128 t129 t130 t131 t132 t133 t136 t137 t138 t139 t140 t141 t142))))) = some r := H
    have A6 := Aside0.mk A60
    clear A60
    have HC7 := Aside0.mk H
    clear H
    go_enter Try.func4, Try.ntmps4
    go_upto_region 7 with (first | ((with_reducible refine gate_callee (f := 10) rfl ?_); refine goesL_ (some 9) rfl rfl Try.func10 (by kernel_rfl) rfl #[] rfl (by (try simp only [List.map_toArray, List.map_cons, List.map_nil]); first | done | rfl | (simp only [List.length_drop, List.length_take]; rfl)) ?_; (with_reducible refine (ticklerlaw16_alive.calls k  true _ A2.out).mono ?_); rintro e w8 ⟨rfl, hb⟩; refine ⟨_, rfl, ?_⟩; have n0_ := Aside0.mk (below_step (by repeat (first | (with_reducible first | exact HB.out | apply below_alloc | apply pw_below_drewN | apply below_drew1) | exact HB.out)) hb); clear HB; have HB := n0_; clear n0_; (try clear hb); (try clear hb2); (try clear hk); (try clear hi)) | ((with_reducible refine gate_callee (f := 13) rfl ?_); refine goesL_ (some 18) rfl rfl Try.func13 (by kernel_rfl) rfl #[.int .i64 (wrap64 (86400 * (Int.tmod (wrap64 ((Int.tmod a0 376199) + 376199)) 376199)))] rfl (by (try simp only [List.map_toArray, List.map_cons, List.map_nil]); first | done | rfl | (simp only [List.length_drop, List.length_take]; rfl)) ?_; (with_reducible refine (civil_Split.calls k (wrap64 (86400 * (Int.tmod (wrap64 ((Int.tmod a0 376199) + 376199)) 376199))) t127 t128 t129 t130 t131 t132 t133 t134 _ A4.out).mono ?_); rintro e w9 ⟨rfl, hb⟩; refine ⟨_, rfl, ?_⟩; have n0_ := Aside0.mk (below_step (by repeat (first | (with_reducible first | exact HB.out | apply below_alloc | apply pw_below_drewN | apply below_drew1) | exact HB.out)) hb); clear HB; have HB := n0_; clear n0_; (try clear hb); (try clear hb2); (try clear hk); (try clear hi)) | ((with_reducible refine gate_dst (N := 3) rfl ?_); refine box_event ?hg (N := 3) ?hd (cs := #[.int .i64 0, .int .i64 0, .int .i64 0, .int .i64 0, .int .i64 0, .int .i64 0, .int .i64 0]) (t := 29) ?hr ?_; (case hd => rfl); (case hg => rfl); (case hr => first | (go_simp; done) | (go_simp; rfl)); intro gb135 hg w10 hbox hb; have n0_ := Aside0.mk (below_step (by repeat (first | (with_reducible first | exact HB.out | apply below_alloc | apply pw_below_drewN | apply below_drew1) | exact HB.out)) hb); have n1_ := Aside0.mk (hbox); have n2_ := Aside0.mk ((by rw [hg]; exact (below_size (by repeat (first | (with_reducible first | exact HB.out | apply below_alloc | apply pw_below_drewN | apply below_drew1) | exact HB.out))) : w.heap.size ≤ gb135)); have n3_ := Aside0.mk ((by rw [hg]; exact (below_size (by repeat (first | (with_reducible first | exact HB.out | apply below_alloc | apply pw_below_drewN | apply below_drew1) | exact HB.out))) : w.heap.size ≤ gb135)); clear HB; have HB := n0_; have BK135 := n1_; have GW135 := n2_; have GE135 := n3_; clear n0_ n1_ n2_ n3_; clear hb hbox hg; have hcz11_0 : w10.cell? ⟨gb135, 0, none⟩ = some (.int .i64 0) := (blk_cell BK135.out 0).trans rfl; have hcz11_1 : w10.cell? ⟨gb135, 1, none⟩ = some (.int .i64 0) := (blk_cell BK135.out 1).trans rfl; have hcz11_2 : w10.cell? ⟨gb135, 2, none⟩ = some (.int .i64 0) := (blk_cell BK135.out 2).trans rfl; have hcz11_3 : w10.cell? ⟨gb135, 3, none⟩ = some (.int .i64 0) := (blk_cell BK135.out 3).trans rfl; have hcz11_4 : w10.cell? ⟨gb135, 4, none⟩ = some (.int .i64 0) := (blk_cell BK135.out 4).trans rfl; have hcz11_5 : w10.cell? ⟨gb135, 5, none⟩ = some (.int .i64 0) := (blk_cell BK135.out 5).trans rfl; have hcz11_6 : w10.cell? ⟨gb135, 6, none⟩ = some (.int .i64 0) := (blk_cell BK135.out 6).trans rfl; have hfz11_0 := blk_frozen BK135.out 0; have hfz11_1 := blk_frozen BK135.out 1; have hfz11_2 := blk_frozen BK135.out 2; have hfz11_3 := blk_frozen BK135.out 3; have hfz11_4 := blk_frozen BK135.out 4; have hfz11_5 := blk_frozen BK135.out 5; have hfz11_6 := blk_frozen BK135.out 6) | ((with_reducible refine gate_callee (f := 13) rfl ?_); refine goesL_ (some 25) rfl rfl Try.func13 (by kernel_rfl) rfl #[.int .i64 (wrap64 (86400 * (wrap64 ((Int.tmod (wrap64 ((Int.tmod a0 376199) + 376199)) 376199) + 1))))] rfl (by (try simp only [List.map_toArray, List.map_cons, List.map_nil]); first | done | rfl | (simp only [List.length_drop, List.length_take]; rfl)) ?_; (with_reducible refine (civil_Split.calls k (wrap64 (86400 * (wrap64 ((Int.tmod (wrap64 ((Int.tmod a0 376199) + 376199)) 376199) + 1)))) t136 t137 t138 t139 t140 t141 t142 t143 _ A5.out).mono ?_); rintro e w12 ⟨rfl, hb⟩; refine ⟨_, rfl, ?_⟩; have n0_ := Aside0.mk (blk_below (g := gb135) (o := .cells #[.int .i64 t127, .int .i64 t128, .int .i64 t129, .int .i64 t130, .int .i64 t131, .int .i64 t132, .int .i64 t133] 29 (0, 0)) (by (with_reducible repeat (first | refine blk_drewN ?_ _ | refine blk_drew ?_ | refine blk_alloc ?_ _)); refine blk_put (cs := #[.int .i64 t127, .int .i64 t128, .int .i64 t129, .int .i64 t130, .int .i64 t131, .int .i64 t132, .int .i64 0]) ?_ 6 _ rfl; (with_reducible repeat (first | refine blk_drewN ?_ _ | refine blk_drew ?_ | refine blk_alloc ?_ _)); refine blk_put (cs := #[.int .i64 t127, .int .i64 t128, .int .i64 t129, .int .i64 t130, .int .i64 t131, .int .i64 0, .int .i64 0]) ?_ 5 _ rfl; (with_reducible repeat (first | refine blk_drewN ?_ _ | refine blk_drew ?_ | refine blk_alloc ?_ _)); refine blk_put (cs := #[.int .i64 t127, .int .i64 t128, .int .i64 t129, .int .i64 t130, .int .i64 0, .int .i64 0, .int .i64 0]) ?_ 4 _ rfl; (with_reducible repeat (first | refine blk_drewN ?_ _ | refine blk_drew ?_ | refine blk_alloc ?_ _)); refine blk_put (cs := #[.int .i64 t127, .int .i64 t128, .int .i64 t129, .int .i64 0, .int .i64 0, .int .i64 0, .int .i64 0]) ?_ 3 _ rfl; (with_reducible repeat (first | refine blk_drewN ?_ _ | refine blk_drew ?_ | refine blk_alloc ?_ _)); refine blk_put (cs := #[.int .i64 t127, .int .i64 t128, .int .i64 0, .int .i64 0, .int .i64 0, .int .i64 0, .int .i64 0]) ?_ 2 _ rfl; (with_reducible repeat (first | refine blk_drewN ?_ _ | refine blk_drew ?_ | refine blk_alloc ?_ _)); refine blk_put (cs := #[.int .i64 t127, .int .i64 0, .int .i64 0, .int .i64 0, .int .i64 0, .int .i64 0, .int .i64 0]) ?_ 1 _ rfl; (with_reducible repeat (first | refine blk_drewN ?_ _ | refine blk_drew ?_ | refine blk_alloc ?_ _)); refine blk_put (cs := #[.int .i64 0, .int .i64 0, .int .i64 0, .int .i64 0, .int .i64 0, .int .i64 0, .int .i64 0]) ?_ 0 _ rfl; (with_reducible repeat (first | refine blk_drewN ?_ _ | refine blk_drew ?_ | refine blk_alloc ?_ _)); exact BK135.out) hb); have n1_ := Aside0.mk (below_step (by repeat (first | (with_reducible first | exact HB.out | apply below_alloc | apply pw_below_drewN | apply below_drew1 | refine below_set ?_ GE135.out) | exact HB.out)) hb); clear BK135; clear HB; have BK135 := n0_; have HB := n1_; clear n0_ n1_; (try clear hb); (try clear hb2); (try clear hk); (try clear hi)) | ((with_reducible refine gate_dst (N := 5) rfl ?_); refine box_event ?hg (N := 5) ?hd (cs := #[.int .i64 0, .int .i64 0, .int .i64 0, .int .i64 0, .int .i64 0, .int .i64 0, .int .i64 0]) (t := 29) ?hr ?_; (case hd => rfl); (case hg => rfl); (case hr => first | (go_simp; done) | (go_simp; rfl)); intro gb144 hg w13 hbox hb; have n0_ := Aside0.mk (blk_below (g := gb135) (o := .cells #[.int .i64 t127, .int .i64 t128, .int .i64 t129, .int .i64 t130, .int .i64 t131, .int .i64 t132, .int .i64 t133] 29 (0, 0)) (by (with_reducible repeat (first | refine blk_drewN ?_ _ | refine blk_drew ?_ | refine blk_alloc ?_ _)); exact BK135.out) hb); have n1_ := Aside0.mk (below_step (by repeat (first | (with_reducible first | exact HB.out | apply below_alloc | apply pw_below_drewN | apply below_drew1 | refine below_set ?_ GE135.out) | exact HB.out)) hb); have n2_ := Aside0.mk (hbox); have n3_ := Aside0.mk ((by rw [hg]; exact (below_size (by repeat (first | (with_reducible first | exact HB.out | apply below_alloc | apply pw_below_drewN | apply below_drew1 | refine below_set ?_ GE135.out) | exact HB.out))) : w.heap.size ≤ gb144)); have n4_ := Aside0.mk ((by rw [hg]; exact (below_size (by repeat (first | (with_reducible first | exact HB.out | apply below_alloc | apply pw_below_drewN | apply below_drew1 | refine below_set ?_ GE135.out) | exact HB.out))) : w.heap.size ≤ gb144)); have n5_ := Aside0.mk ((by rw [hg]; exact Nat.ne_of_lt (blk_lt (g := gb135) (o := .cells #[.int .i64 t127, .int .i64 t128, .int .i64 t129, .int .i64 t130, .int .i64 t131, .int .i64 t132, .int .i64 t133] 29 (0, 0)) (by (with_reducible repeat (first | refine blk_drewN ?_ _ | refine blk_drew ?_ | refine blk_alloc ?_ _)); exact BK135.out)) : gb135 ≠ gb144)); have n6_ := Aside0.mk ((by rw [hg]; exact Nat.ne_of_gt (blk_lt (g := gb135) (o := .cells #[.int .i64 t127, .int .i64 t128, .int .i64 t129, .int .i64 t130, .int .i64 t131, .int .i64 t132, .int .i64 t133] 29 (0, 0)) (by (with_reducible repeat (first | refine blk_drewN ?_ _ | refine blk_drew ?_ | refine blk_alloc ?_ _)); exact BK135.out)) : gb144 ≠ gb135)); clear BK135; clear HB; have BK135 := n0_; have HB := n1_; have BK144 := n2_; have GW144 := n3_; have GE144 := n4_; have NB135_144 := n5_; have NB144_135 := n6_; clear n0_ n1_ n2_ n3_ n4_ n5_ n6_; clear hb hbox hg; have hnb14 := NB144_135.out; have hnc14 := NB135_144.out; have hcz15_0 : w13.cell? ⟨gb144, 0, none⟩ = some (.int .i64 0) := (blk_cell BK144.out 0).trans rfl; have hcz15_1 : w13.cell? ⟨gb144, 1, none⟩ = some (.int .i64 0) := (blk_cell BK144.out 1).trans rfl; have hcz15_2 : w13.cell? ⟨gb144, 2, none⟩ = some (.int .i64 0) := (blk_cell BK144.out 2).trans rfl; have hcz15_3 : w13.cell? ⟨gb144, 3, none⟩ = some (.int .i64 0) := (blk_cell BK144.out 3).trans rfl; have hcz15_4 : w13.cell? ⟨gb144, 4, none⟩ = some (.int .i64 0) := (blk_cell BK144.out 4).trans rfl; have hcz15_5 : w13.cell? ⟨gb144, 5, none⟩ = some (.int .i64 0) := (blk_cell BK144.out 5).trans rfl; have hcz15_6 : w13.cell? ⟨gb144, 6, none⟩ = some (.int .i64 0) := (blk_cell BK144.out 6).trans rfl; have hfz15_0 := blk_frozen BK144.out 0; have hfz15_1 := blk_frozen BK144.out 1; have hfz15_2 := blk_frozen BK144.out 2; have hfz15_3 := blk_frozen BK144.out 3; have hfz15_4 := blk_frozen BK144.out 4; have hfz15_5 := blk_frozen BK144.out 5; have hfz15_6 := blk_frozen BK144.out 6; have hcz16_0 : w13.cell? ⟨gb135, 0, none⟩ = some (.int .i64 t127) := (blk_cell BK135.out 0).trans rfl; have hcz16_1 : w13.cell? ⟨gb135, 1, none⟩ = some (.int .i64 t128) := (blk_cell BK135.out 1).trans rfl; have hcz16_2 : w13.cell? ⟨gb135, 2, none⟩ = some (.int .i64 t129) := (blk_cell BK135.out 2).trans rfl; have hcz16_3 : w13.cell? ⟨gb135, 3, none⟩ = some (.int .i64 t130) := (blk_cell BK135.out 3).trans rfl; have hcz16_4 : w13.cell? ⟨gb135, 4, none⟩ = some (.int .i64 t131) := (blk_cell BK135.out 4).trans rfl; have hcz16_5 : w13.cell? ⟨gb135, 5, none⟩ = some (.int .i64 t132) := (blk_cell BK135.out 5).trans rfl; have hcz16_6 : w13.cell? ⟨gb135, 6, none⟩ = some (.int .i64 t133) := (blk_cell BK135.out 6).trans rfl; have hfz16_0 := blk_frozen BK135.out 0; have hfz16_1 := blk_frozen BK135.out 1; have hfz16_2 := blk_frozen BK135.out 2; have hfz16_3 := blk_frozen BK135.out 3; have hfz16_4 := blk_frozen BK135.out 4; have hfz16_5 := blk_frozen BK135.out 5; have hfz16_6 := blk_frozen BK135.out 6) | ((with_reducible refine gate_callee (f := 14) rfl ?_); refine goesL_ (some 33) rfl rfl Try.func14 (by kernel_rfl) rfl #[.int .i64 t127, .int .i64 t128] rfl (by (try simp only [List.map_toArray, List.map_cons, List.map_nil]); first | done | rfl | (simp only [List.length_drop, List.length_take]; rfl)) ?_; (with_reducible refine (civil_Days.calls k t127 t128 t145 t146 _ A6.out).mono ?_); rintro e w' ⟨rfl, ⟨nd, rfl⟩⟩; refine ⟨_, rfl, ?_⟩))
    (try simp only [Act.put, List.setIfInBounds_toArray, List.set_cons_zero, List.set_cons_succ])
    go_cut [53] (fun v53 wc => ∃ (kq : Nat) (x53_6 : Bool), v53 = .bool x53_6 ∧ Aside0 (ticklerlaw16_CivilNext.j0 kq t145 x53_6 t127 t128 t129 t130 t131 t132 t133 t136 t137 t138 t139 t140 t141 t142 = some r) ∧ Aside0 (kq ≤ k) ∧ Aside0 (wc.heap[gb135]? = some (.cells #[.int .i64 t127, .int .i64 t128, .int .i64 t129, .int .i64 t130, .int .i64 t131, .int .i64 t132, .int .i64 t133] 29 (0, 0))) ∧ Aside0 (wc.heap[gb144]? = some (.cells #[.int .i64 t136, .int .i64 t137, .int .i64 t138, .int .i64 t139, .int .i64 t140, .int .i64 t141, .int .i64 t142] 29 (0, 0))) ∧ Aside0 (Below w.heap.size w wc))
    case first =>
      have H := HC7.out
      clear HC7
      replace H := Option.bind_eq_some_iff.mp H
      obtain ⟨t147, A170, H⟩ := H
      replace H : ((ticklerlaw16_num.f t143).bind fun t148 => ((ticklerlaw16_num.f t146).bind fun t149 => (if (wrap64 ((wrap64 (t147 + t148)) + t149)) = 0 then (ticklerlaw16_CivilNext.j0 k t145 (t142 != (Int.tmod (wrap64 (t133 + 1)) 7)) t127 t128 t129 t130 t131 t132 t133 t136 t137 t138 t139 t140 t141 t142) else (ticklerlaw16_CivilNext.j0 k t145 true t127 t128 t129 t130 t131 t132 t133 t136 t137 t138 t139 t140 t141 t142)))) = some r := H
      have A17 := Aside0.mk A170
      clear A170
      replace H := Option.bind_eq_some_iff.mp H
      obtain ⟨t148, A180, H⟩ := H
      replace H : ((ticklerlaw16_num.f t146).bind fun t149 => (if (wrap64 ((wrap64 (t147 + t148)) + t149)) = 0 then (ticklerlaw16_CivilNext.j0 k t145 (t142 != (Int.tmod (wrap64 (t133 + 1)) 7)) t127 t128 t129 t130 t131 t132 t133 t136 t137 t138 t139 t140 t141 t142) else (ticklerlaw16_CivilNext.j0 k t145 true t127 t128 t129 t130 t131 t132 t133 t136 t137 t138 t139 t140 t141 t142))) = some r := H
      have A18 := Aside0.mk A180
      clear A180
      replace H := Option.bind_eq_some_iff.mp H
      obtain ⟨t149, A190, H⟩ := H
      replace H : (if (wrap64 ((wrap64 (t147 + t148)) + t149)) = 0 then (ticklerlaw16_CivilNext.j0 k t145 (t142 != (Int.tmod (wrap64 (t133 + 1)) 7)) t127 t128 t129 t130 t131 t132 t133 t136 t137 t138 t139 t140 t141 t142) else (ticklerlaw16_CivilNext.j0 k t145 true t127 t128 t129 t130 t131 t132 t133 t136 t137 t138 t139 t140 t141 t142)) = some r := H
      have A19 := Aside0.mk A190
      clear A190
      by_cases c20 : (wrap64 ((wrap64 (t147 + t148)) + t149)) = 0
      · rw [if_pos c20] at H
        have c20b0 : ((wrap64 ((wrap64 (t147 + t148)) + t149)) == 0) = true := beq_iff_eq.mpr c20
        have c20b1 : ((wrap64 ((wrap64 (t147 + t148)) + t149)) != 0) = false := bne_eq_false_iff_eq.mpr c20
        clear c20
        (first | rw [c20b0] | (simp only [i64_w, i32_w]; rw [c20b0]) | skip)
        have H' := Aside0.mk H
        clear H
        go_wp2_with (first | ((with_reducible refine gate_callee (f := 12) rfl ?_); refine goesL_ (some 37) rfl rfl Try.func12 (by kernel_rfl) rfl #[.int .i64 t134] rfl (by (try simp only [List.map_toArray, List.map_cons, List.map_nil]); first | done | rfl | (simp only [List.length_drop, List.length_take]; rfl)) ?_; (with_reducible refine (ticklerlaw16_num.calls t134 t147 _ A17.out).mono ?_); rintro e w' ⟨rfl, ⟨nd, rfl⟩⟩; refine ⟨_, rfl, ?_⟩) | ((with_reducible refine gate_callee (f := 12) rfl ?_); refine goesL_ (some 39) rfl rfl Try.func12 (by kernel_rfl) rfl #[.int .i64 t143] rfl (by (try simp only [List.map_toArray, List.map_cons, List.map_nil]); first | done | rfl | (simp only [List.length_drop, List.length_take]; rfl)) ?_; (with_reducible refine (ticklerlaw16_num.calls t143 t148 _ A18.out).mono ?_); rintro e w' ⟨rfl, ⟨nd, rfl⟩⟩; refine ⟨_, rfl, ?_⟩) | ((with_reducible refine gate_callee (f := 12) rfl ?_); refine goesL_ (some 42) rfl rfl Try.func12 (by kernel_rfl) rfl #[.int .i64 t146] rfl (by (try simp only [List.map_toArray, List.map_cons, List.map_nil]); first | done | rfl | (simp only [List.length_drop, List.length_take]; rfl)) ?_; (with_reducible refine (ticklerlaw16_num.calls t146 t149 _ A19.out).mono ?_); rintro e w' ⟨rfl, ⟨nd, rfl⟩⟩; refine ⟨_, rfl, ?_⟩; have hnb21 := NB144_135.out; have hnc21 := NB135_144.out; have hcz22_0 : w13.cell? ⟨gb144, 0, none⟩ = some (.int .i64 0) := (blk_cell BK144.out 0).trans rfl; have hcz22_1 : w13.cell? ⟨gb144, 1, none⟩ = some (.int .i64 0) := (blk_cell BK144.out 1).trans rfl; have hcz22_2 : w13.cell? ⟨gb144, 2, none⟩ = some (.int .i64 0) := (blk_cell BK144.out 2).trans rfl; have hcz22_3 : w13.cell? ⟨gb144, 3, none⟩ = some (.int .i64 0) := (blk_cell BK144.out 3).trans rfl; have hcz22_4 : w13.cell? ⟨gb144, 4, none⟩ = some (.int .i64 0) := (blk_cell BK144.out 4).trans rfl; have hcz22_5 : w13.cell? ⟨gb144, 5, none⟩ = some (.int .i64 0) := (blk_cell BK144.out 5).trans rfl; have hcz22_6 : w13.cell? ⟨gb144, 6, none⟩ = some (.int .i64 0) := (blk_cell BK144.out 6).trans rfl; have hfz22_0 := blk_frozen BK144.out 0; have hfz22_1 := blk_frozen BK144.out 1; have hfz22_2 := blk_frozen BK144.out 2; have hfz22_3 := blk_frozen BK144.out 3; have hfz22_4 := blk_frozen BK144.out 4; have hfz22_5 := blk_frozen BK144.out 5; have hfz22_6 := blk_frozen BK144.out 6; have hcz23_0 : w13.cell? ⟨gb135, 0, none⟩ = some (.int .i64 t127) := (blk_cell BK135.out 0).trans rfl; have hcz23_1 : w13.cell? ⟨gb135, 1, none⟩ = some (.int .i64 t128) := (blk_cell BK135.out 1).trans rfl; have hcz23_2 : w13.cell? ⟨gb135, 2, none⟩ = some (.int .i64 t129) := (blk_cell BK135.out 2).trans rfl; have hcz23_3 : w13.cell? ⟨gb135, 3, none⟩ = some (.int .i64 t130) := (blk_cell BK135.out 3).trans rfl; have hcz23_4 : w13.cell? ⟨gb135, 4, none⟩ = some (.int .i64 t131) := (blk_cell BK135.out 4).trans rfl; have hcz23_5 : w13.cell? ⟨gb135, 5, none⟩ = some (.int .i64 t132) := (blk_cell BK135.out 5).trans rfl; have hcz23_6 : w13.cell? ⟨gb135, 6, none⟩ = some (.int .i64 t133) := (blk_cell BK135.out 6).trans rfl; have hfz23_0 := blk_frozen BK135.out 0; have hfz23_1 := blk_frozen BK135.out 1; have hfz23_2 := blk_frozen BK135.out 2; have hfz23_3 := blk_frozen BK135.out 3; have hfz23_4 := blk_frozen BK135.out 4; have hfz23_5 := blk_frozen BK135.out 5; have hfz23_6 := blk_frozen BK135.out 6))
        go_meet
        case rel => exact ⟨_, ((t142 != (Int.tmod (wrap64 (t133 + 1)) 7))), (by first | rfl | (simp; done) | (simp [*]; done)), H', ⟨by first | omega | exact Nat.le_refl _⟩, ⟨by (with_reducible repeat (first | refine blk_drewN ?_ _ | refine blk_drew ?_ | refine blk_alloc ?_ _)); refine blk_far ?_ NB135_144.out _; (with_reducible repeat (first | refine blk_drewN ?_ _ | refine blk_drew ?_ | refine blk_alloc ?_ _)); refine blk_far ?_ NB135_144.out _; (with_reducible repeat (first | refine blk_drewN ?_ _ | refine blk_drew ?_ | refine blk_alloc ?_ _)); refine blk_far ?_ NB135_144.out _; (with_reducible repeat (first | refine blk_drewN ?_ _ | refine blk_drew ?_ | refine blk_alloc ?_ _)); refine blk_far ?_ NB135_144.out _; (with_reducible repeat (first | refine blk_drewN ?_ _ | refine blk_drew ?_ | refine blk_alloc ?_ _)); refine blk_far ?_ NB135_144.out _; (with_reducible repeat (first | refine blk_drewN ?_ _ | refine blk_drew ?_ | refine blk_alloc ?_ _)); refine blk_far ?_ NB135_144.out _; (with_reducible repeat (first | refine blk_drewN ?_ _ | refine blk_drew ?_ | refine blk_alloc ?_ _)); refine blk_far ?_ NB135_144.out _; (with_reducible repeat (first | refine blk_drewN ?_ _ | refine blk_drew ?_ | refine blk_alloc ?_ _)); exact BK135.out⟩, ⟨by (with_reducible repeat (first | refine blk_drewN ?_ _ | refine blk_drew ?_ | refine blk_alloc ?_ _)); refine blk_put (cs := #[.int .i64 t136, .int .i64 t137, .int .i64 t138, .int .i64 t139, .int .i64 t140, .int .i64 t141, .int .i64 0]) ?_ 6 _ rfl; (with_reducible repeat (first | refine blk_drewN ?_ _ | refine blk_drew ?_ | refine blk_alloc ?_ _)); refine blk_put (cs := #[.int .i64 t136, .int .i64 t137, .int .i64 t138, .int .i64 t139, .int .i64 t140, .int .i64 0, .int .i64 0]) ?_ 5 _ rfl; (with_reducible repeat (first | refine blk_drewN ?_ _ | refine blk_drew ?_ | refine blk_alloc ?_ _)); refine blk_put (cs := #[.int .i64 t136, .int .i64 t137, .int .i64 t138, .int .i64 t139, .int .i64 0, .int .i64 0, .int .i64 0]) ?_ 4 _ rfl; (with_reducible repeat (first | refine blk_drewN ?_ _ | refine blk_drew ?_ | refine blk_alloc ?_ _)); refine blk_put (cs := #[.int .i64 t136, .int .i64 t137, .int .i64 t138, .int .i64 0, .int .i64 0, .int .i64 0, .int .i64 0]) ?_ 3 _ rfl; (with_reducible repeat (first | refine blk_drewN ?_ _ | refine blk_drew ?_ | refine blk_alloc ?_ _)); refine blk_put (cs := #[.int .i64 t136, .int .i64 t137, .int .i64 0, .int .i64 0, .int .i64 0, .int .i64 0, .int .i64 0]) ?_ 2 _ rfl; (with_reducible repeat (first | refine blk_drewN ?_ _ | refine blk_drew ?_ | refine blk_alloc ?_ _)); refine blk_put (cs := #[.int .i64 t136, .int .i64 0, .int .i64 0, .int .i64 0, .int .i64 0, .int .i64 0, .int .i64 0]) ?_ 1 _ rfl; (with_reducible repeat (first | refine blk_drewN ?_ _ | refine blk_drew ?_ | refine blk_alloc ?_ _)); refine blk_put (cs := #[.int .i64 0, .int .i64 0, .int .i64 0, .int .i64 0, .int .i64 0, .int .i64 0, .int .i64 0]) ?_ 0 _ rfl; (with_reducible repeat (first | refine blk_drewN ?_ _ | refine blk_drew ?_ | refine blk_alloc ?_ _)); exact BK144.out⟩, ⟨by repeat (first | (with_reducible first | exact HB.out | apply below_alloc | apply pw_below_drewN | apply below_drew1 | refine below_set ?_ GE135.out | refine below_set ?_ GE144.out) | exact HB.out)⟩⟩
      · rw [if_neg c20] at H
        have c20b0 : ((wrap64 ((wrap64 (t147 + t148)) + t149)) == 0) = false := beq_eq_false_iff_ne.mpr c20
        have c20b1 : ((wrap64 ((wrap64 (t147 + t148)) + t149)) != 0) = true := bne_iff_ne.mpr c20
        (first | rw [c20b0] | (simp only [i64_w, i32_w]; rw [c20b0]) | skip)
        have H' := Aside0.mk H
        clear H
        go_wp2_with (first | ((with_reducible refine gate_callee (f := 12) rfl ?_); refine goesL_ (some 37) rfl rfl Try.func12 (by kernel_rfl) rfl #[.int .i64 t134] rfl (by (try simp only [List.map_toArray, List.map_cons, List.map_nil]); first | done | rfl | (simp only [List.length_drop, List.length_take]; rfl)) ?_; (with_reducible refine (ticklerlaw16_num.calls t134 t147 _ A17.out).mono ?_); rintro e w' ⟨rfl, ⟨nd, rfl⟩⟩; refine ⟨_, rfl, ?_⟩) | ((with_reducible refine gate_callee (f := 12) rfl ?_); refine goesL_ (some 39) rfl rfl Try.func12 (by kernel_rfl) rfl #[.int .i64 t143] rfl (by (try simp only [List.map_toArray, List.map_cons, List.map_nil]); first | done | rfl | (simp only [List.length_drop, List.length_take]; rfl)) ?_; (with_reducible refine (ticklerlaw16_num.calls t143 t148 _ A18.out).mono ?_); rintro e w' ⟨rfl, ⟨nd, rfl⟩⟩; refine ⟨_, rfl, ?_⟩) | ((with_reducible refine gate_callee (f := 12) rfl ?_); refine goesL_ (some 42) rfl rfl Try.func12 (by kernel_rfl) rfl #[.int .i64 t146] rfl (by (try simp only [List.map_toArray, List.map_cons, List.map_nil]); first | done | rfl | (simp only [List.length_drop, List.length_take]; rfl)) ?_; (with_reducible refine (ticklerlaw16_num.calls t146 t149 _ A19.out).mono ?_); rintro e w' ⟨rfl, ⟨nd, rfl⟩⟩; refine ⟨_, rfl, ?_⟩))
        go_meet
        case rel => exact ⟨_, (true), (by first | rfl | (simp; done) | (simp [*]; done)), H', ⟨by first | omega | exact Nat.le_refl _⟩, ⟨by (with_reducible repeat (first | refine blk_drewN ?_ _ | refine blk_drew ?_ | refine blk_alloc ?_ _)); refine blk_far ?_ NB135_144.out _; (with_reducible repeat (first | refine blk_drewN ?_ _ | refine blk_drew ?_ | refine blk_alloc ?_ _)); refine blk_far ?_ NB135_144.out _; (with_reducible repeat (first | refine blk_drewN ?_ _ | refine blk_drew ?_ | refine blk_alloc ?_ _)); refine blk_far ?_ NB135_144.out _; (with_reducible repeat (first | refine blk_drewN ?_ _ | refine blk_drew ?_ | refine blk_alloc ?_ _)); refine blk_far ?_ NB135_144.out _; (with_reducible repeat (first | refine blk_drewN ?_ _ | refine blk_drew ?_ | refine blk_alloc ?_ _)); refine blk_far ?_ NB135_144.out _; (with_reducible repeat (first | refine blk_drewN ?_ _ | refine blk_drew ?_ | refine blk_alloc ?_ _)); refine blk_far ?_ NB135_144.out _; (with_reducible repeat (first | refine blk_drewN ?_ _ | refine blk_drew ?_ | refine blk_alloc ?_ _)); refine blk_far ?_ NB135_144.out _; (with_reducible repeat (first | refine blk_drewN ?_ _ | refine blk_drew ?_ | refine blk_alloc ?_ _)); exact BK135.out⟩, ⟨by (with_reducible repeat (first | refine blk_drewN ?_ _ | refine blk_drew ?_ | refine blk_alloc ?_ _)); refine blk_put (cs := #[.int .i64 t136, .int .i64 t137, .int .i64 t138, .int .i64 t139, .int .i64 t140, .int .i64 t141, .int .i64 0]) ?_ 6 _ rfl; (with_reducible repeat (first | refine blk_drewN ?_ _ | refine blk_drew ?_ | refine blk_alloc ?_ _)); refine blk_put (cs := #[.int .i64 t136, .int .i64 t137, .int .i64 t138, .int .i64 t139, .int .i64 t140, .int .i64 0, .int .i64 0]) ?_ 5 _ rfl; (with_reducible repeat (first | refine blk_drewN ?_ _ | refine blk_drew ?_ | refine blk_alloc ?_ _)); refine blk_put (cs := #[.int .i64 t136, .int .i64 t137, .int .i64 t138, .int .i64 t139, .int .i64 0, .int .i64 0, .int .i64 0]) ?_ 4 _ rfl; (with_reducible repeat (first | refine blk_drewN ?_ _ | refine blk_drew ?_ | refine blk_alloc ?_ _)); refine blk_put (cs := #[.int .i64 t136, .int .i64 t137, .int .i64 t138, .int .i64 0, .int .i64 0, .int .i64 0, .int .i64 0]) ?_ 3 _ rfl; (with_reducible repeat (first | refine blk_drewN ?_ _ | refine blk_drew ?_ | refine blk_alloc ?_ _)); refine blk_put (cs := #[.int .i64 t136, .int .i64 t137, .int .i64 0, .int .i64 0, .int .i64 0, .int .i64 0, .int .i64 0]) ?_ 2 _ rfl; (with_reducible repeat (first | refine blk_drewN ?_ _ | refine blk_drew ?_ | refine blk_alloc ?_ _)); refine blk_put (cs := #[.int .i64 t136, .int .i64 0, .int .i64 0, .int .i64 0, .int .i64 0, .int .i64 0, .int .i64 0]) ?_ 1 _ rfl; (with_reducible repeat (first | refine blk_drewN ?_ _ | refine blk_drew ?_ | refine blk_alloc ?_ _)); refine blk_put (cs := #[.int .i64 0, .int .i64 0, .int .i64 0, .int .i64 0, .int .i64 0, .int .i64 0, .int .i64 0]) ?_ 0 _ rfl; (with_reducible repeat (first | refine blk_drewN ?_ _ | refine blk_drew ?_ | refine blk_alloc ?_ _)); exact BK144.out⟩, ⟨by repeat (first | (with_reducible first | exact HB.out | apply below_alloc | apply pw_below_drewN | apply below_drew1 | refine below_set ?_ GE135.out | refine below_set ?_ GE144.out) | exact HB.out)⟩⟩
    case rest =>
      clear HC7
      try clear c1
      try clear c2
      try clear p2
      try clear c3
      try clear c4
      try clear p6
      try clear c10
      try clear c12
      try clear c13
      try clear c14
      try clear c20
      try clear c20b0
      try clear c20b1
      try clear c21
      try clear hcz11_0
      try clear hcz11_1
      try clear hcz11_2
      try clear hcz11_3
      try clear hcz11_4
      try clear hcz11_5
      try clear hcz11_6
      try clear hcz15_0
      try clear hcz15_1
      try clear hcz15_2
      try clear hcz15_3
      try clear hcz15_4
      try clear hcz15_5
      try clear hcz15_6
      try clear hcz16_0
      try clear hcz16_1
      try clear hcz16_2
      try clear hcz16_3
      try clear hcz16_4
      try clear hcz16_5
      try clear hcz16_6
      try clear hcz22_0
      try clear hcz22_1
      try clear hcz22_2
      try clear hcz22_3
      try clear hcz22_4
      try clear hcz22_5
      try clear hcz22_6
      try clear hcz23_0
      try clear hcz23_1
      try clear hcz23_2
      try clear hcz23_3
      try clear hcz23_4
      try clear hcz23_5
      try clear hcz23_6
      try clear hfz11_0
      try clear hfz11_1
      try clear hfz11_2
      try clear hfz11_3
      try clear hfz11_4
      try clear hfz11_5
      try clear hfz11_6
      try clear hfz15_0
      try clear hfz15_1
      try clear hfz15_2
      try clear hfz15_3
      try clear hfz15_4
      try clear hfz15_5
      try clear hfz15_6
      try clear hfz16_0
      try clear hfz16_1
      try clear hfz16_2
      try clear hfz16_3
      try clear hfz16_4
      try clear hfz16_5
      try clear hfz16_6
      try clear hfz22_0
      try clear hfz22_1
      try clear hfz22_2
      try clear hfz22_3
      try clear hfz22_4
      try clear hfz22_5
      try clear hfz22_6
      try clear hfz23_0
      try clear hfz23_1
      try clear hfz23_2
      try clear hfz23_3
      try clear hfz23_4
      try clear hfz23_5
      try clear hfz23_6
      obtain ⟨kq, x53_6, rfl, HA, HJ6, BK135, BK144, HB⟩ := hcut
      cases kq with
      | zero => exact absurd HA.out (by simp [ticklerlaw16_CivilNext.j0])
      | succ kj6 =>
        have H := HA.out
        clear HA
        simp only [ticklerlaw16_CivilNext.j0] at H
        by_cases c24 : x53_6 = true
        · subst c24
          have H1 : (some false) = some r := by rw [if_pos rfl] at H; exact H
          clear H
          have H := H1
          clear H1
          obtain rfl := Option.some.inj H
          go_wp2
          go_ret
          exact ⟨by first | rfl | (simp [errW_none, errW_some] <;> rfl) | (simp [*, errW_none, errW_some] <;> rfl), by repeat (first | (with_reducible first | exact HB.out | apply below_alloc | apply pw_below_drewN | apply below_drew1 | refine below_set ?_ GE135.out | refine below_set ?_ GE144.out) | exact HB.out)⟩
        · replace c24 := Bool.eq_false_iff.mpr c24
          subst c24
          have H1 : (if t129 < t145 then (if t136 = t127 then (if t137 = t128 then (some (t138 == (wrap64 (t129 + 1)))) else (some false)) else (some false)) else (if t128 < 12 then (if t136 = t127 then (if t137 = (wrap64 (t128 + 1)) then (some (t138 == 1)) else (some false)) else (some false)) else (if t136 = (wrap64 (t127 + 1)) then (if t137 = 1 then (some (t138 == 1)) else (some false)) else (some false)))) = some r := by rw [if_neg (show ¬ (false = true) by decide)] at H; exact H
          clear H
          have H := H1
          clear H1
          by_cases c25 : t129 < t145
          · rw [if_pos c25] at H
            have c25b0 : decide (t129 < t145) = true := decide_eq_true c25
            clear c25
            by_cases c26 : t136 = t127
            · rw [if_pos c26] at H
              have c26b0 : (t136 == t127) = true := beq_iff_eq.mpr c26
              have c26b1 : (t136 != t127) = false := bne_eq_false_iff_eq.mpr c26
              clear c26
              by_cases c27 : t137 = t128
              · rw [if_pos c27] at H
                have c27b0 : (t137 == t128) = true := beq_iff_eq.mpr c27
                have c27b1 : (t137 != t128) = false := bne_eq_false_iff_eq.mpr c27
                clear c27
                obtain rfl := Option.some.inj H
                have hnb28 := NB135_144.out
                have hnc28 := NB144_135.out
                have hcz29_0 : wc.cell? ⟨gb135, 0, none⟩ = some (.int .i64 t127) := (blk_cell BK135.out 0).trans rfl
                have hcz29_1 : wc.cell? ⟨gb135, 1, none⟩ = some (.int .i64 t128) := (blk_cell BK135.out 1).trans rfl
                have hcz29_2 : wc.cell? ⟨gb135, 2, none⟩ = some (.int .i64 t129) := (blk_cell BK135.out 2).trans rfl
                have hcz29_3 : wc.cell? ⟨gb135, 3, none⟩ = some (.int .i64 t130) := (blk_cell BK135.out 3).trans rfl
                have hcz29_4 : wc.cell? ⟨gb135, 4, none⟩ = some (.int .i64 t131) := (blk_cell BK135.out 4).trans rfl
                have hcz29_5 : wc.cell? ⟨gb135, 5, none⟩ = some (.int .i64 t132) := (blk_cell BK135.out 5).trans rfl
                have hcz29_6 : wc.cell? ⟨gb135, 6, none⟩ = some (.int .i64 t133) := (blk_cell BK135.out 6).trans rfl
                have hfz29_0 := blk_frozen BK135.out 0
                have hfz29_1 := blk_frozen BK135.out 1
                have hfz29_2 := blk_frozen BK135.out 2
                have hfz29_3 := blk_frozen BK135.out 3
                have hfz29_4 := blk_frozen BK135.out 4
                have hfz29_5 := blk_frozen BK135.out 5
                have hfz29_6 := blk_frozen BK135.out 6
                have hcz30_0 : wc.cell? ⟨gb144, 0, none⟩ = some (.int .i64 t136) := (blk_cell BK144.out 0).trans rfl
                have hcz30_1 : wc.cell? ⟨gb144, 1, none⟩ = some (.int .i64 t137) := (blk_cell BK144.out 1).trans rfl
                have hcz30_2 : wc.cell? ⟨gb144, 2, none⟩ = some (.int .i64 t138) := (blk_cell BK144.out 2).trans rfl
                have hcz30_3 : wc.cell? ⟨gb144, 3, none⟩ = some (.int .i64 t139) := (blk_cell BK144.out 3).trans rfl
                have hcz30_4 : wc.cell? ⟨gb144, 4, none⟩ = some (.int .i64 t140) := (blk_cell BK144.out 4).trans rfl
                have hcz30_5 : wc.cell? ⟨gb144, 5, none⟩ = some (.int .i64 t141) := (blk_cell BK144.out 5).trans rfl
                have hcz30_6 : wc.cell? ⟨gb144, 6, none⟩ = some (.int .i64 t142) := (blk_cell BK144.out 6).trans rfl
                have hfz30_0 := blk_frozen BK144.out 0
                have hfz30_1 := blk_frozen BK144.out 1
                have hfz30_2 := blk_frozen BK144.out 2
                have hfz30_3 := blk_frozen BK144.out 3
                have hfz30_4 := blk_frozen BK144.out 4
                have hfz30_5 := blk_frozen BK144.out 5
                have hfz30_6 := blk_frozen BK144.out 6
                go_wp2
                go_ret
                exact ⟨by first | rfl | (simp [errW_none, errW_some] <;> rfl) | (simp [*, errW_none, errW_some] <;> rfl), by repeat (first | (with_reducible first | exact HB.out | apply below_alloc | apply pw_below_drewN | apply below_drew1 | refine below_set ?_ GE135.out | refine below_set ?_ GE144.out) | exact HB.out)⟩
              · rw [if_neg c27] at H
                have c27b0 : (t137 == t128) = false := beq_eq_false_iff_ne.mpr c27
                have c27b1 : (t137 != t128) = true := bne_iff_ne.mpr c27
                obtain rfl := Option.some.inj H
                have hnb31 := NB135_144.out
                have hnc31 := NB144_135.out
                have hcz32_0 : wc.cell? ⟨gb135, 0, none⟩ = some (.int .i64 t127) := (blk_cell BK135.out 0).trans rfl
                have hcz32_1 : wc.cell? ⟨gb135, 1, none⟩ = some (.int .i64 t128) := (blk_cell BK135.out 1).trans rfl
                have hcz32_2 : wc.cell? ⟨gb135, 2, none⟩ = some (.int .i64 t129) := (blk_cell BK135.out 2).trans rfl
                have hcz32_3 : wc.cell? ⟨gb135, 3, none⟩ = some (.int .i64 t130) := (blk_cell BK135.out 3).trans rfl
                have hcz32_4 : wc.cell? ⟨gb135, 4, none⟩ = some (.int .i64 t131) := (blk_cell BK135.out 4).trans rfl
                have hcz32_5 : wc.cell? ⟨gb135, 5, none⟩ = some (.int .i64 t132) := (blk_cell BK135.out 5).trans rfl
                have hcz32_6 : wc.cell? ⟨gb135, 6, none⟩ = some (.int .i64 t133) := (blk_cell BK135.out 6).trans rfl
                have hfz32_0 := blk_frozen BK135.out 0
                have hfz32_1 := blk_frozen BK135.out 1
                have hfz32_2 := blk_frozen BK135.out 2
                have hfz32_3 := blk_frozen BK135.out 3
                have hfz32_4 := blk_frozen BK135.out 4
                have hfz32_5 := blk_frozen BK135.out 5
                have hfz32_6 := blk_frozen BK135.out 6
                have hcz33_0 : wc.cell? ⟨gb144, 0, none⟩ = some (.int .i64 t136) := (blk_cell BK144.out 0).trans rfl
                have hcz33_1 : wc.cell? ⟨gb144, 1, none⟩ = some (.int .i64 t137) := (blk_cell BK144.out 1).trans rfl
                have hcz33_2 : wc.cell? ⟨gb144, 2, none⟩ = some (.int .i64 t138) := (blk_cell BK144.out 2).trans rfl
                have hcz33_3 : wc.cell? ⟨gb144, 3, none⟩ = some (.int .i64 t139) := (blk_cell BK144.out 3).trans rfl
                have hcz33_4 : wc.cell? ⟨gb144, 4, none⟩ = some (.int .i64 t140) := (blk_cell BK144.out 4).trans rfl
                have hcz33_5 : wc.cell? ⟨gb144, 5, none⟩ = some (.int .i64 t141) := (blk_cell BK144.out 5).trans rfl
                have hcz33_6 : wc.cell? ⟨gb144, 6, none⟩ = some (.int .i64 t142) := (blk_cell BK144.out 6).trans rfl
                have hfz33_0 := blk_frozen BK144.out 0
                have hfz33_1 := blk_frozen BK144.out 1
                have hfz33_2 := blk_frozen BK144.out 2
                have hfz33_3 := blk_frozen BK144.out 3
                have hfz33_4 := blk_frozen BK144.out 4
                have hfz33_5 := blk_frozen BK144.out 5
                have hfz33_6 := blk_frozen BK144.out 6
                go_wp2
                go_ret
                exact ⟨by first | rfl | (simp [errW_none, errW_some] <;> rfl) | (simp [*, errW_none, errW_some] <;> rfl), by repeat (first | (with_reducible first | exact HB.out | apply below_alloc | apply pw_below_drewN | apply below_drew1 | refine below_set ?_ GE135.out | refine below_set ?_ GE144.out) | exact HB.out)⟩
            · rw [if_neg c26] at H
              have c26b0 : (t136 == t127) = false := beq_eq_false_iff_ne.mpr c26
              have c26b1 : (t136 != t127) = true := bne_iff_ne.mpr c26
              obtain rfl := Option.some.inj H
              have hnb34 := NB135_144.out
              have hnc34 := NB144_135.out
              have hcz35_0 : wc.cell? ⟨gb135, 0, none⟩ = some (.int .i64 t127) := (blk_cell BK135.out 0).trans rfl
              have hcz35_1 : wc.cell? ⟨gb135, 1, none⟩ = some (.int .i64 t128) := (blk_cell BK135.out 1).trans rfl
              have hcz35_2 : wc.cell? ⟨gb135, 2, none⟩ = some (.int .i64 t129) := (blk_cell BK135.out 2).trans rfl
              have hcz35_3 : wc.cell? ⟨gb135, 3, none⟩ = some (.int .i64 t130) := (blk_cell BK135.out 3).trans rfl
              have hcz35_4 : wc.cell? ⟨gb135, 4, none⟩ = some (.int .i64 t131) := (blk_cell BK135.out 4).trans rfl
              have hcz35_5 : wc.cell? ⟨gb135, 5, none⟩ = some (.int .i64 t132) := (blk_cell BK135.out 5).trans rfl
              have hcz35_6 : wc.cell? ⟨gb135, 6, none⟩ = some (.int .i64 t133) := (blk_cell BK135.out 6).trans rfl
              have hfz35_0 := blk_frozen BK135.out 0
              have hfz35_1 := blk_frozen BK135.out 1
              have hfz35_2 := blk_frozen BK135.out 2
              have hfz35_3 := blk_frozen BK135.out 3
              have hfz35_4 := blk_frozen BK135.out 4
              have hfz35_5 := blk_frozen BK135.out 5
              have hfz35_6 := blk_frozen BK135.out 6
              have hcz36_0 : wc.cell? ⟨gb144, 0, none⟩ = some (.int .i64 t136) := (blk_cell BK144.out 0).trans rfl
              have hcz36_1 : wc.cell? ⟨gb144, 1, none⟩ = some (.int .i64 t137) := (blk_cell BK144.out 1).trans rfl
              have hcz36_2 : wc.cell? ⟨gb144, 2, none⟩ = some (.int .i64 t138) := (blk_cell BK144.out 2).trans rfl
              have hcz36_3 : wc.cell? ⟨gb144, 3, none⟩ = some (.int .i64 t139) := (blk_cell BK144.out 3).trans rfl
              have hcz36_4 : wc.cell? ⟨gb144, 4, none⟩ = some (.int .i64 t140) := (blk_cell BK144.out 4).trans rfl
              have hcz36_5 : wc.cell? ⟨gb144, 5, none⟩ = some (.int .i64 t141) := (blk_cell BK144.out 5).trans rfl
              have hcz36_6 : wc.cell? ⟨gb144, 6, none⟩ = some (.int .i64 t142) := (blk_cell BK144.out 6).trans rfl
              have hfz36_0 := blk_frozen BK144.out 0
              have hfz36_1 := blk_frozen BK144.out 1
              have hfz36_2 := blk_frozen BK144.out 2
              have hfz36_3 := blk_frozen BK144.out 3
              have hfz36_4 := blk_frozen BK144.out 4
              have hfz36_5 := blk_frozen BK144.out 5
              have hfz36_6 := blk_frozen BK144.out 6
              go_wp2
              go_ret
              exact ⟨by first | rfl | (simp [errW_none, errW_some] <;> rfl) | (simp [*, errW_none, errW_some] <;> rfl), by repeat (first | (with_reducible first | exact HB.out | apply below_alloc | apply pw_below_drewN | apply below_drew1 | refine below_set ?_ GE135.out | refine below_set ?_ GE144.out) | exact HB.out)⟩
          · rw [if_neg c25] at H
            have c25b0 : decide (t129 < t145) = false := decide_eq_false c25
            clear c25
            by_cases c37 : t128 < 12
            · rw [if_pos c37] at H
              have c37b0 : decide (t128 < 12) = true := decide_eq_true c37
              clear c37
              by_cases c38 : t136 = t127
              · rw [if_pos c38] at H
                have c38b0 : (t136 == t127) = true := beq_iff_eq.mpr c38
                have c38b1 : (t136 != t127) = false := bne_eq_false_iff_eq.mpr c38
                clear c38
                by_cases c39 : t137 = (wrap64 (t128 + 1))
                · rw [if_pos c39] at H
                  have c39b0 : (t137 == (wrap64 (t128 + 1))) = true := beq_iff_eq.mpr c39
                  have c39b1 : (t137 != (wrap64 (t128 + 1))) = false := bne_eq_false_iff_eq.mpr c39
                  clear c39
                  obtain rfl := Option.some.inj H
                  have hnb40 := NB135_144.out
                  have hnc40 := NB144_135.out
                  have hcz41_0 : wc.cell? ⟨gb135, 0, none⟩ = some (.int .i64 t127) := (blk_cell BK135.out 0).trans rfl
                  have hcz41_1 : wc.cell? ⟨gb135, 1, none⟩ = some (.int .i64 t128) := (blk_cell BK135.out 1).trans rfl
                  have hcz41_2 : wc.cell? ⟨gb135, 2, none⟩ = some (.int .i64 t129) := (blk_cell BK135.out 2).trans rfl
                  have hcz41_3 : wc.cell? ⟨gb135, 3, none⟩ = some (.int .i64 t130) := (blk_cell BK135.out 3).trans rfl
                  have hcz41_4 : wc.cell? ⟨gb135, 4, none⟩ = some (.int .i64 t131) := (blk_cell BK135.out 4).trans rfl
                  have hcz41_5 : wc.cell? ⟨gb135, 5, none⟩ = some (.int .i64 t132) := (blk_cell BK135.out 5).trans rfl
                  have hcz41_6 : wc.cell? ⟨gb135, 6, none⟩ = some (.int .i64 t133) := (blk_cell BK135.out 6).trans rfl
                  have hfz41_0 := blk_frozen BK135.out 0
                  have hfz41_1 := blk_frozen BK135.out 1
                  have hfz41_2 := blk_frozen BK135.out 2
                  have hfz41_3 := blk_frozen BK135.out 3
                  have hfz41_4 := blk_frozen BK135.out 4
                  have hfz41_5 := blk_frozen BK135.out 5
                  have hfz41_6 := blk_frozen BK135.out 6
                  have hcz42_0 : wc.cell? ⟨gb144, 0, none⟩ = some (.int .i64 t136) := (blk_cell BK144.out 0).trans rfl
                  have hcz42_1 : wc.cell? ⟨gb144, 1, none⟩ = some (.int .i64 t137) := (blk_cell BK144.out 1).trans rfl
                  have hcz42_2 : wc.cell? ⟨gb144, 2, none⟩ = some (.int .i64 t138) := (blk_cell BK144.out 2).trans rfl
                  have hcz42_3 : wc.cell? ⟨gb144, 3, none⟩ = some (.int .i64 t139) := (blk_cell BK144.out 3).trans rfl
                  have hcz42_4 : wc.cell? ⟨gb144, 4, none⟩ = some (.int .i64 t140) := (blk_cell BK144.out 4).trans rfl
                  have hcz42_5 : wc.cell? ⟨gb144, 5, none⟩ = some (.int .i64 t141) := (blk_cell BK144.out 5).trans rfl
                  have hcz42_6 : wc.cell? ⟨gb144, 6, none⟩ = some (.int .i64 t142) := (blk_cell BK144.out 6).trans rfl
                  have hfz42_0 := blk_frozen BK144.out 0
                  have hfz42_1 := blk_frozen BK144.out 1
                  have hfz42_2 := blk_frozen BK144.out 2
                  have hfz42_3 := blk_frozen BK144.out 3
                  have hfz42_4 := blk_frozen BK144.out 4
                  have hfz42_5 := blk_frozen BK144.out 5
                  have hfz42_6 := blk_frozen BK144.out 6
                  go_wp2
                  go_ret
                  exact ⟨by first | rfl | (simp [errW_none, errW_some] <;> rfl) | (simp [*, errW_none, errW_some] <;> rfl), by repeat (first | (with_reducible first | exact HB.out | apply below_alloc | apply pw_below_drewN | apply below_drew1 | refine below_set ?_ GE135.out | refine below_set ?_ GE144.out) | exact HB.out)⟩
                · rw [if_neg c39] at H
                  have c39b0 : (t137 == (wrap64 (t128 + 1))) = false := beq_eq_false_iff_ne.mpr c39
                  have c39b1 : (t137 != (wrap64 (t128 + 1))) = true := bne_iff_ne.mpr c39
                  obtain rfl := Option.some.inj H
                  have hnb43 := NB135_144.out
                  have hnc43 := NB144_135.out
                  have hcz44_0 : wc.cell? ⟨gb135, 0, none⟩ = some (.int .i64 t127) := (blk_cell BK135.out 0).trans rfl
                  have hcz44_1 : wc.cell? ⟨gb135, 1, none⟩ = some (.int .i64 t128) := (blk_cell BK135.out 1).trans rfl
                  have hcz44_2 : wc.cell? ⟨gb135, 2, none⟩ = some (.int .i64 t129) := (blk_cell BK135.out 2).trans rfl
                  have hcz44_3 : wc.cell? ⟨gb135, 3, none⟩ = some (.int .i64 t130) := (blk_cell BK135.out 3).trans rfl
                  have hcz44_4 : wc.cell? ⟨gb135, 4, none⟩ = some (.int .i64 t131) := (blk_cell BK135.out 4).trans rfl
                  have hcz44_5 : wc.cell? ⟨gb135, 5, none⟩ = some (.int .i64 t132) := (blk_cell BK135.out 5).trans rfl
                  have hcz44_6 : wc.cell? ⟨gb135, 6, none⟩ = some (.int .i64 t133) := (blk_cell BK135.out 6).trans rfl
                  have hfz44_0 := blk_frozen BK135.out 0
                  have hfz44_1 := blk_frozen BK135.out 1
                  have hfz44_2 := blk_frozen BK135.out 2
                  have hfz44_3 := blk_frozen BK135.out 3
                  have hfz44_4 := blk_frozen BK135.out 4
                  have hfz44_5 := blk_frozen BK135.out 5
                  have hfz44_6 := blk_frozen BK135.out 6
                  have hcz45_0 : wc.cell? ⟨gb144, 0, none⟩ = some (.int .i64 t136) := (blk_cell BK144.out 0).trans rfl
                  have hcz45_1 : wc.cell? ⟨gb144, 1, none⟩ = some (.int .i64 t137) := (blk_cell BK144.out 1).trans rfl
                  have hcz45_2 : wc.cell? ⟨gb144, 2, none⟩ = some (.int .i64 t138) := (blk_cell BK144.out 2).trans rfl
                  have hcz45_3 : wc.cell? ⟨gb144, 3, none⟩ = some (.int .i64 t139) := (blk_cell BK144.out 3).trans rfl
                  have hcz45_4 : wc.cell? ⟨gb144, 4, none⟩ = some (.int .i64 t140) := (blk_cell BK144.out 4).trans rfl
                  have hcz45_5 : wc.cell? ⟨gb144, 5, none⟩ = some (.int .i64 t141) := (blk_cell BK144.out 5).trans rfl
                  have hcz45_6 : wc.cell? ⟨gb144, 6, none⟩ = some (.int .i64 t142) := (blk_cell BK144.out 6).trans rfl
                  have hfz45_0 := blk_frozen BK144.out 0
                  have hfz45_1 := blk_frozen BK144.out 1
                  have hfz45_2 := blk_frozen BK144.out 2
                  have hfz45_3 := blk_frozen BK144.out 3
                  have hfz45_4 := blk_frozen BK144.out 4
                  have hfz45_5 := blk_frozen BK144.out 5
                  have hfz45_6 := blk_frozen BK144.out 6
                  go_wp2
                  go_ret
                  exact ⟨by first | rfl | (simp [errW_none, errW_some] <;> rfl) | (simp [*, errW_none, errW_some] <;> rfl), by repeat (first | (with_reducible first | exact HB.out | apply below_alloc | apply pw_below_drewN | apply below_drew1 | refine below_set ?_ GE135.out | refine below_set ?_ GE144.out) | exact HB.out)⟩
              · rw [if_neg c38] at H
                have c38b0 : (t136 == t127) = false := beq_eq_false_iff_ne.mpr c38
                have c38b1 : (t136 != t127) = true := bne_iff_ne.mpr c38
                obtain rfl := Option.some.inj H
                have hnb46 := NB135_144.out
                have hnc46 := NB144_135.out
                have hcz47_0 : wc.cell? ⟨gb135, 0, none⟩ = some (.int .i64 t127) := (blk_cell BK135.out 0).trans rfl
                have hcz47_1 : wc.cell? ⟨gb135, 1, none⟩ = some (.int .i64 t128) := (blk_cell BK135.out 1).trans rfl
                have hcz47_2 : wc.cell? ⟨gb135, 2, none⟩ = some (.int .i64 t129) := (blk_cell BK135.out 2).trans rfl
                have hcz47_3 : wc.cell? ⟨gb135, 3, none⟩ = some (.int .i64 t130) := (blk_cell BK135.out 3).trans rfl
                have hcz47_4 : wc.cell? ⟨gb135, 4, none⟩ = some (.int .i64 t131) := (blk_cell BK135.out 4).trans rfl
                have hcz47_5 : wc.cell? ⟨gb135, 5, none⟩ = some (.int .i64 t132) := (blk_cell BK135.out 5).trans rfl
                have hcz47_6 : wc.cell? ⟨gb135, 6, none⟩ = some (.int .i64 t133) := (blk_cell BK135.out 6).trans rfl
                have hfz47_0 := blk_frozen BK135.out 0
                have hfz47_1 := blk_frozen BK135.out 1
                have hfz47_2 := blk_frozen BK135.out 2
                have hfz47_3 := blk_frozen BK135.out 3
                have hfz47_4 := blk_frozen BK135.out 4
                have hfz47_5 := blk_frozen BK135.out 5
                have hfz47_6 := blk_frozen BK135.out 6
                have hcz48_0 : wc.cell? ⟨gb144, 0, none⟩ = some (.int .i64 t136) := (blk_cell BK144.out 0).trans rfl
                have hcz48_1 : wc.cell? ⟨gb144, 1, none⟩ = some (.int .i64 t137) := (blk_cell BK144.out 1).trans rfl
                have hcz48_2 : wc.cell? ⟨gb144, 2, none⟩ = some (.int .i64 t138) := (blk_cell BK144.out 2).trans rfl
                have hcz48_3 : wc.cell? ⟨gb144, 3, none⟩ = some (.int .i64 t139) := (blk_cell BK144.out 3).trans rfl
                have hcz48_4 : wc.cell? ⟨gb144, 4, none⟩ = some (.int .i64 t140) := (blk_cell BK144.out 4).trans rfl
                have hcz48_5 : wc.cell? ⟨gb144, 5, none⟩ = some (.int .i64 t141) := (blk_cell BK144.out 5).trans rfl
                have hcz48_6 : wc.cell? ⟨gb144, 6, none⟩ = some (.int .i64 t142) := (blk_cell BK144.out 6).trans rfl
                have hfz48_0 := blk_frozen BK144.out 0
                have hfz48_1 := blk_frozen BK144.out 1
                have hfz48_2 := blk_frozen BK144.out 2
                have hfz48_3 := blk_frozen BK144.out 3
                have hfz48_4 := blk_frozen BK144.out 4
                have hfz48_5 := blk_frozen BK144.out 5
                have hfz48_6 := blk_frozen BK144.out 6
                go_wp2
                go_ret
                exact ⟨by first | rfl | (simp [errW_none, errW_some] <;> rfl) | (simp [*, errW_none, errW_some] <;> rfl), by repeat (first | (with_reducible first | exact HB.out | apply below_alloc | apply pw_below_drewN | apply below_drew1 | refine below_set ?_ GE135.out | refine below_set ?_ GE144.out) | exact HB.out)⟩
            · rw [if_neg c37] at H
              have c37b0 : decide (t128 < 12) = false := decide_eq_false c37
              clear c37
              by_cases c49 : t136 = (wrap64 (t127 + 1))
              · rw [if_pos c49] at H
                have c49b0 : (t136 == (wrap64 (t127 + 1))) = true := beq_iff_eq.mpr c49
                have c49b1 : (t136 != (wrap64 (t127 + 1))) = false := bne_eq_false_iff_eq.mpr c49
                clear c49
                by_cases c50 : t137 = 1
                · rw [if_pos c50] at H
                  have c50b0 : (t137 == 1) = true := beq_iff_eq.mpr c50
                  have c50b1 : (t137 != 1) = false := bne_eq_false_iff_eq.mpr c50
                  clear c50
                  obtain rfl := Option.some.inj H
                  have hnb51 := NB135_144.out
                  have hnc51 := NB144_135.out
                  have hcz52_0 : wc.cell? ⟨gb135, 0, none⟩ = some (.int .i64 t127) := (blk_cell BK135.out 0).trans rfl
                  have hcz52_1 : wc.cell? ⟨gb135, 1, none⟩ = some (.int .i64 t128) := (blk_cell BK135.out 1).trans rfl
                  have hcz52_2 : wc.cell? ⟨gb135, 2, none⟩ = some (.int .i64 t129) := (blk_cell BK135.out 2).trans rfl
                  have hcz52_3 : wc.cell? ⟨gb135, 3, none⟩ = some (.int .i64 t130) := (blk_cell BK135.out 3).trans rfl
                  have hcz52_4 : wc.cell? ⟨gb135, 4, none⟩ = some (.int .i64 t131) := (blk_cell BK135.out 4).trans rfl
                  have hcz52_5 : wc.cell? ⟨gb135, 5, none⟩ = some (.int .i64 t132) := (blk_cell BK135.out 5).trans rfl
                  have hcz52_6 : wc.cell? ⟨gb135, 6, none⟩ = some (.int .i64 t133) := (blk_cell BK135.out 6).trans rfl
                  have hfz52_0 := blk_frozen BK135.out 0
                  have hfz52_1 := blk_frozen BK135.out 1
                  have hfz52_2 := blk_frozen BK135.out 2
                  have hfz52_3 := blk_frozen BK135.out 3
                  have hfz52_4 := blk_frozen BK135.out 4
                  have hfz52_5 := blk_frozen BK135.out 5
                  have hfz52_6 := blk_frozen BK135.out 6
                  have hcz53_0 : wc.cell? ⟨gb144, 0, none⟩ = some (.int .i64 t136) := (blk_cell BK144.out 0).trans rfl
                  have hcz53_1 : wc.cell? ⟨gb144, 1, none⟩ = some (.int .i64 t137) := (blk_cell BK144.out 1).trans rfl
                  have hcz53_2 : wc.cell? ⟨gb144, 2, none⟩ = some (.int .i64 t138) := (blk_cell BK144.out 2).trans rfl
                  have hcz53_3 : wc.cell? ⟨gb144, 3, none⟩ = some (.int .i64 t139) := (blk_cell BK144.out 3).trans rfl
                  have hcz53_4 : wc.cell? ⟨gb144, 4, none⟩ = some (.int .i64 t140) := (blk_cell BK144.out 4).trans rfl
                  have hcz53_5 : wc.cell? ⟨gb144, 5, none⟩ = some (.int .i64 t141) := (blk_cell BK144.out 5).trans rfl
                  have hcz53_6 : wc.cell? ⟨gb144, 6, none⟩ = some (.int .i64 t142) := (blk_cell BK144.out 6).trans rfl
                  have hfz53_0 := blk_frozen BK144.out 0
                  have hfz53_1 := blk_frozen BK144.out 1
                  have hfz53_2 := blk_frozen BK144.out 2
                  have hfz53_3 := blk_frozen BK144.out 3
                  have hfz53_4 := blk_frozen BK144.out 4
                  have hfz53_5 := blk_frozen BK144.out 5
                  have hfz53_6 := blk_frozen BK144.out 6
                  go_wp2
                  go_ret
                  exact ⟨by first | rfl | (simp [errW_none, errW_some] <;> rfl) | (simp [*, errW_none, errW_some] <;> rfl), by repeat (first | (with_reducible first | exact HB.out | apply below_alloc | apply pw_below_drewN | apply below_drew1 | refine below_set ?_ GE135.out | refine below_set ?_ GE144.out) | exact HB.out)⟩
                · rw [if_neg c50] at H
                  have c50b0 : (t137 == 1) = false := beq_eq_false_iff_ne.mpr c50
                  have c50b1 : (t137 != 1) = true := bne_iff_ne.mpr c50
                  obtain rfl := Option.some.inj H
                  have hnb54 := NB135_144.out
                  have hnc54 := NB144_135.out
                  have hcz55_0 : wc.cell? ⟨gb135, 0, none⟩ = some (.int .i64 t127) := (blk_cell BK135.out 0).trans rfl
                  have hcz55_1 : wc.cell? ⟨gb135, 1, none⟩ = some (.int .i64 t128) := (blk_cell BK135.out 1).trans rfl
                  have hcz55_2 : wc.cell? ⟨gb135, 2, none⟩ = some (.int .i64 t129) := (blk_cell BK135.out 2).trans rfl
                  have hcz55_3 : wc.cell? ⟨gb135, 3, none⟩ = some (.int .i64 t130) := (blk_cell BK135.out 3).trans rfl
                  have hcz55_4 : wc.cell? ⟨gb135, 4, none⟩ = some (.int .i64 t131) := (blk_cell BK135.out 4).trans rfl
                  have hcz55_5 : wc.cell? ⟨gb135, 5, none⟩ = some (.int .i64 t132) := (blk_cell BK135.out 5).trans rfl
                  have hcz55_6 : wc.cell? ⟨gb135, 6, none⟩ = some (.int .i64 t133) := (blk_cell BK135.out 6).trans rfl
                  have hfz55_0 := blk_frozen BK135.out 0
                  have hfz55_1 := blk_frozen BK135.out 1
                  have hfz55_2 := blk_frozen BK135.out 2
                  have hfz55_3 := blk_frozen BK135.out 3
                  have hfz55_4 := blk_frozen BK135.out 4
                  have hfz55_5 := blk_frozen BK135.out 5
                  have hfz55_6 := blk_frozen BK135.out 6
                  have hcz56_0 : wc.cell? ⟨gb144, 0, none⟩ = some (.int .i64 t136) := (blk_cell BK144.out 0).trans rfl
                  have hcz56_1 : wc.cell? ⟨gb144, 1, none⟩ = some (.int .i64 t137) := (blk_cell BK144.out 1).trans rfl
                  have hcz56_2 : wc.cell? ⟨gb144, 2, none⟩ = some (.int .i64 t138) := (blk_cell BK144.out 2).trans rfl
                  have hcz56_3 : wc.cell? ⟨gb144, 3, none⟩ = some (.int .i64 t139) := (blk_cell BK144.out 3).trans rfl
                  have hcz56_4 : wc.cell? ⟨gb144, 4, none⟩ = some (.int .i64 t140) := (blk_cell BK144.out 4).trans rfl
                  have hcz56_5 : wc.cell? ⟨gb144, 5, none⟩ = some (.int .i64 t141) := (blk_cell BK144.out 5).trans rfl
                  have hcz56_6 : wc.cell? ⟨gb144, 6, none⟩ = some (.int .i64 t142) := (blk_cell BK144.out 6).trans rfl
                  have hfz56_0 := blk_frozen BK144.out 0
                  have hfz56_1 := blk_frozen BK144.out 1
                  have hfz56_2 := blk_frozen BK144.out 2
                  have hfz56_3 := blk_frozen BK144.out 3
                  have hfz56_4 := blk_frozen BK144.out 4
                  have hfz56_5 := blk_frozen BK144.out 5
                  have hfz56_6 := blk_frozen BK144.out 6
                  go_wp2
                  go_ret
                  exact ⟨by first | rfl | (simp [errW_none, errW_some] <;> rfl) | (simp [*, errW_none, errW_some] <;> rfl), by repeat (first | (with_reducible first | exact HB.out | apply below_alloc | apply pw_below_drewN | apply below_drew1 | refine below_set ?_ GE135.out | refine below_set ?_ GE144.out) | exact HB.out)⟩
              · rw [if_neg c49] at H
                have c49b0 : (t136 == (wrap64 (t127 + 1))) = false := beq_eq_false_iff_ne.mpr c49
                have c49b1 : (t136 != (wrap64 (t127 + 1))) = true := bne_iff_ne.mpr c49
                obtain rfl := Option.some.inj H
                have hnb57 := NB135_144.out
                have hnc57 := NB144_135.out
                have hcz58_0 : wc.cell? ⟨gb135, 0, none⟩ = some (.int .i64 t127) := (blk_cell BK135.out 0).trans rfl
                have hcz58_1 : wc.cell? ⟨gb135, 1, none⟩ = some (.int .i64 t128) := (blk_cell BK135.out 1).trans rfl
                have hcz58_2 : wc.cell? ⟨gb135, 2, none⟩ = some (.int .i64 t129) := (blk_cell BK135.out 2).trans rfl
                have hcz58_3 : wc.cell? ⟨gb135, 3, none⟩ = some (.int .i64 t130) := (blk_cell BK135.out 3).trans rfl
                have hcz58_4 : wc.cell? ⟨gb135, 4, none⟩ = some (.int .i64 t131) := (blk_cell BK135.out 4).trans rfl
                have hcz58_5 : wc.cell? ⟨gb135, 5, none⟩ = some (.int .i64 t132) := (blk_cell BK135.out 5).trans rfl
                have hcz58_6 : wc.cell? ⟨gb135, 6, none⟩ = some (.int .i64 t133) := (blk_cell BK135.out 6).trans rfl
                have hfz58_0 := blk_frozen BK135.out 0
                have hfz58_1 := blk_frozen BK135.out 1
                have hfz58_2 := blk_frozen BK135.out 2
                have hfz58_3 := blk_frozen BK135.out 3
                have hfz58_4 := blk_frozen BK135.out 4
                have hfz58_5 := blk_frozen BK135.out 5
                have hfz58_6 := blk_frozen BK135.out 6
                have hcz59_0 : wc.cell? ⟨gb144, 0, none⟩ = some (.int .i64 t136) := (blk_cell BK144.out 0).trans rfl
                have hcz59_1 : wc.cell? ⟨gb144, 1, none⟩ = some (.int .i64 t137) := (blk_cell BK144.out 1).trans rfl
                have hcz59_2 : wc.cell? ⟨gb144, 2, none⟩ = some (.int .i64 t138) := (blk_cell BK144.out 2).trans rfl
                have hcz59_3 : wc.cell? ⟨gb144, 3, none⟩ = some (.int .i64 t139) := (blk_cell BK144.out 3).trans rfl
                have hcz59_4 : wc.cell? ⟨gb144, 4, none⟩ = some (.int .i64 t140) := (blk_cell BK144.out 4).trans rfl
                have hcz59_5 : wc.cell? ⟨gb144, 5, none⟩ = some (.int .i64 t141) := (blk_cell BK144.out 5).trans rfl
                have hcz59_6 : wc.cell? ⟨gb144, 6, none⟩ = some (.int .i64 t142) := (blk_cell BK144.out 6).trans rfl
                have hfz59_0 := blk_frozen BK144.out 0
                have hfz59_1 := blk_frozen BK144.out 1
                have hfz59_2 := blk_frozen BK144.out 2
                have hfz59_3 := blk_frozen BK144.out 3
                have hfz59_4 := blk_frozen BK144.out 4
                have hfz59_5 := blk_frozen BK144.out 5
                have hfz59_6 := blk_frozen BK144.out 6
                go_wp2
                go_ret
                exact ⟨by first | rfl | (simp [errW_none, errW_some] <;> rfl) | (simp [*, errW_none, errW_some] <;> rfl), by repeat (first | (with_reducible first | exact HB.out | apply below_alloc | apply pw_below_drewN | apply below_drew1 | refine below_set ?_ GE135.out | refine below_set ?_ GE144.out) | exact HB.out)⟩
  · replace c3 := Bool.eq_false_iff.mpr c3
    subst c3
    have H1 : (some false) = some r := by rw [if_neg (show ¬ (false = true) by decide)] at H; exact H
    clear H
    have H := H1
    clear H1
    obtain rfl := Option.some.inj H
    go_enter Try.func4, Try.ntmps4
    go_wp2_with (first | ((with_reducible refine gate_callee (f := 10) rfl ?_); refine goesL_ (some 9) rfl rfl Try.func10 (by kernel_rfl) rfl #[] rfl (by (try simp only [List.map_toArray, List.map_cons, List.map_nil]); first | done | rfl | (simp only [List.length_drop, List.length_take]; rfl)) ?_; (with_reducible refine (ticklerlaw16_alive.calls k  false _ A2.out).mono ?_); rintro e w60 ⟨rfl, hb⟩; refine ⟨_, rfl, ?_⟩; have n0_ := Aside0.mk (below_step (by repeat (first | (with_reducible first | exact HB.out | apply below_alloc | apply pw_below_drewN | apply below_drew1) | exact HB.out)) hb); clear HB; have HB := n0_; clear n0_; (try clear hb); (try clear hb2); (try clear hk); (try clear hi)))
    go_ret
    exact ⟨by first | rfl | (simp [errW_none, errW_some] <;> rfl) | (simp [*, errW_none, errW_some] <;> rfl), by repeat (first | (with_reducible first | exact HB.out | apply below_alloc | apply pw_below_drewN | apply below_drew1) | exact HB.out)⟩

/-- THE ONE PURE STATEMENT of ticklerlaw16_CivilNext: yours. -/
def ticklerlaw16_CivilNext.Pure : Prop := ∀ (a0 : Int), (Lit.int .i64 a0).wf = true → ∃ k, ticklerlaw16_CivilNext.f k a0 = some true
theorem ticklerlaw16_CivilNext.walk (P : ticklerlaw16_CivilNext.Pure) (a0 : Int) (w : World) (w0 : (Lit.int .i64 a0).wf = true) :
    Calls Try.prog 4 #[.int .i64 a0] w fun e w' => e = .returned (.bool true) ∧ Below w.heap.size w w' := by
  obtain ⟨k, h⟩ := P a0 w0
  refine (ticklerlaw16_CivilNext.calls k a0 true w h).mono ?_
  rintro e w' ⟨rfl, hd⟩
  exact ⟨rfl, hd⟩

end Go.Proofs.Ytkffmgalmooioaa.Civ
