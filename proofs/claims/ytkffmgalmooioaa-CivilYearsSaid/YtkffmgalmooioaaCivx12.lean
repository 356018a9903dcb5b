/- Contracts of the Go functions over this seat's translation, each beside a Lean function with the same answers. Lines written for this claim by the kit's print tool, turned by this session. -/
import Derived.Test.YtkffmgalmooioaaCivx0
import Derived.Test.YtkffmgalmooioaaCivx1
import Derived.Test.YtkffmgalmooioaaCivx5
import Derived.Test.YtkffmgalmooioaaCivx7
import Derived.Test.YtkffmgalmooioaaCivx11
namespace Go.Proofs.Ytkffmgalmooioaa.Civ
open Go.RowKit Go.Proofs.YtkffmgalmooioaaW.PrintWords Go.Proofs.YtkffmgalmooioaaW.PrintLast Go.Proofs.YtkffmgalmooioaaW.PrintMore
attribute [local go_sem] max2_int min2_int max_two min_two max_three min_three max_four min_four   -- for this text's walks alone
set_option linter.unusedVariables false
set_option linter.unusedSimpArgs false

/-! ### ticklerlaw16_CivilYears: function 5 -/
def ticklerlaw16_CivilYears.j0 : Nat → Int → Int → Int → Int → Int → Int → Int → Int → Option (Bool)
  | 0, _, _, _, _, _, _, _, _ => none
  | k + 1, x0, x3, x4, x5, x6, x7, x8, x9 => (ticklerlaw16_num.f x4).bind fun t161 => ((ticklerlaw16_num.f x6).bind fun t162 => ((ticklerlaw16_num.f x8).bind fun t163 => (if (wrap64 ((wrap64 (t161 + t162)) + t163)) = 0 then (if (wrap64 (x5 - x3)) = x9 then (if (wrap64 (x7 - x3)) = 146097 then ((civil_Leap.f x0).bind fun t164 => ((civil_Leap.f (wrap64 (x0 + 400))).bind fun t165 => (some (t164 == t165)))) else (some false)) else (some false)) else (some false))))
def ticklerlaw16_CivilYears.f (k : Nat) (a0 : Int) : Option (Bool) := (ticklerlaw16_alive.f k).bind fun t153 => (if t153 = true then ((civil_Day.f k (wrap64 (1970 + (Int.tmod (wrap64 ((Int.tmod a0 600) + 600)) 600))) 1 1).bind fun bt154 => ((civil_Day.f k (wrap64 ((wrap64 (1970 + (Int.tmod (wrap64 ((Int.tmod a0 600) + 600)) 600))) + 1)) 1 1).bind fun bt156 => ((civil_Day.f k (wrap64 ((wrap64 (1970 + (Int.tmod (wrap64 ((Int.tmod a0 600) + 600)) 600))) + 400)) 1 1).bind fun bt158 => ((civil_Leap.f (wrap64 (1970 + (Int.tmod (wrap64 ((Int.tmod a0 600) + 600)) 600)))).bind fun t160 => (if t160 = true then (ticklerlaw16_CivilYears.j0 k (wrap64 (1970 + (Int.tmod (wrap64 ((Int.tmod a0 600) + 600)) 600))) bt154.1 bt154.2 bt156.1 bt156.2 bt158.1 bt158.2 366) else (ticklerlaw16_CivilYears.j0 k (wrap64 (1970 + (Int.tmod (wrap64 ((Int.tmod a0 600) + 600)) 600))) bt154.1 bt154.2 bt156.1 bt156.2 bt158.1 bt158.2 365)))))) else (some false))
theorem ticklerlaw16_CivilYears.mono_l : ∀ k, (∀ y0 y1 y2 y3 y4 y5 y6 y7, LeO (ticklerlaw16_CivilYears.j0 k y0 y1 y2 y3 y4 y5 y6 y7) (ticklerlaw16_CivilYears.j0 (k + 1) y0 y1 y2 y3 y4 y5 y6 y7))
  | 0 => fun _ _ _ _ _ _ _ _ r h => by simp [ticklerlaw16_CivilYears.j0] at h
  | k + 1 => by
    have ih0 := ticklerlaw16_CivilYears.mono_l k
    · intro y0 y1 y2 y3 y4 y5 y6 y7
      unfold ticklerlaw16_CivilYears.j0
      repeat' first
      | (with_reducible exact ih0 _ _ _ _ _ _ _ _)
      | (with_reducible exact civil_Day.mono _ _ _ _)
      | (with_reducible exact ticklerlaw16_alive.mono _)
      | (with_reducible exact LeO.refl _)
      | (with_reducible exact LeO.none _)
      | (with_reducible refine LeO.ite ?_ ?_)
      | (with_reducible refine LeO.bind ?_ (fun _ => ?_))
      | exact ih0 _ _ _ _ _ _ _ _
      | exact civil_Day.mono _ _ _ _
      | exact ticklerlaw16_alive.mono _
      | exact LeO.none _
      | refine LeO.ite ?_ ?_
      | refine LeO.bind ?_ (fun _ => ?_)
theorem ticklerlaw16_CivilYears.mono : ∀ a0 k, LeO (ticklerlaw16_CivilYears.f k a0) (ticklerlaw16_CivilYears.f (k + 1) a0) := by
  intro a0 k
  have ih0 := ticklerlaw16_CivilYears.mono_l k
  unfold ticklerlaw16_CivilYears.f
  repeat' first
      | (with_reducible exact ih0 _ _ _ _ _ _ _ _)
      | (with_reducible exact civil_Day.mono _ _ _ _)
      | (with_reducible exact ticklerlaw16_alive.mono _)
      | (with_reducible exact LeO.refl _)
      | (with_reducible exact LeO.none _)
      | (with_reducible refine LeO.ite ?_ ?_)
      | (with_reducible refine LeO.bind ?_ (fun _ => ?_))
      | exact ih0 _ _ _ _ _ _ _ _
      | exact civil_Day.mono _ _ _ _
      | exact ticklerlaw16_alive.mono _
      | exact LeO.none _
      | refine LeO.ite ?_ ?_
      | refine LeO.bind ?_ (fun _ => ?_)
set_option maxHeartbeats 8000000 in
set_option maxRecDepth 100000 in
theorem ticklerlaw16_CivilYears.calls (k : Nat) (a0 : Int) (r : Bool) (w : World) (h : ticklerlaw16_CivilYears.f k a0 = some r) :
    Calls Try.prog 5 #[.int .i64 a0] w fun e w' => e = .returned (.bool r) ∧ Below w.heap.size w w' := by
  have HB := Aside0.mk (Below.refl w.heap.size w)
  have H : ((ticklerlaw16_alive.f k).bind fun t153 => (if t153 = true then ((civil_Day.f k (wrap64 (1970 + (Int.tmod (wrap64 ((Int.tmod a0 600) + 600)) 600))) 1 1).bind fun bt154 => ((civil_Day.f k (wrap64 ((wrap64 (1970 + (Int.tmod (wrap64 ((Int.tmod a0 600) + 600)) 600))) + 1)) 1 1).bind fun bt156 => ((civil_Day.f k (wrap64 ((wrap64 (1970 + (Int.tmod (wrap64 ((Int.tmod a0 600) + 600)) 600))) + 400)) 1 1).bind fun bt158 => ((civil_Leap.f (wrap64 (1970 + (Int.tmod (wrap64 ((Int.tmod a0 600) + 600)) 600)))).bind fun t160 => (if t160 = true then (ticklerlaw16_CivilYears.j0 k (wrap64 (1970 + (Int.tmod (wrap64 ((Int.tmod a0 600) + 600)) 600))) bt154.1 bt154.2 bt156.1 bt156.2 bt158.1 bt158.2 366) else (ticklerlaw16_CivilYears.j0 k (wrap64 (1970 + (Int.tmod (wrap64 ((Int.tmod a0 600) + 600)) 600))) bt154.1 bt154.2 bt156.1 bt156.2 bt158.1 bt158.2 365)))))) else (some false))) = some r := h
  clear h
  replace H := Option.bind_eq_some_iff.mp H
  obtain ⟨t153, A20, H⟩ := H
  replace H : (if t153 = true then ((civil_Day.f k (wrap64 (1970 + (Int.tmod (wrap64 ((Int.tmod a0 600) + 600)) 600))) 1 1).bind fun bt154 => ((civil_Day.f k (wrap64 ((wrap64 (1970 + (Int.tmod (wrap64 ((Int.tmod a0 600) + 600)) 600))) + 1)) 1 1).bind fun bt156 => ((civil_Day.f k (wrap64 ((wrap64 (1970 + (Int.tmod (wrap64 ((Int.tmod a0 600) + 600)) 600))) + 400)) 1 1).bind fun bt158 => ((civil_Leap.f (wrap64 (1970 + (Int.tmod (wrap64 ((Int.tmod a0 600) + 600)) 600)))).bind fun t160 => (if t160 = true then (ticklerlaw16_CivilYears.j0 k (wrap64 (1970 + (Int.tmod (wrap64 ((Int.tmod a0 600) + 600)) 600))) bt154.1 bt154.2 bt156.1 bt156.2 bt158.1 bt158.2 366) else (ticklerlaw16_CivilYears.j0 k (wrap64 (1970 + (Int.tmod (wrap64 ((Int.tmod a0 600) + 600)) 600))) bt154.1 bt154.2 bt156.1 bt156.2 bt158.1 bt158.2 365)))))) else (some false)) = some r := H
  have A2 := Aside0.mk A20
  clear A20
  by_cases c3 : t153 = true
  · subst c3
    have H1 : ((civil_Day.f k (wrap64 (1970 + (Int.tmod (wrap64 ((Int.tmod a0 600) + 600)) 600))) 1 1).bind fun bt154 => ((civil_Day.f k (wrap64 ((wrap64 (1970 + (Int.tmod (wrap64 ((Int.tmod a0 600) + 600)) 600))) + 1)) 1 1).bind fun bt156 => ((civil_Day.f k (wrap64 ((wrap64 (1970 + (Int.tmod (wrap64 ((Int.tmod a0 600) + 600)) 600))) + 400)) 1 1).bind fun bt158 => ((civil_Leap.f (wrap64 (1970 + (Int.tmod (wrap64 ((Int.tmod a0 600) + 600)) 600)))).bind fun t160 => (if t160 = true then (ticklerlaw16_CivilYears.j0 k (wrap64 (1970 + (Int.tmod (wrap64 ((Int.tmod a0 600) + 600)) 600))) bt154.1 bt154.2 bt156.1 bt156.2 bt158.1 bt158.2 366) else (ticklerlaw16_CivilYears.j0 k (wrap64 (1970 + (Int.tmod (wrap64 ((Int.tmod a0 600) + 600)) 600))) bt154.1 bt154.2 bt156.1 bt156.2 bt158.1 bt158.2 365)))))) = some r := by rw [if_pos rfl] at H; exact H
    clear H
    have H := H1
    clear H1
    replace H := Option.bind_eq_some_iff.mp H
    obtain ⟨⟨t154, t155⟩, A40, H⟩ := H
    replace H : ((civil_Day.f k (wrap64 ((wrap64 (1970 + (Int.tmod (wrap64 ((Int.tmod a0 600) + 600)) 600))) + 1)) 1 1).bind fun bt156 => ((civil_Day.f k (wrap64 ((wrap64 (1970 + (Int.tmod (wrap64 ((Int.tmod a0 600) + 600)) 600))) + 400)) 1 1).bind fun bt158 => ((civil_Leap.f (wrap64 (1970 + (Int.tmod (wrap64 ((Int.tmod a0 600) + 600)) 600)))).bind fun t160 => (if t160 = true then (ticklerlaw16_CivilYears.j0 k (wrap64 (1970 + (Int.tmod (wrap64 ((Int.tmod a0 600) + 600)) 600))) t154 t155 bt156.1 bt156.2 bt158.1 bt158.2 366) else (ticklerlaw16_CivilYears.j0 k (wrap64 (1970 + (Int.tmod (wrap64 ((Int.tmod a0 600) + 600)) 600))) t154 t155 bt156.1 bt156.2 bt158.1 bt158.2 365))))) = some r := H
    have A4 := Aside0.mk A40
    clear A40
    replace H := Option.bind_eq_some_iff.mp H
    obtain ⟨⟨t156, t157⟩, A50, H⟩ := H
    replace H : ((civil_Day.f k (wrap64 ((wrap64 (1970 + (Int.tmod (wrap64 ((Int.tmod a0 600) + 600)) 600))) + 400)) 1 1).bind fun bt158 => ((civil_Leap.f (wrap64 (1970 + (Int.tmod (wrap64 ((Int.tmod a0 600) + 600)) 600)))).bind fun t160 => (if t160 = true then (ticklerlaw16_CivilYears.j0 k (wrap64 (1970 + (Int.tmod (wrap64 ((Int.tmod a0 600) + 600)) 600))) t154 t155 t156 t157 bt158.1 bt158.2 366) else (ticklerlaw16_CivilYears.j0 k (wrap64 (1970 + (Int.tmod (wrap64 ((Int.tmod a0 600) + 600)) 600))) t154 t155 t156 t157 bt158.1 bt158.2 365)))) = some r := H
    have A5 := Aside0.mk A50
    clear A50
    replace H := Option.bind_eq_some_iff.mp H
    obtain ⟨⟨t158, t159⟩, A60, H⟩ := H
    replace H : ((civil_Leap.f (wrap64 (1970 + (Int.tmod (wrap64 ((Int.tmod a0 600) + 600)) 600)))).bind fun t160 => (if t160 = true then (ticklerlaw16_CivilYears.j0 k (wrap64 (1970 + (Int.tmod (wrap64 ((Int.tmod a0 600) + 600)) 600))) t154 t155 t156 t157 t158 t159 366) else (ticklerlaw16_CivilYears.j0 k (wrap64 (1970 + (Int.tmod (wrap64 ((Int.tmod a0 600) + 600)) 600))) t154 t155 t156 t157 t158 t159 365))) = some r := H
    have A6 := Aside0.mk A60
    clear A60
    replace H := Option.bind_eq_some_iff.mp H
    obtain ⟨t160, A70, H⟩ := H
    replace H : (if t160 = true then (ticklerlaw16_CivilYears.j0 k (wrap64 (1970 + (Int.tmod (wrap64 ((Int.tmod a0 600) + 600)) 600))) t154 t155 t156 t157 t158 t159 366) else (ticklerlaw16_CivilYears.j0 k (wrap64 (1970 + (Int.tmod (wrap64 ((Int.tmod a0 600) + 600)) 600))) t154 t155 t156 t157 t158 t159 365)) = some r := H
    have A7 := Aside0.mk A70
    clear A70
    have HC8 := Aside0.mk H
    clear H
    go_enter Try.func5, Try.ntmps5
    go_upto_if 35 with (first | ((with_reducible refine gate_callee (f := 10) rfl ?_); refine goesL_ (some 10) rfl rfl Try.func10 (by kernel_rfl) rfl #[] rfl (by (try simp only [List.map_toArray, List.map_cons, List.map_nil]); first | done | rfl | (simp only [List.length_drop, List.length_take]; rfl)) ?_; (with_reducible refine (ticklerlaw16_alive.calls k  true _ A2.out).mono ?_); rintro e w9 ⟨rfl, hb⟩; refine ⟨_, rfl, ?_⟩; have n0_ := Aside0.mk (below_step (by repeat (first | (with_reducible first | exact HB.out | apply below_alloc | apply pw_below_drewN | apply below_drew1) | exact HB.out)) hb); clear HB; have HB := n0_; clear n0_; (try clear hb); (try clear hb2); (try clear hk); (try clear hi)) | ((with_reducible refine gate_callee (f := 15) rfl ?_); refine goesL_ (some 19) rfl rfl Try.func15 (by kernel_rfl) rfl #[.int .i64 (wrap64 (1970 + (Int.tmod (wrap64 ((Int.tmod a0 600) + 600)) 600))), .int .i64 1, .int .i64 1] rfl (by (try simp only [List.map_toArray, List.map_cons, List.map_nil]); first | done | rfl | (simp only [List.length_drop, List.length_take]; rfl)) ?_; (with_reducible refine (civil_Day.calls k (wrap64 (1970 + (Int.tmod (wrap64 ((Int.tmod a0 600) + 600)) 600))) 1 1 t154 t155 _ A4.out).mono ?_); rintro e w' ⟨rfl, ⟨nd, rfl⟩⟩; refine ⟨_, rfl, ?_⟩) | ((with_reducible refine gate_callee (f := 15) rfl ?_); refine goesL_ (some 25) rfl rfl Try.func15 (by kernel_rfl) rfl #[.int .i64 (wrap64 ((wrap64 (1970 + (Int.tmod (wrap64 ((Int.tmod a0 600) + 600)) 600))) + 1)), .int .i64 1, .int .i64 1] rfl (by (try simp only [List.map_toArray, List.map_cons, List.map_nil]); first | done | rfl | (simp only [List.length_drop, List.length_take]; rfl)) ?_; (with_reducible refine (civil_Day.calls k (wrap64 ((wrap64 (1970 + (Int.tmod (wrap64 ((Int.tmod a0 600) + 600)) 600))) + 1)) 1 1 t156 t157 _ A5.out).mono ?_); rintro e w' ⟨rfl, ⟨nd, rfl⟩⟩; refine ⟨_, rfl, ?_⟩) | ((with_reducible refine gate_callee (f := 15) rfl ?_); refine goesL_ (some 31) rfl rfl Try.func15 (by kernel_rfl) rfl #[.int .i64 (wrap64 ((wrap64 (1970 + (Int.tmod (wrap64 ((Int.tmod a0 600) + 600)) 600))) + 400)), .int .i64 1, .int .i64 1] rfl (by (try simp only [List.map_toArray, List.map_cons, List.map_nil]); first | done | rfl | (simp only [List.length_drop, List.length_take]; rfl)) ?_; (with_reducible refine (civil_Day.calls k (wrap64 ((wrap64 (1970 + (Int.tmod (wrap64 ((Int.tmod a0 600) + 600)) 600))) + 400)) 1 1 t158 t159 _ A6.out).mono ?_); rintro e w' ⟨rfl, ⟨nd, rfl⟩⟩; refine ⟨_, rfl, ?_⟩) | ((with_reducible refine gate_callee (f := 16) rfl ?_); refine goesL_ (some 35) rfl rfl Try.func16 (by kernel_rfl) rfl #[.int .i64 (wrap64 (1970 + (Int.tmod (wrap64 ((Int.tmod a0 600) + 600)) 600)))] rfl (by (try simp only [List.map_toArray, List.map_cons, List.map_nil]); first | done | rfl | (simp only [List.length_drop, List.length_take]; rfl)) ?_; (with_reducible refine (civil_Leap.calls (wrap64 (1970 + (Int.tmod (wrap64 ((Int.tmod a0 600) + 600)) 600))) t160 _ A7.out).mono ?_); rintro e w' ⟨rfl, ⟨nd, rfl⟩⟩; refine ⟨_, rfl, ?_⟩))
    (try simp only [Act.put, List.setIfInBounds_toArray, List.set_cons_zero, List.set_cons_succ])
    go_cut [9] (fun v9 wc => ∃ (kq : Nat) (x9_7 : Int), v9 = .int .i64 x9_7 ∧ Aside0 (ticklerlaw16_CivilYears.j0 kq (wrap64 (1970 + (Int.tmod (wrap64 ((Int.tmod a0 600) + 600)) 600))) t154 t155 t156 t157 t158 t159 x9_7 = some r) ∧ Aside0 (kq ≤ k) ∧ Aside0 (Below w.heap.size w wc))
    case first =>
      have H := HC8.out
      clear HC8
      by_cases c10 : t160 = true
      · subst c10
        have H1 : (ticklerlaw16_CivilYears.j0 k (wrap64 (1970 + (Int.tmod (wrap64 ((Int.tmod a0 600) + 600)) 600))) t154 t155 t156 t157 t158 t159 366) = some r := by rw [if_pos rfl] at H; exact H
        clear H
        have H := H1
        clear H1
        have H' := Aside0.mk H
        clear H
        go_wp2
        go_meet
        case rel => exact ⟨_, (366), (by first | rfl | (simp; done) | (simp [*]; done)), H', ⟨by first | omega | exact Nat.le_refl _⟩, ⟨by repeat (first | (with_reducible first | exact HB.out | apply below_alloc | apply pw_below_drewN | apply below_drew1) | exact HB.out)⟩⟩
      · replace c10 := Bool.eq_false_iff.mpr c10
        subst c10
        have H1 : (ticklerlaw16_CivilYears.j0 k (wrap64 (1970 + (Int.tmod (wrap64 ((Int.tmod a0 600) + 600)) 600))) t154 t155 t156 t157 t158 t159 365) = some r := by rw [if_neg (show ¬ (false = true) by decide)] at H; exact H
        clear H
        have H := H1
        clear H1
        have H' := Aside0.mk H
        clear H
        go_wp2
        go_meet
        case rel => exact ⟨_, (365), (by first | rfl | (simp; done) | (simp [*]; done)), H', ⟨by first | omega | exact Nat.le_refl _⟩, ⟨by repeat (first | (with_reducible first | exact HB.out | apply below_alloc | apply pw_below_drewN | apply below_drew1) | exact HB.out)⟩⟩
    case rest =>
      clear HC8
      try clear c1
      try clear p2
      try clear c3
      try clear c5
      try clear p6
      try clear c10
      obtain ⟨kq, x9_7, rfl, HA, HJ7, HB⟩ := hcut
      cases kq with
      | zero => exact absurd HA.out (by simp [ticklerlaw16_CivilYears.j0])
      | succ kj7 =>
        have H := HA.out
        clear HA
        simp only [ticklerlaw16_CivilYears.j0] at H
        replace H := Option.bind_eq_some_iff.mp H
        obtain ⟨t161, A110, H⟩ := H
        replace H : ((ticklerlaw16_num.f t157).bind fun t162 => ((ticklerlaw16_num.f t159).bind fun t163 => (if (wrap64 ((wrap64 (t161 + t162)) + t163)) = 0 then (if (wrap64 (t156 - t154)) = x9_7 then (if (wrap64 (t158 - t154)) = 146097 then ((civil_Leap.f (wrap64 (1970 + (Int.tmod (wrap64 ((Int.tmod a0 600) + 600)) 600)))).bind fun t164 => ((civil_Leap.f (wrap64 ((wrap64 (1970 + (Int.tmod (wrap64 ((Int.tmod a0 600) + 600)) 600))) + 400))).bind fun t165 => (some (t164 == t165)))) else (some false)) else (some false)) else (some false)))) = some r := H
        have A11 := Aside0.mk A110
        clear A110
        replace H := Option.bind_eq_some_iff.mp H
        obtain ⟨t162, A120, H⟩ := H
        replace H : ((ticklerlaw16_num.f t159).bind fun t163 => (if (wrap64 ((wrap64 (t161 + t162)) + t163)) = 0 then (if (wrap64 (t156 - t154)) = x9_7 then (if (wrap64 (t158 - t154)) = 146097 then ((civil_Leap.f (wrap64 (1970 + (Int.tmod (wrap64 ((Int.tmod a0 600) + 600)) 600)))).bind fun t164 => ((civil_Leap.f (wrap64 ((wrap64 (1970 + (Int.tmod (wrap64 ((Int.tmod a0 600) + 600)) 600))) + 400))).bind fun t165 => (some (t164 == t165)))) else (some false)) else (some false)) else (some false))) = some r := H
        have A12 := Aside0.mk A120
        clear A120
        replace H := Option.bind_eq_some_iff.mp H
        obtain ⟨t163, A130, H⟩ := H
        replace H : (if (wrap64 ((wrap64 (t161 + t162)) + t163)) = 0 then (if (wrap64 (t156 - t154)) = x9_7 then (if (wrap64 (t158 - t154)) = 146097 then ((civil_Leap.f (wrap64 (1970 + (Int.tmod (wrap64 ((Int.tmod a0 600) + 600)) 600)))).bind fun t164 => ((civil_Leap.f (wrap64 ((wrap64 (1970 + (Int.tmod (wrap64 ((Int.tmod a0 600) + 600)) 600))) + 400))).bind fun t165 => (some (t164 == t165)))) else (some false)) else (some false)) else (some false)) = some r := H
        have A13 := Aside0.mk A130
        clear A130
        by_cases c14 : (wrap64 ((wrap64 (t161 + t162)) + t163)) = 0
        · rw [if_pos c14] at H
          have c14b0 : ((wrap64 ((wrap64 (t161 + t162)) + t163)) == 0) = true := beq_iff_eq.mpr c14
          have c14b1 : ((wrap64 ((wrap64 (t161 + t162)) + t163)) != 0) = false := bne_eq_false_iff_eq.mpr c14
          clear c14
          by_cases c15 : (wrap64 (t156 - t154)) = x9_7
          · rw [if_pos c15] at H
            have c15b0 : ((wrap64 (t156 - t154)) == x9_7) = true := beq_iff_eq.mpr c15
            have c15b1 : ((wrap64 (t156 - t154)) != x9_7) = false := bne_eq_false_iff_eq.mpr c15
            clear c15
            by_cases c16 : (wrap64 (t158 - t154)) = 146097
            · rw [if_pos c16] at H
              have c16b0 : ((wrap64 (t158 - t154)) == 146097) = true := beq_iff_eq.mpr c16
              have c16b1 : ((wrap64 (t158 - t154)) != 146097) = false := bne_eq_false_iff_eq.mpr c16
              clear c16
              replace H := Option.bind_eq_some_iff.mp H
              obtain ⟨t164, A170, H⟩ := H
              replace H : ((civil_Leap.f (wrap64 ((wrap64 (1970 + (Int.tmod (wrap64 ((Int.tmod a0 600) + 600)) 600))) + 400))).bind fun t165 => (some (t164 == t165))) = some r := H
              have A17 := Aside0.mk A170
              clear A170
              replace H := Option.bind_eq_some_iff.mp H
              obtain ⟨t165, A180, H⟩ := H
              replace H : (some (t164 == t165)) = some r := H
              have A18 := Aside0.mk A180
              clear A180
              obtain rfl := Option.some.inj H
              go_wp2_with (first | ((with_reducible refine gate_callee (f := 12) rfl ?_); refine goesL_ (some 37) rfl rfl Try.func12 (by kernel_rfl) rfl #[.int .i64 t155] rfl (by (try simp only [List.map_toArray, List.map_cons, List.map_nil]); first | done | rfl | (simp only [List.length_drop, List.length_take]; rfl)) ?_; (with_reducible refine (ticklerlaw16_num.calls t155 t161 _ A11.out).mono ?_); rintro e w' ⟨rfl, ⟨nd, rfl⟩⟩; refine ⟨_, rfl, ?_⟩) | ((with_reducible refine gate_callee (f := 12) rfl ?_); refine goesL_ (some 39) rfl rfl Try.func12 (by kernel_rfl) rfl #[.int .i64 t157] rfl (by (try simp only [List.map_toArray, List.map_cons, List.map_nil]); first | done | rfl | (simp only [List.length_drop, List.length_take]; rfl)) ?_; (with_reducible refine (ticklerlaw16_num.calls t157 t162 _ A12.out).mono ?_); rintro e w' ⟨rfl, ⟨nd, rfl⟩⟩; refine ⟨_, rfl, ?_⟩) | ((with_reducible refine gate_callee (f := 12) rfl ?_); refine goesL_ (some 42) rfl rfl Try.func12 (by kernel_rfl) rfl #[.int .i64 t159] rfl (by (try simp only [List.map_toArray, List.map_cons, List.map_nil]); first | done | rfl | (simp only [List.length_drop, List.length_take]; rfl)) ?_; (with_reducible refine (ticklerlaw16_num.calls t159 t163 _ A13.out).mono ?_); rintro e w' ⟨rfl, ⟨nd, rfl⟩⟩; refine ⟨_, rfl, ?_⟩) | (go_at_call 16; (with_reducible refine (civil_Leap.calls (wrap64 (1970 + (Int.tmod (wrap64 ((Int.tmod a0 600) + 600)) 600))) t164 _ A17.out).mono ?_); rintro e w' ⟨rfl, ⟨nd, rfl⟩⟩) | (go_at_call 16; (with_reducible refine (civil_Leap.calls (wrap64 ((wrap64 (1970 + (Int.tmod (wrap64 ((Int.tmod a0 600) + 600)) 600))) + 400)) t165 _ A18.out).mono ?_); rintro e w' ⟨rfl, ⟨nd, rfl⟩⟩))
              go_ret
              exact ⟨by first | rfl | (simp [errW_none, errW_some] <;> rfl) | (simp [*, errW_none, errW_some] <;> rfl), by repeat (first | (with_reducible first | exact HB.out | apply below_alloc | apply pw_below_drewN | apply below_drew1) | exact HB.out)⟩
            · rw [if_neg c16] at H
              have c16b0 : ((wrap64 (t158 - t154)) == 146097) = false := beq_eq_false_iff_ne.mpr c16
              have c16b1 : ((wrap64 (t158 - t154)) != 146097) = true := bne_iff_ne.mpr c16
              obtain rfl := Option.some.inj H
              go_wp2_with (first | ((with_reducible refine gate_callee (f := 12) rfl ?_); refine goesL_ (some 37) rfl rfl Try.func12 (by kernel_rfl) rfl #[.int .i64 t155] rfl (by (try simp only [List.map_toArray, List.map_cons, List.map_nil]); first | done | rfl | (simp only [List.length_drop, List.length_take]; rfl)) ?_; (with_reducible refine (ticklerlaw16_num.calls t155 t161 _ A11.out).mono ?_); rintro e w' ⟨rfl, ⟨nd, rfl⟩⟩; refine ⟨_, rfl, ?_⟩) | ((with_reducible refine gate_callee (f := 12) rfl ?_); refine goesL_ (some 39) rfl rfl Try.func12 (by kernel_rfl) rfl #[.int .i64 t157] rfl (by (try simp only [List.map_toArray, List.map_cons, List.map_nil]); first | done | rfl | (simp only [List.length_drop, List.length_take]; rfl)) ?_; (with_reducible refine (ticklerlaw16_num.calls t157 t162 _ A12.out).mono ?_); rintro e w' ⟨rfl, ⟨nd, rfl⟩⟩; refine ⟨_, rfl, ?_⟩) | ((with_reducible refine gate_callee (f := 12) rfl ?_); refine goesL_ (some 42) rfl rfl Try.func12 (by kernel_rfl) rfl #[.int .i64 t159] rfl (by (try simp only [List.map_toArray, List.map_cons, List.map_nil]); first | done | rfl | (simp only [List.length_drop, List.length_take]; rfl)) ?_; (with_reducible refine (ticklerlaw16_num.calls t159 t163 _ A13.out).mono ?_); rintro e w' ⟨rfl, ⟨nd, rfl⟩⟩; refine ⟨_, rfl, ?_⟩))
              go_ret
              exact ⟨by first | rfl | (simp [errW_none, errW_some] <;> rfl) | (simp [*, errW_none, errW_some] <;> rfl), by repeat (first | (with_reducible first | exact HB.out | apply below_alloc | apply pw_below_drewN | apply below_drew1) | exact HB.out)⟩
          · rw [if_neg c15] at H
            have c15b0 : ((wrap64 (t156 - t154)) == x9_7) = false := beq_eq_false_iff_ne.mpr c15
            have c15b1 : ((wrap64 (t156 - t154)) != x9_7) = true := bne_iff_ne.mpr c15
            obtain rfl := Option.some.inj H
            go_wp2_with (first | ((with_reducible refine gate_callee (f := 12) rfl ?_); refine goesL_ (some 37) rfl rfl Try.func12 (by kernel_rfl) rfl #[.int .i64 t155] rfl (by (try simp only [List.map_toArray, List.map_cons, List.map_nil]); first | done | rfl | (simp only [List.length_drop, List.length_take]; rfl)) ?_; (with_reducible refine (ticklerlaw16_num.calls t155 t161 _ A11.out).mono ?_); rintro e w' ⟨rfl, ⟨nd, rfl⟩⟩; refine ⟨_, rfl, ?_⟩) | ((with_reducible refine gate_callee (f := 12) rfl ?_); refine goesL_ (some 39) rfl rfl Try.func12 (by kernel_rfl) rfl #[.int .i64 t157] rfl (by (try simp only [List.map_toArray, List.map_cons, List.map_nil]); first | done | rfl | (simp only [List.length_drop, List.length_take]; rfl)) ?_; (with_reducible refine (ticklerlaw16_num.calls t157 t162 _ A12.out).mono ?_); rintro e w' ⟨rfl, ⟨nd, rfl⟩⟩; refine ⟨_, rfl, ?_⟩) | ((with_reducible refine gate_callee (f := 12) rfl ?_); refine goesL_ (some 42) rfl rfl Try.func12 (by kernel_rfl) rfl #[.int .i64 t159] rfl (by (try simp only [List.map_toArray, List.map_cons, List.map_nil]); first | done | rfl | (simp only [List.length_drop, List.length_take]; rfl)) ?_; (with_reducible refine (ticklerlaw16_num.calls t159 t163 _ A13.out).mono ?_); rintro e w' ⟨rfl, ⟨nd, rfl⟩⟩; refine ⟨_, rfl, ?_⟩))
            go_ret
            exact ⟨by first | rfl | (simp [errW_none, errW_some] <;> rfl) | (simp [*, errW_none, errW_some] <;> rfl), by repeat (first | (with_reducible first | exact HB.out | apply below_alloc | apply pw_below_drewN | apply below_drew1) | exact HB.out)⟩
        · rw [if_neg c14] at H
          have c14b0 : ((wrap64 ((wrap64 (t161 + t162)) + t163)) == 0) = false := beq_eq_false_iff_ne.mpr c14
          have c14b1 : ((wrap64 ((wrap64 (t161 + t162)) + t163)) != 0) = true := bne_iff_ne.mpr c14
          obtain rfl := Option.some.inj H
          go_wp2_with (first | ((with_reducible refine gate_callee (f := 12) rfl ?_); refine goesL_ (some 37) rfl rfl Try.func12 (by kernel_rfl) rfl #[.int .i64 t155] rfl (by (try simp only [List.map_toArray, List.map_cons, List.map_nil]); first | done | rfl | (simp only [List.length_drop, List.length_take]; rfl)) ?_; (with_reducible refine (ticklerlaw16_num.calls t155 t161 _ A11.out).mono ?_); rintro e w' ⟨rfl, ⟨nd, rfl⟩⟩; refine ⟨_, rfl, ?_⟩) | ((with_reducible refine gate_callee (f := 12) rfl ?_); refine goesL_ (some 39) rfl rfl Try.func12 (by kernel_rfl) rfl #[.int .i64 t157] rfl (by (try simp only [List.map_toArray, List.map_cons, List.map_nil]); first | done | rfl | (simp only [List.length_drop, List.length_take]; rfl)) ?_; (with_reducible refine (ticklerlaw16_num.calls t157 t162 _ A12.out).mono ?_); rintro e w' ⟨rfl, ⟨nd, rfl⟩⟩; refine ⟨_, rfl, ?_⟩) | ((with_reducible refine gate_callee (f := 12) rfl ?_); refine goesL_ (some 42) rfl rfl Try.func12 (by kernel_rfl) rfl #[.int .i64 t159] rfl (by (try simp only [List.map_toArray, List.map_cons, List.map_nil]); first | done | rfl | (simp only [List.length_drop, List.length_take]; rfl)) ?_; (with_reducible refine (ticklerlaw16_num.calls t159 t163 _ A13.out).mono ?_); rintro e w' ⟨rfl, ⟨nd, rfl⟩⟩; refine ⟨_, rfl, ?_⟩))
          go_ret
          exact ⟨by first | rfl | (simp [errW_none, errW_some] <;> rfl) | (simp [*, errW_none, errW_some] <;> rfl), by repeat (first | (with_reducible first | exact HB.out | apply below_alloc | apply pw_below_drewN | apply below_drew1) | exact HB.out)⟩
  · replace c3 := Bool.eq_false_iff.mpr c3
    subst c3
    have H1 : (some false) = some r := by rw [if_neg (show ¬ (false = true) by decide)] at H; exact H
    clear H
    have H := H1
    clear H1
    obtain rfl := Option.some.inj H
    go_enter Try.func5, Try.ntmps5
    go_wp2_with (first | ((with_reducible refine gate_callee (f := 10) rfl ?_); refine goesL_ (some 10) rfl rfl Try.func10 (by kernel_rfl) rfl #[] rfl (by (try simp only [List.map_toArray, List.map_cons, List.map_nil]); first | done | rfl | (simp only [List.length_drop, List.length_take]; rfl)) ?_; (with_reducible refine (ticklerlaw16_alive.calls k  false _ A2.out).mono ?_); rintro e w19 ⟨rfl, hb⟩; refine ⟨_, rfl, ?_⟩; have n0_ := Aside0.mk (below_step (by repeat (first | (with_reducible first | exact HB.out | apply below_alloc | apply pw_below_drewN | apply below_drew1) | exact HB.out)) hb); clear HB; have HB := n0_; clear n0_; (try clear hb); (try clear hb2); (try clear hk); (try clear hi)))
    go_ret
    exact ⟨by first | rfl | (simp [errW_none, errW_some] <;> rfl) | (simp [*, errW_none, errW_some] <;> rfl), by repeat (first | (with_reducible first | exact HB.out | apply below_alloc | apply pw_below_drewN | apply below_drew1) | exact HB.out)⟩

/-- THE ONE PURE STATEMENT of ticklerlaw16_CivilYears: yours. -/
def ticklerlaw16_CivilYears.Pure : Prop := ∀ (a0 : Int), (Lit.int .i64 a0).wf = true → ∃ k, ticklerlaw16_CivilYears.f k a0 = some true
theorem ticklerlaw16_CivilYears.walk (P : ticklerlaw16_CivilYears.Pure) (a0 : Int) (w : World) (w0 : (Lit.int .i64 a0).wf = true) :
    Calls Try.prog 5 #[.int .i64 a0] w fun e w' => e = .returned (.bool true) ∧ Below w.heap.size w w' := by
  obtain ⟨k, h⟩ := P a0 w0
  refine (ticklerlaw16_CivilYears.calls k a0 true w h).mono ?_
  rintro e w' ⟨rfl, hd⟩
  exact ⟨rfl, hd⟩

end Go.Proofs.Ytkffmgalmooioaa.Civ
