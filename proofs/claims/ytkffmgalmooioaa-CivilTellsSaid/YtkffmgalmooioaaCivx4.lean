/- Contracts of the Go functions over this seat's translation, each beside a Lean function with the same answers. Lines written for this claim by the kit's print tool, turned by this session. -/
import Derived.Test.YtkffmgalmooioaaCivx0
import Derived.Test.YtkffmgalmooioaaCivx2
import Derived.Test.YtkffmgalmooioaaCivx3
import Derived.Test.YtkffmgalmooioaaCal
namespace Go.Proofs.Ytkffmgalmooioaa.Civ
open Go.RowKit Go.Proofs.YtkffmgalmooioaaW.PrintWords Go.Proofs.YtkffmgalmooioaaW.PrintLast Go.Proofs.YtkffmgalmooioaaW.PrintMore
attribute [local go_sem] max2_int min2_int max_two min_two max_three min_three max_four min_four   -- for this text's walks alone
set_option linter.unusedVariables false
set_option linter.unusedSimpArgs false

/-! ### civil_Split: function 13 -/
def civil_Split.j0 : Nat → Int → Bool → Option (Int × Int × Int × Int × Int × Int × Int × Int)
  | 0, _, _ => none
  | k + 1, x0, x12 => if x12 = true then (some (0, 0, 0, 0, 0, 0, 0, 4)) else ((civil_weekday.f (wrap64 (Int.tdiv x0 86400))).bind fun t102 => ((civil_Date.f k (wrap64 (Int.tdiv x0 86400))).bind fun bt104 => (some (bt104.1, bt104.2.1, bt104.2.2.1, wrap64 (Int.tdiv (Int.tmod x0 86400) 3600), wrap64 (Int.tdiv (Int.tmod (Int.tmod x0 86400) 3600) 60), Int.tmod (Int.tmod x0 86400) 60, t102, 0))))
def civil_Split.f (k : Nat) (a0 : Int) : Option (Int × Int × Int × Int × Int × Int × Int × Int) := if a0 < 0 then (civil_Split.j0 k a0 true) else (civil_Split.j0 k a0 (decide (a0 ≥ 32503680000)))
theorem civil_Split.mono_l : ∀ k, (∀ y0 y1, LeO (civil_Split.j0 k y0 y1) (civil_Split.j0 (k + 1) y0 y1))
  | 0 => fun _ _ r h => by simp [civil_Split.j0] at h
  | k + 1 => by
    have ih0 := civil_Split.mono_l k
    · intro y0 y1
      unfold civil_Split.j0
      repeat' first
      | (with_reducible exact ih0 _ _)
      | (with_reducible exact civil_Date.mono _ _)
      | (with_reducible exact LeO.refl _)
      | (with_reducible exact LeO.none _)
      | (with_reducible refine LeO.ite ?_ ?_)
      | (with_reducible refine LeO.bind ?_ (fun _ => ?_))
      | exact ih0 _ _
      | exact civil_Date.mono _ _
      | exact LeO.none _
      | refine LeO.ite ?_ ?_
      | refine LeO.bind ?_ (fun _ => ?_)
theorem civil_Split.mono : ∀ a0 k, LeO (civil_Split.f k a0) (civil_Split.f (k + 1) a0) := by
  intro a0 k
  have ih0 := civil_Split.mono_l k
  unfold civil_Split.f
  repeat' first
      | (with_reducible exact ih0 _ _)
      | (with_reducible exact civil_Date.mono _ _)
      | (with_reducible exact LeO.refl _)
      | (with_reducible exact LeO.none _)
      | (with_reducible refine LeO.ite ?_ ?_)
      | (with_reducible refine LeO.bind ?_ (fun _ => ?_))
      | exact ih0 _ _
      | exact civil_Date.mono _ _
      | exact LeO.none _
      | refine LeO.ite ?_ ?_
      | refine LeO.bind ?_ (fun _ => ?_)
set_option maxHeartbeats 400000 in
set_option maxRecDepth 100000 in
theorem split_ok (k : Nat) (a0 y m d x q : Int) (w : World) (h0 : 0 ≤ a0) (h1 : a0 < 32503680000) (A : Aside0 (civil_Date.f k (a0 / 86400) = some (y, m, d, x))) (B : Aside0 (civil_weekday.f (a0 / 86400) = some q)) :
    Calls Try.prog 13 #[.int .i64 a0] w fun e w' => e = .returned (.tuple #[.agg #[.int .i64 y, .int .i64 m, .int .i64 d, .int .i64 (a0 % 86400 / 3600), .int .i64 (a0 % 3600 / 60), .int .i64 (a0 % 60), .int .i64 q], .int .i64 0]) ∧ Below w.heap.size w w' := by
  have b0 : decide (a0 < 0) = false := decide_eq_false (by omega)
  have b1 : decide (a0 ≥ 32503680000) = false := decide_eq_false (by omega)
  go_enter Try.func13, Try.ntmps13
  go_wp2_with fail
  refine (civil_weekday.calls _ _ _ B.out).mono ?_
  rintro e w' ⟨rfl, ⟨n1, rfl⟩⟩
  go_wp2_with fail
  refine (civil_Date.calls _ _ _ _ _ _ _ A.out).mono ?_
  rintro e w' ⟨rfl, ⟨n2, rfl⟩⟩
  go_wp2_with fail
  refine bodyPost_ret (v := .tuple #[.agg #[.int .i64 y, .int .i64 m, .int .i64 d, .int .i64 (a0 % 86400 / 3600), .int .i64 (a0 % 3600 / 60), .int .i64 (a0 % 60), .int .i64 q], .int .i64 0]) ?r rfl ⟨rfl, ?_⟩
  case r => simp [results, Try.results13, go_sem]
  iterate 10 (refine below_set ?_ (by simp))
  exact pw_below_drewN (below_alloc (pw_below_drewN (below_alloc (Below.refl _ _) _) _) _) _
set_option maxHeartbeats 400000 in
set_option maxRecDepth 100000 in
theorem split_neg (a0 : Int) (w : World) (h0 : a0 < 0) :
    Calls Try.prog 13 #[.int .i64 a0] w fun e w' => e = .returned (.tuple #[.agg #[.int .i64 0, .int .i64 0, .int .i64 0, .int .i64 0, .int .i64 0, .int .i64 0, .int .i64 0], .int .i64 4]) ∧ Below w.heap.size w w' := by
  have b0 : decide (a0 < 0) = true := decide_eq_true (by omega)
  go_enter Try.func13, Try.ntmps13
  go_wp2_with fail
  refine bodyPost_ret (v := .tuple #[.agg #[.int .i64 0, .int .i64 0, .int .i64 0, .int .i64 0, .int .i64 0, .int .i64 0, .int .i64 0], .int .i64 4]) (by simp [results, Try.results13, go_sem]) rfl ⟨rfl, ?_⟩
  repeat (first | exact Below.refl _ _ | (with_reducible first | apply below_alloc | apply pw_below_drewN | apply below_drew1) | (refine below_set ?_ (by simp)))
set_option maxHeartbeats 400000 in
set_option maxRecDepth 100000 in
theorem split_big (a0 : Int) (w : World) (h0 : ¬ a0 < 0) (h1 : a0 ≥ 32503680000) :
    Calls Try.prog 13 #[.int .i64 a0] w fun e w' => e = .returned (.tuple #[.agg #[.int .i64 0, .int .i64 0, .int .i64 0, .int .i64 0, .int .i64 0, .int .i64 0, .int .i64 0], .int .i64 4]) ∧ Below w.heap.size w w' := by
  have b0 : decide (a0 < 0) = false := decide_eq_false (by omega)
  have b1 : decide (a0 ≥ 32503680000) = true := decide_eq_true (by omega)
  go_enter Try.func13, Try.ntmps13
  go_wp2_with fail
  refine bodyPost_ret (v := .tuple #[.agg #[.int .i64 0, .int .i64 0, .int .i64 0, .int .i64 0, .int .i64 0, .int .i64 0, .int .i64 0], .int .i64 4]) (by simp [results, Try.results13, go_sem]) rfl ⟨rfl, ?_⟩
  repeat (first | exact Below.refl _ _ | (with_reducible first | apply below_alloc | apply pw_below_drewN | apply below_drew1) | (refine below_set ?_ (by simp)))
theorem civil_Split.calls (k : Nat) (a0 : Int) (r1 : Int) (r2 : Int) (r3 : Int) (r4 : Int) (r5 : Int) (r6 : Int) (r7 : Int) (r8 : Int) (w : World) (h : civil_Split.f k a0 = some (r1, r2, r3, r4, r5, r6, r7, r8)) :
    Calls Try.prog 13 #[.int .i64 a0] w fun e w' => e = .returned (.tuple #[.agg #[.int .i64 r1, .int .i64 r2, .int .i64 r3, .int .i64 r4, .int .i64 r5, .int .i64 r6, .int .i64 r7], .int .i64 r8]) ∧ Below w.heap.size w w' := by
  unfold civil_Split.f at h
  obtain ⟨k, rfl⟩ : ∃ m, k = m + 1 := by
    cases k with
    | zero => simp only [civil_Split.j0] at h; split at h <;> cases h
    | succ k => exact ⟨k, rfl⟩
  by_cases c0 : a0 < 0
  · rw [if_pos c0] at h
    simp only [civil_Split.j0, if_true, Option.some.injEq, Prod.mk.injEq] at h
    obtain ⟨rfl, rfl, rfl, rfl, rfl, rfl, rfl, rfl⟩ := h
    exact split_neg a0 w c0
  rw [if_neg c0] at h
  by_cases c1 : a0 ≥ 32503680000
  · rw [decide_eq_true c1] at h
    simp only [civil_Split.j0, if_true, Option.some.injEq, Prod.mk.injEq] at h
    obtain ⟨rfl, rfl, rfl, rfl, rfl, rfl, rfl, rfl⟩ := h
    exact split_big a0 w c0 c1
  rw [decide_eq_false c1] at h
  simp only [civil_Split.j0] at h
  rw [if_neg (by decide), Cal.td (a := a0) (by omega), Cal.tm (a := a0) (by omega), Cal.w64 (x := a0 / 86400) (by omega)] at h
  obtain ⟨q, hq, h⟩ := Option.bind_eq_some_iff.1 h
  obtain ⟨⟨y, m, d, x⟩, hd, h⟩ := Option.bind_eq_some_iff.1 h
  simp (disch := omega) only [Cal.w64, Cal.td, Cal.tm, Option.some.injEq, Prod.mk.injEq] at h
  obtain ⟨rfl, rfl, rfl, rfl, rfl, rfl, rfl, rfl⟩ := h
  have e1 : a0 % 86400 % 3600 = a0 % 3600 := by omega
  have e2 : a0 % 86400 % 60 = a0 % 60 := by omega
  rw [e1, e2]
  exact split_ok k a0 y m d x q w (by omega) (by omega) ⟨hd⟩ ⟨hq⟩

end Go.Proofs.Ytkffmgalmooioaa.Civ
