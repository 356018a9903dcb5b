/- CivilYears in plain arithmetic: a year has 365 days, a leap year one more; 400 years have 146,097. -/
import Derived.Test.YtkffmgalmooioaaCivx12
import Derived.Test.YtkffmgalmooioaaCivPure
namespace Go.Proofs.Ytkffmgalmooioaa.Pure
open Go.RowKit Go.Proofs.Ytkffmgalmooioaa.Civ Go.Proofs.YtkffmgalmooioaaW.PrintWords Go.Proofs.YtkffmgalmooioaaW.PrintLast

theorem CivilYears : ticklerlaw16_CivilYears.Pure := by
  intro a _
  refine ⟨2, ?_⟩
  unfold ticklerlaw16_CivilYears.f
  rw [alive_is 0, Option.bind_some, if_pos rfl]
  have e : ∃ Y, wrap64 (1970 + (Int.tmod (wrap64 ((Int.tmod a 600) + 600)) 600)) = Y ∧ 1970 ≤ Y ∧ Y ≤ 2569 := by
    have h1 : -600 < Int.tmod a 600 ∧ Int.tmod a 600 < 600 := ⟨by have := Int.lt_tmod_of_pos a (show (0 : Int) < 600 by decide); omega, Int.tmod_lt_of_pos a (by decide)⟩
    generalize Int.tmod a 600 = q at *
    rw [Cal.w64 (x := q + 600) (by omega), Cal.tm (by omega), Cal.w64 (by omega)]
    exact ⟨_, rfl, by omega, by omega⟩
  obtain ⟨Y, hY, y0, y1⟩ := e
  rw [hY, Cal.w64 (x := Y + 1) (by omega), Cal.w64 (x := Y + 400) (by omega)]
  have v (z : Int) : Cal.Vld z 1 1 := ⟨by decide, by decide, by decide, by have := Cal.dim_bd z 1; omega⟩
  rw [day_yes 1 Y 1 1 y0 (by omega) (v _), Option.bind_some, day_yes 1 (Y + 1) 1 1 (by omega) (by omega) (v _), Option.bind_some, day_yes 1 (Y + 400) 1 1 (by omega) (by omega) (v _), Option.bind_some, leap_is, Option.bind_some]
  have n (z : Int) : Cal.num z 1 1 = Cal.dby z := by unfold Cal.num; rw [Cal.cum_1]; omega
  simp only [n]
  have s1 := Cal.dby_succ Y
  have s400 : Cal.dby (Y + 400) = Cal.dby Y + 146097 := by unfold Cal.dby Cal.lps; omega
  have b0 := Cal.dby_mono y0
  rw [Cal.dby_1970] at b0
  have b1 := Cal.dby_mono (show Y ≤ 3000 by omega)
  rw [Cal.dby_3000] at b1
  have l400 : decide (Cal.Lp (Y + 400)) = decide (Cal.Lp Y) := by rw [decide_eq_decide]; unfold Cal.Lp; omega
  have hl : Cal.lp Y = if Cal.Lp Y then 1 else 0 := rfl
  have z0 : wrap64 (wrap64 (0 + 0) + 0) = 0 := by unfold wrap64; decide
  by_cases c : Cal.Lp Y
  · rw [if_pos c] at hl
    rw [if_pos (by simpa using c)]
    simp only [ticklerlaw16_CivilYears.j0, ticklerlaw16_num.f, Option.bind_some]
    rw [if_pos z0, Cal.w64 (by omega), if_pos (by omega), Cal.w64 (by omega), if_pos (by omega), leap_is, Option.bind_some, Cal.w64 (by omega), leap_is, Option.bind_some, l400]
    simp
  · rw [if_neg c] at hl
    rw [if_neg (by simpa using c)]
    simp only [ticklerlaw16_CivilYears.j0, ticklerlaw16_num.f, Option.bind_some]
    rw [if_pos z0, Cal.w64 (by omega), if_pos (by omega), Cal.w64 (by omega), if_pos (by omega), leap_is, Option.bind_some, Cal.w64 (by omega), leap_is, Option.bind_some, l400]
    simp

end Go.Proofs.Ytkffmgalmooioaa.Pure
