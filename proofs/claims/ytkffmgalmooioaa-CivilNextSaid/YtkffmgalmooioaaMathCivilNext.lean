/- CivilNext in plain arithmetic: the next day's date and weekday. -/
import Derived.Test.YtkffmgalmooioaaCivx9
import Derived.Test.YtkffmgalmooioaaCivPure
namespace Go.Proofs.Ytkffmgalmooioaa.Pure
open Go.RowKit Go.Proofs.Ytkffmgalmooioaa.Civ Go.Proofs.YtkffmgalmooioaaW.PrintWords Go.Proofs.YtkffmgalmooioaaW.PrintLast

theorem CivilNext : ticklerlaw16_CivilNext.Pure := by
  intro a _
  refine ⟨3, ?_⟩
  unfold ticklerlaw16_CivilNext.f
  rw [alive_is 1, Option.bind_some, if_pos rfl]
  have e : ∃ D, Int.tmod (wrap64 ((Int.tmod a 376199) + 376199)) 376199 = D ∧ 0 ≤ D ∧ D < 376199 := by
    have h1 : -376199 < Int.tmod a 376199 ∧ Int.tmod a 376199 < 376199 := ⟨by have := Int.lt_tmod_of_pos a (show (0 : Int) < 376199 by decide); omega, Int.tmod_lt_of_pos a (by decide)⟩
    generalize Int.tmod a 376199 = q at *
    rw [Cal.w64 (x := q + 376199) (by omega), Cal.tm (by omega)]
    exact ⟨_, rfl, by omega, by omega⟩
  obtain ⟨D, hD, d0, d1⟩ := e
  rw [hD, Cal.w64 (x := D + 1) (by omega), Cal.w64 (x := 86400 * D) (by omega), Cal.w64 (x := 86400 * (D + 1)) (by omega)]
  obtain ⟨y, m, d, h, v, hn, hy0, hy1⟩ := split_yes 1 (86400 * D) (by omega) (by omega)
  obtain ⟨y', m', d', h', v', hn', hy0', hy1'⟩ := split_yes 1 (86400 * (D + 1)) (by omega) (by omega)
  rw [h, Option.bind_some, h', Option.bind_some]
  simp only []
  rw [days_yes 2 y m hy0 hy1 v.m1 v.m2, Option.bind_some]
  simp only [ticklerlaw16_num.f, Option.bind_some]
  have z0 : wrap64 (wrap64 (0 + 0) + 0) = 0 := by unfold wrap64; decide
  rw [if_pos z0]
  have n1 : Cal.num y' m' d' = Cal.num y m d + 1 := by omega
  have hw : ((86400 * (D + 1) / 86400 + 4) % 7 != Int.tmod (wrap64 ((86400 * D / 86400 + 4) % 7 + 1)) 7) = false := by
    rw [Cal.w64 (by omega), Cal.tm (by omega), bne_eq_false_iff_eq]; omega
  rw [hw]
  clear h h' hw hn hn' hD
  simp only [ticklerlaw16_CivilNext.j0]
  rw [if_neg (by decide)]
  have := v.m1; have := v.m2; have := v.d1; have := v.d2
  have bd := Cal.dim_bd y m
  by_cases c : d < Cal.dim y m
  · obtain ⟨e1, e2, e3⟩ := Cal.num_inj v' (y' := y) (m' := m) (d' := d + 1) ⟨by omega, by omega, by omega, by omega⟩ (by rw [n1]; unfold Cal.num; omega)
    rw [if_pos c, if_pos e1, if_pos e2, Cal.w64 (by omega), e3]
    simp
  rw [if_neg c]
  by_cases c2 : m < 12
  · have cs := Cal.cum_succ y m (by omega) (by omega)
    have bd' := Cal.dim_bd y (m + 1)
    obtain ⟨e1, e2, e3⟩ := Cal.num_inj v' (y' := y) (m' := m + 1) (d' := 1) ⟨by omega, by omega, by omega, by omega⟩ (by rw [n1]; unfold Cal.num; omega)
    rw [if_pos c2, if_pos e1, Cal.w64 (by omega), if_pos e2, e3]
    simp
  · obtain rfl : m = 12 := by omega
    have c13 := Cal.cum_13 y
    have ds := Cal.dby_succ y
    have bd' := Cal.dim_bd (y + 1) 1
    obtain ⟨e1, e2, e3⟩ := Cal.num_inj v' (y' := y + 1) (m' := 1) (d' := 1) ⟨by omega, by omega, by omega, by omega⟩ (by rw [n1]; unfold Cal.num; rw [Cal.cum_1]; omega)
    rw [if_neg c2, Cal.w64 (by omega), if_pos e1, if_pos e2, e3]
    simp

end Go.Proofs.Ytkffmgalmooioaa.Pure
