/- CivilMonths in plain arithmetic: a date is one just if its day is one of its month's; the months' days are the year's. -/
import Derived.Test.YtkffmgalmooioaaCivx13
import Derived.Test.YtkffmgalmooioaaCivPure
namespace Go.Proofs.Ytkffmgalmooioaa.Pure
open Go.RowKit Go.Proofs.Ytkffmgalmooioaa.Civ Go.Proofs.YtkffmgalmooioaaW.PrintWords Go.Proofs.YtkffmgalmooioaaW.PrintLast

/-- the loop over a year's months, from month m on -/
theorem months_loop (y : Int) (h0 : 1970 ≤ y) (h1 : y ≤ 2999) (n : Nat) : ∀ (k : Nat) (m s : Int), 1 ≤ m → m + n = 13 → s = (if m = 13 then 365 + Cal.lp y else Cal.cum y m) → n < k → ticklerlaw16_CivilMonths.l0 (k + 1) y s m = some true := by
  induction n with
  | zero =>
    intro k m s hm1 hm hs hk
    obtain rfl : m = 13 := by omega
    rw [if_pos rfl] at hs
    simp only [ticklerlaw16_CivilMonths.l0]
    rw [if_neg (by decide), leap_is, Option.bind_some, Option.bind_some]
    have hl : Cal.lp y = if Cal.Lp y then 1 else 0 := rfl
    by_cases c : Cal.Lp y
    · rw [if_pos c] at hl
      rw [if_neg (by omega), if_pos (by omega), decide_eq_true c]
    · rw [if_neg c] at hl
      rw [if_pos (by omega), decide_eq_false c]
      rfl
  | succ n ih =>
    intro k m s hm1 hm hs hk
    obtain ⟨k, rfl⟩ : ∃ j, k = j + 1 := ⟨k - 1, by omega⟩
    have bd := Cal.dim_bd y m
    have ce := Cal.cum_end y m hm1 (by omega)
    rw [if_neg (by omega)] at hs
    have hlp := Cal.lp_bd y
    unfold ticklerlaw16_CivilMonths.l0
    rw [if_pos (by omega), days_yes k y m h0 h1 hm1 (by omega), Option.bind_some]
    simp only [ticklerlaw16_num.f, Option.bind_some]
    rw [if_pos trivial, if_neg (by omega), if_neg (by omega), Cal.w64 (x := s + Cal.dim y m) (by omega), Cal.w64 (x := m + 1) (by omega)]
    refine ih k (m + 1) _ (by omega) (by omega) ?_ (by omega)
    by_cases c : m = 12
    · subst c
      rw [if_pos (by decide), hs, Cal.cum_13]
    · rw [if_neg (by omega), hs, Cal.cum_succ y m hm1 (by omega)]
theorem CivilMonths : ticklerlaw16_CivilMonths.Pure := by
  intro y m d _ _ _
  refine ⟨20, ?_⟩
  unfold ticklerlaw16_CivilMonths.f
  rw [alive_is 18, Option.bind_some, if_pos rfl]
  by_cases c : 1970 ≤ y ∧ y ≤ 2999 ∧ 1 ≤ m ∧ m ≤ 12
  · obtain ⟨c1, c2, c3, c4⟩ := c
    have fin : ticklerlaw16_CivilMonths.j0 20 y false = some true := by
      simp only [ticklerlaw16_CivilMonths.j0]
      rw [if_neg (by decide)]
      exact months_loop y c1 c2 12 18 1 0 (by decide) (by decide) (by rw [if_neg (by decide), Cal.cum_1]) (by decide)
    rw [days_yes 19 y m c1 c2 c3 c4, Option.bind_some]
    by_cases v : Cal.Vld y m d
    · rw [day_yes 19 y m d c1 c2 v, Option.bind_some]
      simp only [ticklerlaw16_num.f, Option.bind_some]
      have := v.d1; have := v.d2
      rw [if_pos trivial, if_pos (by omega), decide_eq_true (by omega)]
      exact fin
    · rw [day_no 19 y m d (fun h => v h.2.2), Option.bind_some]
      simp only [ticklerlaw16_num.f, Option.bind_some]
      rw [if_pos trivial]
      by_cases e : d ≥ 1
      · rw [if_pos e, decide_eq_false (fun h => v ⟨c3, c4, e, h⟩)]
        exact fin
      · rw [if_neg e]
        exact fin
  · rw [days_no 19 y m (by omega), Option.bind_some, day_no 19 y m d (fun h => c ⟨h.1, h.2.1, h.2.2.m1, h.2.2.m2⟩), Option.bind_some]
    rfl

end Go.Proofs.Ytkffmgalmooioaa.Pure
