/- CivilBack in plain arithmetic: a second comes back from its moment, a day from its date. -/
import Derived.Test.YtkffmgalmooioaaCivx21
import Derived.Test.YtkffmgalmooioaaCivPure
namespace Go.Proofs.Ytkffmgalmooioaa.Pure
open Go.RowKit Go.Proofs.Ytkffmgalmooioaa.Civ Go.Proofs.YtkffmgalmooioaaW.PrintWords Go.Proofs.YtkffmgalmooioaaW.PrintLast

theorem CivilBack : ticklerlaw16_CivilBack.Pure := by
  intro t _
  refine ⟨3, ?_⟩
  unfold ticklerlaw16_CivilBack.f
  rw [alive_is 1, Option.bind_some, if_pos rfl]
  by_cases c : t < 0 ∨ 32503680000 ≤ t
  · rw [split_no 1 t c, Option.bind_some]
    simp only [ticklerlaw16_num.f, Option.bind_some]
    rw [if_neg (by decide)]
    by_cases c0 : t < 0
    · rw [if_pos c0]
    · rw [if_neg c0, decide_eq_true (by omega)]
  · obtain ⟨y, m, d, h, v, hn, hy0, hy1⟩ := split_yes 1 t (by omega) (by omega)
    rw [h, Option.bind_some]
    simp only [ticklerlaw16_num.f, Option.bind_some]
    rw [if_pos trivial, ← hn, join_yes 2 y m d _ _ _ hy0 hy1 v (by omega) (by omega) (by omega) (by omega) (by omega) (by omega), Option.bind_some, day_yes 2 y m d hy0 hy1 v, Option.bind_some]
    simp only []
    rw [if_pos (by rw [Cal.w64 (by decide)]; rfl), hn, if_pos (by omega), Cal.td (by omega), Cal.w64 (by omega)]
    simp

end Go.Proofs.Ytkffmgalmooioaa.Pure
