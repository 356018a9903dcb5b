/- CivilJoins in plain arithmetic: the second of any moment is the reference's. -/
import Derived.Test.YtkffmgalmooioaaCivx20
import Derived.Test.YtkffmgalmooioaaCivPure
import Derived.Test.YtkffmgalmooioaaCivRef
namespace Go.Proofs.Ytkffmgalmooioaa.Pure
open Go.RowKit Go.Proofs.Ytkffmgalmooioaa.Civ Go.Proofs.YtkffmgalmooioaaW.PrintWords Go.Proofs.YtkffmgalmooioaaW.PrintLast

/-- a moment's second: what both answer -/
def joinAns (y m d h i s wd : Int) : Int × Int :=
  if 0 ≤ h ∧ h ≤ 23 ∧ 0 ≤ i ∧ i ≤ 59 ∧ 0 ≤ s ∧ s ≤ 59 then (if wd = (Cal.num y m d + 4) % 7 then (86400 * Cal.num y m d + 3600 * h + 60 * i + s, 0) else (0, 1)) else (0, 4)
theorem join_is (k : Nat) (y m d h i s wd : Int) (h1 : 1970 ≤ y) (h2 : y ≤ 2999) (v : Cal.Vld y m d) : civil_Join.f (k + 1) y m d h i s wd = some (joinAns y m d h i s wd) := by
  have hn := Cal.num_of_year v h1 h2
  unfold civil_Join.f joinAns
  rw [day_yes k y m d h1 h2 v, Option.bind_some]
  simp only []
  generalize Cal.num y m d = n at *
  rw [if_pos trivial, mn_two, mn_two, mx_two]
  have hf (a b c : Int) : (if (if a ≤ b then a else b) ≤ c then (if a ≤ b then a else b) else c) < 0 ↔ a < 0 ∨ b < 0 ∨ c < 0 := by split <;> split <;> omega
  have hg (b c : Int) : (if b ≤ c then c else b) > 59 ↔ b > 59 ∨ c > 59 := by split <;> omega
  have jt : civil_Join.j0 (k + 1) n true y m d h i s wd = some (0, 4) := by simp [civil_Join.j0]
  by_cases c1 : (if (if h ≤ i then h else i) ≤ s then (if h ≤ i then h else i) else s) < 0
  · rw [if_pos c1, jt, if_neg (fun e => by have := (hf h i s).1 c1; omega)]
  rw [if_neg c1]
  have c1' : ¬ (h < 0 ∨ i < 0 ∨ s < 0) := fun e => c1 ((hf h i s).2 e)
  clear c1
  by_cases c2 : h > 23
  · rw [if_pos c2, jt, if_neg (by omega)]
  rw [if_neg c2]
  by_cases c3 : i > 59 ∨ s > 59
  · rw [decide_eq_true ((hg i s).2 c3), jt, if_neg (by omega)]
  rw [decide_eq_false (fun e => c3 ((hg i s).1 e)), if_pos (by omega)]
  simp only [civil_Join.j0]
  rw [if_neg (by decide)]
  unfold civil_weekday.f
  rw [Cal.w64 (x := n + 4) (by omega), Cal.tm (by omega), Option.bind_some]
  by_cases c4 : wd = (n + 4) % 7
  · rw [if_pos c4, if_pos c4]
    simp (disch := omega) only [Cal.w64]
    congr 1
    rw [Prod.mk.injEq]
    exact ⟨by omega, rfl⟩
  · rw [if_neg c4, if_neg c4]
theorem rjoin_is (k : Nat) (y m d h i s wd : Int) (h1 : 1970 ≤ y) (h2 : y ≤ 2999) (v : Cal.Vld y m d) : ticklerref16_Join.f (k + 1100) y m d h i s wd = some (joinAns y m d h i s wd) := by
  have hn := Cal.num_of_year v h1 h2
  unfold ticklerref16_Join.f joinAns
  rw [rday_yes k y m d h1 h2 v, Option.bind_some]
  simp only []
  generalize Cal.num y m d = n at *
  rw [if_pos trivial]
  have jt : ticklerref16_Join.j0 (k + 1100) n true y m d h i s wd = some (0, 4) := by
    show ticklerref16_Join.j0 ((k + 1099) + 1) n true y m d h i s wd = _
    simp only [ticklerref16_Join.j0]; rw [if_pos trivial]
  by_cases c1 : h < 0
  · rw [if_pos c1, jt, if_neg (by omega)]
  rw [if_neg c1]
  by_cases c2 : h > 23
  · rw [if_pos c2, jt, if_neg (by omega)]
  rw [if_neg c2]
  by_cases c3 : i < 0
  · rw [if_pos c3, jt, if_neg (by omega)]
  rw [if_neg c3]
  by_cases c4 : i > 59
  · rw [if_pos c4, jt, if_neg (by omega)]
  rw [if_neg c4]
  by_cases c5 : s < 0
  · rw [if_pos c5, jt, if_neg (by omega)]
  rw [if_neg c5]
  by_cases c6 : s > 59
  · rw [decide_eq_true c6, jt, if_neg (by omega)]
  rw [decide_eq_false c6, if_pos (by omega)]
  show ticklerref16_Join.j0 ((k + 1099) + 1) n false y m d h i s wd = _
  simp only [ticklerref16_Join.j0]
  rw [if_neg (by decide), Cal.w64 (x := n + 4) (by omega), Cal.tm (by omega)]
  by_cases c4 : wd = (n + 4) % 7
  · rw [if_pos c4, if_pos c4]
    simp (disch := omega) only [Cal.w64]
  · rw [if_neg c4, if_neg c4]
theorem join_no (k : Nat) (y m d h i s wd : Int) (c : ¬ (1970 ≤ y ∧ y ≤ 2999 ∧ Cal.Vld y m d)) : civil_Join.f (k + 1) y m d h i s wd = some (0, 4) := by
  unfold civil_Join.f
  rw [day_no k y m d c, Option.bind_some]
  rfl
theorem rjoin_no (k : Nat) (y m d h i s wd : Int) (c : ¬ (1970 ≤ y ∧ y ≤ 2999 ∧ Cal.Vld y m d)) : ticklerref16_Join.f (k + 1) y m d h i s wd = some (0, 4) := by
  unfold ticklerref16_Join.f
  rw [rday_no k y m d c, Option.bind_some]
  rfl
theorem CivilJoins (y m d h i s wd : Int) : ticklerlaw16_CivilJoins.f 1101 y m d h i s wd = some true := by
  have fin (p : Int × Int) (ha : civil_Join.f 1101 y m d h i s wd = some p) (hb : ticklerref16_Join.f 1101 y m d h i s wd = some p) : ticklerlaw16_CivilJoins.f 1101 y m d h i s wd = some true := by
    unfold ticklerlaw16_CivilJoins.f
    rw [ha, Option.bind_some, hb, Option.bind_some, if_pos rfl]
    simp only [ticklerlaw16_num.f, Option.bind_some]
    rw [if_pos trivial, alive_is 1099, Option.bind_some]
  by_cases c : 1970 ≤ y ∧ y ≤ 2999 ∧ Cal.Vld y m d
  · exact fin _ (join_is 1100 y m d h i s wd c.1 c.2.1 c.2.2) (rjoin_is 1 y m d h i s wd c.1 c.2.1 c.2.2)
  · exact fin _ (join_no 1100 y m d h i s wd c) (rjoin_no 1100 y m d h i s wd c)
end Go.Proofs.Ytkffmgalmooioaa.Pure
