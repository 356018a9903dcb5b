/- What the calendar's functions answer, in plain arithmetic: leap years, days of a month, of a date, a date of a day, a second's moment, a moment's second. -/
import Derived.Test.YtkffmgalmooioaaCivx5
import Derived.Test.YtkffmgalmooioaaCivx14
import Derived.Test.YtkffmgalmooioaaCal
namespace Go.Proofs.Ytkffmgalmooioaa.Pure
open Go.RowKit Go.Proofs.Ytkffmgalmooioaa.Civ Go.Proofs.YtkffmgalmooioaaW.PrintWords Go.Proofs.YtkffmgalmooioaaW.PrintLast

theorem leap_is (y : Int) : civil_Leap.f y = some (decide (Cal.Lp y)) := by
  unfold civil_Leap.f
  rw [Cal.and3]
  have e : (Int.tmod y 100 = 0) ↔ y % 100 = 0 := Cal.tmod0 y 100
  have f : (Int.tmod y 400 == 0) = decide (y % 400 = 0) := by
    rw [Bool.eq_iff_iff]; simp only [beq_iff_eq, decide_eq_true_eq]; exact Cal.tmod0 y 400
  have g : (y % 4 == 0) = decide (y % 4 = 0) := by rw [Bool.eq_iff_iff]; simp
  rw [f, g]
  by_cases c : y % 100 = 0
  · rw [if_pos (e.2 c)]; congr 1; rw [decide_eq_decide]; unfold Cal.Lp; omega
  · rw [if_neg (fun h => c (e.1 h))]; congr 1; rw [decide_eq_decide]; unfold Cal.Lp; omega
theorem days_yes (k : Nat) (y m : Int) (h1 : 1970 ≤ y) (h2 : y ≤ 2999) (h3 : 1 ≤ m) (h4 : m ≤ 12) : civil_Days.f (k + 1) y m = some (Cal.dim y m, 0) := by
  unfold civil_Days.f
  rw [if_neg (by omega), if_neg (by omega), if_neg (by omega), decide_eq_false (by omega)]
  simp only [civil_Days.j0]
  rw [if_neg (by decide)]
  by_cases c : m = 2
  · rw [if_pos c, leap_is, Option.bind_some]
    unfold Cal.dim Cal.lp
    rw [if_pos c]
    by_cases d : Cal.Lp y
    · rw [if_pos (by simpa using d), if_pos d]; rfl
    · rw [if_neg (by simpa using d), if_neg d]; rfl
  · rw [if_neg c, Cal.w64 (x := m + m / 8) (by omega), Cal.and1, Cal.w64 (by omega)]
    unfold Cal.dim; rw [if_neg c]
theorem days_no (k : Nat) (y m : Int) (h : y < 1970 ∨ 2999 < y ∨ m < 1 ∨ 12 < m) : civil_Days.f (k + 1) y m = some (0, 4) := by
  unfold civil_Days.f
  by_cases c1 : y < 1970
  · rw [if_pos c1]; simp [civil_Days.j0]
  rw [if_neg c1]
  by_cases c2 : y > 2999
  · rw [if_pos c2]; simp [civil_Days.j0]
  rw [if_neg c2]
  by_cases c3 : m < 1
  · rw [if_pos c3]; simp [civil_Days.j0]
  rw [if_neg c3, decide_eq_true (by omega)]; simp [civil_Days.j0]
theorem count_is (y m d : Int) (h1 : 1970 ≤ y) (h2 : y ≤ 4000) (h3 : 1 ≤ m) (h4 : m ≤ 12) (h5 : 1 ≤ d) (h6 : d ≤ 31) : civil_count.f y m d = some (Cal.num y m d) := by
  unfold civil_count.f
  by_cases c : m ≤ 2
  · rw [if_pos c, ← Cal.count_eq (y := y) (m := m) (d := d) (Y := y - 1) (M := m + 12) (by rw [if_pos c]) (by rw [if_pos c]) rfl rfl h3 h4]
    simp (disch := omega) only [Cal.w64, Cal.td, Cal.tm]
  · rw [if_neg c, ← Cal.count_eq (y := y) (m := m) (d := d) (Y := y) (M := m) (by rw [if_neg c]) (by rw [if_neg c]) rfl rfl h3 h4]
    simp (disch := omega) only [Cal.w64, Cal.td, Cal.tm]
theorem day_yes (k : Nat) (y m d : Int) (h1 : 1970 ≤ y) (h2 : y ≤ 2999) (v : Cal.Vld y m d) : civil_Day.f (k + 1) y m d = some (Cal.num y m d, 0) := by
  have b := Cal.dim_bd y m
  have := v.m1; have := v.m2; have := v.d1; have := v.d2
  unfold civil_Day.f
  rw [days_yes k y m h1 h2 v.m1 v.m2, Option.bind_some]
  simp only []
  rw [if_pos trivial, if_neg (by omega), if_neg (by omega), count_is y m d h1 (by omega) v.m1 v.m2 v.d1 (by omega), Option.bind_some]
theorem day_no (k : Nat) (y m d : Int) (h : ¬ (1970 ≤ y ∧ y ≤ 2999 ∧ Cal.Vld y m d)) : civil_Day.f (k + 1) y m d = some (0, 4) := by
  unfold civil_Day.f
  by_cases c : 1970 ≤ y ∧ y ≤ 2999 ∧ 1 ≤ m ∧ m ≤ 12
  · obtain ⟨c1, c2, c3, c4⟩ := c
    rw [days_yes k y m c1 c2 c3 c4, Option.bind_some]
    simp only []
    rw [if_pos trivial]
    by_cases c5 : d < 1
    · rw [if_pos c5]
    rw [if_neg c5]
    by_cases c6 : d > Cal.dim y m
    · rw [if_pos c6]
    exact absurd ⟨c1, c2, c3, c4, by omega, by omega⟩ h
  · rw [days_no k y m (by omega), Option.bind_some]
    rfl
theorem date_some (k : Nat) (x : Int) (h0 : 0 ≤ x) (h1 : x < 376200) : ∃ y m d, civil_Date.f (k + 1) x = some (y, m, d, 0) ∧ Cal.Vld y m d ∧ Cal.num y m d = x := by
  unfold civil_Date.f
  rw [if_neg (by omega), decide_eq_false (by omega)]
  simp only [civil_Date.j0]
  rw [if_neg (by decide)]
  rw [Cal.w64 (x := x + 719468) (by omega), Cal.td (a := x + 719468) (by omega), Cal.tm (a := x + 719468) (by omega)]
  have he0 : 0 ≤ (x + 719468) / 146097 := by omega
  have he1 : (x + 719468) / 146097 ≤ 8 := by omega
  have hd0 : 0 ≤ (x + 719468) % 146097 := by omega
  have hd1 : (x + 719468) % 146097 < 146097 := by omega
  have hx : x = 146097 * ((x + 719468) / 146097) + (x + 719468) % 146097 - 719468 := by omega
  generalize (x + 719468) / 146097 = era at *
  generalize (x + 719468) % 146097 = d at *
  have M := Cal.date_math (era := era) (d := d) (x := x) he0 hd0 hd1 hx rfl rfl rfl
  try simp (disch := omega) only [Cal.w64, Cal.td]
  obtain ⟨y0, y1, M⟩ := M
  generalize (d - d / 1460 + d / 36524 - d / 146096) / 365 = y at *
  obtain ⟨z0, z1, M⟩ := M
  try simp (disch := omega) only [Cal.w64, Cal.td]
  generalize d - (365 * y + y / 4 - y / 100) = doy at *
  obtain ⟨m0, m1, M⟩ := M
  try simp (disch := omega) only [Cal.w64, Cal.td]
  generalize (5 * doy + 2) / 153 = m at *
  obtain ⟨f0, f1, Ma, Mb⟩ := M
  try simp (disch := omega) only [Cal.w64, Cal.td]
  by_cases c : m + 3 > 12
  · rw [if_pos c]; exact ⟨_, _, _, rfl, (Ma c).1, (Ma c).2⟩
  · rw [if_neg c]; exact ⟨_, _, _, rfl, (Mb c).1, (Mb c).2⟩
theorem date_no (k : Nat) (x : Int) (h : x < 0 ∨ 376200 ≤ x) : civil_Date.f (k + 1) x = some (0, 0, 0, 4) := by
  unfold civil_Date.f
  by_cases c : x < 0
  · rw [if_pos c]; simp [civil_Date.j0]
  · rw [if_neg c, decide_eq_true (by omega)]; simp [civil_Date.j0]
theorem split_yes (k : Nat) (t : Int) (h0 : 0 ≤ t) (h1 : t < 32503680000) : ∃ y m d, civil_Split.f (k + 2) t = some (y, m, d, t % 86400 / 3600, t % 86400 % 3600 / 60, t % 86400 % 60, (t / 86400 + 4) % 7, 0) ∧
    Cal.Vld y m d ∧ Cal.num y m d = t / 86400 ∧ 1970 ≤ y ∧ y ≤ 2999 := by
  obtain ⟨y, m, d, hd, hv, hn⟩ := date_some k (t / 86400) (by omega) (by omega)
  have hy := Cal.year_of hv (by omega) (by omega)
  refine ⟨y, m, d, ?_, hv, hn, hy.1, hy.2⟩
  unfold civil_Split.f
  rw [if_neg (by omega), decide_eq_false (by omega)]
  simp only [civil_Split.j0]
  rw [if_neg (by decide), Cal.td (a := t) h0, Cal.tm (a := t) h0, Cal.w64 (x := t / 86400) (by omega)]
  unfold civil_weekday.f
  rw [Option.bind_some, hd, Option.bind_some]
  simp (disch := omega) only [Cal.w64, Cal.td, Cal.tm]
theorem split_no (k : Nat) (t : Int) (h : t < 0 ∨ 32503680000 ≤ t) : civil_Split.f (k + 2) t = some (0, 0, 0, 0, 0, 0, 0, 4) := by
  unfold civil_Split.f
  by_cases c : t < 0
  · rw [if_pos c]; simp [civil_Split.j0]
  · rw [if_neg c, decide_eq_true (by omega)]; simp [civil_Split.j0]
theorem split_alive (k : Nat) : civil_Split.f (k + 2) 951782400 = some (2000, 2, 29, 0, 0, 0, 2, 0) := by
  obtain ⟨y, m, d, h, v, hn, _, _⟩ := split_yes k 951782400 (by decide) (by decide)
  obtain ⟨e1, e2, e3⟩ := Cal.num_inj v (y' := 2000) (m' := 2) (d' := 29) ⟨by decide, by decide, by decide, by decide⟩ (by rw [hn]; decide)
  rw [h, e1, e2, e3]; rfl
theorem alive_is (k : Nat) : ticklerlaw16_alive.f (k + 2) = some true := by
  unfold ticklerlaw16_alive.f
  rw [split_alive, Option.bind_some]
  rfl
theorem mn_two (a b : Int) : mn a b = if a ≤ b then a else b := by unfold mn; split <;> split <;> omega
theorem mx_two (a b : Int) : mx a b = if a ≤ b then b else a := by unfold mx; split <;> split <;> omega
theorem join_yes (k : Nat) (y m d h i s : Int) (h1 : 1970 ≤ y) (h2 : y ≤ 2999) (v : Cal.Vld y m d) (h3 : 0 ≤ h) (h4 : h ≤ 23) (h5 : 0 ≤ i) (h6 : i ≤ 59) (h7 : 0 ≤ s) (h8 : s ≤ 59) :
    civil_Join.f (k + 1) y m d h i s ((Cal.num y m d + 4) % 7) = some (86400 * Cal.num y m d + 3600 * h + 60 * i + s, 0) := by
  have hn := Cal.num_of_year v h1 h2
  unfold civil_Join.f
  rw [day_yes k y m d h1 h2 v, Option.bind_some]
  simp only []
  generalize Cal.num y m d = n at *
  rw [if_pos trivial, mn_two, mn_two, if_neg (by split <;> split <;> omega), if_neg (by omega), mx_two, decide_eq_false (by split <;> omega)]
  simp only [civil_Join.j0]
  rw [if_neg (by decide)]
  unfold civil_weekday.f
  rw [Cal.w64 (x := n + 4) (by omega), Cal.tm (by omega), Option.bind_some, if_pos rfl]
  simp (disch := omega) only [Cal.w64]
  congr 1
  rw [Prod.mk.injEq]
  exact ⟨by omega, rfl⟩
end Go.Proofs.Ytkffmgalmooioaa.Pure
