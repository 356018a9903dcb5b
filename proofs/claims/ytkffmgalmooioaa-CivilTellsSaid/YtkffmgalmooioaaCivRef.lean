/- What the reference's calendar functions answer (year by year, month by month), in plain arithmetic. -/
import Derived.Test.YtkffmgalmooioaaCivx19
import Derived.Test.YtkffmgalmooioaaCivx23
import Derived.Test.YtkffmgalmooioaaCal
namespace Go.Proofs.Ytkffmgalmooioaa.Pure
open Go.RowKit Go.Proofs.Ytkffmgalmooioaa.Civ Go.Proofs.YtkffmgalmooioaaW.PrintWords Go.Proofs.YtkffmgalmooioaaW.PrintLast

theorem rleap_is (y : Int) : ticklerref16_Leap.f y = some (decide (Cal.Lp y)) := by
  unfold ticklerref16_Leap.f
  have e4 : (Int.tmod y 4 = 0) ↔ y % 4 = 0 := Cal.tmod0 y 4
  have e : (Int.tmod y 100 = 0) ↔ y % 100 = 0 := Cal.tmod0 y 100
  have f : (Int.tmod y 400 == 0) = decide (y % 400 = 0) := by
    rw [Bool.eq_iff_iff]; simp only [beq_iff_eq, decide_eq_true_eq]; exact Cal.tmod0 y 400
  rw [f]
  by_cases c4 : y % 4 = 0
  · rw [if_pos (e4.2 c4)]
    by_cases c : y % 100 = 0
    · rw [if_pos (e.2 c)]; congr 1; rw [decide_eq_decide]; unfold Cal.Lp; omega
    · rw [if_neg (fun h => c (e.1 h))]; congr 1; symm; rw [decide_eq_true_eq]; unfold Cal.Lp; omega
  · rw [if_neg (fun h => c4 (e4.1 h))]; congr 1; symm; rw [decide_eq_false_iff_not]; unfold Cal.Lp; omega
theorem rdays_yes (k : Nat) (y m : Int) (h1 : 1970 ≤ y) (h2 : y ≤ 2999) (h3 : 1 ≤ m) (h4 : m ≤ 12) : ticklerref16_Days.f (k + 1) y m = some (Cal.dim y m, 0) := by
  unfold ticklerref16_Days.f
  rw [if_neg (by omega), if_neg (by omega), if_neg (by omega), decide_eq_false (by omega)]
  simp only [ticklerref16_Days.j0]
  rw [if_neg (by decide)]
  by_cases c : m = 2
  · rw [if_pos c, rleap_is, Option.bind_some]
    unfold Cal.dim Cal.lp
    rw [if_pos c]
    by_cases d : Cal.Lp y
    · rw [if_pos (by simpa using d), if_pos d]; rfl
    · rw [if_neg (by simpa using d), if_neg d]; rfl
  · rw [if_neg c]
    unfold Cal.dim; rw [if_neg c]
    obtain h | h | h | h | h | h | h | h | h | h | h : m = 1 ∨ m = 3 ∨ m = 4 ∨ m = 5 ∨ m = 6 ∨ m = 7 ∨ m = 8 ∨ m = 9 ∨ m = 10 ∨ m = 11 ∨ m = 12 := by omega
    all_goals subst h; rfl
theorem rdays_no (k : Nat) (y m : Int) (h : y < 1970 ∨ 2999 < y ∨ m < 1 ∨ 12 < m) : ticklerref16_Days.f (k + 1) y m = some (0, 4) := by
  unfold ticklerref16_Days.f
  by_cases c1 : y < 1970
  · rw [if_pos c1]; simp [ticklerref16_Days.j0]
  rw [if_neg c1]
  by_cases c2 : y > 2999
  · rw [if_pos c2]; simp [ticklerref16_Days.j0]
  rw [if_neg c2]
  by_cases c3 : m < 1
  · rw [if_pos c3]; simp [ticklerref16_Days.j0]
  rw [if_neg c3, decide_eq_true (by omega)]; simp [ticklerref16_Days.j0]
theorem rayear_is (y : Int) : ticklerref16_aYear.f y = some (365 + Cal.lp y) := by
  unfold ticklerref16_aYear.f
  rw [rleap_is, Option.bind_some]
  unfold Cal.lp
  by_cases d : Cal.Lp y
  · rw [if_pos (by simpa using d), if_pos d]; rfl
  · rw [if_neg (by simpa using d), if_neg d]; rfl
theorem dby_bd {y : Int} (h0 : 1970 ≤ y) (h1 : y ≤ 3000) : 0 ≤ Cal.dby y ∧ Cal.dby y ≤ 376200 := by
  have a := Cal.dby_mono h0; have b := Cal.dby_mono h1
  rw [Cal.dby_1970] at a; rw [Cal.dby_3000] at b
  exact ⟨a, b⟩
/-- the months ahead of a month -/
theorem rday_l1 (y m d : Int) (h0 : 1970 ≤ y) (h1 : y ≤ 2999) (h4 : m ≤ 12) (h5 : 1 ≤ d) (h6 : d ≤ 31) (n : Nat) : ∀ (k : Nat) (i s : Int), 1 ≤ i → i + n = m → s = d - 1 + Cal.dby y + Cal.cum y i → n < k →
    ticklerref16_Day.l1 (k + 1) y m s i = some (Cal.num y m d, 0) := by
  induction n with
  | zero =>
    intro k i s hi hm hs hk
    obtain rfl : i = m := by omega
    simp only [ticklerref16_Day.l1]
    rw [if_neg (by omega), hs]
    congr 1
    rw [Prod.mk.injEq]
    exact ⟨by unfold Cal.num; omega, rfl⟩
  | succ n ih =>
    intro k i s hi hm hs hk
    obtain ⟨k, rfl⟩ : ∃ j, k = j + 1 := ⟨k - 1, by omega⟩
    have bd := Cal.dim_bd y i
    have ce := Cal.cum_end y i hi (by omega)
    have hlp := Cal.lp_bd y
    have hb := dby_bd h0 (show y ≤ 3000 by omega)
    unfold ticklerref16_Day.l1
    rw [if_pos (by omega), rdays_yes k y i h0 h1 hi (by omega), Option.bind_some]
    simp only []
    rw [Cal.w64 (x := s + Cal.dim y i) (by omega), Cal.w64 (x := i + 1) (by omega)]
    exact ih k (i + 1) _ (by omega) (by omega) (by rw [Cal.cum_succ y i hi (by omega)]; omega) (by omega)
theorem rday_l0 (y m d : Int) (h1 : y ≤ 2999) (h3 : 1 ≤ m) (h4 : m ≤ 12) (h5 : 1 ≤ d) (h6 : d ≤ 31) (n : Nat) : ∀ (k : Nat) (i s : Int), 1970 ≤ i → i + n = y → s = d - 1 + Cal.dby i → n + 15 < k →
    ticklerref16_Day.l0 (k + 1) y m s i = some (Cal.num y m d, 0) := by
  induction n with
  | zero =>
    intro k i s hi hm hs hk
    obtain rfl : i = y := by omega
    obtain ⟨k, rfl⟩ : ∃ j, k = j + 1 := ⟨k - 1, by omega⟩
    unfold ticklerref16_Day.l0
    rw [if_neg (by omega)]
    exact rday_l1 i m d hi h1 h4 h5 h6 (m - 1).toNat k 1 s (by decide) (by omega) (by rw [Cal.cum_1]; omega) (by omega)
  | succ n ih =>
    intro k i s hi hm hs hk
    obtain ⟨k, rfl⟩ : ∃ j, k = j + 1 := ⟨k - 1, by omega⟩
    have hlp := Cal.lp_bd i
    have hb := dby_bd hi (show i ≤ 3000 by omega)
    unfold ticklerref16_Day.l0
    rw [if_pos (by omega), rayear_is, Option.bind_some, Cal.w64 (x := s + (365 + Cal.lp i)) (by omega), Cal.w64 (x := i + 1) (by omega)]
    exact ih k (i + 1) _ (by omega) (by omega) (by rw [Cal.dby_succ]; omega) (by omega)
theorem rday_j0 (k : Nat) (y m d : Int) : ticklerref16_Day.j0 (k + 1) y m d false = ticklerref16_Day.l0 k y m (wrap64 (d - 1)) 1970 := by simp [ticklerref16_Day.j0]
theorem rday_yes (k : Nat) (y m d : Int) (h0 : 1970 ≤ y) (h1 : y ≤ 2999) (v : Cal.Vld y m d) : ticklerref16_Day.f (k + 1100) y m d = some (Cal.num y m d, 0) := by
  have b := Cal.dim_bd y m
  have := v.m1; have := v.m2; have := v.d1; have := v.d2
  unfold ticklerref16_Day.f
  rw [rdays_yes (k + 1099) y m h0 h1 v.m1 v.m2, Option.bind_some]
  simp only []
  rw [if_pos trivial, if_neg (by omega), decide_eq_false (by omega)]
  show ticklerref16_Day.j0 ((k + 1099) + 1) y m d false = _
  rw [rday_j0, Cal.w64 (by omega)]
  exact rday_l0 y m d h1 v.m1 v.m2 v.d1 (by omega) (y - 1970).toNat (k + 1098) 1970 (d - 1) (by decide) (by omega) (by rw [Cal.dby_1970]; omega) (by omega)
theorem rday_no (k : Nat) (y m d : Int) (h : ¬ (1970 ≤ y ∧ y ≤ 2999 ∧ Cal.Vld y m d)) : ticklerref16_Day.f (k + 1) y m d = some (0, 4) := by
  unfold ticklerref16_Day.f
  by_cases c : 1970 ≤ y ∧ y ≤ 2999 ∧ 1 ≤ m ∧ m ≤ 12
  · obtain ⟨c1, c2, c3, c4⟩ := c
    rw [rdays_yes k y m c1 c2 c3 c4, Option.bind_some]
    simp only []
    rw [if_pos trivial]
    by_cases c5 : d < 1
    · rw [if_pos c5]; simp [ticklerref16_Day.j0]
    rw [if_neg c5]
    by_cases c6 : d > Cal.dim y m
    · rw [decide_eq_true c6]; simp [ticklerref16_Day.j0]
    exact absurd ⟨c1, c2, c3, c4, by omega, by omega⟩ h
  · rw [rdays_no k y m (by omega), Option.bind_some]
    simp [ticklerref16_Day.j0]
/-- a date of a day, month by month -/
theorem rdate_l1 (x y m d : Int) (h0 : 1970 ≤ y) (h1 : y ≤ 2999) (v : Cal.Vld y m d) (hx : Cal.num y m d = x) (n : Nat) : ∀ (k : Nat) (i s : Int), 1 ≤ i → i + n = m → s = x - Cal.dby y - Cal.cum y i → n < k →
    ticklerref16_Date.l1 (k + 1) s y i = some (y, m, d, 0) := by
  have := v.m1; have := v.m2; have := v.d1; have := v.d2
  have hn := Cal.num_of_year v h0 h1
  have hb := dby_bd h0 (show y ≤ 3000 by omega)
  induction n with
  | zero =>
    intro k i s hi hm hs hk
    obtain rfl : i = m := by omega
    obtain ⟨k, rfl⟩ : ∃ j, k = j + 1 := ⟨k - 1, by omega⟩
    have ce := Cal.cum_end y i v.m1 v.m2
    have bd := Cal.dim_bd y i
    unfold ticklerref16_Date.l1
    rw [rdays_yes k y i h0 h1 v.m1 v.m2, Option.bind_some]
    unfold Cal.num at hx
    simp only []
    rw [if_pos (by omega), Cal.w64 (by omega)]
    congr 1
    rw [Prod.mk.injEq, Prod.mk.injEq, Prod.mk.injEq]
    exact ⟨rfl, rfl, by omega, rfl⟩
  | succ n ih =>
    intro k i s hi hm hs hk
    obtain ⟨k, rfl⟩ : ∃ j, k = j + 1 := ⟨k - 1, by omega⟩
    have bd := Cal.dim_bd y i
    have ce := Cal.cum_end y i hi (by omega)
    have cm := Cal.cum_mono y hi (show i < m by omega) v.m2
    have hlp := Cal.lp_bd y
    unfold ticklerref16_Date.l1
    rw [rdays_yes k y i h0 h1 hi (by omega), Option.bind_some]
    simp only []
    have hx' : Cal.dby y + Cal.cum y m + d - 1 = x := hx
    rw [if_neg (by omega), Cal.w64 (x := s - Cal.dim y i) (by omega), Cal.w64 (x := i + 1) (by omega)]
    exact ih k (i + 1) _ (by omega) (by omega) (by rw [Cal.cum_succ y i hi (by omega)]; omega) (by omega)
theorem rdate_l0 (x y m d : Int) (h0 : 1970 ≤ y) (h1 : y ≤ 2999) (v : Cal.Vld y m d) (hx : Cal.num y m d = x) (n : Nat) : ∀ (k : Nat) (i s : Int), 1970 ≤ i → i + n = y → s = x - Cal.dby i → n + 15 < k →
    ticklerref16_Date.l0 (k + 1) s i 1 = some (y, m, d, 0) := by
  have := v.m1; have := v.m2; have := v.d1; have := v.d2
  have hn := Cal.num_of_year v h0 h1
  have ce := Cal.cum_end y m v.m1 v.m2
  have hx' : Cal.dby y + Cal.cum y m + d - 1 = x := hx
  induction n with
  | zero =>
    intro k i s hi hm hs hk
    obtain rfl : i = y := by omega
    obtain ⟨k, rfl⟩ : ∃ j, k = j + 1 := ⟨k - 1, by omega⟩
    unfold ticklerref16_Date.l0
    rw [rayear_is, Option.bind_some, if_neg (by omega)]
    exact rdate_l1 x i m d h0 h1 v hx (m - 1).toNat k 1 s (by decide) (by omega) (by rw [Cal.cum_1]; omega) (by omega)
  | succ n ih =>
    intro k i s hi hm hs hk
    obtain ⟨k, rfl⟩ : ∃ j, k = j + 1 := ⟨k - 1, by omega⟩
    have hlp := Cal.lp_bd i
    have hb := dby_bd hi (show i ≤ 3000 by omega)
    have dl := Cal.dby_lt (show i < y by omega)
    unfold ticklerref16_Date.l0
    rw [rayear_is, Option.bind_some, if_pos (by omega), Option.bind_some, Cal.w64 (x := s - (365 + Cal.lp i)) (by omega), Cal.w64 (x := i + 1) (by omega)]
    exact ih k (i + 1) _ (by omega) (by omega) (by rw [Cal.dby_succ]; omega) (by omega)
theorem rdate_j0 (k : Nat) (x : Int) : ticklerref16_Date.j0 (k + 1) x false = ticklerref16_Date.l0 k x 1970 1 := by simp [ticklerref16_Date.j0]
theorem rdate_yes (k : Nat) (y m d : Int) (h0 : 1970 ≤ y) (h1 : y ≤ 2999) (v : Cal.Vld y m d) : ticklerref16_Date.f (k + 1100) (Cal.num y m d) = some (y, m, d, 0) := by
  have hn := Cal.num_of_year v h0 h1
  unfold ticklerref16_Date.f
  rw [if_neg (by omega), decide_eq_false (by omega)]
  show ticklerref16_Date.j0 ((k + 1099) + 1) _ false = _
  rw [rdate_j0]
  exact rdate_l0 _ y m d h0 h1 v rfl (y - 1970).toNat (k + 1098) 1970 _ (by decide) (by omega) (by rw [Cal.dby_1970]; omega) (by omega)
theorem rdate_no (k : Nat) (x : Int) (h : x < 0 ∨ 376200 ≤ x) : ticklerref16_Date.f (k + 1) x = some (0, 0, 0, 4) := by
  unfold ticklerref16_Date.f
  by_cases c : x < 0
  · rw [if_pos c]; simp [ticklerref16_Date.j0]
  · rw [if_neg c, decide_eq_true (by omega)]; simp [ticklerref16_Date.j0]
end Go.Proofs.Ytkffmgalmooioaa.Pure
