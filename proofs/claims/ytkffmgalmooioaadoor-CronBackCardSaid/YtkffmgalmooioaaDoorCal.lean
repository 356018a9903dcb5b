/- The calendar's plain arithmetic: days before a year, before a month, of a month; a valid date is determined by its day's number. No program in sight. -/
import Derived.RowKit
import Derived.Laws.BitsLemmas
namespace Go.Proofs.YtkffmgalmooioaaDoor.Cal
open Go Go.RowKit

theorem w64 {x : Int} (h : -9223372036854775808 ≤ x ∧ x ≤ 9223372036854775807) : wrap64 x = x := by
  unfold wrap64; omega
theorem td {a b : Int} (h : 0 ≤ a) : Int.tdiv a b = a / b := Int.tdiv_eq_ediv_of_nonneg h
theorem tm {a b : Int} (h : 0 ≤ a) : Int.tmod a b = a % b := Int.tmod_eq_emod_of_nonneg h

theorem and3 (y : Int) : bits .and .i64 y 3 = y % 4 := by
  have h : (BitVec.ofInt 64 y &&& BitVec.ofInt 64 3).toNat = (y % 4).toNat := by
    rw [BitVec.toNat_and, BitVec.toNat_ofInt, BitVec.toNat_ofInt]
    rw [show ((3 : Int) % ((2 ^ 64 : Nat) : Int)).toNat = 2 ^ 2 - 1 from by decide, Nat.and_two_pow_sub_one_eq_mod]
    have e : ((2 ^ 64 : Nat) : Int) = 18446744073709551616 := by decide
    rw [e]
    omega
  show IntKind.i64.wrap (((BitVec.ofInt 64 y &&& BitVec.ofInt 64 3).toNat : Nat) : Int) = y % 4
  rw [h, IntKind.wrap_i64]; omega
theorem and1 (y : Int) : bits .and .i64 y 1 = y % 2 := by
  have h : (BitVec.ofInt 64 y &&& BitVec.ofInt 64 1).toNat = (y % 2).toNat := by
    rw [BitVec.toNat_and, BitVec.toNat_ofInt, BitVec.toNat_ofInt]
    rw [show ((1 : Int) % ((2 ^ 64 : Nat) : Int)).toNat = 2 ^ 1 - 1 from by decide, Nat.and_two_pow_sub_one_eq_mod]
    have e : ((2 ^ 64 : Nat) : Int) = 18446744073709551616 := by decide
    rw [e]
    omega
  show IntKind.i64.wrap (((BitVec.ofInt 64 y &&& BitVec.ofInt 64 1).toNat : Nat) : Int) = y % 2
  rw [h, IntKind.wrap_i64]; omega
theorem tmod0 (a b : Int) : (Int.tmod a b = 0) ↔ a % b = 0 := by rw [← Int.dvd_iff_tmod_eq_zero, ← Int.dvd_iff_emod_eq_zero]

/-- leap -/
def Lp (y : Int) : Prop := y % 4 = 0 ∧ (y % 100 ≠ 0 ∨ y % 400 = 0)
instance (y : Int) : Decidable (Lp y) := by unfold Lp; infer_instance
def lp (y : Int) : Int := if Lp y then 1 else 0
/-- leap years up to a year -/
def lps (y : Int) : Int := y / 4 - y / 100 + y / 400
/-- days from 1970 to a year's first -/
def dby (y : Int) : Int := 365 * (y - 1970) + lps (y - 1) - 477
theorem dby_1970 : dby 1970 = 0 := by decide
theorem dby_3000 : dby 3000 = 376200 := by decide
theorem lp_cases (y : Int) : (y % 4 = 0 ∧ (y % 100 ≠ 0 ∨ y % 400 = 0)) ∧ lp y = 1 ∨ ¬ (y % 4 = 0 ∧ (y % 100 ≠ 0 ∨ y % 400 = 0)) ∧ lp y = 0 := by
  unfold lp
  by_cases h : Lp y
  · rw [if_pos h]; exact .inl ⟨h, rfl⟩
  · rw [if_neg h]; exact .inr ⟨h, rfl⟩
theorem lp_bd (y : Int) : 0 ≤ lp y ∧ lp y ≤ 1 := by rcases lp_cases y with h | h <;> omega
theorem dby_succ (y : Int) : dby (y + 1) = dby y + 365 + lp y := by
  unfold dby lps
  rcases lp_cases y with h | h <;> omega
theorem dby_mono {a b : Int} (h : a ≤ b) : dby a ≤ dby b := by unfold dby lps; omega
theorem dby_lt {a b : Int} (h : a < b) : dby a + 365 + lp a ≤ dby b := by
  have := dby_succ a; have h2 := dby_mono (a := a + 1) (b := b) (by omega); omega
/-- days of a month -/
def dim (y m : Int) : Int := if m = 2 then 28 + lp y else 30 + (m + m / 8) % 2
theorem dim_bd (y m : Int) : 28 ≤ dim y m ∧ dim y m ≤ 31 := by
  have := lp_bd y; unfold dim; split <;> omega
/-- days of a year ahead of a month -/
def cum (y m : Int) : Int := if m ≤ 2 then 31 * (m - 1) else (153 * (m - 3) + 2) / 5 + 59 + lp y
theorem cum_1 (y : Int) : cum y 1 = 0 := by unfold cum; simp
theorem cum_succ (y m : Int) (h1 : 1 ≤ m) (h2 : m ≤ 11) : cum y (m + 1) = cum y m + dim y m := by
  obtain h | h | h | h | h | h | h | h | h | h | h : m = 1 ∨ m = 2 ∨ m = 3 ∨ m = 4 ∨ m = 5 ∨ m = 6 ∨ m = 7 ∨ m = 8 ∨ m = 9 ∨ m = 10 ∨ m = 11 := by omega
  all_goals subst h; simp [cum, dim]
  all_goals omega
theorem cum_13 (y : Int) : cum y 12 + dim y 12 = 365 + lp y := by simp [cum, dim]; omega
theorem cum_mono (y : Int) {a b : Int} (h1 : 1 ≤ a) (h : a < b) (h2 : b ≤ 12) : cum y a + dim y a ≤ cum y b := by
  have hl := lp_bd y
  rw [← cum_succ y a h1 (by omega)]
  unfold cum
  split <;> split <;> omega
theorem cum_end (y m : Int) (h1 : 1 ≤ m) (h2 : m ≤ 12) : 0 ≤ cum y m ∧ cum y m + dim y m ≤ 365 + lp y := by
  have hl := lp_bd y
  rw [← cum_13 y]
  refine ⟨by unfold cum; split <;> omega, ?_⟩
  by_cases e : m = 12
  · subst e; exact Int.le_refl _
  · have := cum_mono y h1 (show m < 12 by omega) (Int.le_refl _); have := dim_bd y 12; omega
def num (y m d : Int) : Int := dby y + cum y m + d - 1
structure Vld (y m d : Int) : Prop where
  m1 : 1 ≤ m
  m2 : m ≤ 12
  d1 : 1 ≤ d
  d2 : d ≤ dim y m
/-- a date is its day's: earlier dates have lesser days -/
theorem num_lt_year {y m d y' m' d' : Int} (v : Vld y m d) (v' : Vld y' m' d') (h : y < y') : num y m d < num y' m' d' := by
  have a := cum_end y m v.m1 v.m2; have b := cum_end y' m' v'.m1 v'.m2; have c := dby_lt h
  have := v.d2; have := v'.d1; unfold num; omega
theorem num_lt_month {y m d m' d' : Int} (v : Vld y m d) (v' : Vld y m' d') (h : m < m') : num y m d < num y m' d' := by
  have a := cum_mono y v.m1 h v'.m2; have := v.d2; have := v'.d1; unfold num; omega
theorem num_inj {y m d y' m' d' : Int} (v : Vld y m d) (v' : Vld y' m' d') (h : num y m d = num y' m' d') : y = y' ∧ m = m' ∧ d = d' := by
  have hy : y = y' := by
    rcases Int.lt_trichotomy y y' with c | c | c
    · have := num_lt_year v v' c; omega
    · exact c
    · have := num_lt_year v' v c; omega
  subst hy
  have hm : m = m' := by
    rcases Int.lt_trichotomy m m' with c | c | c
    · have := num_lt_month v v' c; omega
    · exact c
    · have := num_lt_month v' v c; omega
  subst hm
  refine ⟨rfl, rfl, ?_⟩
  unfold num at h; omega
theorem year_of {y m d : Int} (v : Vld y m d) (h0 : 0 ≤ num y m d) (h1 : num y m d < 376200) : 1970 ≤ y ∧ y ≤ 2999 := by
  have a := cum_end y m v.m1 v.m2; have := v.d1; have := v.d2
  refine ⟨?_, ?_⟩
  · by_cases c : 1970 ≤ y
    · exact c
    · have := dby_lt (show y < 1970 by omega); rw [dby_1970] at this; unfold num at h0; omega
  · by_cases c : y ≤ 2999
    · exact c
    · have := dby_mono (show 3000 ≤ y by omega); rw [dby_3000] at this; unfold num at h1; omega
theorem num_of_year {y m d : Int} (v : Vld y m d) (h0 : 1970 ≤ y) (h1 : y ≤ 2999) : 0 ≤ num y m d ∧ num y m d < 376200 := by
  have a := cum_end y m v.m1 v.m2; have := v.d1; have := v.d2
  have b := dby_mono h0; rw [dby_1970] at b
  have c := dby_lt (show y < 3000 by omega); rw [dby_3000] at c
  unfold num; omega

/-- the program's own count -/
theorem count_eq {y m d Y M era r : Int} (hY : Y = if m ≤ 2 then y - 1 else y) (hM : M = if m ≤ 2 then m + 12 else m) (he : era = Y / 400) (hr : r = Y % 400) (h1 : 1 ≤ m) (h2 : m ≤ 12) :
    146097 * era + 365 * r + r / 4 - r / 100 + ((153 * (M - 3) + 2) / 5 + d - 1) - 719468 = num y m d := by
  have hl := lp_cases y
  unfold num dby cum lps
  by_cases c : m ≤ 2
  · rw [if_pos c] at hY hM; rw [if_pos c]; subst hY hM he hr; omega
  · rw [if_neg c] at hY hM; rw [if_neg c]; subst hY hM he hr
    omega
def yf (d : Int) : Int := d - d / 1460 + d / 36524 - d / 146096
def yst (y : Int) : Int := 365 * y + y / 4 - y / 100 + y / 400
theorem yf_step (d : Int) : yf d ≤ yf (d + 1) := by
  unfold yf
  have h : (d + 1) / 146096 = ((d + 1) / 36524) / 4 := by omega
  have h' : d / 146096 = (d / 36524) / 4 := by omega
  rw [h, h']
  omega
theorem yf_mono (d : Int) (n : Nat) : yf d ≤ yf (d + n) := by
  induction n with
  | zero => simp
  | succ n ih => have := yf_step (d + n); rw [Int.natCast_succ, ← Int.add_assoc]; omega
theorem yf_le {a b : Int} (h : a ≤ b) : yf a ≤ yf b := by
  have := yf_mono a (b - a).toNat
  rwa [show a + ((b - a).toNat : Int) = b from by omega] at this
theorem yf_all : ((List.range 400).all fun n => decide (yf (yst n) / 365 = n) && decide (yf (yst (n + 1) - 1) / 365 = n)) = true := by decide +kernel
theorem yf_at (y : Int) (h0 : 0 ≤ y) (h1 : y ≤ 399) : yf (yst y) / 365 = y ∧ yf (yst (y + 1) - 1) / 365 = y := by
  obtain ⟨n, rfl⟩ := Int.eq_ofNat_of_zero_le h0
  have h := List.all_eq_true.1 yf_all n (by simp; omega)
  simp only [Bool.and_eq_true, decide_eq_true_eq] at h
  exact h
theorem yoe (d : Int) (h0 : 0 ≤ d) (h1 : d < 146097) (y : Int) (hy : y = (d - d / 1460 + d / 36524 - d / 146096) / 365) :
    0 ≤ y ∧ y ≤ 399 ∧ yst y ≤ d ∧ d < yst (y + 1) := by
  have a0 : 0 ≤ y ∧ y ≤ 399 := by omega
  have hy' : y = yf d / 365 := hy
  refine ⟨a0.1, a0.2, ?_, ?_⟩
  · by_cases c : yst y ≤ d
    · exact c
    · have : y ≠ 0 := by
        intro e; subst e; exact c (by unfold yst; omega)
      have h := (yf_at (y - 1) (by omega) (by omega)).2
      rw [show y - 1 + 1 = y from by omega] at h
      have := yf_le (show d ≤ yst y - 1 by omega)
      omega
  · by_cases c : d < yst (y + 1)
    · exact c
    · have : y ≠ 399 := by
        intro e; subst e; exact c (by unfold yst; omega)
      have h := (yf_at (y + 1) (by omega) (by omega)).1
      have := yf_le (show yst (y + 1) ≤ d by omega)
      omega

/-- a date out of the era and the day in it, as the program reckons it -/
theorem date_math {era d y doy m x : Int} (_he0 : 0 ≤ era) (h0 : 0 ≤ d) (h1 : d < 146097) (hx : x = 146097 * era + d - 719468)
    (hy : y = (d - d / 1460 + d / 36524 - d / 146096) / 365) (hdoy : doy = d - (365 * y + y / 4 - y / 100)) (hm : m = (5 * doy + 2) / 153) :
    0 ≤ y ∧ y ≤ 399 ∧ 0 ≤ doy ∧ doy ≤ 365 ∧ 0 ≤ m ∧ m ≤ 11 ∧ 0 ≤ doy - (153 * m + 2) / 5 ∧ doy - (153 * m + 2) / 5 ≤ 30 ∧
    (12 < m + 3 → Vld (400 * era + y + 1) (m + 3 - 12) (doy - (153 * m + 2) / 5 + 1) ∧ num (400 * era + y + 1) (m + 3 - 12) (doy - (153 * m + 2) / 5 + 1) = x) ∧
    (¬ 12 < m + 3 → Vld (400 * era + y) (m + 3) (doy - (153 * m + 2) / 5 + 1) ∧ num (400 * era + y) (m + 3) (doy - (153 * m + 2) / 5 + 1) = x) := by
  obtain ⟨y0, y1, ya, yb⟩ := yoe d h0 h1 y hy
  unfold yst at ya yb
  clear hy
  have s4 : (y + 1) / 4 = y / 4 ∧ (y + 1) % 4 ≠ 0 ∨ (y + 1) / 4 = y / 4 + 1 ∧ (y + 1) % 4 = 0 := by omega
  have s100 : (y + 1) / 100 = y / 100 ∧ (y + 1) % 100 ≠ 0 ∨ (y + 1) / 100 = y / 100 + 1 ∧ (y + 1) % 100 = 0 := by omega
  have s400 : (y + 1) / 400 = 0 ∧ (y + 1) % 400 ≠ 0 ∨ (y + 1) / 400 = 1 ∧ (y + 1) % 400 = 0 := by omega
  have z400 : y / 400 = 0 := by omega
  have i4 : (y + 1) % 100 = 0 → (y + 1) % 4 = 0 := by omega
  have i100 : (y + 1) % 400 = 0 → (y + 1) % 100 = 0 := by omega
  have d0 : 0 ≤ doy := by omega
  have d1 : doy ≤ 365 := by omega
  have d2 : doy = 365 → (y + 1) % 4 = 0 ∧ ((y + 1) % 100 ≠ 0 ∨ (y + 1) % 400 = 0) := by omega
  clear ya yb s4 s100 s400 z400 i4 i100
  have m0 : 0 ≤ m := by omega
  have m1 : m ≤ 11 := by omega
  have e0 : 0 ≤ doy - (153 * m + 2) / 5 := by omega
  have e1 : doy - (153 * m + 2) / 5 ≤ 30 := by omega
  have E1 : (400 * era + y) / 400 = era := by omega
  have E2 : (400 * era + y) % 400 = y := by omega
  refine ⟨y0, y1, d0, d1, m0, m1, e0, e1, fun c => ⟨⟨by omega, by omega, by omega, ?_⟩, ?_⟩, fun c => ⟨⟨by omega, by omega, by omega, ?_⟩, ?_⟩⟩
  · have hl := lp_cases (400 * era + y + 1)
    have q4 : (400 * era + y + 1) % 4 = (y + 1) % 4 := by omega
    have q100 : (400 * era + y + 1) % 100 = (y + 1) % 100 := by omega
    have q400 : (400 * era + y + 1) % 400 = (y + 1) % 400 := by omega
    rw [q4, q100, q400] at hl
    clear q4 q100 q400 E1 E2 hdoy hx
    have m' : m = 10 ∨ m = 11 := by omega
    rcases m' with e | e
    · subst e; unfold dim; rw [if_neg (by decide)]; omega
    · subst e; unfold dim; rw [if_pos (by decide)]; omega
  · rw [← count_eq (y := 400 * era + y + 1) (m := m + 3 - 12) (d := doy - (153 * m + 2) / 5 + 1) (Y := 400 * era + y) (M := m + 3) (by rw [if_pos (by omega)]; omega) (by rw [if_pos (by omega)]; omega) rfl rfl (by omega) (by omega), E1, E2]
    rw [show m + 3 - 3 = m from by omega]
    omega
  · have m' : m = 0 ∨ m = 1 ∨ m = 2 ∨ m = 3 ∨ m = 4 ∨ m = 5 ∨ m = 6 ∨ m = 7 ∨ m = 8 ∨ m = 9 := by omega
    unfold dim
    rw [if_neg (by omega)]
    rcases m' with e | e | e | e | e | e | e | e | e | e <;> subst e <;> omega
  · rw [← count_eq (y := 400 * era + y) (m := m + 3) (d := doy - (153 * m + 2) / 5 + 1) (Y := 400 * era + y) (M := m + 3) (by rw [if_neg (by omega)]) (by rw [if_neg (by omega)]) rfl rfl (by omega) (by omega), E1, E2]
    rw [show m + 3 - 3 = m from by omega]
    omega
end Go.Proofs.YtkffmgalmooioaaDoor.Cal
