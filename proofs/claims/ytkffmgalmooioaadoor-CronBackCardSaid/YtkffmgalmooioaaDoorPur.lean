/- Several texts of this claim in one. -/
import Derived.Test.YtkffmgalmooioaaDoorCrm
import Derived.Test.YtkffmgalmooioaaDoorCal
import Derived.Test.YtkffmgalmooioaaDoorChk
import Derived.Test.YtkffmgalmooioaaDoorCrx6
import Derived.Test.YtkffmgalmooioaaDoorCrx12
import Derived.Test.YtkffmgalmooioaaDoorCrx20
import Derived.Laws.Bits64b
import Derived.Laws.BitsAllLaws
import Derived.Test.YtkffmgalmooioaaDoorCs1
import Derived.Test.YtkffmgalmooioaaDoorCs2
import Derived.Test.YtkffmgalmooioaaDoorCs3
import Derived.Test.YtkffmgalmooioaaDoorCrx23

/- What the calendar's functions answer, in plain arithmetic: a date of a day, a second's moment; the reference's beside. -/
namespace Go.Proofs.YtkffmgalmooioaaDoor.Pure
open Go.RowKit Go.Proofs.YtkffmgalmooioaaDoor.Cr Go.Proofs.YtkffmgalmooioaaDoor Go.Proofs.YtkffmgalmooioaaDoorW.PrintWords Go.Proofs.YtkffmgalmooioaaDoorW.PrintLast

theorem date_some (k : Nat) (x : Int) (h0 : 0 ≤ x) (h1 : x < 376200) : ∃ y m d, civil_Date.f (k + 1) x = some (y, m, d, 0) ∧ Cal.Vld y m d ∧ Cal.num y m d = x := by
  unfold civil_Date.f
  rw [if_neg (by omega), decide_eq_false (by omega)]
  simp only [civil_Date.j0]
  rw [if_neg (by decide)]
  rw [Cal.w64 (x := x + 719468) (by omega), Cal.td (a := x + 719468) (by omega), Cal.tm (a := x + 719468) (by omega)]
  have he0 : 0 ≤ (x + 719468) / 146097 := by omega
  have he1 : (x + 719468) / 146097 ≤ 8 := by omega
  have hd0 : 0 ≤ (x + 719468) % 146097 := by omega
  have hd1 : (x + 719468) % 146097 < 146097 := by omega
  have hx : x = 146097 * ((x + 719468) / 146097) + (x + 719468) % 146097 - 719468 := by omega
  generalize (x + 719468) / 146097 = era at *
  generalize (x + 719468) % 146097 = d at *
  have M := Cal.date_math (era := era) (d := d) (x := x) he0 hd0 hd1 hx rfl rfl rfl
  try simp (disch := omega) only [Cal.w64, Cal.td]
  obtain ⟨y0, y1, M⟩ := M
  generalize (d - d / 1460 + d / 36524 - d / 146096) / 365 = y at *
  obtain ⟨z0, z1, M⟩ := M
  try simp (disch := omega) only [Cal.w64, Cal.td]
  generalize d - (365 * y + y / 4 - y / 100) = doy at *
  obtain ⟨m0, m1, M⟩ := M
  try simp (disch := omega) only [Cal.w64, Cal.td]
  generalize (5 * doy + 2) / 153 = m at *
  obtain ⟨f0, f1, Ma, Mb⟩ := M
  try simp (disch := omega) only [Cal.w64, Cal.td]
  by_cases c : m + 3 > 12
  · rw [if_pos c]; exact ⟨_, _, _, rfl, (Ma c).1, (Ma c).2⟩
  · rw [if_neg c]; exact ⟨_, _, _, rfl, (Mb c).1, (Mb c).2⟩
theorem date_no (k : Nat) (x : Int) (h : x < 0 ∨ 376200 ≤ x) : civil_Date.f (k + 1) x = some (0, 0, 0, 4) := by
  unfold civil_Date.f
  by_cases c : x < 0
  · rw [if_pos c]; simp [civil_Date.j0]
  · rw [if_neg c, decide_eq_true (by omega)]; simp [civil_Date.j0]
theorem split_yes (k : Nat) (t : Int) (h0 : 0 ≤ t) (h1 : t < 32503680000) : ∃ y m d, civil_Split.f (k + 2) t = some (y, m, d, t % 86400 / 3600, t % 86400 % 3600 / 60, t % 86400 % 60, (t / 86400 + 4) % 7, 0) ∧
    Cal.Vld y m d ∧ Cal.num y m d = t / 86400 ∧ 1970 ≤ y ∧ y ≤ 2999 := by
  obtain ⟨y, m, d, hd, hv, hn⟩ := date_some k (t / 86400) (by omega) (by omega)
  have hy := Cal.year_of hv (by omega) (by omega)
  refine ⟨y, m, d, ?_, hv, hn, hy.1, hy.2⟩
  unfold civil_Split.f
  rw [if_neg (by omega), decide_eq_false (by omega)]
  simp only [civil_Split.j0]
  rw [if_neg (by decide), Cal.td (a := t) h0, Cal.tm (a := t) h0, Cal.w64 (x := t / 86400) (by omega)]
  unfold civil_weekday.f
  rw [Option.bind_some, hd, Option.bind_some]
  simp (disch := omega) only [Cal.w64, Cal.td, Cal.tm]
theorem split_no (k : Nat) (t : Int) (h : t < 0 ∨ 32503680000 ≤ t) : civil_Split.f (k + 2) t = some (0, 0, 0, 0, 0, 0, 0, 4) := by
  unfold civil_Split.f
  by_cases c : t < 0
  · rw [if_pos c]; simp [civil_Split.j0]
  · rw [if_neg c, decide_eq_true (by omega)]; simp [civil_Split.j0]
theorem mn_two (a b : Int) : mn a b = if a ≤ b then a else b := by unfold mn; split <;> split <;> omega
theorem mx_two (a b : Int) : mx a b = if a ≤ b then b else a := by unfold mx; split <;> split <;> omega
theorem rleap_is (y : Int) : ticklerref16_Leap.f y = some (decide (Cal.Lp y)) := by
  unfold ticklerref16_Leap.f
  have e4 : (Int.tmod y 4 = 0) ↔ y % 4 = 0 := Cal.tmod0 y 4
  have e : (Int.tmod y 100 = 0) ↔ y % 100 = 0 := Cal.tmod0 y 100
  have f : (Int.tmod y 400 == 0) = decide (y % 400 = 0) := by
    rw [Bool.eq_iff_iff]; simp only [beq_iff_eq, decide_eq_true_eq]; exact Cal.tmod0 y 400
  rw [f]
  by_cases c4 : y % 4 = 0
  · rw [if_pos (e4.2 c4)]
    by_cases c : y % 100 = 0
    · rw [if_pos (e.2 c)]; congr 1; rw [decide_eq_decide]; unfold Cal.Lp; omega
    · rw [if_neg (fun h => c (e.1 h))]; congr 1; symm; rw [decide_eq_true_eq]; unfold Cal.Lp; omega
  · rw [if_neg (fun h => c4 (e4.1 h))]; congr 1; symm; rw [decide_eq_false_iff_not]; unfold Cal.Lp; omega
theorem rdays_yes (k : Nat) (y m : Int) (h1 : 1970 ≤ y) (h2 : y ≤ 2999) (h3 : 1 ≤ m) (h4 : m ≤ 12) : ticklerref16_Days.f (k + 1) y m = some (Cal.dim y m, 0) := by
  unfold ticklerref16_Days.f
  rw [if_neg (by omega), if_neg (by omega), if_neg (by omega), decide_eq_false (by omega)]
  simp only [ticklerref16_Days.j0]
  rw [if_neg (by decide)]
  by_cases c : m = 2
  · rw [if_pos c, rleap_is, Option.bind_some]
    unfold Cal.dim Cal.lp
    rw [if_pos c]
    by_cases d : Cal.Lp y
    · rw [if_pos (by simpa using d), if_pos d]; rfl
    · rw [if_neg (by simpa using d), if_neg d]; rfl
  · rw [if_neg c]
    unfold Cal.dim; rw [if_neg c]
    obtain h | h | h | h | h | h | h | h | h | h | h : m = 1 ∨ m = 3 ∨ m = 4 ∨ m = 5 ∨ m = 6 ∨ m = 7 ∨ m = 8 ∨ m = 9 ∨ m = 10 ∨ m = 11 ∨ m = 12 := by omega
    all_goals subst h; rfl
theorem rdays_no (k : Nat) (y m : Int) (h : y < 1970 ∨ 2999 < y ∨ m < 1 ∨ 12 < m) : ticklerref16_Days.f (k + 1) y m = some (0, 4) := by
  unfold ticklerref16_Days.f
  by_cases c1 : y < 1970
  · rw [if_pos c1]; simp [ticklerref16_Days.j0]
  rw [if_neg c1]
  by_cases c2 : y > 2999
  · rw [if_pos c2]; simp [ticklerref16_Days.j0]
  rw [if_neg c2]
  by_cases c3 : m < 1
  · rw [if_pos c3]; simp [ticklerref16_Days.j0]
  rw [if_neg c3, decide_eq_true (by omega)]; simp [ticklerref16_Days.j0]
theorem rayear_is (y : Int) : ticklerref16_aYear.f y = some (365 + Cal.lp y) := by
  unfold ticklerref16_aYear.f
  rw [rleap_is, Option.bind_some]
  unfold Cal.lp
  by_cases d : Cal.Lp y
  · rw [if_pos (by simpa using d), if_pos d]; rfl
  · rw [if_neg (by simpa using d), if_neg d]; rfl
theorem dby_bd {y : Int} (h0 : 1970 ≤ y) (h1 : y ≤ 3000) : 0 ≤ Cal.dby y ∧ Cal.dby y ≤ 376200 := by
  have a := Cal.dby_mono h0; have b := Cal.dby_mono h1
  rw [Cal.dby_1970] at a; rw [Cal.dby_3000] at b
  exact ⟨a, b⟩
/-- a date of a day, month by month -/
theorem rdate_l1 (x y m d : Int) (h0 : 1970 ≤ y) (h1 : y ≤ 2999) (v : Cal.Vld y m d) (hx : Cal.num y m d = x) (n : Nat) : ∀ (k : Nat) (i s : Int), 1 ≤ i → i + n = m → s = x - Cal.dby y - Cal.cum y i → n < k →
    ticklerref16_Date.l1 (k + 1) s y i = some (y, m, d, 0) := by
  have := v.m1; have := v.m2; have := v.d1; have := v.d2
  have hn := Cal.num_of_year v h0 h1
  have hb := dby_bd h0 (show y ≤ 3000 by omega)
  induction n with
  | zero =>
    intro k i s hi hm hs hk
    obtain rfl : i = m := by omega
    obtain ⟨k, rfl⟩ : ∃ j, k = j + 1 := ⟨k - 1, by omega⟩
    have ce := Cal.cum_end y i v.m1 v.m2
    have bd := Cal.dim_bd y i
    unfold ticklerref16_Date.l1
    rw [rdays_yes k y i h0 h1 v.m1 v.m2, Option.bind_some]
    unfold Cal.num at hx
    simp only []
    rw [if_pos (by omega), Cal.w64 (by omega)]
    congr 1
    rw [Prod.mk.injEq, Prod.mk.injEq, Prod.mk.injEq]
    exact ⟨rfl, rfl, by omega, rfl⟩
  | succ n ih =>
    intro k i s hi hm hs hk
    obtain ⟨k, rfl⟩ : ∃ j, k = j + 1 := ⟨k - 1, by omega⟩
    have bd := Cal.dim_bd y i
    have ce := Cal.cum_end y i hi (by omega)
    have cm := Cal.cum_mono y hi (show i < m by omega) v.m2
    have hlp := Cal.lp_bd y
    unfold ticklerref16_Date.l1
    rw [rdays_yes k y i h0 h1 hi (by omega), Option.bind_some]
    simp only []
    have hx' : Cal.dby y + Cal.cum y m + d - 1 = x := hx
    rw [if_neg (by omega), Cal.w64 (x := s - Cal.dim y i) (by omega), Cal.w64 (x := i + 1) (by omega)]
    exact ih k (i + 1) _ (by omega) (by omega) (by rw [Cal.cum_succ y i hi (by omega)]; omega) (by omega)
theorem rdate_l0 (x y m d : Int) (h0 : 1970 ≤ y) (h1 : y ≤ 2999) (v : Cal.Vld y m d) (hx : Cal.num y m d = x) (n : Nat) : ∀ (k : Nat) (i s : Int), 1970 ≤ i → i + n = y → s = x - Cal.dby i → n + 15 < k →
    ticklerref16_Date.l0 (k + 1) s i 1 = some (y, m, d, 0) := by
  have := v.m1; have := v.m2; have := v.d1; have := v.d2
  have hn := Cal.num_of_year v h0 h1
  have ce := Cal.cum_end y m v.m1 v.m2
  have hx' : Cal.dby y + Cal.cum y m + d - 1 = x := hx
  induction n with
  | zero =>
    intro k i s hi hm hs hk
    obtain rfl : i = y := by omega
    obtain ⟨k, rfl⟩ : ∃ j, k = j + 1 := ⟨k - 1, by omega⟩
    unfold ticklerref16_Date.l0
    rw [rayear_is, Option.bind_some, if_neg (by omega)]
    exact rdate_l1 x i m d h0 h1 v hx (m - 1).toNat k 1 s (by decide) (by omega) (by rw [Cal.cum_1]; omega) (by omega)
  | succ n ih =>
    intro k i s hi hm hs hk
    obtain ⟨k, rfl⟩ : ∃ j, k = j + 1 := ⟨k - 1, by omega⟩
    have hlp := Cal.lp_bd i
    have hb := dby_bd hi (show i ≤ 3000 by omega)
    have dl := Cal.dby_lt (show i < y by omega)
    unfold ticklerref16_Date.l0
    rw [rayear_is, Option.bind_some, if_pos (by omega), Option.bind_some, Cal.w64 (x := s - (365 + Cal.lp i)) (by omega), Cal.w64 (x := i + 1) (by omega)]
    exact ih k (i + 1) _ (by omega) (by omega) (by rw [Cal.dby_succ]; omega) (by omega)
theorem rdate_j0 (k : Nat) (x : Int) : ticklerref16_Date.j0 (k + 1) x false = ticklerref16_Date.l0 k x 1970 1 := by simp [ticklerref16_Date.j0]
theorem rdate_yes (k : Nat) (y m d : Int) (h0 : 1970 ≤ y) (h1 : y ≤ 2999) (v : Cal.Vld y m d) : ticklerref16_Date.f (k + 1100) (Cal.num y m d) = some (y, m, d, 0) := by
  have hn := Cal.num_of_year v h0 h1
  unfold ticklerref16_Date.f
  rw [if_neg (by omega), decide_eq_false (by omega)]
  show ticklerref16_Date.j0 ((k + 1099) + 1) _ false = _
  rw [rdate_j0]
  exact rdate_l0 _ y m d h0 h1 v rfl (y - 1970).toNat (k + 1098) 1970 _ (by decide) (by omega) (by rw [Cal.dby_1970]; omega) (by omega)
theorem rdate_no (k : Nat) (x : Int) (h : x < 0 ∨ 376200 ≤ x) : ticklerref16_Date.f (k + 1) x = some (0, 0, 0, 4) := by
  unfold ticklerref16_Date.f
  by_cases c : x < 0
  · rw [if_pos c]; simp [ticklerref16_Date.j0]
  · rw [if_neg c, decide_eq_true (by omega)]; simp [ticklerref16_Date.j0]
end Go.Proofs.YtkffmgalmooioaaDoor.Pure

/- A rule's sets in plain arithmetic: which numbers they hold; may a rule be; does it come on a day. -/
namespace Go.Proofs.YtkffmgalmooioaaDoor.Pure
open Go.RowKit Go.Proofs.YtkffmgalmooioaaDoor.Cr Go.Proofs.YtkffmgalmooioaaDoor Go.Proofs.YtkffmgalmooioaaDoorW.PrintWords Go.Proofs.YtkffmgalmooioaaDoorW.PrintMore Go.Proofs.YtkffmgalmooioaaDoorW.PrintLast

theorem up {α : Type} {f : Nat → Option α} (mono : ∀ k, LeO (f k) (f (k + 1))) {n : Nat} {r : α} (h : f n = some r) : ∀ m, f (m + n) = some r
  | 0 => by rw [Nat.zero_add]; exact h
  | m + 1 => by rw [Nat.add_right_comm]; exact mono _ r (up mono h m)
theorem up_le {α : Type} {f : Nat → Option α} (mono : ∀ k, LeO (f k) (f (k + 1))) {n k : Nat} {r : α} (h : f n = some r) (hk : n ≤ k) : f k = some r := by
  have := up mono h (k - n)
  rwa [Nat.sub_add_cancel hk] at this
theorem and_pow (x n : Nat) : x &&& 2 ^ n = if x.testBit n then 2 ^ n else 0 := by
  apply Nat.eq_of_testBit_eq
  intro i
  rw [Nat.testBit_and, Nat.testBit_two_pow]
  by_cases c : n = i
  · subst c; cases h : x.testBit n <;> simp
  · cases h : x.testBit n <;> simp [c]
theorem shl_one (n : Nat) (hn : n ≤ 63) : shl .u64 1 (n : Int) = ((2 ^ n : Nat) : Int) ∧ 2 ^ n < 18446744073709551616 := by
  have hl : 2 ^ n < 18446744073709551616 := Nat.lt_of_le_of_lt (Nat.pow_le_pow_right (by decide) hn) (by decide)
  refine ⟨?_, hl⟩
  unfold shl
  rw [Int.toNat_natCast, Nat.min_eq_left (by show n ≤ 64; omega), IntKind.wrap_u64, show (2 : Int) ^ n = ((2 ^ n : Nat) : Int) from (Int.natCast_pow 2 n).symm]
  generalize 2 ^ n = q at *
  omega
theorem has_is (x n : Nat) (hx : x < 18446744073709551616) (hn : n ≤ 63) : cron_has.f x n = some (x.testBit n) := by
  unfold cron_has.f
  obtain ⟨e, hl⟩ := shl_one n hn
  rw [if_pos (by omega), e, bits_and_u64_nat x (2 ^ n) hx hl, and_pow]
  have hp : 0 < 2 ^ n := Nat.two_pow_pos n
  cases h : x.testBit n
  · rfl
  · rw [if_pos rfl]; congr 1; simp; exact Int.ne_of_gt (by exact_mod_cast hp)
theorem rhas_is (x n : Nat) (hx : x < 18446744073709551616) (hn : n ≤ 63) : ticklerref17_has.f x n = some (x.testBit n) := by
  unfold ticklerref17_has.f
  have e : shr .u64 (x : Int) (n : Int) = ((x / 2 ^ n : Nat) : Int) := by
    unfold shr
    rw [Int.toNat_natCast, Nat.min_eq_left (by show n ≤ 64; omega)]
    simp
  have hl : x / 2 ^ n < 18446744073709551616 := Nat.lt_of_le_of_lt (Nat.div_le_self _ _) hx
  have b := bits_and_u64_nat (x / 2 ^ n) 1 hl (by decide)
  rw [if_pos (by omega), e, show (1 : Int) = ((1 : Nat) : Int) from rfl, b, Nat.and_one_is_mod, Nat.testBit_eq_decide_div_mod_eq]
  congr 1
  rw [Bool.eq_iff_iff]; simp only [beq_iff_eq, decide_eq_true_eq]; omega
theorem okSet_is (x all : Nat) (hx : x < 18446744073709551616) (ha : all < 18446744073709551616) : okSet x all = (decide (x ≠ 0) && decide (x &&& (18446744073709551615 - all) = 0)) := by
  unfold okSet
  rw [u64_andNot_nat x all hx ha, Bool.eq_iff_iff]
  generalize x &&& (18446744073709551615 - all) = z
  simp
/-- what a set that may be holds lies within -/
theorem okSet_bit {x all : Nat} (hx : x < 18446744073709551616) (ha : all < 18446744073709551616) (h : okSet x all = true) {i : Nat} (hi : x.testBit i = true) : all.testBit i = true := by
  rw [okSet_is x all hx ha] at h
  simp only [Bool.and_eq_true, decide_eq_true_eq] at h
  have hz : (x &&& (18446744073709551615 - all)).testBit i = false := by rw [h.2]; exact Nat.zero_testBit i
  rw [Nat.testBit_and, hi, Bool.true_and] at hz
  have hi64 : i < 64 := by
    rcases Nat.lt_or_ge i 64 with c | c
    · exact c
    · rw [Nat.testBit_lt_two_pow (Nat.lt_of_lt_of_le hx (Nat.pow_le_pow_right (n := 2) (by decide) c))] at hi; cases hi
  rw [show 18446744073709551615 - all = 2 ^ 64 - (all + 1) by omega, Nat.testBit_two_pow_sub_succ ha] at hz
  simpa [hi64] using hz
theorem okSet_some {x all : Nat} (hx : x < 18446744073709551616) (ha : all < 18446744073709551616) (h : okSet x all = true) : ∃ i, x.testBit i = true := by
  rw [okSet_is x all hx ha] at h
  simp only [Bool.and_eq_true, decide_eq_true_eq] at h
  exact Nat.exists_testBit_of_ne_zero h.1
theorem all_bits : (∀ i, (1152921504606846975 : Nat).testBit i = true → i < 60) ∧ (∀ i, (16777215 : Nat).testBit i = true → i < 24) := by
  refine ⟨fun i h => ?_, fun i h => ?_⟩
  · rcases Nat.lt_or_ge i 60 with c | c
    · exact c
    · rw [Nat.testBit_lt_two_pow (Nat.lt_of_lt_of_le (by decide : (1152921504606846975 : Nat) < 2 ^ 60) (Nat.pow_le_pow_right (by decide) c))] at h; cases h
  · rcases Nat.lt_or_ge i 24 with c | c
    · exact c
    · rw [Nat.testBit_lt_two_pow (Nat.lt_of_lt_of_le (by decide : (16777215 : Nat) < 2 ^ 24) (Nat.pow_le_pow_right (by decide) c))] at h; cases h
theorem rall_0 : ticklerref17_all.f 100 0 59 = some 1152921504606846975 := by decide +kernel
theorem rall_1 : ticklerref17_all.f 100 0 23 = some 16777215 := by decide +kernel
theorem rall_2 : ticklerref17_all.f 100 1 31 = some 4294967294 := by decide +kernel
theorem rall_3 : ticklerref17_all.f 100 1 12 = some 8190 := by decide +kernel
theorem rall_4 : ticklerref17_all.f 100 0 6 = some 127 := by decide +kernel
def rwholes : List Int := [1152921504606846975, 16777215, 4294967294, 8190, 127]
theorem rcheck_go (k : Nat) (a b c d e x y i : Int) (f g : Bool) (hx : rd [a, b, c, d, e] i = x) (hy : rd rwholes i = y) (h0 : 0 ≤ i) (h5 : i < 5) :
    ticklerref17_Check.l0 (k + 1) [a, b, c, d, e] rwholes i a b c d e f g = if okSet x y = true then ticklerref17_Check.l0 k [a, b, c, d, e] rwholes (i + 1) a b c d e f g else some 9 := by
  have e1 : (([a, b, c, d, e] : List Int).length : Int) = 5 := rfl
  have e2 : (rwholes.length : Int) = 5 := rfl
  rw [ticklerref17_Check.l0, e1, e2, hx, hy, if_pos h5, if_pos h0, if_pos h5, if_pos h5, Cal.w64 (by omega)]
  unfold okSet
  by_cases c1 : x = 0
  · simp [c1]
  · rw [if_neg c1]
    by_cases c2 : Go.bits .andNot .u64 x y = 0
    · simp [c1, c2]
    · simp [c2]
theorem rcheck_is (k : Nat) (a b c d e : Int) (f g : Bool) : ticklerref17_Check.f (k + 100) a b c d e f g = some (if okRule a b c d e f g = true then 0 else 9) := by
  unfold ticklerref17_Check.f
  rw [up (fun k => ticklerref17_all.mono _ _ k) rall_0 k, up (fun k => ticklerref17_all.mono _ _ k) rall_1 k, up (fun k => ticklerref17_all.mono _ _ k) rall_2 k, up (fun k => ticklerref17_all.mono _ _ k) rall_3 k, up (fun k => ticklerref17_all.mono _ _ k) rall_4 k]
  simp only [Option.bind_some]
  show ticklerref17_Check.l0 (k + 100) [a, b, c, d, e] rwholes 0 a b c d e f g = _
  rw [rcheck_go (k + 99) a b c d e a 1152921504606846975 0 f g rfl rfl (by decide) (by decide), rcheck_go (k + 98) a b c d e b 16777215 (0 + 1) f g rfl rfl (by decide) (by decide), rcheck_go (k + 97) a b c d e c 4294967294 (0 + 1 + 1) f g rfl rfl (by decide) (by decide),
    rcheck_go (k + 96) a b c d e d 8190 (0 + 1 + 1 + 1) f g rfl rfl (by decide) (by decide), rcheck_go (k + 95) a b c d e e 127 (0 + 1 + 1 + 1 + 1) f g rfl rfl (by decide) (by decide)]
  unfold okRule
  cases okSet a 1152921504606846975
  · simp
  cases okSet b 16777215
  · simp
  cases okSet c 4294967294
  · simp
  cases okSet d 8190
  · simp
  cases okSet e 127
  · simp
  rw [ticklerref17_Check.l0]
  have r2 : rd rwholes 2 = 4294967294 := rfl
  have r4 : rd rwholes 4 = 127 := rfl
  have e2 : (rwholes.length : Int) = 5 := rfl
  rw [r2, r4, e2]
  cases f <;> cases g <;> by_cases c2 : c = 4294967294 <;> by_cases c4 : e = 127 <;> simp [c2, c4]
/-- does it come on such a day -/
def dayB (c d e : Nat) (f g : Bool) (m dd wd : Nat) : Bool := d.testBit m && (if f || g then c.testBit dd && e.testBit wd else c.testBit dd || e.testBit wd)
theorem day_is (a b : Int) (c d e : Nat) (f g : Bool) (y : Int) (m dd : Nat) (h mi s : Int) (wd : Nat) (hc : c < 18446744073709551616) (hd : d < 18446744073709551616) (he : e < 18446744073709551616) (hm : m ≤ 63) (hdd : dd ≤ 63) (hw : wd ≤ 63) :
    cron_Rule_day.f a b c d e f g y m dd h mi s wd = some (dayB c d e f g m dd wd) := by
  unfold cron_Rule_day.f dayB
  rw [has_is c dd hc hdd, has_is e wd he hw, has_is d m hd hm]
  simp only [Option.bind_some]
  cases d.testBit m <;> cases f <;> cases g <;> cases c.testBit dd <;> cases e.testBit wd <;> rfl
structure Rule (a b c d e : Nat) (f g : Bool) : Prop where
  ra : a < 18446744073709551616
  rb : b < 18446744073709551616
  rc : c < 18446744073709551616
  rd : d < 18446744073709551616
  re : e < 18446744073709551616
  ok : okRule a b c d e f g = true
theorem Rule.parts {a b c d e : Nat} {f g : Bool} (h : Rule a b c d e f g) : okSet a 1152921504606846975 = true ∧ okSet b 16777215 = true ∧ okSet c 4294967294 = true ∧ okSet d 8190 = true ∧ okSet e 127 = true ∧ (f = true → c = 4294967294) ∧ (g = true → e = 127) := by
  have := h.ok
  unfold okRule at this
  simp only [Bool.and_eq_true] at this
  obtain ⟨⟨⟨⟨⟨⟨h0, h1⟩, h2⟩, h3⟩, h4⟩, h5⟩, h6⟩ := this
  refine ⟨h0, h1, h2, h3, h4, fun e => ?_, fun e => ?_⟩
  · subst e; simp at h5; omega
  · subst e; simp at h6; omega
theorem all_days : ∀ i, 1 ≤ i → i ≤ 31 → (4294967294 : Nat).testBit i = true := by
  have h : ((List.range 32).all fun i => decide (i = 0) || (4294967294 : Nat).testBit i) = true := by decide +kernel
  intro i h1 h2
  have := List.all_eq_true.1 h i (List.mem_range.2 (by omega))
  simpa [show i ≠ 0 by omega] using this
theorem all_weekdays : ∀ i, i ≤ 6 → (127 : Nat).testBit i = true := by
  have h : ((List.range 7).all fun i => (127 : Nat).testBit i) = true := by decide +kernel
  intro i h1
  exact List.all_eq_true.1 h i (List.mem_range.2 (by omega))
theorem rday_is (k : Nat) (a b c d e : Nat) (f g : Bool) (y : Int) (m dd : Nat) (h mi s : Int) (wd : Nat) (hr : Rule a b c d e f g) (hm : m ≤ 12) (hd1 : 1 ≤ dd) (hdd : dd ≤ 31) (hw : wd ≤ 6) :
    ticklerref17_day.f (k + 1) a b c d e f g y m dd h mi s wd = some (dayB c d e f g m dd wd) := by
  obtain ⟨_, _, _, _, _, h5, h6⟩ := hr.parts
  unfold ticklerref17_day.f dayB
  simp only [ticklerref17_day.j0]
  rw [rhas_is c dd hr.rc (by omega), rhas_is e wd hr.re (by omega), rhas_is d m hr.rd (by omega)]
  simp only [Option.bind_some]
  cases f
  · cases g
    · cases d.testBit m <;> cases c.testBit dd <;> cases e.testBit wd <;> rfl
    · rw [h6 rfl, all_weekdays wd hw]
      cases d.testBit m <;> cases c.testBit dd <;> rfl
  · rw [h5 rfl, all_days dd hd1 hdd]
    cases g
    · cases d.testBit m <;> cases e.testBit wd <;> rfl
    · rw [h6 rfl, all_weekdays wd hw]
      cases d.testBit m <;> rfl
end Go.Proofs.YtkffmgalmooioaaDoor.Pure

/- The least of a set from a number on; the least minute of a day from one on. -/
namespace Go.Proofs.YtkffmgalmooioaaDoor.Pure
open Go.RowKit Go.Proofs.YtkffmgalmooioaaDoor.Cr Go.Proofs.YtkffmgalmooioaaDoor Go.Proofs.YtkffmgalmooioaaDoorW.PrintWords Go.Proofs.YtkffmgalmooioaaDoorW.PrintMore Go.Proofs.YtkffmgalmooioaaDoorW.PrintLast

theorem ctz_spec (x : Nat) (h0 : x ≠ 0) (hx : x < 18446744073709551616) : x.testBit (Lib.ctz 64 x) = true ∧ Lib.ctz 64 x < 64 ∧ ∀ i, i < Lib.ctz 64 x → x.testBit i = false := by
  obtain ⟨m, hm, hk⟩ := Lib.ctzFrom_spec 64 x (by omega) hx
  have e : Lib.ctz 64 x = Lib.ctzFrom 64 x := by simp [Lib.ctz, h0]
  rw [e]
  generalize Lib.ctzFrom 64 x = q at *
  refine ⟨?_, hk, fun i hi => ?_⟩
  · rw [hm, Nat.testBit_two_pow_mul]; simp [Nat.testBit_zero]
  · rw [hm, Nat.testBit_two_pow_mul]; simp [show ¬ q ≤ i by omega]
/-- the least number of a set from one on, or that there is none -/
def Least (p : Nat → Prop) (n top : Nat) (r : Int × Bool) : Prop :=
  (∃ m : Nat, r = ((m : Int), true) ∧ n ≤ m ∧ m < top ∧ p m ∧ ∀ i, n ≤ i → i < m → ¬ p i) ∨ (r = (0, false) ∧ ∀ i, n ≤ i → i < top → ¬ p i)
theorem from_is (x n : Nat) (hx : x < 18446744073709551616) : ∃ r, cron_from.f x n = some r ∧ Least (fun i => x.testBit i = true) n 64 r := by
  unfold cron_from.f
  rw [if_pos ⟨by omega, by omega, by omega⟩]
  by_cases c : (n : Int) > 63
  · rw [if_pos c]; exact ⟨_, rfl, .inr ⟨rfl, fun i h1 h2 => by omega⟩⟩
  · rw [if_neg c, Int.toNat_natCast]
    have e : (x : Int) / 2 ^ n = ((x / 2 ^ n : Nat) : Int) := by simp
    rw [e]
    by_cases c2 : x / 2 ^ n = 0
    · rw [if_pos (by omega)]
      refine ⟨_, rfl, .inr ⟨rfl, fun i h1 h2 hb => ?_⟩⟩
      have : (x / 2 ^ n).testBit (i - n) = true := by rw [Nat.testBit_div_two_pow, Nat.sub_add_cancel h1]; exact hb
      rw [c2, Nat.zero_testBit] at this; cases this
    · rw [if_neg (by omega), Int.toNat_natCast]
      obtain ⟨h1, h2, h3⟩ := ctz_spec (x / 2 ^ n) c2 (Nat.lt_of_le_of_lt (Nat.div_le_self _ _) hx)
      generalize Lib.ctz 64 (x / 2 ^ n) = q at *
      rw [Nat.testBit_div_two_pow] at h1
      have hq : q + n < 64 := by
        rcases Nat.lt_or_ge (q + n) 64 with c | c
        · exact c
        · rw [Nat.testBit_lt_two_pow (Nat.lt_of_lt_of_le hx (Nat.pow_le_pow_right (n := 2) (by decide) c))] at h1; cases h1
      refine ⟨_, rfl, .inl ⟨q + n, by congr 1; omega, by omega, hq, h1, fun i a b hb => ?_⟩⟩
      have := h3 (i - n) (by omega)
      rw [Nat.testBit_div_two_pow, Nat.sub_add_cancel a, hb] at this; cases this
/-- a minute of a day at which a rule comes -/
def AtMin (a b : Nat) (q : Nat) : Prop := a.testBit (q % 60) = true ∧ b.testBit (q / 60) = true
theorem within_is (k : Nat) (a b c d e : Nat) (f g : Bool) (hr : Rule a b c d e f g) (q : Nat) (hq : q < 1440) :
    ∃ r, cron_Rule_within.f (k + 1) a b c d e f g q = some r ∧ Least (AtMin a b) q 1440 r := by
  obtain ⟨pa, pb, _⟩ := hr.parts
  have ha60 : ∀ i, a.testBit i = true → i < 60 := fun i hi => all_bits.1 i (okSet_bit (all := 1152921504606846975) hr.ra (by decide) pa hi)
  have hb24 : ∀ i, b.testBit i = true → i < 24 := fun i hi => all_bits.2 i (okSet_bit (all := 16777215) hr.rb (by decide) pb hi)
  have tail : ∃ r, cron_Rule_within.j0 (k + 1) ((q / 60 : Nat) : Int) a b c d e f g = some r ∧ Least (AtMin a b) (60 * (q / 60 + 1)) 1440 r := by
    rw [cron_Rule_within.j0, Cal.w64 (by omega), show ((q / 60 : Nat) : Int) + 1 = ((q / 60 + 1 : Nat) : Int) by omega]
    obtain ⟨r, e1, h1⟩ := from_is b (q / 60 + 1) hr.rb
    rw [e1, Option.bind_some]
    rcases h1 with ⟨h, rfl, h2, h3, h4, h5⟩ | ⟨rfl, h2⟩
    · obtain ⟨r, e2, h6⟩ := from_is a 0 hr.ra
      have hh := hb24 h h4
      simp only [if_true]
      rw [show (0 : Int) = ((0 : Nat) : Int) from rfl, e2, Option.bind_some]
      rcases h6 with ⟨m, rfl, _, h7, h8, h9⟩ | ⟨rfl, h7⟩
      · have hm := ha60 m h8
        refine ⟨_, rfl, .inl ⟨60 * h + m, ?_, by omega, by omega, ⟨by rw [show (60 * h + m) % 60 = m by omega]; exact h8, by rw [show (60 * h + m) / 60 = h by omega]; exact h4⟩, fun i i1 i2 hi => ?_⟩⟩
        · simp only []
          rw [Cal.w64 (x := 60 * (h : Int)) (by omega), Cal.w64 (by omega)]
          congr 1
        · rcases Nat.lt_or_ge (i / 60) h with c | c
          · exact h5 (i / 60) (by omega) c hi.2
          · exact h9 (i % 60) (by omega) (by omega) hi.1
      · obtain ⟨i, hi⟩ := okSet_some (all := 1152921504606846975) hr.ra (by decide) pa
        exact absurd hi (h7 i (by omega) (by have := ha60 i hi; omega))
    · simp only []
      refine ⟨_, rfl, .inr ⟨rfl, fun i i1 i2 hi => ?_⟩⟩
      exact h2 (i / 60) (by omega) (by omega) hi.2
  have tail' : ∃ r, cron_Rule_within.j0 (k + 1) ((q / 60 : Nat) : Int) a b c d e f g = some r ∧ ((∀ i, q ≤ i → i < 60 * (q / 60 + 1) → ¬ AtMin a b i) → Least (AtMin a b) q 1440 r) := by
    obtain ⟨r, e1, h1⟩ := tail
    refine ⟨r, e1, fun hn => ?_⟩
    rcases h1 with ⟨h, rfl, h2, h3, h4, h5⟩ | ⟨rfl, h2⟩
    · refine .inl ⟨h, rfl, by omega, h3, h4, fun i i1 i2 hi => ?_⟩
      rcases Nat.lt_or_ge i (60 * (q / 60 + 1)) with c | c
      · exact hn i i1 c hi
      · exact h5 i c i2 hi
    · refine .inr ⟨rfl, fun i i1 i2 hi => ?_⟩
      rcases Nat.lt_or_ge i (60 * (q / 60 + 1)) with c | c
      · exact hn i i1 c hi
      · exact h2 i c i2 hi
  unfold cron_Rule_within.f
  have eq1 : wrap64 (Int.tdiv (q : Int) 60) = ((q / 60 : Nat) : Int) := by rw [Cal.td (by omega), Cal.w64 (by omega)]; omega
  have eq2 : Int.tmod (q : Int) 60 = ((q % 60 : Nat) : Int) := by rw [Cal.tm (by omega)]; omega
  rw [eq1, eq2, has_is b (q / 60) hr.rb (by omega), Option.bind_some]
  cases hb : b.testBit (q / 60)
  · obtain ⟨r, e1, h1⟩ := tail'
    refine ⟨r, e1, h1 fun i i1 i2 hi => ?_⟩
    have := hi.2
    rw [show i / 60 = q / 60 by omega, hb] at this; cases this
  · simp only [if_true]
    obtain ⟨r, e1, h1⟩ := from_is a (q % 60) hr.ra
    rw [e1, Option.bind_some]
    rcases h1 with ⟨m, rfl, h2, h3, h4, h5⟩ | ⟨rfl, h2⟩
    · have hm := ha60 m h4
      simp only [if_true]
      refine ⟨_, rfl, .inl ⟨60 * (q / 60) + m, ?_, by omega, by omega, ⟨by rw [show (60 * (q / 60) + m) % 60 = m by omega]; exact h4, by rw [show (60 * (q / 60) + m) / 60 = q / 60 by omega]; exact hb⟩, fun i i1 i2 hi => ?_⟩⟩
      · rw [Cal.w64 (x := 60 * ((q / 60 : Nat) : Int)) (by omega), Cal.w64 (by omega)]
        congr 1
      · exact h5 (i % 60) (by omega) (by omega) hi.1
    · obtain ⟨r, e1, h1⟩ := tail'
      refine ⟨r, e1, h1 fun i i1 i2 hi => ?_⟩
      exact h2 (i % 60) (by omega) (by omega) hi.1
end Go.Proofs.YtkffmgalmooioaaDoor.Pure

/- When a rule comes, and when it comes next: the program's answer in plain arithmetic. -/
namespace Go.Proofs.YtkffmgalmooioaaDoor.Pure
open Go.RowKit Go.Proofs.YtkffmgalmooioaaDoor.Cr Go.Proofs.YtkffmgalmooioaaDoor Go.Proofs.YtkffmgalmooioaaDoorW.PrintWords Go.Proofs.YtkffmgalmooioaaDoorW.PrintMore Go.Proofs.YtkffmgalmooioaaDoorW.PrintLast

/-- does a rule come on a day -/
def dayOf (c d e : Nat) (f g : Bool) (x : Nat) : Bool :=
  match civil_Date.f 1 (x : Int) with
  | some (_, m, dd, _) => dayB c d e f g m.toNat dd.toNat ((x + 4) % 7)
  | none => false
/-- a date, in numbers -/
structure Date (x : Nat) (y : Int) (m dd : Nat) : Prop where
  v : Cal.Vld y m dd
  n : Cal.num y m dd = x
theorem dayOf_is {x : Nat} {y : Int} {m dd : Nat} (h : Date x y m dd) (hx : x < 376200) (c d e : Nat) (f g : Bool) : dayOf c d e f g x = dayB c d e f g m dd ((x + 4) % 7) := by
  obtain ⟨y', m', d', e1, v', n'⟩ := date_some 0 (x : Int) (by omega) (by omega)
  obtain ⟨rfl, rfl, rfl⟩ := Cal.num_inj v' h.v (n'.trans h.n.symm)
  unfold dayOf
  rw [e1]
  rfl
theorem date_ex (x : Nat) (hx : x < 376200) : ∃ y m dd, Date x y m dd := by
  obtain ⟨y, m, d, _, v, n⟩ := date_some 0 (x : Int) (by omega) (by omega)
  have := v.m1; have := v.d1
  obtain ⟨m, rfl⟩ := Int.eq_ofNat_of_zero_le (a := m) (by omega)
  obtain ⟨d, rfl⟩ := Int.eq_ofNat_of_zero_le (a := d) (by omega)
  exact ⟨y, m, d, v, n⟩
theorem date_bd {x : Nat} {y : Int} {m dd : Nat} (h : Date x y m dd) : 1 ≤ m ∧ m ≤ 12 ∧ 1 ≤ dd ∧ dd ≤ 31 := by
  have := h.v.m1; have := h.v.m2; have := h.v.d1; have := h.v.d2; have := Cal.dim_bd y m
  omega
theorem split_at (k T : Nat) (hT : T < 32503680000) {y : Int} {m dd : Nat} (h : Date (T / 86400) y m dd) :
    civil_Split.f (k + 2) (T : Int) = some (y, (m : Int), (dd : Int), ((T % 86400 / 3600 : Nat) : Int), ((T / 60 % 60 : Nat) : Int), ((T % 60 : Nat) : Int), (((T / 86400 + 4) % 7 : Nat) : Int), 0) := by
  obtain ⟨y', m', d', e, v, n, _, _⟩ := split_yes k (T : Int) (by omega) (by omega)
  obtain ⟨rfl, rfl, rfl⟩ := Cal.num_inj v h.v (n.trans (by rw [h.n]; omega))
  rw [e]
  congr 4
  simp only [Prod.mk.injEq]
  refine ⟨?_, ?_, ?_, ?_, trivial⟩ <;> omega
theorem rsplit_at (k T : Nat) (hT : T < 32503680000) {y : Int} {m dd : Nat} (h : Date (T / 86400) y m dd) :
    ticklerref16_Split.f (k + 1100) (T : Int) = some (y, (m : Int), (dd : Int), ((T % 86400 / 3600 : Nat) : Int), ((T / 60 % 60 : Nat) : Int), ((T % 60 : Nat) : Int), (((T / 86400 + 4) % 7 : Nat) : Int), 0) := by
  have hy := Cal.year_of h.v (by rw [h.n]; omega) (by rw [h.n]; omega)
  have e := rdate_yes k y m dd hy.1 hy.2 h.v
  rw [h.n] at e
  unfold ticklerref16_Split.f
  rw [if_neg (by omega), if_neg (by omega), Cal.td (a := (T : Int)) (by omega), Cal.w64 (x := (T : Int) / 86400) (by omega), show (T : Int) / 86400 = ((T / 86400 : Nat) : Int) by omega, e, Option.bind_some]
  simp (disch := omega) only [Cal.w64, Cal.td, Cal.tm]
  congr 4
  simp only [Prod.mk.injEq]
  refine ⟨?_, ?_, ?_, ?_, trivial⟩ <;> omega
theorem rsplit_no (k : Nat) (t : Int) (h : t < 0 ∨ 32503680000 ≤ t) : ticklerref16_Split.f k t = some (0, 0, 0, 0, 0, 0, 0, 4) := by
  unfold ticklerref16_Split.f
  by_cases c : t < 0
  · rw [if_pos c]
  · rw [if_neg c, if_pos (by omega)]
/-- does a rule come at a second -/
def comesB (a b c d e : Nat) (f g : Bool) (T : Nat) : Bool := decide (T % 60 = 0) && a.testBit (T / 60 % 60) && b.testBit (T % 86400 / 3600) && dayOf c d e f g (T / 86400)
theorem comes_yes (k : Nat) {a b c d e : Nat} {f g : Bool} (hr : Rule a b c d e f g) (T : Nat) (hT : T < 32503680000) : cron_Comes.f (k + 2) a b c d e f g T = some (comesB a b c d e f g T, 0) := by
  obtain ⟨y, m, dd, h⟩ := date_ex (T / 86400) (by omega)
  have := date_bd h
  unfold cron_Comes.f cron_Check.f comesB
  rw [dayOf_is h (by omega), hr.ok, Option.bind_some, if_pos rfl, if_pos rfl, split_at k T hT h, Option.bind_some]
  simp only []
  rw [has_is a _ hr.ra (by omega), has_is b _ hr.rb (by omega), day_is a b c d e f g y m dd _ _ _ _ hr.rc hr.rd hr.re (by omega) (by omega) (by omega)]
  simp only [Option.bind_some, if_true]
  by_cases c0 : T % 60 = 0
  · rw [c0]
    cases a.testBit (T / 60 % 60) <;> cases b.testBit (T % 86400 / 3600) <;> simp
  · simp [c0]; omega
theorem rcomes_yes (k : Nat) {a b c d e : Nat} {f g : Bool} (hr : Rule a b c d e f g) (T : Nat) (hT : T < 32503680000) : ticklerref17_Comes.f (k + 1100) a b c d e f g T = some (comesB a b c d e f g T, 0) := by
  obtain ⟨y, m, dd, h⟩ := date_ex (T / 86400) (by omega)
  have := date_bd h
  unfold ticklerref17_Comes.f comesB
  rw [dayOf_is h (by omega), show k + 1100 = (k + 1000) + 100 by omega, rcheck_is, hr.ok, Option.bind_some, if_pos rfl, if_pos rfl, show k + 1000 + 100 = k + 1100 by omega, rsplit_at k T hT h, Option.bind_some]
  simp only []
  rw [rhas_is a _ hr.ra (by omega), rhas_is b _ hr.rb (by omega), show k + 1100 = (k + 1099) + 1 by omega, rday_is _ a b c d e f g y m dd _ _ _ _ hr (by omega) (by omega) (by omega) (by omega)]
  simp only [Option.bind_some, if_true]
  by_cases c0 : T % 60 = 0
  · rw [c0]
    cases a.testBit (T / 60 % 60) <;> cases b.testBit (T % 86400 / 3600) <;> simp
  · simp [c0]; omega
theorem comes_no (k : Nat) {a b c d e : Nat} {f g : Bool} (hr : Rule a b c d e f g) (t : Int) (hT : t < 0 ∨ 32503680000 ≤ t) : cron_Comes.f (k + 2) a b c d e f g t = some (false, 4) := by
  unfold cron_Comes.f cron_Check.f
  rw [hr.ok, Option.bind_some, if_pos rfl, if_pos rfl, split_no k t hT, Option.bind_some]
  rfl
theorem rcomes_no (k : Nat) {a b c d e : Nat} {f g : Bool} (hr : Rule a b c d e f g) (t : Int) (hT : t < 0 ∨ 32503680000 ≤ t) : ticklerref17_Comes.f (k + 1100) a b c d e f g t = some (false, 4) := by
  unfold ticklerref17_Comes.f
  rw [show k + 1100 = (k + 1000) + 100 by omega, rcheck_is, hr.ok, Option.bind_some, if_pos rfl, if_pos rfl, rsplit_no _ t hT, Option.bind_some]
  rfl
theorem comes_bad (k : Nat) {a b c d e : Int} {f g : Bool} (hr : okRule a b c d e f g = false) (t : Int) : cron_Comes.f k a b c d e f g t = some (false, 9) := by
  unfold cron_Comes.f cron_Check.f
  rw [hr, Option.bind_some]
  rfl
theorem rcomes_bad (k : Nat) {a b c d e : Int} {f g : Bool} (hr : okRule a b c d e f g = false) (t : Int) : ticklerref17_Comes.f (k + 100) a b c d e f g t = some (false, 9) := by
  unfold ticklerref17_Comes.f
  rw [rcheck_is, hr, Option.bind_some]
  rfl
end Go.Proofs.YtkffmgalmooioaaDoor.Pure

/- When a rule comes next: the program's and the reference's answer, each the least coming second from one on. -/
namespace Go.Proofs.YtkffmgalmooioaaDoor.Pure
open Go.RowKit Go.Proofs.YtkffmgalmooioaaDoor.Cr Go.Proofs.YtkffmgalmooioaaDoor Go.Proofs.YtkffmgalmooioaaDoorW.PrintWords Go.Proofs.YtkffmgalmooioaaDoorW.PrintMore Go.Proofs.YtkffmgalmooioaaDoorW.PrintLast

theorem and_no {x y : Bool} (h : ¬ (x = true ∧ y = true)) : (x && y) = false := by cases x <;> cases y <;> simp_all
/-- the least coming second from one on, or that there is none ahead of the year 3000 -/
def From (p : Nat → Bool) (S : Nat) (r : Int × Bool × Int) : Prop :=
  (∃ M : Nat, r = ((M : Int), true, 0) ∧ S ≤ M ∧ M < 32503680000 ∧ p M = true ∧ ∀ i, S ≤ i → i < M → p i = false) ∨ (r = (0, false, 0) ∧ ∀ i, S ≤ i → i < 32503680000 → p i = false)
theorem From.down {p : Nat → Bool} {S S' : Nat} {r : Int × Bool × Int} (h : From p S r) (hle : S' ≤ S) (hn : ∀ i, S' ≤ i → i < S → i < 32503680000 → p i = false) : From p S' r := by
  rcases h with ⟨M, rfl, h1, h2, h3, h4⟩ | ⟨rfl, h1⟩
  · refine .inl ⟨M, rfl, by omega, h2, h3, fun i a b => ?_⟩
    rcases Nat.lt_or_ge i S with c | c
    · exact hn i a c (by omega)
    · exact h4 i c b
  · refine .inr ⟨rfl, fun i a b => ?_⟩
    rcases Nat.lt_or_ge i S with c | c
    · exact hn i a c b
    · exact h1 i c b
theorem From.unique {p : Nat → Bool} {S : Nat} {r r' : Int × Bool × Int} (h : From p S r) (h' : From p S r') : r = r' := by
  rcases h with ⟨M, rfl, h1, h2, h3, h4⟩ | ⟨rfl, h1⟩
  · rcases h' with ⟨M', rfl, k1, k2, k3, k4⟩ | ⟨rfl, k1⟩
    · rcases Nat.lt_trichotomy M M' with c | c | c
      · rw [k4 M h1 c] at h3; cases h3
      · rw [c]
      · rw [h4 M' k1 c] at k3; cases k3
    · rw [k1 M h1 h2] at h3; cases h3
  · rcases h' with ⟨M', rfl, k1, k2, k3, k4⟩ | ⟨rfl, k1⟩
    · rw [h1 M' k1 k2] at k3; cases k3
    · rfl
theorem comes_day {a b c d e : Nat} {f g : Bool} {T : Nat} (h : dayOf c d e f g (T / 86400) = false) : comesB a b c d e f g T = false := by unfold comesB; rw [h]; simp
theorem comes_in {a b c d e : Nat} {f g : Bool} {D q : Nat} (hq : q < 1440) (h : dayOf c d e f g D = true) : comesB a b c d e f g (86400 * D + 60 * q) = (a.testBit (q % 60) && b.testBit (q / 60)) := by
  unfold comesB
  rw [show (86400 * D + 60 * q) / 86400 = D by omega, h, show (86400 * D + 60 * q) / 60 % 60 = q % 60 by omega, show (86400 * D + 60 * q) % 86400 / 3600 = q / 60 by omega, decide_eq_true (by omega)]
  simp
theorem comes_min {a b c d e : Nat} {f g : Bool} {T : Nat} (h : T % 60 ≠ 0) : comesB a b c d e f g T = false := by unfold comesB; rw [decide_eq_false h]; rfl
theorem next_l0 {a b c d e : Nat} {f g : Bool} (hr : Rule a b c d e f g) : ∀ (n k D q : Nat), D + n = 376200 → n + 10 < k → q < 1440 →
    ∃ r, cron_Next.l0 k (q : Int) ((86400 * D : Nat) : Int) a b c d e f g = some r ∧ From (comesB a b c d e f g) (86400 * D + 60 * q) r
  | 0, k + 1, D, q, hD, hk, hq => by
    rw [cron_Next.l0, if_neg (by omega)]
    exact ⟨_, rfl, .inr ⟨rfl, fun i i1 i2 => by omega⟩⟩
  | n + 1, k + 1, D, q, hD, hk, hq => by
    obtain ⟨k, rfl⟩ : ∃ j, k = j + 2 := ⟨k - 2, by omega⟩
    obtain ⟨y, m, dd, h⟩ := date_ex D (by omega)
    have hb := date_bd h
    have h' : Date (86400 * D / 86400) y m dd := by rw [show 86400 * D / 86400 = D by omega]; exact h
    rw [cron_Next.l0, if_pos (by omega), split_at k (86400 * D) (by omega) h', Option.bind_some]
    simp only []
    rw [day_is a b c d e f g y m dd _ _ _ _ hr.rc hr.rd hr.re (by omega) (by omega) (by omega), Option.bind_some, show (86400 * D / 86400 + 4) % 7 = (D + 4) % 7 by omega, ← dayOf_is h (by omega)]
    obtain ⟨r, e1, h1⟩ := next_l0 hr n (k + 2) (D + 1) 0 (by omega) (by omega) (by omega)
    rw [show ((86400 * (D + 1) : Nat) : Int) = ((86400 * D : Nat) : Int) + 86400 by omega, show ((0 : Nat) : Int) = 0 from rfl] at e1
    rw [Cal.w64 (x := ((86400 * D : Nat) : Int) + 86400) (by omega)]
    cases hday : dayOf c d e f g D
    · simp only [Bool.false_eq_true, if_false]
      refine ⟨r, e1, h1.down (by omega) fun i i1 i2 _ => comes_day ?_⟩
      rw [show i / 86400 = D by omega, hday]
    · simp only [if_true]
      obtain ⟨r2, e2, h2⟩ := within_is (k + 1) a b c d e f g hr q hq
      rw [e2, Option.bind_some]
      rcases h2 with ⟨M, rfl, k1, k2, k3, k4⟩ | ⟨rfl, k1⟩
      · simp only [if_true]
        refine ⟨_, rfl, .inl ⟨86400 * D + 60 * M, ?_, by omega, by omega, ?_, fun i i1 i2 => ?_⟩⟩
        · rw [Cal.w64 (x := 60 * (M : Int)) (by omega), Cal.w64 (by omega)]
          congr 1
        · rw [comes_in k2 hday, k3.1, k3.2]; rfl
        · by_cases c6 : i % 60 = 0
          · have hi : i = 86400 * D + 60 * (i % 86400 / 60) := by omega
            rw [hi, comes_in (by omega) hday]
            exact and_no (k4 (i % 86400 / 60) (by omega) (by omega))
          · exact comes_min c6
      · simp only [Bool.false_eq_true, if_false]
        refine ⟨r, e1, h1.down (by omega) fun i i1 i2 _ => ?_⟩
        by_cases c6 : i % 60 = 0
        · have hi : i = 86400 * D + 60 * (i % 86400 / 60) := by omega
          rw [hi, comes_in (by omega) hday]
          exact and_no (k1 (i % 86400 / 60) (by omega) (by omega))
        · exact comes_min c6
theorem next_yes {a b c d e : Nat} {f g : Bool} (hr : Rule a b c d e f g) (k : Nat) (hk : 376300 ≤ k) (t : Int) (h0 : -1 ≤ t) (h1 : t < 32503680000) :
    ∃ r, cron_Next.f k a b c d e f g t = some r ∧ From (comesB a b c d e f g) (t + 1).toNat r := by
  obtain ⟨k, rfl⟩ : ∃ j, k = j + 1 := ⟨k - 1, by omega⟩
  obtain ⟨S, hS⟩ : ∃ S : Nat, t + 1 = S := ⟨(t + 1).toNat, by omega⟩
  obtain ⟨N, hN⟩ : ∃ N : Nat, N = (S + 59) / 60 * 60 := ⟨_, rfl⟩
  have e : wrap64 (wrap64 (Int.tdiv (wrap64 (t + 60)) 60) * 60) = (N : Int) := by
    rw [Cal.w64 (x := t + 60) (by omega), Cal.td (by omega), Cal.w64 (x := (t + 60) / 60) (by omega), Cal.w64 (by omega)]
    omega
  unfold cron_Next.f cron_Check.f
  rw [hr.ok, Option.bind_some, if_pos rfl, if_pos rfl, if_neg (by omega), decide_eq_false (by omega)]
  rw [cron_Next.j0, if_neg (by decide), e]
  have e2 : Int.tmod (N : Int) 86400 = ((N % 86400 : Nat) : Int) := by rw [Cal.tm (by omega)]; omega
  rw [e2, Cal.td (by omega), show ((N % 86400 : Nat) : Int) / 60 = ((N % 86400 / 60 : Nat) : Int) by omega, Cal.w64 (by omega), Cal.w64 (by omega), show (N : Int) - ((N % 86400 : Nat) : Int) = ((86400 * (N / 86400) : Nat) : Int) by omega]
  have hS2 : (t + 1).toNat = S := by omega
  rw [hS2]
  rcases Nat.lt_or_ge 376200 (N / 86400) with c | c
  · omega
  obtain ⟨r, e1, h1⟩ := next_l0 hr (376200 - N / 86400) k (N / 86400) (N % 86400 / 60) (by omega) (by omega) (by omega)
  refine ⟨r, e1, h1.down (by omega) fun i i1 i2 _ => comes_min ?_⟩
  omega
theorem next_far {a b c d e : Nat} {f g : Bool} (hr : Rule a b c d e f g) (k : Nat) (t : Int) (h : t < -1 ∨ 32503680000 ≤ t) : cron_Next.f (k + 1) a b c d e f g t = some (0, false, 4) := by
  unfold cron_Next.f cron_Check.f
  rw [hr.ok, Option.bind_some, if_pos rfl, if_pos rfl]
  by_cases c : t < -1
  · rw [if_pos c, cron_Next.j0, if_pos rfl]
  · rw [if_neg c, decide_eq_true (by omega), cron_Next.j0, if_pos rfl]
theorem next_bad {a b c d e : Int} {f g : Bool} (hr : okRule a b c d e f g = false) (k : Nat) (t : Int) : cron_Next.f k a b c d e f g t = some (0, false, 9) := by
  unfold cron_Next.f cron_Check.f
  rw [hr, Option.bind_some]
  rfl
/-- the reference's day after a day -/
theorem tomorrow_is (k : Nat) {x : Nat} {y : Int} {m dd : Nat} (h : Date x y m dd) (hx : x < 376200) (hh mi s : Int) (wd : Nat) (hw : wd ≤ 6) :
    ∃ y' m' dd', Date (x + 1) y' m' dd' ∧ ticklerref17_tomorrow.f (k + 1) y m dd hh mi s wd = some (y', (m' : Int), (dd' : Int), hh, mi, s, (((wd + 1) % 7 : Nat) : Int)) := by
  have hb := date_bd h
  have hy := Cal.year_of h.v (by rw [h.n]; omega) (by rw [h.n]; omega)
  have hd2 := h.v.d2
  have hn := h.n
  have ht : Int.tmod (wrap64 ((wd : Int) + 1)) 7 = (((wd + 1) % 7 : Nat) : Int) := by rw [Cal.w64 (by omega), Cal.tm (by omega)]; omega
  unfold ticklerref17_tomorrow.f
  rw [rdays_yes k y m hy.1 hy.2 (by omega) (by omega), Option.bind_some, ht, Cal.w64 (x := (dd : Int) + 1) (by omega), Cal.w64 (x := (m : Int) + 1) (by omega), Cal.w64 (x := y + 1) (by omega)]
  simp only []
  by_cases c : (dd : Int) + 1 > Cal.dim y m
  · rw [if_pos c]
    by_cases c2 : (m : Int) + 1 > 12
    · rw [if_pos c2]
      have hm : m = 12 := by omega
      subst hm
      refine ⟨y + 1, 1, 1, ⟨⟨by decide, by decide, by decide, by have := Cal.dim_bd (y + 1) ((1 : Nat) : Int); omega⟩, ?_⟩, rfl⟩
      have h1 := Cal.cum_13 y
      have h2 := Cal.dby_succ y
      have h3 := Cal.cum_1 (y + 1)
      unfold Cal.num at hn ⊢
      have e12 : ((12 : Nat) : Int) = 12 := rfl
      have e1 : ((1 : Nat) : Int) = 1 := rfl
      rw [e12] at hn hd2 c
      rw [e1, h3, h2]
      omega
    · rw [if_neg c2]
      refine ⟨y, m + 1, 1, ⟨⟨by omega, by omega, by decide, by have := Cal.dim_bd y ((m + 1 : Nat) : Int); omega⟩, ?_⟩, by congr 2⟩
      have h1 := Cal.cum_succ y m (by omega) (by omega)
      unfold Cal.num at hn ⊢
      have e1 : ((1 : Nat) : Int) = 1 := rfl
      rw [show ((m + 1 : Nat) : Int) = (m : Int) + 1 by omega, h1, e1]
      omega
  · rw [if_neg c, if_neg (by omega)]
    refine ⟨y, m, dd + 1, ⟨⟨h.v.m1, h.v.m2, by omega, by omega⟩, ?_⟩, by congr 3⟩
    unfold Cal.num at hn ⊢
    omega
end Go.Proofs.YtkffmgalmooioaaDoor.Pure


namespace Go.Proofs.YtkffmgalmooioaaDoor.Pure
open Go.RowKit Go.Proofs.YtkffmgalmooioaaDoor.Cr Go.Proofs.YtkffmgalmooioaaDoor Go.Proofs.YtkffmgalmooioaaDoorW.PrintWords Go.Proofs.YtkffmgalmooioaaDoorW.PrintMore Go.Proofs.YtkffmgalmooioaaDoorW.PrintLast

/-- a rule as it is handed in -/
structure Raw (a b c d e : Nat) : Prop where
  ra : a < 18446744073709551616
  rb : b < 18446744073709551616
  rc : c < 18446744073709551616
  rd : d < 18446744073709551616
  re : e < 18446744073709551616
theorem Raw.rule {a b c d e : Nat} {f g : Bool} (h : Raw a b c d e) (k : okRule a b c d e f g = true) : Rule a b c d e f g := ⟨h.ra, h.rb, h.rc, h.rd, h.re, k⟩
theorem far_k {a b c d e : Nat} {f g : Bool} (hr : Rule a b c d e f g) {k : Nat} (hk : 1 ≤ k) (t : Int) (h : t < -1 ∨ 32503680000 ≤ t) : cron_Next.f k a b c d e f g t = some (0, false, 4) := by
  obtain ⟨j, rfl⟩ : ∃ j, k = j + 1 := ⟨k - 1, by omega⟩
  exact next_far hr j t h
end Go.Proofs.YtkffmgalmooioaaDoor.Pure
