/- CivilTells in plain arithmetic: months, days, dates, moments and texts of any numbers are the reference's. -/
import Derived.Test.YtkffmgalmooioaaTells
import Derived.Test.YtkffmgalmooioaaCivPure
import Derived.Test.YtkffmgalmooioaaCivRef
import Derived.Test.YtkffmgalmooioaaMathCivilOrder
namespace Go.Proofs.Ytkffmgalmooioaa.Pure
open Go.RowKit Go.Proofs.Ytkffmgalmooioaa.Civ Go.Proofs.YtkffmgalmooioaaW.PrintWords Go.Proofs.YtkffmgalmooioaaW.PrintLast

theorem str_app (l m : List Int) : strOfNums l ++ strOfNums m = strOfNums (l ++ m) := by
  apply ByteArray.ext
  rw [ByteArray.data_append]
  simp [strOfNums]
theorem digit_round (k : Nat) (n many i : Int) (l : List Int) (hn : 0 ≤ n) (hm : n < 1000000) (hi : 0 ≤ i) (h : i < many) (hM : many ≤ 100) (hl : l.length ≤ 100) :
    ticklerref16_digits.l0 (k + 1) n many (strOfNums l) i = ticklerref16_digits.l0 k (n / 10) many (strOfNums ((48 + n % 10) :: l)) (i + 1) := by
  simp only [ticklerref16_digits.l0]
  rw [if_pos h, Option.bind_some, Cal.tm hn, Cal.td hn, Cal.w64 (x := 48 + n % 10) (by omega), Cal.w64 (x := n / 10) (by omega), Cal.w64 (x := i + 1) (by omega), show (48 + n % 10) % 256 = 48 + n % 10 by omega]
  rw [if_pos (by rw [strOfNums_size, strOfNums_size, List.length_singleton]; omega), str_app]
  rfl
theorem digit_end (k : Nat) (n many : Int) (s : ByteArray) : ticklerref16_digits.l0 (k + 1) n many s many = some s := by
  simp only [ticklerref16_digits.l0]
  rw [if_neg (by omega)]
theorem digits_two (k : Nat) (n : Int) (hn : 0 ≤ n) (hm : n < 1000000) : ticklerref16_digits.f (k + 3) n 2 = some (strOfNums (Txt.two n)) := by
  show ticklerref16_digits.l0 ((k + 2) + 1) n 2 (strOfNums []) 0 = _
  rw [digit_round _ _ _ _ _ hn hm (by decide) (by decide) (by decide) (by decide)]
  show ticklerref16_digits.l0 ((k + 1) + 1) _ 2 _ 1 = _
  rw [digit_round _ _ _ _ _ (by omega) (by omega) (by decide) (by decide) (by decide) (by simp)]
  exact digit_end k _ 2 _
theorem digits_four (k : Nat) (n : Int) (hn : 0 ≤ n) (hm : n < 1000000) : ticklerref16_digits.f (k + 5) n 4 = some (strOfNums (Txt.four n)) := by
  show ticklerref16_digits.l0 ((k + 4) + 1) n 4 (strOfNums []) 0 = _
  rw [digit_round _ _ _ _ _ hn hm (by decide) (by decide) (by decide) (by decide)]
  show ticklerref16_digits.l0 ((k + 3) + 1) _ 4 _ 1 = _
  rw [digit_round _ _ _ _ _ (by omega) (by omega) (by decide) (by decide) (by decide) (by simp)]
  show ticklerref16_digits.l0 ((k + 2) + 1) _ 4 _ 2 = _
  rw [digit_round _ _ _ _ _ (by omega) (by omega) (by decide) (by decide) (by decide) (by simp)]
  show ticklerref16_digits.l0 ((k + 1) + 1) _ 4 _ 3 = _
  rw [digit_round _ _ _ _ _ (by omega) (by omega) (by decide) (by decide) (by decide) (by simp)]
  exact digit_end k _ 4 _
theorem rsplit_yes (k : Nat) (t y m d : Int) (h0 : 0 ≤ t) (h1 : t < 32503680000) (v : Cal.Vld y m d) (hn : Cal.num y m d = t / 86400) (hy : 1970 ≤ y ∧ y ≤ 2999) :
    ticklerref16_Split.f (k + 1100) t = some (y, m, d, t % 86400 / 3600, t % 86400 % 3600 / 60, t % 86400 % 60, (t / 86400 + 4) % 7, 0) := by
  unfold ticklerref16_Split.f
  rw [if_neg (by omega), if_neg (by omega), Cal.td h0, Cal.tm h0, Cal.w64 (x := t / 86400) (by omega), ← hn, rdate_yes k y m d hy.1 hy.2 v, Option.bind_some, hn]
  simp (disch := omega) only [Cal.w64, Cal.td, Cal.tm]
  congr 5
  rw [Prod.mk.injEq]
  exact ⟨by omega, rfl⟩
theorem rsplit_no (k : Nat) (t : Int) (h : t < 0 ∨ 32503680000 ≤ t) : ticklerref16_Split.f k t = some (0, 0, 0, 0, 0, 0, 0, 4) := by
  unfold ticklerref16_Split.f
  by_cases c : t < 0
  · rw [if_pos c]
  · rw [if_neg c, if_pos (by omega)]
theorem rtext_yes (k : Nat) (t y m d : Int) (h0 : 0 ≤ t) (h1 : t < 32503680000) (v : Cal.Vld y m d) (hn : Cal.num y m d = t / 86400) (hy : 1970 ≤ y ∧ y ≤ 2999) :
    ticklerref16_Text.f (k + 1100) t = some (strOfNums (txt y m d t), 0) := by
  have := v.m1; have := v.m2; have := v.d1; have := v.d2; have := Cal.dim_bd y m
  unfold ticklerref16_Text.f
  rw [rsplit_yes k t y m d h0 h1 v hn hy, Option.bind_some]
  simp only []
  rw [if_pos trivial]
  have d2 (n : Int) (h : 0 ≤ n) (h' : n < 1000000) : ticklerref16_digits.f (k + 1100) n 2 = some (strOfNums (Txt.two n)) := digits_two (k + 1097) n h h'
  have e45 : (⟨#[45]⟩ : ByteArray) = strOfNums [45] := rfl
  have e32 : (⟨#[32]⟩ : ByteArray) = strOfNums [32] := rfl
  have e58 : (⟨#[58]⟩ : ByteArray) = strOfNums [58] := rfl
  rw [show ticklerref16_digits.f (k + 1100) y 4 = some (strOfNums (Txt.four y)) from digits_four (k + 1095) y (by omega) (by omega), d2 m (by omega) (by omega), d2 d (by omega) (by omega), d2 _ (by omega) (by omega), d2 _ (by omega) (by omega), d2 _ (by omega) (by omega)]
  simp only [Option.bind_some, e45, e32, e58, str_app, strOfNums_size]
  have l4 : (Txt.four y).length = 4 := rfl
  have l2 (n : Int) : (Txt.two n).length = 2 := rfl
  simp only [List.length_append, l4, l2, List.length_singleton]
  rw [if_pos (by decide), if_pos (by decide), if_pos (by decide), if_pos (by decide), if_pos (by decide), if_pos (by decide), if_pos (by decide), if_pos (by decide), if_pos (by decide), if_pos (by decide)]
  rfl
theorem rtext_no (k : Nat) (t : Int) (h : t < 0 ∨ 32503680000 ≤ t) : ticklerref16_Text.f k t = some ((⟨#[]⟩ : ByteArray), 4) := by
  unfold ticklerref16_Text.f
  rw [rsplit_no k t h, Option.bind_some]
  rfl
theorem CivilTells : ticklerlaw16_CivilTells.Pure := by
  intro y m d t _ _ _ _
  refine ⟨1102, ?_⟩
  have D : ∃ p, civil_Days.f 1102 y m = some p ∧ ticklerref16_Days.f 1102 y m = some p := by
    by_cases c : 1970 ≤ y ∧ y ≤ 2999 ∧ 1 ≤ m ∧ m ≤ 12
    · exact ⟨_, days_yes 1101 y m c.1 c.2.1 c.2.2.1 c.2.2.2, rdays_yes 1101 y m c.1 c.2.1 c.2.2.1 c.2.2.2⟩
    · exact ⟨_, days_no 1101 y m (by omega), rdays_no 1101 y m (by omega)⟩
  have E : ∃ p, civil_Day.f 1102 y m d = some p ∧ ticklerref16_Day.f 1102 y m d = some p := by
    by_cases c : 1970 ≤ y ∧ y ≤ 2999 ∧ Cal.Vld y m d
    · exact ⟨_, day_yes 1101 y m d c.1 c.2.1 c.2.2, rday_yes 2 y m d c.1 c.2.1 c.2.2⟩
    · exact ⟨_, day_no 1101 y m d c, rday_no 1101 y m d c⟩
  have F : ∃ p, civil_Date.f 1102 d = some p ∧ ticklerref16_Date.f 1102 d = some p := by
    by_cases c : d < 0 ∨ 376200 ≤ d
    · exact ⟨_, date_no 1101 d c, rdate_no 1101 d c⟩
    · obtain ⟨y', m', d', h, v, hn⟩ := date_some 1101 d (by omega) (by omega)
      have hy := Cal.year_of v (by omega) (by omega)
      refine ⟨_, h, ?_⟩
      have e := rdate_yes 2 y' m' d' hy.1 hy.2 v
      rw [hn] at e
      exact e
  have G : ∃ p q, civil_Split.f 1102 t = some p ∧ ticklerref16_Split.f 1102 t = some p ∧ civil_Text.f 1102 t = some q ∧ ticklerref16_Text.f 1102 t = some q := by
    by_cases c : t < 0 ∨ 32503680000 ≤ t
    · exact ⟨_, _, split_no 1100 t c, rsplit_no 1102 t c, text_no 1100 t c, rtext_no 1102 t c⟩
    · obtain ⟨y', m', d', h, v, hn, hy⟩ := split_yes 1100 t (by omega) (by omega)
      obtain ⟨y2, m2, d2, h2, v2, hn2, _⟩ := text_yes 1100 t (by omega) (by omega)
      obtain ⟨rfl, rfl, rfl⟩ := Cal.num_inj v2 v (by rw [hn, hn2])
      exact ⟨_, _, h, rsplit_yes 2 t y2 m2 d2 (by omega) (by omega) v2 hn2 hy, h2, rtext_yes 2 t y2 m2 d2 (by omega) (by omega) v2 hn2 hy⟩
  obtain ⟨p1, a1, b1⟩ := D
  obtain ⟨p2, a2, b2⟩ := E
  obtain ⟨p3, a3, b3⟩ := F
  obtain ⟨p4, p5, a4, b4, a5, b5⟩ := G
  unfold ticklerlaw16_CivilTells.f
  rw [a1, Option.bind_some, b1, Option.bind_some, a2, Option.bind_some, b2, Option.bind_some, a3, Option.bind_some, b3, Option.bind_some, a4, Option.bind_some, b4, Option.bind_some, a5, Option.bind_some, b5, Option.bind_some, leap_is, Option.bind_some, rleap_is, Option.bind_some]
  simp only [ticklerlaw16_num.f, Option.bind_some, alive_is 1100]
  simp
end Go.Proofs.Ytkffmgalmooioaa.Pure
