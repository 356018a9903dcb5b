/- CivilOrder in plain arithmetic: of two seconds the earlier one's text comes first. -/
import Derived.Test.YtkffmgalmooioaaCivx6
import Derived.Test.YtkffmgalmooioaaCivPure
import Derived.Test.YtkffmgalmooioaaTxt
namespace Go.Proofs.Ytkffmgalmooioaa.Pure
open Go.RowKit Go.Proofs.Ytkffmgalmooioaa.Civ Go.Proofs.YtkffmgalmooioaaW.PrintWords Go.Proofs.YtkffmgalmooioaaW.PrintLast

/-- a date's and a second of a day's text -/
def txt (y m d t : Int) : List Int := Txt.four y ++ 45 :: (Txt.two m ++ 45 :: (Txt.two d ++ 32 :: (Txt.two (t % 86400 / 3600) ++ 58 :: (Txt.two (t % 86400 % 3600 / 60) ++ 58 :: Txt.two (t % 86400 % 60)))))
theorem txt_length (y m d t : Int) : (txt y m d t).length = 19 := rfl
theorem text_yes (k : Nat) (t : Int) (h0 : 0 ≤ t) (h1 : t < 32503680000) : ∃ y m d, civil_Text.f (k + 2) t = some (strOfNums (txt y m d t), 0) ∧ Cal.Vld y m d ∧ Cal.num y m d = t / 86400 ∧ 1970 ≤ y ∧ y ≤ 2999 := by
  obtain ⟨y, m, d, h, v, hn, hy0, hy1⟩ := split_yes k t h0 h1
  refine ⟨y, m, d, ?_, v, hn, hy0, hy1⟩
  unfold civil_Text.f
  rw [h, Option.bind_some]
  simp only []
  have := v.m1; have := v.d1
  rw [if_pos trivial, Txt.txtL_is _ _ _ _ _ _ (by omega) (by omega) (by omega) (by omega) (by omega) (by omega)]
  rfl
theorem text_no (k : Nat) (t : Int) (h : t < 0 ∨ 32503680000 ≤ t) : civil_Text.f (k + 2) t = some ((⟨#[]⟩ : ByteArray), 4) := by
  unfold civil_Text.f
  rw [split_no k t h, Option.bind_some]
  rfl
theorem txt_lt {y m d t y' m' d' t' : Int} (v : Cal.Vld y m d) (v' : Cal.Vld y' m' d') (hn : Cal.num y m d = t / 86400) (hn' : Cal.num y' m' d' = t' / 86400)
    (hy : 1970 ≤ y ∧ y ≤ 2999) (hy' : 1970 ≤ y' ∧ y' ≤ 2999) (h : t < t') : Txt.lexI (txt y m d t) (txt y' m' d' t') = true := by
  have := v.m1; have := v.m2; have := v.d1; have := v.d2; have := Cal.dim_bd y m
  have := v'.m1; have := v'.m2; have := v'.d1; have := v'.d2; have := Cal.dim_bd y' m'
  unfold txt
  rcases Int.lt_trichotomy y y' with c | c | c
  · exact Txt.four_lt (by omega) c (by omega) _ _
  · subst c
    rw [Txt.four_same, Txt.lex_same]
    rcases Int.lt_trichotomy m m' with c | c | c
    · exact Txt.two_lt (by omega) c (by omega) _ _
    · subst c
      rw [Txt.two_same, Txt.lex_same]
      have hd : t / 86400 ≤ t' / 86400 := by omega
      have hdd : d ≤ d' := by unfold Cal.num at hn hn'; omega
      rcases Int.lt_or_eq_of_le hdd with c | c
      · exact Txt.two_lt (by omega) c (by omega) _ _
      · subst c
        have he : t / 86400 = t' / 86400 := by rw [← hn, ← hn']
        rw [Txt.two_same, Txt.lex_same]
        by_cases c : t % 86400 / 3600 < t' % 86400 / 3600
        · exact Txt.two_lt (by omega) c (by omega) _ _
        rw [show t % 86400 / 3600 = t' % 86400 / 3600 by omega, Txt.two_same, Txt.lex_same]
        by_cases c2 : t % 86400 % 3600 / 60 < t' % 86400 % 3600 / 60
        · exact Txt.two_lt (by omega) c2 (by omega) _ _
        rw [show t % 86400 % 3600 / 60 = t' % 86400 % 3600 / 60 by omega, Txt.two_same, Txt.lex_same]
        have e := Txt.two_lt (n := t % 86400 % 60) (p := t' % 86400 % 60) (by omega) (by omega) (by omega) [] []
        rwa [List.append_nil, List.append_nil] at e
    · have := Cal.num_lt_month v' v c; omega
  · have := Cal.num_lt_year v' v c; omega
theorem CivilOrder : ticklerlaw16_CivilOrder.Pure := by
  intro a b _ _
  refine ⟨3, ?_⟩
  unfold ticklerlaw16_CivilOrder.f
  rw [alive_is 1, Option.bind_some, if_pos rfl]
  have he : (⟨#[]⟩ : ByteArray).toList = ([] : List UInt8) := by rw [ByteArray.toList_eq]
  by_cases ca : a < 0 ∨ 32503680000 ≤ a
  · rw [text_no 1 a ca, Option.bind_some]
    by_cases cb : b < 0 ∨ 32503680000 ≤ b
    · rw [text_no 1 b cb, Option.bind_some]
      simp only [ticklerlaw16_num.f, Option.bind_some]
      rw [if_neg (by decide), if_pos he]
    · obtain ⟨y, m, d, h, _⟩ := text_yes 1 b (by omega) (by omega)
      rw [h, Option.bind_some]
      simp only [ticklerlaw16_num.f, Option.bind_some]
      rw [if_neg (by decide), if_pos he]
  · obtain ⟨y, m, d, h, v, hn, hy⟩ := text_yes 1 a (by omega) (by omega)
    rw [h, Option.bind_some]
    by_cases cb : b < 0 ∨ 32503680000 ≤ b
    · rw [text_no 1 b cb, Option.bind_some]
      simp only [ticklerlaw16_num.f, Option.bind_some]
      rw [if_pos trivial, if_neg (by decide), he]
      split <;> rfl
    · obtain ⟨y', m', d', h', v', hn', hy'⟩ := text_yes 1 b (by omega) (by omega)
      rw [h', Option.bind_some]
      simp only [ticklerlaw16_num.f, Option.bind_some]
      have hO : Txt.Oc (txt y m d a) := Txt.txt_oc _ _ _ _ _ _
      have hO' : Txt.Oc (txt y' m' d' b) := Txt.txt_oc _ _ _ _ _ _
      rw [if_pos trivial, if_pos trivial, if_pos (by rw [strOfNums_size]; rfl), Txt.str_list, Txt.str_list, Txt.less_lex _ _ hO hO']
      rcases Int.lt_trichotomy a b with c | c | c
      · have e := txt_lt v v' hn hn' hy hy' c
        have ne : ((txt y m d a).map Txt.byt == (txt y' m' d' b).map Txt.byt) = false := by
          rw [beq_eq_false_iff_ne]
          intro q
          have w := Txt.less_lex _ _ hO hO'
          rw [q, Txt.less_lex _ _ hO' hO', Txt.lex_self, e] at w
          cases w
        rw [e, decide_eq_true c, ne, if_pos (by decide), show (a == b) = false from beq_eq_false_iff_ne.2 (by omega)]
        rfl
      · subst c
        obtain ⟨rfl, rfl, rfl⟩ := Cal.num_inj v v' (by rw [hn, hn'])
        rw [Txt.lex_self, decide_eq_false (by omega), if_pos (by decide)]
        simp
      · have e := txt_lt v' v hn' hn hy' hy c
        have ne : ((txt y m d a).map Txt.byt == (txt y' m' d' b).map Txt.byt) = false := by
          rw [beq_eq_false_iff_ne]
          intro q
          have w := Txt.less_lex _ _ hO' hO
          rw [q, Txt.less_lex _ _ hO' hO', Txt.lex_self, e] at w
          cases w
        have asym : Txt.lexI (txt y m d a) (txt y' m' d' b) = false := by
          have w1 := Txt.bytesLess_asym ((txt y' m' d' b).map Txt.byt) ((txt y m d a).map Txt.byt)
          rw [Txt.less_lex _ _ hO' hO, Txt.less_lex _ _ hO hO'] at w1
          exact w1 e
        rw [asym, decide_eq_false (by omega), ne, if_pos (by decide), show (a == b) = false from beq_eq_false_iff_ne.2 (by omega)]
        rfl
end Go.Proofs.Ytkffmgalmooioaa.Pure
