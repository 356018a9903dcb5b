import Derived.Test.YtkffmgalmooioaaDoorPur
import Derived.Test.YtkffmgalmooioaaDoorCrx21
/- When a rule comes next: the reference's answer. -/
namespace Go.Proofs.YtkffmgalmooioaaDoor.Pure
open Go.RowKit Go.Proofs.YtkffmgalmooioaaDoor.Cr Go.Proofs.YtkffmgalmooioaaDoor Go.Proofs.YtkffmgalmooioaaDoorW.PrintWords Go.Proofs.YtkffmgalmooioaaDoorW.PrintMore Go.Proofs.YtkffmgalmooioaaDoorW.PrintLast

theorem at_is (D q : Nat) (hD : D < 376200) (hq : q < 1440) : wrap64 (wrap64 (86400 * (D : Int)) + wrap64 (60 * (q : Int))) = ((86400 * D + 60 * q : Nat) : Int) := by
  rw [Cal.w64 (x := 86400 * (D : Int)) (by omega), Cal.w64 (x := 60 * (q : Int)) (by omega), Cal.w64 (by omega)]; omega
theorem mi_is (q : Nat) : Int.tmod (q : Int) 60 = ((q % 60 : Nat) : Int) := by rw [Cal.tm (by omega)]; omega
theorem ho_is (q : Nat) (hq : q < 1440) : wrap64 (Int.tdiv (q : Int) 60) = ((q / 60 : Nat) : Int) := by rw [Cal.td (by omega), Cal.w64 (by omega)]; omega
theorem su_is (q : Nat) (hq : q < 1440) : wrap64 ((q : Int) + 1) = ((q + 1 : Nat) : Int) := by rw [Cal.w64 (by omega)]; omega
theorem st_is (t : Int) (S : Nat) (hS : t + 1 = S) (h1 : t < 32503680000) : wrap64 (wrap64 (t + 1) - Int.tmod (wrap64 (t + 1)) 86400) = ((86400 * (S / 86400) : Nat) : Int) := by
  rw [Cal.w64 (x := t + 1) (by omega), Cal.tm (by omega), Cal.w64 (by omega)]; omega
theorem sd_is (t : Int) (S : Nat) (hS : t + 1 = S) (h1 : t < 32503680000) : wrap64 (Int.tdiv (wrap64 (t + 1)) 86400) = ((S / 86400 : Nat) : Int) := by
  rw [Cal.w64 (x := t + 1) (by omega), Cal.td (by omega), Cal.w64 (by omega)]; omega
theorem comes_gap {a b c d e : Nat} {f g : Bool} {D q i : Nat} (h1 : 86400 * D + 60 * q < i) (h2 : i < 86400 * D + 60 * (q + 1)) : comesB a b c d e f g i = false := comes_min (by omega)
theorem rnext_l1 {a b c d e : Nat} {f g : Bool} (hr : Rule a b c d e f g) (t : Int) (S : Nat) (hS : t + 1 = S) (D B : Nat) (hD : D < 376200) (hday : dayOf c d e f g D = true) (y m dd hh mi s wd : Int)
    (H0 : ∀ k, B < k → ∃ r, ticklerref17_Next.l0 k t ((D + 1 : Nat) : Int) a b c d e f g y m dd hh mi s wd = some r ∧ From (comesB a b c d e f g) (max S (86400 * (D + 1))) r) :
    ∀ (j k q : Nat), q + j = 1440 → B + j + 1 < k → ∃ r, ticklerref17_Next.l1 k t (D : Int) (q : Int) a b c d e f g y m dd hh mi s wd = some r ∧ From (comesB a b c d e f g) (max S (86400 * D + 60 * q)) r := by
  intro j
  induction j with
  | zero =>
    intro k q hq hk
    obtain ⟨k, rfl⟩ : ∃ j, k = j + 1 := ⟨k - 1, by omega⟩
    rw [ticklerref17_Next.l1, if_neg (by omega), Cal.w64 (x := (D : Int) + 1) (by omega), show (D : Int) + 1 = ((D + 1 : Nat) : Int) by omega]
    obtain ⟨r, e1, h1⟩ := H0 k (by omega)
    exact ⟨r, e1, by rw [show 86400 * D + 60 * q = 86400 * (D + 1) by omega]; exact h1⟩
  | succ j ih =>
    intro k q hq hk
    obtain ⟨k, rfl⟩ : ∃ j, k = j + 1 := ⟨k - 1, by omega⟩
    obtain ⟨r, e1, h1⟩ := ih k (q + 1) (by omega) (by omega)
    rw [ticklerref17_Next.l1, if_pos (by omega), at_is D q hD (by omega), mi_is q, ho_is q (by omega), su_is q (by omega), rhas_is a _ hr.ra (by omega), rhas_is b _ hr.rb (by omega), e1]
    simp only [Option.bind_some]
    have hno : comesB a b c d e f g (86400 * D + 60 * q) = false ∨ ¬ ((86400 * D + 60 * q : Nat) : Int) > t → From (comesB a b c d e f g) (max S (86400 * D + 60 * q)) r := fun h => h1.down (by omega) fun i i1 i2 _ => by
      rcases Nat.lt_or_ge (86400 * D + 60 * q) i with c1 | c1
      · exact comes_gap c1 (by omega)
      · rcases h with h | h
        · rw [show i = 86400 * D + 60 * q by omega]; exact h
        · omega
    by_cases c1 : ((86400 * D + 60 * q : Nat) : Int) > t
    · rw [if_pos c1]
      have hc := comes_in (a := a) (b := b) (q := q) (by omega) hday
      cases ha : a.testBit (q % 60)
      · simp only [Bool.false_eq_true, if_false]
        exact ⟨r, rfl, hno (.inl (by rw [hc, ha]; rfl))⟩
      · simp only [if_true]
        cases hb : b.testBit (q / 60)
        · simp only [Bool.false_eq_true, if_false]
          exact ⟨r, rfl, hno (.inl (by rw [hc, ha, hb]; rfl))⟩
        · simp only [if_true]
          refine ⟨_, rfl, .inl ⟨86400 * D + 60 * q, rfl, by omega, by omega, by rw [hc, ha, hb]; rfl, fun i i1 i2 => by omega⟩⟩
    · rw [if_neg c1]
      exact ⟨r, rfl, hno (.inr c1)⟩
theorem rnext_l0 {a b c d e : Nat} {f g : Bool} (hr : Rule a b c d e f g) (t : Int) (S : Nat) (hS : t + 1 = S) (F : Nat → Nat) (h10 : 10 ≤ F 0) (hF : ∀ n, F n + 1450 < F (n + 1)) : ∀ (n k D : Nat) (y : Int) (m dd : Nat) (hh mi s : Int), D + n = 376200 → F n < k → Date D y m dd →
    ∃ r, ticklerref17_Next.l0 k t (D : Int) a b c d e f g y m dd hh mi s (((D + 4) % 7 : Nat) : Int) = some r ∧ From (comesB a b c d e f g) (max S (86400 * D)) r := by
  intro n
  induction n with
  | zero =>
    intro k D y m dd hh mi s hD hk h
    obtain ⟨k, rfl⟩ : ∃ j, k = j + 1 := ⟨k - 1, by omega⟩
    rw [ticklerref17_Next.l0, Cal.w64 (by omega), if_neg (by omega)]
    exact ⟨_, rfl, .inr ⟨rfl, fun i i1 i2 => by omega⟩⟩
  | succ n ih =>
    intro k D y m dd hh mi s hD hk h
    have hFn := hF n
    obtain ⟨k, rfl⟩ : ∃ j, k = j + 1 + 1 := ⟨k - 2, by omega⟩
    have hb := date_bd h
    obtain ⟨y', m', dd', h', e1⟩ := tomorrow_is k h (by omega) hh mi s ((D + 4) % 7) (by omega)
    rw [ticklerref17_Next.l0, Cal.w64 (x := 86400 * (D : Int)) (by omega), if_pos (by omega), e1, Option.bind_some, rday_is k a b c d e f g y m dd hh mi s ((D + 4) % 7) hr (by omega) (by omega) (by omega) (by omega), Option.bind_some, ← dayOf_is h (by omega),
      Cal.w64 (x := (D : Int) + 1) (by omega), show (D : Int) + 1 = ((D + 1 : Nat) : Int) by omega]
    simp only []
    have H0 : ∀ k, F n < k → ∃ r, ticklerref17_Next.l0 k t ((D + 1 : Nat) : Int) a b c d e f g y' m' dd' hh mi s (((D + 4) % 7 + 1) % 7 : Nat) = some r ∧ From (comesB a b c d e f g) (max S (86400 * (D + 1))) r := fun k hk => by
      rw [show ((D + 4) % 7 + 1) % 7 = (D + 1 + 4) % 7 by omega]
      exact ih k (D + 1) y' m' dd' hh mi s (by omega) hk h'
    cases hday : dayOf c d e f g D
    · simp only [Bool.false_eq_true, if_false]
      obtain ⟨r, e2, h2⟩ := H0 (k + 1) (by omega)
      refine ⟨r, e2, h2.down (by omega) fun i i1 i2 _ => comes_day ?_⟩
      rw [show i / 86400 = D by omega, hday]
    · simp only [if_true]
      obtain ⟨r, e2, h2⟩ := rnext_l1 hr t S hS D (F n) (by omega) hday y' m' dd' hh mi s _ H0 1440 (k + 1) 0 (by omega) (by omega)
      exact ⟨r, e2, h2⟩
theorem rnext_yes {a b c d e : Nat} {f g : Bool} (hr : Rule a b c d e f g) (k : Nat) (t : Int) (h0 : -1 ≤ t) (h1 : t < 32503680000) :
    ∃ r, ticklerref17_Next.f (k + 600000000) a b c d e f g t = some r ∧ From (comesB a b c d e f g) (t + 1).toNat r := by
  obtain ⟨S, hS⟩ : ∃ S : Nat, t + 1 = S := ⟨(t + 1).toNat, by omega⟩
  unfold ticklerref17_Next.f
  rw [show k + 600000000 = (k + 599999900) + 100 by omega, rcheck_is, hr.ok, Option.bind_some, if_pos rfl, if_pos rfl, if_neg (by omega), if_neg (by omega), st_is t S hS h1, sd_is t S hS h1]
  rw [show (t + 1).toNat = S by omega]
  rcases Nat.lt_or_ge (S / 86400) 376200 with c | c
  · obtain ⟨y, m, dd, h⟩ := date_ex (S / 86400) c
    have h' : Date (86400 * (S / 86400) / 86400) y m dd := by rw [show 86400 * (S / 86400) / 86400 = S / 86400 by omega]; exact h
    rw [show k + 599999900 + 100 = (k + 599998900) + 1100 by omega, rsplit_at (k + 599998900) (86400 * (S / 86400)) (by omega) h', Option.bind_some]
    simp only []
    rw [show (86400 * (S / 86400) / 86400 + 4) % 7 = (S / 86400 + 4) % 7 by omega]
    obtain ⟨r, e3, h3⟩ := rnext_l0 hr t S hS (fun n => n * 1500 + 10) (Nat.le_refl _) (fun n => by omega) (376200 - S / 86400) (k + 599998900 + 1100) (S / 86400) y m dd _ _ _ (by omega) (by omega) h
    exact ⟨r, e3, by rw [show max S (86400 * (S / 86400)) = S by omega] at h3; exact h3⟩
  · rw [show k + 599999900 + 100 = (k + 599999900 + 99) + 1 by omega, rsplit_no _ _ (by omega), Option.bind_some, ticklerref17_Next.l0, Cal.w64 (by omega), if_neg (by omega)]
    exact ⟨_, rfl, .inr ⟨rfl, fun i i1 i2 => by omega⟩⟩
theorem rnext_far {a b c d e : Nat} {f g : Bool} (hr : Rule a b c d e f g) (k : Nat) (t : Int) (h : t < -1 ∨ 32503680000 ≤ t) : ticklerref17_Next.f (k + 100) a b c d e f g t = some (0, false, 4) := by
  unfold ticklerref17_Next.f
  rw [rcheck_is, hr.ok, Option.bind_some, if_pos rfl, if_pos rfl]
  by_cases c : t < -1
  · rw [if_pos c]
  · rw [if_neg c, if_pos (by omega)]
theorem rnext_bad {a b c d e : Int} {f g : Bool} (hr : okRule a b c d e f g = false) (k : Nat) (t : Int) : ticklerref17_Next.f (k + 100) a b c d e f g t = some (0, false, 9) := by
  unfold ticklerref17_Next.f
  rw [rcheck_is, hr, Option.bind_some]
  rfl
end Go.Proofs.YtkffmgalmooioaaDoor.Pure
