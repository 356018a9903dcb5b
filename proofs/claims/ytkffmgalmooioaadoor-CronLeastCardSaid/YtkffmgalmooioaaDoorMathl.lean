/- The law of the least coming, in plain arithmetic: it answers true. -/
import Derived.Test.YtkffmgalmooioaaDoorPur
import Derived.Test.YtkffmgalmooioaaDoorCs4
namespace Go.Proofs.YtkffmgalmooioaaDoor.Pure
open Go.RowKit Go.Proofs.YtkffmgalmooioaaDoor.Cr Go.Proofs.YtkffmgalmooioaaDoor Go.Proofs.YtkffmgalmooioaaDoorW.PrintWords Go.Proofs.YtkffmgalmooioaaDoorW.PrintMore Go.Proofs.YtkffmgalmooioaaDoorW.PrintLast

theorem least_at (N i : Nat) (hN : N ≤ 32503680000) (hi : i < 2880) : wrap64 ((N : Int) + wrap64 (60 * (i : Int))) = ((N + 60 * i : Nat) : Int) := by
  rw [Cal.w64 (x := 60 * (i : Int)) (by omega), Cal.w64 (by omega)]; omega
theorem least_first (t : Int) (S : Nat) (hS : t + 1 = S) (h1 : t < 32503680000) : wrap64 (wrap64 (Int.tdiv (wrap64 (t + 60)) 60) * 60) = (((S + 59) / 60 * 60 : Nat) : Int) := by
  rw [Cal.w64 (x := t + 60) (by omega), Cal.td (by omega), Cal.w64 (x := (t + 60) / 60) (by omega), Cal.w64 (by omega)]
  omega
/-- nothing comes at the minutes ahead of the end that is told -/
theorem least_l0 {a b c d e : Nat} {f g : Bool} (hR : Rule a b c d e f g) (N : Nat) (hN : N ≤ 32503680000) (x5 : Int) (x6 : Bool) (hno : ∀ T : Nat, N ≤ T → T < 32503680000 → (x6 = true → (T : Int) < x5) → comesB a b c d e f g T = false) :
    ∀ (n k i : Nat), i + n = 2880 → 2 * n + 10 < k → ticklerlaw17_CronLeast.l0 k x5 x6 (N : Int) (i : Int) a b c d e f g = some true := by
  intro n
  induction n with
  | zero =>
    intro k i hi hk
    obtain ⟨k, rfl⟩ : ∃ j, k = j + 1 := ⟨k - 1, by omega⟩
    rw [ticklerlaw17_CronLeast.l0, if_neg (by omega)]
  | succ n ih =>
    intro k i hi hk
    obtain ⟨k, rfl⟩ : ∃ j, k = j + 4 := ⟨k - 4, by omega⟩
    have hnext := ih (k + 2) (i + 1) (by omega) (by omega)
    have j2y : ∀ y : Int, ticklerlaw17_CronLeast.j2 (k + 3) x5 x6 (N : Int) (i : Int) y true a b c d e f g = some true := fun y => by rw [ticklerlaw17_CronLeast.j2, if_pos rfl]
    have j2n : N + 60 * i < 32503680000 → (x6 = true → ((N + 60 * i : Nat) : Int) < x5) → ticklerlaw17_CronLeast.j2 (k + 3) x5 x6 (N : Int) (i : Int) ((N + 60 * i : Nat) : Int) false a b c d e f g = some true := fun h1 h2 => by
      rw [ticklerlaw17_CronLeast.j2, if_neg (by decide), comes_yes k hR (N + 60 * i) h1, hno (N + 60 * i) (Nat.le_add_right _ _) h1 h2]
      rw [Option.bind_some, if_neg (by decide), ticklerlaw17_num.f, Option.bind_some, if_pos rfl]
      rw [Cal.w64 (x := (i : Int) + 1) (by omega), show (i : Int) + 1 = ((i + 1 : Nat) : Int) by omega]
      exact hnext
    have j2d : (x6 = true → ((N + 60 * i : Nat) : Int) < x5) → ticklerlaw17_CronLeast.j2 (k + 3) x5 x6 (N : Int) (i : Int) ((N + 60 * i : Nat) : Int) (decide (((N + 60 * i : Nat) : Int) ≥ 32503680000)) a b c d e f g = some true := fun h2 => by
      by_cases c : ((N + 60 * i : Nat) : Int) ≥ 32503680000
      · rw [decide_eq_true c]; exact j2y _
      · rw [decide_eq_false c]; exact j2n (by omega) h2
    rw [ticklerlaw17_CronLeast.l0, if_pos (by omega), least_at N i hN (by omega)]
    cases x6
    · rw [if_neg (by decide)]; exact j2d (fun h => by cases h)
    · rw [if_pos rfl]
      by_cases c : ((N + 60 * i : Nat) : Int) ≥ x5
      · rw [if_pos c]; exact j2y _
      · rw [if_neg c]; exact j2d (fun _ => by omega)
theorem least_j0 {a b c d e : Nat} {f g : Bool} (hR : Rule a b c d e f g) {k : Nat} (hk : 10000 ≤ k) (t : Int) (h0 : -1 ≤ t) (h1 : t < 32503680000) (x5 : Int) (x6 : Bool) (hno : ∀ T : Nat, t < T → T < 32503680000 → (x6 = true → (T : Int) < x5) → comesB a b c d e f g T = false) :
    ticklerlaw17_CronLeast.j0 k t x5 x6 a b c d e f g = some true := by
  obtain ⟨k, rfl⟩ : ∃ j, k = j + 1 := ⟨k - 1, by omega⟩
  obtain ⟨S, hS⟩ : ∃ S : Nat, t + 1 = S := ⟨(t + 1).toNat, by omega⟩
  rw [ticklerlaw17_CronLeast.j0, least_first t S hS h1]
  exact least_l0 hR ((S + 59) / 60 * 60) (by omega) x5 x6 (fun T a b => hno T (by omega) b) 2880 k 0 (by omega) (by omega)
theorem law_least {k : Nat} (hk : 600000000 ≤ k) {a b c d e : Nat} (h : Raw a b c d e) (f g : Bool) (t : Int) : ticklerlaw17_CronLeast.f k a b c d e f g t = some true := by
  unfold ticklerlaw17_CronLeast.f
  simp only [ticklerlaw17_num.f, ticklerlaw17_alive.f]
  obtain ⟨j, hj⟩ : ∃ j, k = j + 100 := ⟨k - 100, by omega⟩
  have hchk := rcheck_is j a b c d e f g
  rw [← hj] at hchk
  cases hr : okRule a b c d e f g
  · rw [next_bad hr _ t, hchk, hr]
    rfl
  · have hR := h.rule hr
    by_cases c1 : t < -1 ∨ 32503680000 ≤ t
    · rw [far_k hR (by omega) t c1, hchk, hr]
      simp only [Option.bind_some, if_true, Bool.false_eq_true, if_false]
      by_cases c : t < -1
      · simp [c]
      · simp [c]; omega
    · obtain ⟨r, e1, h1⟩ := next_yes hR k (by omega) t (by omega) (by omega)
      rw [e1]
      rcases h1 with ⟨M, rfl, k1, k2, k3, k4⟩ | ⟨rfl, k1⟩
      · obtain ⟨i, hi⟩ : ∃ i, k = i + 2 := ⟨k - 2, by omega⟩
        have hc : cron_Comes.f k a b c d e f g M = some (true, 0) := by rw [hi, comes_yes i hR M k2, k3]
        have h60 : M % 60 = 0 := by
          rcases Nat.eq_zero_or_pos (M % 60) with c | c
          · exact c
          · rw [comes_min (by omega)] at k3; cases k3
        have hm : Int.tmod (M : Int) 60 = 0 := by rw [Cal.tm (by omega)]; omega
        simp only [Option.bind_some, if_true, hc, hm]
        rw [if_neg (by omega)]
        exact least_j0 hR (by omega) t (by omega) (by omega) M true (fun T a b c => k4 T (by omega) (by have := c rfl; omega))
      · simp only [Option.bind_some, if_true, Bool.false_eq_true, if_false]
        exact least_j0 hR (by omega) t (by omega) (by omega) 0 false (fun T a b c => k1 T (by omega) b)
end Go.Proofs.YtkffmgalmooioaaDoor.Pure
