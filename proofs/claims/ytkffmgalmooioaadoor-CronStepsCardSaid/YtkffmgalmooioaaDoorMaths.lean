/- The law of the steps, in plain arithmetic: it answers true. -/
import Derived.Test.YtkffmgalmooioaaDoorPur
import Derived.Test.YtkffmgalmooioaaDoorCs6
namespace Go.Proofs.YtkffmgalmooioaaDoor.Pure
open Go.RowKit Go.Proofs.YtkffmgalmooioaaDoor.Cr Go.Proofs.YtkffmgalmooioaaDoor Go.Proofs.YtkffmgalmooioaaDoorW.PrintWords Go.Proofs.YtkffmgalmooioaaDoorW.PrintMore Go.Proofs.YtkffmgalmooioaaDoorW.PrintLast

theorem law_steps {k : Nat} (hk : 600000000 ≤ k) {a b c d e : Nat} (h : Raw a b c d e) (f g : Bool) (t u : Int) : ticklerlaw17_CronSteps.f k a b c d e f g t u = some true := by
  have hle : mn t u ≤ mx t u := by unfold mn mx; split <;> split <;> omega
  unfold ticklerlaw17_CronSteps.f
  generalize mn t u = p at hle ⊢
  generalize mx t u = q at hle ⊢
  simp only [ticklerlaw17_num.f, ticklerlaw17_alive.f]
  obtain ⟨j, hj⟩ : ∃ j, k = j + 1 := ⟨k - 1, by omega⟩
  have bad : ∀ (r r' : Int × Bool × Int), r.2.1 = false → ticklerlaw17_CronSteps.j0 k q r.1 r.2.1 r'.1 r'.2.1 true = some true := fun r r' hx => by
    rw [hj, ticklerlaw17_CronSteps.j0, if_pos rfl, hx]; rfl
  have bad' : ∀ (r r' : Int × Bool × Int), r'.2.1 = false → ticklerlaw17_CronSteps.j0 k q r.1 r.2.1 r'.1 r'.2.1 true = some true := fun r r' hx => by
    rw [hj, ticklerlaw17_CronSteps.j0, if_pos rfl, hx]; cases r.2.1 <;> rfl
  cases hr : okRule a b c d e f g
  · rw [next_bad hr _ p, next_bad hr _ q]
    exact bad (0, false, 9) (0, false, 9) rfl
  · have hR := h.rule hr
    by_cases c1 : p < -1 ∨ 32503680000 ≤ p
    · rw [far_k hR (by omega) p c1]
      have : ∃ r', cron_Next.f k a b c d e f g q = some r' := by
        by_cases c2 : q < -1 ∨ 32503680000 ≤ q
        · exact ⟨_, far_k hR (by omega) q c2⟩
        · obtain ⟨r', e2, _⟩ := next_yes hR k (by omega) q (by omega) (by omega); exact ⟨_, e2⟩
      obtain ⟨r', e2⟩ := this
      rw [e2]
      exact bad (0, false, 4) r' rfl
    · obtain ⟨r, e1, h1⟩ := next_yes hR k (by omega) p (by omega) (by omega)
      rw [e1]
      have hr3 : r.2.2 = 0 := by rcases h1 with ⟨M, rfl, _⟩ | ⟨rfl, _⟩ <;> rfl
      by_cases c2 : q < -1 ∨ 32503680000 ≤ q
      · rw [far_k hR (by omega) q c2]
        simp only [Option.bind_some, hr3, if_true]
        exact bad' r (0, false, 4) rfl
      · obtain ⟨r', e2, h2⟩ := next_yes hR k (by omega) q (by omega) (by omega)
        have hr4 : r'.2.2 = 0 := by rcases h2 with ⟨M, rfl, _⟩ | ⟨rfl, _⟩ <;> rfl
        rw [e2]
        simp only [Option.bind_some, hr3, hr4, if_true]
        rw [hj, ticklerlaw17_CronSteps.j0, if_neg (by decide)]
        rcases h1 with ⟨M, rfl, k1, k2, k3, k4⟩ | ⟨rfl, k1⟩
        · rcases h2 with ⟨N, rfl, l1, l2, l3, l4⟩ | ⟨rfl, l1⟩
          · simp only [if_true]
            have hMN : ¬ (N < M) := fun hlt => by rw [k4 N (by omega) hlt] at l3; cases l3
            rw [if_neg (by omega)]
            by_cases c3 : q < (M : Int)
            · rw [if_pos c3]
              have : M = N := by
                rcases Nat.lt_or_ge M N with c | c
                · rw [l4 M (by omega) c] at k3; cases k3
                · omega
              rw [if_pos (by omega)]
            · rw [if_neg c3]
          · simp only [Bool.false_eq_true, if_false, if_true]
            congr 1
            rw [decide_eq_true_eq]
            by_cases c : q < (M : Int)
            · rw [l1 M (by omega) k2] at k3; cases k3
            · omega
        · rcases h2 with ⟨N, rfl, l1, l2, l3, l4⟩ | ⟨rfl, l1⟩
          · rw [k1 N (by omega) l2] at l3; cases l3
          · rfl
end Go.Proofs.YtkffmgalmooioaaDoor.Pure
