/- The law of the next coming, in plain arithmetic: it answers true. -/
import Derived.Test.YtkffmgalmooioaaDoorNextr
import Derived.Test.YtkffmgalmooioaaDoorCs5
namespace Go.Proofs.YtkffmgalmooioaaDoor.Pure
open Go.RowKit Go.Proofs.YtkffmgalmooioaaDoor.Cr Go.Proofs.YtkffmgalmooioaaDoor Go.Proofs.YtkffmgalmooioaaDoorW.PrintWords Go.Proofs.YtkffmgalmooioaaDoorW.PrintMore Go.Proofs.YtkffmgalmooioaaDoorW.PrintLast

theorem rfar_k {a b c d e : Nat} {f g : Bool} (hr : Rule a b c d e f g) {k : Nat} (hk : 100 ≤ k) (t : Int) (h : t < -1 ∨ 32503680000 ≤ t) : ticklerref17_Next.f k a b c d e f g t = some (0, false, 4) := by
  obtain ⟨j, rfl⟩ : ∃ j, k = j + 100 := ⟨k - 100, by omega⟩
  exact rnext_far hr j t h
theorem rbad_k {a b c d e : Int} {f g : Bool} (hr : okRule a b c d e f g = false) {k : Nat} (hk : 100 ≤ k) (t : Int) : ticklerref17_Next.f k a b c d e f g t = some (0, false, 9) := by
  obtain ⟨j, rfl⟩ : ∃ j, k = j + 100 := ⟨k - 100, by omega⟩
  exact rnext_bad hr j t
theorem ryes_k {a b c d e : Nat} {f g : Bool} (hr : Rule a b c d e f g) {k : Nat} (hk : 600000000 ≤ k) (t : Int) (h0 : -1 ≤ t) (h1 : t < 32503680000) :
    ∃ r, ticklerref17_Next.f k a b c d e f g t = some r ∧ From (comesB a b c d e f g) (t + 1).toNat r := by
  obtain ⟨j, rfl⟩ : ∃ j, k = j + 600000000 := ⟨k - 600000000, by omega⟩
  exact rnext_yes hr j t h0 h1
theorem law_next {k : Nat} (hk : 600000000 ≤ k) {a b c d e : Nat} (h : Raw a b c d e) (f g : Bool) (t : Int) : ticklerlaw17_CronNext.f k a b c d e f g t = some true := by
  unfold ticklerlaw17_CronNext.f
  have key : ∃ r, cron_Next.f k a b c d e f g t = some r ∧ ticklerref17_Next.f k a b c d e f g t = some r := by
    cases hr : okRule a b c d e f g
    · exact ⟨_, next_bad hr _ t, rbad_k hr (by omega) t⟩
    · have hR := h.rule hr
      by_cases c : t < -1 ∨ 32503680000 ≤ t
      · exact ⟨_, far_k hR (by omega) t c, rfar_k hR (by omega) t c⟩
      · obtain ⟨r, e1, h1⟩ := next_yes hR k (by omega) t (by omega) (by omega)
        obtain ⟨r', e2, h2⟩ := ryes_k hR hk t (by omega) (by omega)
        exact ⟨r, e1, by rw [e2, h2.unique h1]⟩
  obtain ⟨r, e1, e2⟩ := key
  rw [e1, e2]
  simp only [Option.bind_some, beq_self_eq_true, if_true, ticklerlaw17_num.f, ticklerlaw17_alive.f]
end Go.Proofs.YtkffmgalmooioaaDoor.Pure
