/- The law of the coming, in plain arithmetic: it answers true. -/
import Derived.Test.YtkffmgalmooioaaDoorPur
import Derived.Test.YtkffmgalmooioaaDoorCs7
namespace Go.Proofs.YtkffmgalmooioaaDoor.Pure
open Go.RowKit Go.Proofs.YtkffmgalmooioaaDoor.Cr Go.Proofs.YtkffmgalmooioaaDoor Go.Proofs.YtkffmgalmooioaaDoorW.PrintWords Go.Proofs.YtkffmgalmooioaaDoorW.PrintMore Go.Proofs.YtkffmgalmooioaaDoorW.PrintLast

theorem law_comes (k : Nat) {a b c d e : Nat} (h : Raw a b c d e) (f g : Bool) (t : Int) : ticklerlaw17_CronComes.f (k + 1100) a b c d e f g t = some true := by
  unfold ticklerlaw17_CronComes.f
  have key : ∃ r, cron_Comes.f (k + 1100) a b c d e f g t = some r ∧ ticklerref17_Comes.f (k + 1100) a b c d e f g t = some r := by
    cases hr : okRule a b c d e f g
    · exact ⟨_, comes_bad _ hr t, rcomes_bad (k + 1000) hr t⟩
    · have hR := h.rule hr
      by_cases c : t < 0 ∨ 32503680000 ≤ t
      · exact ⟨_, comes_no (k + 1098) hR t c, rcomes_no k hR t c⟩
      · obtain ⟨T, rfl⟩ := Int.eq_ofNat_of_zero_le (a := t) (by omega)
        exact ⟨_, comes_yes (k + 1098) hR T (by omega), rcomes_yes k hR T (by omega)⟩
  obtain ⟨r, e1, e2⟩ := key
  rw [e1, e2]
  simp only [Option.bind_some, beq_self_eq_true, if_true, ticklerlaw17_num.f, ticklerlaw17_alive.f]
end Go.Proofs.YtkffmgalmooioaaDoor.Pure
