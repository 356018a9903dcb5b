/- Plain: strings.ReplaceAll of the octet 0 by the octets 0, 255. -/
import Derived.Lib.Replace
import Derived.Lib.ReplaceLaws
import Derived.Lib.CountLaws
namespace Go.Proofs.YtdodfelbejkbiaaDoor.K
open Go
def escD : List UInt8 → List UInt8
  | [] => []
  | c :: t => if c = 0 then 0 :: 255 :: escD t else c :: escD t
theorem index_cons_zero (s : List UInt8) : Lib.index (0 :: s) [0] = 0 := by simp [Lib.index]
theorem index_cons_ne {c : UInt8} (hc : c ≠ 0) (s : List UInt8) : Lib.index (c :: s) [0] = if Lib.index s [0] = -1 then -1 else Lib.index s [0] + 1 := by
  have h : ([0] : List UInt8).isPrefixOf (c :: s) = false := by simp [List.isPrefixOf]; exact fun e => hc e.symm
  rw [Lib.index, h]
  simp
theorem replace_esc : ∀ s : List UInt8, Lib.replaceK [0] [0, 255] (Lib.count s [0]) s = escD s
  | [] => by rw [Lib.count_miss rfl]; rfl
  | c :: s => by
    have ih := replace_esc s
    by_cases hc : c = 0
    · subst hc
      rw [Lib.count_hit (by simp) (index_cons_zero s), Nat.add_comm, Lib.replaceK_hit _ _ _ _ 0 (index_cons_zero s)]
      simp only [List.take_zero, List.nil_append, List.length_cons, List.length_nil, Nat.zero_add, List.drop_succ_cons, List.drop_zero]
      rw [ih, escD, if_pos rfl]
      rfl
    · have hi := index_cons_ne hc s
      rw [escD, if_neg hc]
      by_cases hm : Lib.index s [0] = -1
      · rw [if_pos hm] at hi
        rw [Lib.count_miss hm, Lib.replaceK] at ih
        rw [Lib.count_miss hi, Lib.replaceK, ← ih]
      · rw [if_neg hm] at hi
        have hge := Lib.index_ge s [0]
        obtain ⟨i, hs⟩ : ∃ i : Nat, Lib.index s [0] = i := ⟨(Lib.index s [0]).toNat, by omega⟩
        have hi' : Lib.index (c :: s) [0] = ((i + 1 : Nat) : Int) := by rw [hi, hs]; omega
        rw [Lib.count_hit (by simp) hs, Nat.add_comm, Lib.replaceK_hit _ _ _ _ i hs] at ih
        rw [Lib.count_hit (by simp) hi', Nat.add_comm, Lib.replaceK_hit _ _ _ _ (i + 1) hi']
        simp only [List.length_cons, List.length_nil, Nat.zero_add, List.drop_succ_cons, List.take_succ_cons, List.cons_append] at ih ⊢
        rw [ih]
theorem esc_is (s : List UInt8) : Lib.replaceAll s [0] [0, 255] = escD s := by
  unfold Lib.replaceAll Lib.replace Lib.replaceNum
  rw [if_neg (by decide), if_pos (.inl (by decide))]
  exact replace_esc s
theorem escD_length (s : List UInt8) : (escD s).length ≤ 2 * s.length ∧ s.length ≤ (escD s).length := by
  induction s with
  | nil => simp [escD]
  | cons c s ih =>
    rw [escD]
    split <;> simp only [List.length_cons] <;> omega
end Go.Proofs.YtdodfelbejkbiaaDoor.K
