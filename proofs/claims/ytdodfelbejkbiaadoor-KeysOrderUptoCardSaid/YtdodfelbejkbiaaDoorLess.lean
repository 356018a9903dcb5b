/- Plain: the order of octets' lists. -/
import GoSem.Op.String
namespace Go.Proofs.YtdodfelbejkbiaaDoor.K
open Go
theorem u8_trichotomy (a b : UInt8) : a < b ∨ a = b ∨ b < a := by
  rcases Nat.lt_trichotomy a.toNat b.toNat with h | h | h
  · exact .inl (UInt8.lt_iff_toNat_lt.2 h)
  · exact .inr (.inl (UInt8.toNat_inj.1 h))
  · exact .inr (.inr (UInt8.lt_iff_toNat_lt.2 h))
theorem u8_irrefl (a : UInt8) : ¬ a < a := fun h => Nat.lt_irrefl _ (UInt8.lt_iff_toNat_lt.1 h)
theorem less_cons (a b : UInt8) (x y : List UInt8) : Op.bytesLess (a :: x) (b :: y) = (decide (a < b) || (a == b && Op.bytesLess x y)) := rfl
theorem less_nil (x : List UInt8) : Op.bytesLess x [] = false := by cases x <;> rfl
theorem less_irrefl : ∀ x : List UInt8, Op.bytesLess x x = false
  | [] => rfl
  | a :: x => by rw [less_cons, less_irrefl x]; simp
theorem less_total : ∀ x y : List UInt8, Op.bytesLess x y = false → Op.bytesLess y x = false → x = y
  | [], [], _, _ => rfl
  | [], b :: y, h, _ => by cases h
  | a :: x, [], _, h => by cases h
  | a :: x, b :: y, h1, h2 => by
    rw [less_cons] at h1 h2
    rcases u8_trichotomy a b with h | rfl | h
    · simp [h] at h1
    · simp at h1 h2
      rw [less_total x y h1 h2]
    · simp [h] at h2
theorem less_ne {x y : List UInt8} (h : Op.bytesLess y x = true) : (x == y) = false := by
  rw [beq_eq_false_iff_ne]
  rintro rfl
  rw [less_irrefl] at h
  cases h
theorem less_eq {x y : List UInt8} (h1 : Op.bytesLess x y = false) (h2 : Op.bytesLess y x = false) : (x == y) = true := by rw [less_total x y h1 h2]; exact beq_self_eq_true y
theorem less_append (p : List UInt8) : ∀ x y : List UInt8, Op.bytesLess (p ++ x) (p ++ y) = Op.bytesLess x y := by
  intro x y
  induction p with
  | nil => rfl
  | cons a p ih => rw [List.cons_append, List.cons_append, less_cons, ih]; simp
theorem less_asymm : ∀ {x y : List UInt8}, Op.bytesLess x y = true → Op.bytesLess y x = false
  | [], [], h => by cases h
  | [], b :: y, _ => rfl
  | a :: x, [], h => by cases h
  | a :: x, b :: y, h => by
    rw [less_cons] at h ⊢
    rcases u8_trichotomy a b with hab | rfl | hab
    · have h1 : ¬ b < a := fun k => Nat.lt_asymm (UInt8.lt_iff_toNat_lt.1 hab) (UInt8.lt_iff_toNat_lt.1 k)
      have h2 : ¬ b = a := by rintro rfl; exact u8_irrefl _ hab
      simp [h1, h2]
    · simp at h ⊢
      exact less_asymm h
    · have h1 : ¬ a < b := fun k => Nat.lt_asymm (UInt8.lt_iff_toNat_lt.1 hab) (UInt8.lt_iff_toNat_lt.1 k)
      have h2 : ¬ a = b := by rintro rfl; exact u8_irrefl _ hab
      simp [h1, h2] at h
/-- apart at some place: there the order is decided, whatever follows -/
theorem less_split (p : List UInt8) {a b : UInt8} (x y : List UInt8) (h : a < b) : Op.bytesLess (p ++ a :: x) (p ++ b :: y) = true ∧ Op.bytesLess (p ++ b :: y) (p ++ a :: x) = false := by
  have h1 : Op.bytesLess (p ++ a :: x) (p ++ b :: y) = true := by rw [less_append, less_cons]; simp [h]
  exact ⟨h1, less_asymm h1⟩
theorem less_begin (p : List UInt8) {x : List UInt8} (h : x ≠ []) : Op.bytesLess p (p ++ x) = true ∧ Op.bytesLess (p ++ x) p = false := by
  cases x with
  | nil => exact absurd rfl h
  | cons a x =>
    have e := less_append p [] (a :: x)
    rw [List.append_nil] at e
    have h1 : Op.bytesLess p (p ++ a :: x) = true := by rw [e]; rfl
    exact ⟨h1, less_asymm h1⟩
end Go.Proofs.YtdodfelbejkbiaaDoor.K
