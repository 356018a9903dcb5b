/- Plain: numbers as octets, and their order. -/
import Derived.Test.YtdodfelbejkbiaaDoorPa
namespace Go.Proofs.YtdodfelbejkbiaaDoor.K
open Go Go.RowKit Go.Shelf Go.Proofs.YtdodfelbejkbiaaDoorW.PrintWords Go.Proofs.YtdodfelbejkbiaaDoorW.PrintLast Go.Proofs.YtdodfelbejkbiaaDoorW.PrintMore

theorem flip_low (x : Nat) (h : x < 2 ^ 63) : x ^^^ 2 ^ 63 = 2 ^ 63 * 1 + x := by
  apply Nat.eq_of_testBit_eq
  intro i
  rw [Nat.testBit_xor, Nat.testBit_two_pow, Nat.testBit_two_pow_mul_add _ h]
  rcases Nat.lt_trichotomy i 63 with hi | rfl | hi
  · rw [if_pos hi]
    simp [show ¬ 63 = i by omega]
  · rw [Nat.testBit_lt_two_pow h]
    simp
  · rw [Nat.testBit_lt_two_pow (Nat.lt_of_lt_of_le h (Nat.pow_le_pow_right (by decide) (by omega))), if_neg (by omega)]
    have e : i - 63 = (i - 64) + 1 := by omega
    rw [e, Nat.testBit_succ]
    simp [show ¬ 63 = i by omega]
theorem flip_is (x : Nat) (h : x < 18446744073709551616) : x ^^^ 9223372036854775808 = if x < 9223372036854775808 then x + 9223372036854775808 else x - 9223372036854775808 := by
  have e : (9223372036854775808 : Nat) = 2 ^ 63 := by decide
  by_cases hx : x < 9223372036854775808
  · rw [if_pos hx]
    have k := flip_low x (by omega)
    rw [← e] at k
    rw [k]
    omega
  · rw [if_neg hx]
    have k := flip_low (x - 9223372036854775808) (by omega)
    rw [← e, show 9223372036854775808 * 1 + (x - 9223372036854775808) = x by omega] at k
    rw [← k, Nat.xor_assoc, Nat.xor_self, Nat.xor_zero]
    omega
/-- a whole number's bounds -/
def I64 (n : Int) : Prop := -9223372036854775808 ≤ n ∧ n < 9223372036854775808
theorem mOf_val {n : Int} (h : I64 n) : (mOf n : Int) = n + 9223372036854775808 := by
  obtain ⟨h1, h2⟩ := h
  rw [← mOf_is]
  have e : IntKind.u64.wrap n = (((n % 18446744073709551616).toNat : Nat) : Int) := by rw [IntKind.wrap_u64]; omega
  have e2 : ((9223372036854775808 : Nat) : Int) = 9223372036854775808 := rfl
  rw [e, ← e2, bits_xor_u64_nat _ _ (by omega) (by decide), flip_is _ (by omega)]
  split <;> omega
theorem mOf_lt {n : Int} (h : I64 n) : mOf n < 18446744073709551616 := by
  have := mOf_val h
  obtain ⟨h1, h2⟩ := h
  omega
theorem val_of (N : Nat) (h : N < 18446744073709551616) : wrap64 (Go.bits .xor .u64 (N : Int) 9223372036854775808) = (N : Int) - 9223372036854775808 := by
  have e2 : ((9223372036854775808 : Nat) : Int) = 9223372036854775808 := rfl
  rw [← e2, bits_xor_u64_nat _ _ h (by decide), flip_is _ h]
  unfold wrap64
  split <;> omega
theorem val_i64 (N : Nat) (h : N < 18446744073709551616) : I64 ((N : Int) - 9223372036854775808) := ⟨by omega, by omega⟩
theorem numFold_octets (M : Nat) (hM : M < 18446744073709551616) : ∀ k, k ≤ 8 → numFold (octets M k) = M / 256 ^ (8 - k) := by
  intro k
  induction k with
  | zero =>
    intro _
    have : (256 : Nat) ^ (8 - 0) = 18446744073709551616 := by decide
    rw [this, Nat.div_eq_of_lt hM]
    rfl
  | succ k ih =>
    intro hk
    rw [octets, numFold_snoc, ih (by omega)]
    have e : 256 ^ (8 - k) = 256 ^ (7 - k) * 256 := by rw [show 8 - k = (7 - k) + 1 by omega, Nat.pow_succ]
    have e2 : 8 - (k + 1) = 7 - k := by omega
    have e3 : (octet M k).toNat = M / 256 ^ (7 - k) % 256 := by unfold octet; rw [UInt8.toNat_ofNat']; omega
    rw [e, e2, e3, ← Nat.div_div_eq_div_mul]
    omega
theorem octets_length (M k : Nat) : (octets M k).length = k := by
  induction k with
  | zero => rfl
  | succ k ih => rw [octets, List.length_append, ih]; rfl
theorem octets_num {M : Nat} (hM : M < 18446744073709551616) : numFold (octets M 8) = M := by rw [numFold_octets M hM 8 (Nat.le_refl _)]; simp
theorem foldl_num (l : List UInt8) : ∀ m : Nat, l.foldl (fun m c => m * 256 + c.toNat) m = m * 256 ^ l.length + numFold l := by
  induction l with
  | nil => intro m; simp [numFold]
  | cons c l ih =>
    intro m
    unfold numFold
    rw [List.foldl_cons, List.foldl_cons, ih, ih, List.length_cons, Nat.pow_succ, Nat.add_mul, Nat.zero_mul, Nat.zero_add, Nat.mul_assoc, Nat.mul_comm 256, Nat.add_assoc]
theorem numFold_cons (c : UInt8) (l : List UInt8) : numFold (c :: l) = c.toNat * 256 ^ l.length + numFold l := by
  have := foldl_num l c.toNat
  unfold numFold at this ⊢
  rw [List.foldl_cons, Nat.zero_mul, Nat.zero_add, this]
theorem numFold_lt' (l : List UInt8) : numFold l < 256 ^ l.length := numFold_lt l.length l rfl
theorem num_order : ∀ (a b : List UInt8), a.length = b.length → numFold a < numFold b → ∀ t t', Op.bytesLess (a ++ t) (b ++ t') = true
  | [], [], _, h, _, _ => absurd h (Nat.lt_irrefl _)
  | [], _ :: _, h, _, _, _ => by simp at h
  | _ :: _, [], h, _, _, _ => by simp at h
  | c :: a, d :: b, hl, h, t, t' => by
    have hl' : a.length = b.length := by simpa using hl
    rw [numFold_cons, numFold_cons, hl'] at h
    have hb := numFold_lt' b
    rw [List.cons_append, List.cons_append, less_cons]
    rcases u8_trichotomy c d with hcd | rfl | hcd
    · simp [hcd]
    · rw [num_order a b hl' (by omega) t t']; simp
    · exfalso
      have h1 : d.toNat + 1 ≤ c.toNat := UInt8.lt_iff_toNat_lt.1 hcd
      have h2 : (d.toNat + 1) * 256 ^ b.length ≤ c.toNat * 256 ^ b.length := Nat.mul_le_mul_right _ h1
      rw [Nat.add_mul] at h2
      omega
theorem num_inj {a b : List UInt8} (hl : a.length = b.length) (h : numFold a = numFold b) : a = b := by
  rcases Nat.lt_trichotomy (numFold a) (numFold b) with h1 | h1 | h1
  · omega
  · clear h1
    induction a generalizing b with
    | nil => exact (List.eq_nil_of_length_eq_zero hl.symm).symm
    | cons c a ih =>
      cases b with
      | nil => simp at hl
      | cons d b =>
        have hl' : a.length = b.length := by simpa using hl
        rw [numFold_cons, numFold_cons, hl'] at h
        have ha := numFold_lt' a
        have hb := numFold_lt' b
        rw [hl'] at ha
        rcases Nat.lt_trichotomy c.toNat d.toNat with g | g | g
        · have h2 : (c.toNat + 1) * 256 ^ b.length ≤ d.toNat * 256 ^ b.length := Nat.mul_le_mul_right _ g
          rw [Nat.add_mul] at h2
          omega
        · obtain rfl : c = d := UInt8.toNat_inj.1 g
          rw [ih hl' (by omega)]
        · have h2 : (d.toNat + 1) * 256 ^ b.length ≤ c.toNat * 256 ^ b.length := Nat.mul_le_mul_right _ g
          rw [Nat.add_mul] at h2
          omega
  · omega
theorem octets_of_num {b : List UInt8} (hb : b.length = 8) : octets (numFold b) 8 = b := by
  have hN : numFold b < 18446744073709551616 := by
    have := numFold_lt' b
    rw [hb] at this
    have e : (256 : Nat) ^ 8 = 18446744073709551616 := by decide
    omega
  exact num_inj (by rw [octets_length, hb]) (octets_num hN)
end Go.Proofs.YtdodfelbejkbiaaDoor.K
