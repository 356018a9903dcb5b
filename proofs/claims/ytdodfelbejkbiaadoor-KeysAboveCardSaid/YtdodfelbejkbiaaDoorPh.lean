/- Plain: the law of what is above. -/
import Derived.Test.YtdodfelbejkbiaaDoorPe
namespace Go.Proofs.YtdodfelbejkbiaaDoor.K
open Go Go.RowKit Go.Shelf Go.Proofs.YtdodfelbejkbiaaDoorW.PrintWords Go.Proofs.YtdodfelbejkbiaaDoorW.PrintLast Go.Proofs.YtdodfelbejkbiaaDoorW.PrintMore

theorem take_one (l : List UInt8) (n : Nat) (h : n < l.length) : l.take (n + 1) = l.take n ++ [l.getD n 0] := by
  rw [List.take_succ_eq_append_getElem h]
  simp [List.getD_eq_getElem?_getD, h]
theorem above_some (l : List UInt8) : ∀ (n : Nat) (u : List UInt8), n ≤ l.length → aboveGo l n = some u → ∃ p c q, l.take n = p ++ c :: q ∧ c ≠ 255 ∧ u = p ++ [c + 1] ∧ ∀ b ∈ q, b = 255 := by
  intro n
  induction n with
  | zero => intro u _ h; simp [aboveGo] at h
  | succ n ih =>
    intro u hn h
    simp only [aboveGo] at h
    rw [take_one l n (by omega)]
    by_cases hc : l.getD n 0 = 255
    · rw [if_pos hc] at h
      obtain ⟨p, c, q, h1, h2, h3, h4⟩ := ih u (by omega) h
      refine ⟨p, c, q ++ [l.getD n 0], by rw [h1]; simp, h2, h3, fun b hb => ?_⟩
      rcases List.mem_append.1 hb with hb | hb
      · exact h4 b hb
      · rw [List.mem_singleton] at hb; rw [hb, hc]
    · rw [if_neg hc] at h
      exact ⟨l.take n, l.getD n 0, [], rfl, hc, (Option.some.inj h).symm, fun b hb => absurd hb (by simp)⟩
theorem above_none (l : List UInt8) : ∀ (n : Nat), aboveGo l n = none → ∀ i, i < n → l.getD i 0 = 255 := by
  intro n
  induction n with
  | zero => intro _ i hi; omega
  | succ n ih =>
    intro h i hi
    simp only [aboveGo] at h
    by_cases hc : l.getD n 0 = 255
    · rw [if_pos hc] at h
      by_cases hin : i = n
      · rw [hin]; exact hc
      · exact ih h i (by omega)
    · rw [if_neg hc] at h; cases h
theorem u8_step {c : UInt8} (h : c ≠ 255) : c < c + 1 := by
  rw [UInt8.lt_iff_toNat_lt, UInt8.toNat_add]
  have h2 := UInt8.toNat_lt c
  have h3 : c.toNat ≠ 255 := fun e => h (UInt8.toNat_inj.1 (by rw [e]; rfl))
  have e : (1 : UInt8).toNat = 1 := rfl
  rw [e]
  omega
theorem u8_between {b c : UInt8} (hc : c ≠ 255) (h1 : ¬ b < c) (h2 : b < c + 1) : b = c := by
  rw [UInt8.lt_iff_toNat_lt] at h1 h2
  rw [UInt8.toNat_add] at h2
  have h4 := UInt8.toNat_lt c
  have h3 : c.toNat ≠ 255 := fun e => hc (UInt8.toNat_inj.1 (by rw [e]; rfl))
  have e : (1 : UInt8).toNat = 1 := rfl
  rw [e] at h2
  exact UInt8.toNat_inj.1 (by omega)
theorem begins_ff : ∀ (q t : List UInt8), (∀ b ∈ q, b = 255) → Op.bytesLess t q = false → ∃ z, t = q ++ z
  | [], t, _, _ => ⟨t, rfl⟩
  | a :: q, [], _, h => by simp [Op.bytesLess] at h
  | a :: q, b :: t, hq, h => by
    have ha : a = 255 := hq a (by simp)
    subst ha
    rw [less_cons, Bool.or_eq_false_iff] at h
    have hb : b = 255 := by
      rcases u8_trichotomy b 255 with h1 | h1 | h1
      · exact absurd h1 (of_decide_eq_false h.1)
      · exact h1
      · rw [UInt8.lt_iff_toNat_lt] at h1
        have h2 := UInt8.toNat_lt b
        have e : (255 : UInt8).toNat = 255 := rfl
        omega
    subst hb
    have h2 := h.2
    rw [beq_self_eq_true, Bool.true_and] at h2
    obtain ⟨z, rfl⟩ := begins_ff q t (fun b hb => hq b (by simp [hb])) h2
    exact ⟨z, rfl⟩
theorem begins (c : UInt8) (q : List UInt8) (hc : c ≠ 255) (hq : ∀ b ∈ q, b = 255) : ∀ (p t : List UInt8), Op.bytesLess t (p ++ c :: q) = false → Op.bytesLess t (p ++ [c + 1]) = true → ∃ z, t = p ++ c :: q ++ z
  | [], [], h, _ => by simp [Op.bytesLess] at h
  | [], b :: t, h, h' => by
    rw [List.nil_append, less_cons, Bool.or_eq_false_iff] at h
    rw [List.nil_append, less_cons, less_nil, Bool.and_false, Bool.or_false] at h'
    have hb : b = c := u8_between hc (of_decide_eq_false h.1) (of_decide_eq_true h')
    subst hb
    have h2 := h.2
    rw [beq_self_eq_true, Bool.true_and] at h2
    obtain ⟨z, rfl⟩ := begins_ff q t hq h2
    exact ⟨z, rfl⟩
  | a :: p, [], h, _ => by simp [Op.bytesLess] at h
  | a :: p, b :: t, h, h' => by
    rw [List.cons_append, less_cons] at h h'
    rw [Bool.or_eq_false_iff] at h
    rw [h.1, Bool.false_or, Bool.and_eq_true] at h'
    have hb : b = a := eq_of_beq h'.1
    subst hb
    have h2 := h.2
    rw [beq_self_eq_true, Bool.true_and] at h2
    obtain ⟨z, rfl⟩ := begins c q hc hq p t h2 h'.2
    exact ⟨z, rfl⟩
theorem all_ff (s x : ByteArray) (hs : s.size ≤ 140737488351232) (h : ∀ i, i < s.size → s.data.toList.getD i 0 = 255) : ∀ (d k n : Nat), n + d = s.size → d < k → ticklerlaw02_KeysAbove.l0 k s x (n : Int) = some (x.toList == ([] : List UInt8)) := by
  intro d
  induction d with
  | zero =>
    intro k n hn hk
    obtain ⟨k, rfl⟩ : ∃ m, k = m + 1 := ⟨k - 1, by omega⟩
    simp only [ticklerlaw02_KeysAbove.l0]
    rw [if_neg (by omega)]
  | succ d ih =>
    intro k n hn hk
    obtain ⟨k, rfl⟩ : ∃ m, k = m + 1 := ⟨k - 1, by omega⟩
    simp only [ticklerlaw02_KeysAbove.l0]
    rw [if_pos (by omega), if_pos (by omega), bt_at, if_pos (u8_ff.2 (h n (by omega))), w_one (by omega)]
    exact ih k (n + 1) (by omega) (by omega)
theorem less_prefix (l z : List UInt8) : Op.bytesLess (l ++ z) l = false := by
  cases z with
  | nil => rw [List.append_nil]; exact less_irrefl l
  | cons a z => exact (less_begin l (by simp)).2
theorem append_list (a b : ByteArray) : (a ++ b).data.toList = a.data.toList ++ b.data.toList := by simp
theorem law_above (a b t : ByteArray) (ha : a.size ≤ 140737488351232) (hb : b.size ≤ 140737488351232) : ticklerlaw02_KeysAbove.f (a.size + 1) a b t = some true := by
  have zl : a.data.toList.length = a.size := by simp
  have zt : t.data.toList.length = t.size := by simp
  unfold ticklerlaw02_KeysAbove.f keys_Above.f
  rw [alive_true, if_pos ha]
  simp only [Option.bind_some, if_true, Lib.toList_data, append_list, extract_list]
  cases hu : aboveGo a.data.toList a.size with
  | none =>
    simp only []
    rw [if_neg (by decide)]
    exact (all_ff a (⟨#[]⟩ : ByteArray) ha (above_none _ _ hu) a.size (a.size + 1) 0 (by omega) (by omega)).trans (by rw [Lib.toList_data]; rfl)
  | some u =>
    obtain ⟨p, c, q, h1, h2, h3, h4⟩ := above_some a.data.toList a.size u (by omega) hu
    rw [List.take_of_length_le (by omega)] at h1
    have low : ∀ z, Op.bytesLess (a.data.toList ++ z) u = true := fun z => by
      rw [h1, h3, List.append_assoc]
      exact (less_split p (q ++ z) [] (u8_step h2)).1
    have low0 : Op.bytesLess a.data.toList u = true := by have := low []; rwa [List.append_nil] at this
    have fits : ∀ x, Op.bytesLess x a.data.toList = false → Op.bytesLess x u = true → ∃ z, x = a.data.toList ++ z := fun x hx hy => by
      rw [h1] at hx ⊢
      rw [h3] at hy
      exact begins c q h2 h4 p x hx hy
    simp only []
    rw [if_pos trivial, if_pos (by omega), if_pos (low _), if_pos low0]
    have en : ((a.size : Int)).toNat = a.size := by omega
    rw [en]
    by_cases hsz : (t.size : Int) ≥ (a.size : Int)
    · rw [if_pos hsz, if_pos (by omega), if_pos (by omega)]
      cases hl : Op.bytesLess t.data.toList a.data.toList with
      | true =>
        rw [if_pos rfl]
        have hne : (t.data.toList.take a.size == a.data.toList) = false := by
          rw [beq_eq_false_iff_ne]
          intro e
          have e2 : t.data.toList = a.data.toList ++ t.data.toList.drop a.size := by
            conv => lhs; rw [← List.take_append_drop a.size t.data.toList, e]
          rw [e2, less_prefix] at hl
          cases hl
        rw [hne]; rfl
      | false =>
        rw [if_neg (by decide)]
        cases hv : Op.bytesLess t.data.toList u with
        | true =>
          obtain ⟨z, hz⟩ := fits _ hl hv
          have : t.data.toList.take a.size = a.data.toList := by rw [hz, ← zl]; simp
          rw [this, beq_self_eq_true]; rfl
        | false =>
          have hne : (t.data.toList.take a.size == a.data.toList) = false := by
            rw [beq_eq_false_iff_ne]
            intro e
            have e2 : t.data.toList = a.data.toList ++ t.data.toList.drop a.size := by
              conv => lhs; rw [← List.take_append_drop a.size t.data.toList, e]
            rw [e2, low] at hv
            cases hv
          rw [hne]; rfl
    · rw [if_neg hsz]
      cases hl : Op.bytesLess t.data.toList a.data.toList with
      | true => rw [if_pos rfl]; rfl
      | false =>
        rw [if_neg (by decide)]
        cases hv : Op.bytesLess t.data.toList u with
        | true =>
          obtain ⟨z, hz⟩ := fits _ hl hv
          have := congrArg List.length hz
          rw [List.length_append] at this
          omega
        | false => rfl
end Go.Proofs.YtdodfelbejkbiaaDoor.K
