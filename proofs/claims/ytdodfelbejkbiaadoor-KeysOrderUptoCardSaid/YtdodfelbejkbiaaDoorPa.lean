/- Plain: what is written is read: texts, numbers, parts, keys. -/
import Derived.Test.YtdodfelbejkbiaaDoorEnc
import Derived.Test.YtdodfelbejkbiaaDoorLess
import Derived.Test.YtdodfelbejkbiaaDoorCmp
namespace Go.Proofs.YtdodfelbejkbiaaDoor.K
open Go Go.RowKit Go.Shelf Go.Proofs.YtdodfelbejkbiaaDoorW.PrintWords Go.Proofs.YtdodfelbejkbiaaDoorW.PrintLast Go.Proofs.YtdodfelbejkbiaaDoorW.PrintMore

/-- a text up to its end, octet by octet: the text, what is left, the error -/
def scan : List UInt8 → List UInt8 → List UInt8 × List UInt8 × Int
  | [], _ => ([], [], 8)
  | c :: t, acc =>
    if c = 0 then
      (match t with
       | [] => ([], [], 8)
       | d :: t' => if d = 1 then (acc, t', 0) else if d = 255 then scan t' (acc ++ [0]) else ([], [], 1))
    else scan t (acc ++ [c])
theorem scan_zero_nil (acc : List UInt8) : scan [0] acc = ([], [], 8) := by rw [scan]; rfl
theorem scan_zero (d : UInt8) (t acc : List UInt8) : scan (0 :: d :: t) acc = if d = 1 then (acc, t, 0) else if d = 255 then scan t (acc ++ [0]) else ([], [], 1) := by rw [scan]; rfl
theorem scan_ne {c : UInt8} (h : c ≠ 0) (t acc : List UInt8) : scan (c :: t) acc = scan t (acc ++ [c]) := by rw [scan.eq_def]; simp only []; rw [if_neg h]
theorem scan_skip : ∀ (p t acc : List UInt8), (∀ b ∈ p, b ≠ 0) → scan (p ++ t) acc = scan t (acc ++ p)
  | [], t, acc, _ => by simp
  | c :: p, t, acc, h => by
    rw [List.cons_append, scan_ne (h c (by simp)), scan_skip p t _ (fun b hb => h b (by simp [hb]))]
    simp
theorem index_free {c : UInt8} : ∀ {l : List UInt8} {k : Nat}, Lib.indexByte l c = k → ∃ p t, l = p ++ c :: t ∧ p.length = k ∧ ∀ b ∈ p, b ≠ c := by
  intro l
  induction l with
  | nil => intro k h; simp [Lib.indexByte] at h
  | cons b l ih =>
    intro k h
    unfold Lib.indexByte at h
    by_cases hb : (b == c) = true
    · rw [if_pos hb] at h
      obtain rfl : b = c := eq_of_beq hb
      exact ⟨[], l, rfl, by simp; omega, by simp⟩
    · rw [if_neg hb] at h
      by_cases hm : (Lib.indexByte l c == -1) = true
      · rw [if_pos hm] at h; omega
      · rw [if_neg hm] at h
        have hge := Lib.indexByte_ge l c
        have hm' : Lib.indexByte l c ≠ -1 := by simpa using hm
        obtain ⟨j, hj⟩ : ∃ j : Nat, Lib.indexByte l c = j := ⟨(Lib.indexByte l c).toNat, by omega⟩
        obtain ⟨p, t, rfl, hp, hn⟩ := ih hj
        refine ⟨b :: p, t, rfl, by simp; omega, fun x hx => ?_⟩
        rcases List.mem_cons.1 hx with rfl | hx
        · simpa using hb
        · exact hn x hx
theorem index_miss {c : UInt8} : ∀ {l : List UInt8}, Lib.indexByte l c = -1 → ∀ b ∈ l, b ≠ c := by
  intro l h b hb e
  subst e
  obtain ⟨k, hk⟩ := List.getElem?_of_mem hb
  exact Lib.indexByte_none h k hk
theorem words_scan : ∀ (f : Nat) (s acc : List UInt8), s.length < f → wordsGo f s acc = scan s acc := by
  intro f
  induction f with
  | zero => intro s acc h; omega
  | succ f ih =>
    intro s acc h
    rcases index_range s 0 with hm | ⟨k, hk, hkl⟩
    · rw [wordsGo, if_pos (.inl (by rw [hm]; decide))]
      have hn := index_miss hm
      have e := scan_skip s [] acc hn
      rw [List.append_nil] at e
      rw [e]
      rfl
    · obtain ⟨p, t, rfl, hp, hn⟩ := index_free hk
      rw [scan_skip p _ acc hn]
      rw [wordsGo, hk]
      cases t with
      | nil =>
        rw [if_pos (.inr (by simp; omega)), scan_zero_nil]
      | cons d t =>
        have hd : (p ++ 0 :: d :: t).getD (k + 1) 0 = d := by
          rw [List.getD_eq_getElem?_getD, List.getElem?_append_right (by omega), show k + 1 - p.length = 1 by omega]
          rfl
        have htk : (p ++ 0 :: d :: t).take k = p := by rw [← hp]; simp
        have hdr : (p ++ 0 :: d :: t).drop (k + 2) = t := by rw [← hp, List.drop_append]; simp
        rw [if_neg (by simp; omega)]
        simp only [Int.toNat_natCast]
        rw [hd, htk, hdr, scan_zero]
        by_cases h1 : d = 1
        · rw [if_pos h1, if_pos h1]
        · rw [if_neg h1, if_neg h1]
          by_cases h2 : d = 255
          · rw [if_pos h2, if_pos h2]
            exact ih t _ (by simp at h; omega)
          · rw [if_neg h2, if_neg h2]
/-- what was written is read -/
theorem scan_esc : ∀ (x t acc : List UInt8), scan (escD x ++ 0 :: 1 :: t) acc = (acc ++ x, t, 0)
  | [], t, acc => by rw [escD, List.nil_append, scan_zero, if_pos rfl, List.append_nil]
  | c :: x, t, acc => by
    by_cases hc : c = 0
    · subst hc
      rw [escD, if_pos rfl, List.cons_append, List.cons_append, scan_zero, if_neg (by decide), if_pos rfl, scan_esc x t]
      simp
    · rw [escD, if_neg hc, List.cons_append, scan_ne hc, scan_esc x t]
      simp
/-- what is read was written -/
theorem scan_back : ∀ (n : Nat) (s acc x t : List UInt8), s.length ≤ n → scan s acc = (x, t, 0) → ∃ y, x = acc ++ y ∧ s = escD y ++ 0 :: 1 :: t := by
  intro n
  induction n with
  | zero =>
    intro s acc x t hl h
    obtain rfl : s = [] := List.eq_nil_of_length_eq_zero (by omega)
    rw [scan] at h
    simp at h
  | succ n ih =>
    intro s acc x t hl h
    cases s with
    | nil => rw [scan] at h; simp at h
    | cons c s =>
      by_cases hc : c = 0
      · subst hc
        cases s with
        | nil => rw [scan_zero_nil] at h; simp at h
        | cons d s =>
          rw [scan_zero] at h
          by_cases h1 : d = 1
          · rw [if_pos h1] at h
            simp only [Prod.mk.injEq, and_true] at h
            obtain ⟨rfl, rfl⟩ := h
            exact ⟨[], by simp, by rw [h1]; rfl⟩
          · rw [if_neg h1] at h
            by_cases h2 : d = 255
            · rw [if_pos h2] at h
              obtain ⟨y, hx, hs⟩ := ih s _ x t (by simp at hl; omega) h
              exact ⟨0 :: y, by rw [hx]; simp, by rw [h2, hs, escD, if_pos rfl]; rfl⟩
            · rw [if_neg h2] at h; simp at h
      · rw [scan_ne hc] at h
        obtain ⟨y, hx, hs⟩ := ih s _ x t (by simp at hl; omega) h
        exact ⟨c :: y, by rw [hx]; simp, by rw [hs, escD, if_neg hc]; rfl⟩
theorem scan_len : ∀ (n : Nat) (s acc : List UInt8), s.length ≤ n → (scan s acc).2.1.length ≤ s.length ∧ (scan s acc).1.length ≤ acc.length + s.length := by
  intro n
  induction n with
  | zero =>
    intro s acc hl
    obtain rfl : s = [] := List.eq_nil_of_length_eq_zero (by omega)
    rw [scan]; simp
  | succ n ih =>
    intro s acc hl
    cases s with
    | nil => rw [scan]; simp
    | cons c s =>
      by_cases hc : c = 0
      · subst hc
        cases s with
        | nil => rw [scan_zero_nil]; simp
        | cons d s =>
          rw [scan_zero]
          split
          · simp; omega
          · split
            · have := ih s (acc ++ [0]) (by simp at hl; omega)
              simp only [List.length_append, List.length_cons, List.length_nil] at this ⊢
              omega
            · simp
      · rw [scan_ne hc]
        have := ih s (acc ++ [c]) (by simp at hl; omega)
        simp only [List.length_append, List.length_cons, List.length_nil] at this ⊢
        omega
end Go.Proofs.YtdodfelbejkbiaaDoor.K
