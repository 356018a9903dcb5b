/- Plain: what was written is read, what is read was written. -/
import Derived.Test.YtdodfelbejkbiaaDoorPf
namespace Go.Proofs.YtdodfelbejkbiaaDoor.K
open Go Go.RowKit Go.Shelf Go.Proofs.YtdodfelbejkbiaaDoorW.PrintWords Go.Proofs.YtdodfelbejkbiaaDoorW.PrintLast Go.Proofs.YtdodfelbejkbiaaDoorW.PrintMore

theorem octets_nine (n : Int) : (octets (mOf n) 8).length = 8 := octets_length _ 8
theorem bytes_nil {b : ByteArray} (h : b.toList = []) : b = ⟨#[]⟩ := by
  rw [Lib.toList_data] at h
  obtain ⟨⟨l⟩⟩ := b
  simp at h
  rw [h]
theorem get_enc (p : S44) (hp : badP p = false) (hi : I64 p.f1) (rest : List UInt8) : getL (encPart p ++ rest) = (p, rest, 0) := by
  rw [encPart_is]
  obtain ⟨f, n, t⟩ := p
  cases f with
  | true =>
    have ht := bytes_nil (good_num hp rfl)
    simp only at ht hi
    subst ht
    have ho := octets_nine n
    rw [if_pos rfl]
    unfold getL
    have h0 : (17 :: octets (mOf n) 8 ++ rest).getD 0 0 = 17 := rfl
    simp only at h0 ⊢
    rw [if_pos h0, if_neg (by simp only [List.length_cons, List.length_append]; omega)]
    have h1 : ((17 :: octets (mOf n) 8 ++ rest).drop 1).take 8 = octets (mOf n) 8 := by
      rw [List.cons_append, List.drop_succ_cons, List.drop_zero]
      exact List.take_left' ho
    have h2 : (17 :: octets (mOf n) 8 ++ rest).drop 9 = rest := by
      rw [List.cons_append, List.drop_succ_cons]
      exact List.drop_left' ho
    rw [h1, h2, octets_num (mOf_lt hi), mOf_val hi]
    congr 2
    omega
  | false =>
    have hn := good_text hp rfl
    simp only at hn
    subst hn
    rw [if_neg Bool.false_ne_true]
    unfold getL
    have h0 : (34 :: (escD t.data.toList ++ [0, 1]) ++ rest).getD 0 0 = 34 := rfl
    have h1 : (34 :: (escD t.data.toList ++ [0, 1]) ++ rest).drop 1 = escD t.data.toList ++ 0 :: 1 :: rest := by simp
    simp only at h0 h1 ⊢
    rw [h0, if_neg (by decide), if_pos rfl, h1, scan_esc]
    rfl
theorem encPart_ne (p : S44) : encPart p ≠ [] := by
  rw [encPart_is]
  split <;> simp
theorem encPart_pos (p : S44) : 0 < (encPart p).length := List.length_pos_iff.2 (encPart_ne p)
theorem decGo_nil (f : Nat) (acc : List S44) (h : acc.length ≤ 8) : decGo (f + 1) [] acc = (acc, 0) := by
  simp only [decGo]
  rw [if_pos trivial, if_neg (by omega)]
theorem decGo_step (f : Nat) (s : List UInt8) (acc : List S44) {p : S44} {r : List UInt8} (hs : s ≠ []) (h : getL s = (p, r, 0)) : decGo (f + 1) s acc = decGo f r (acc ++ [p]) := by
  simp only [decGo]
  rw [if_neg hs, if_pos (by rw [h]), h]
theorem dec_enc : ∀ (l acc : List S44) (f : Nat), (∀ p ∈ l, badP p = false ∧ I64 p.f1) → acc.length + l.length ≤ 8 → (encL l).length < f → decGo f (encL l) acc = (acc ++ l, 0)
  | [], acc, 0, _, _, h => by omega
  | [], acc, f + 1, _, h8, _ => by
    rw [encL, decGo_nil f acc (by simp only [List.length_nil] at h8; omega), List.append_nil]
  | p :: l, acc, 0, _, _, h => by omega
  | p :: l, acc, f + 1, hg, h8, hf => by
    obtain ⟨h1, h2⟩ := hg p (by simp)
    have hpos := encPart_pos p
    rw [encL, List.length_append] at hf
    rw [encL, decGo_step f _ acc (fun e => encPart_ne p (List.append_eq_nil_iff.1 e).1) (get_enc p h1 h2 (encL l))]
    have := dec_enc l (acc ++ [p]) f (fun q hq => hg q (by simp [hq])) (by simp only [List.length_append, List.length_cons, List.length_nil] at h8 ⊢; omega) (by omega)
    rw [List.append_assoc, List.singleton_append] at this
    exact this
theorem getL_num (t : List UInt8) : getL (17 :: t) = if (17 :: t : List UInt8).length < 9 then (z44, [], 8) else (⟨true, (numFold (t.take 8) : Int) - 9223372036854775808, ⟨#[]⟩⟩, t.drop 8, 0) := by
  unfold getL
  rw [if_pos (by rfl), List.drop_succ_cons, List.drop_zero, List.drop_succ_cons]
theorem getL_text (t : List UInt8) : getL (34 :: t) = (⟨false, 0, ⟨(scan t []).1.toArray⟩⟩, (scan t []).2.1, (scan t []).2.2) := by
  unfold getL
  rw [if_neg (by rw [List.getD_cons_zero]; decide), if_pos (by rfl), List.drop_succ_cons, List.drop_zero]
theorem getL_else {c : UInt8} (t : List UInt8) (h1 : c ≠ 17) (h2 : c ≠ 34) : getL (c :: t) = (z44, [], 22) := by
  unfold getL
  rw [if_neg (by rw [List.getD_cons_zero]; exact h1), if_neg (by rw [List.getD_cons_zero]; exact h2)]
theorem bad_num (n : Int) : badP ⟨true, n, ⟨#[]⟩⟩ = false := by
  unfold badP
  simp only [Lib.toList_data]
  rfl
theorem bad_text (t : ByteArray) : badP ⟨false, 0, t⟩ = false := by
  unfold badP
  simp
theorem get_back {s : List UInt8} {p : S44} {r : List UInt8} (hne : s ≠ []) (h : getL s = (p, r, 0)) : s = encPart p ++ r ∧ badP p = false ∧ p.f2.size ≤ s.length ∧ r.length ≤ s.length := by
  obtain ⟨c, t, rfl⟩ := List.exists_cons_of_ne_nil hne
  by_cases h1 : c = 17
  · subst h1
    rw [getL_num] at h
    by_cases h9 : (17 :: t : List UInt8).length < 9
    · rw [if_pos h9] at h
      simp at h
    · rw [if_neg h9, Prod.mk.injEq, Prod.mk.injEq] at h
      obtain ⟨rfl, rfl, _⟩ := h
      have hl8 : (t.take 8).length = 8 := by rw [List.length_take]; simp only [List.length_cons] at h9; omega
      have hlt : numFold (t.take 8) < 18446744073709551616 := by have := numFold_lt' (t.take 8); rw [hl8] at this; exact this
      have hm : mOf ((numFold (t.take 8) : Int) - 9223372036854775808) = numFold (t.take 8) := by
        have := mOf_val (val_i64 _ hlt)
        omega
      refine ⟨?_, bad_num _, Nat.zero_le _, by rw [List.length_drop, List.length_cons]; omega⟩
      rw [encPart_is, if_pos rfl]
      simp only [hm]
      rw [octets_of_num hl8, List.cons_append, List.take_append_drop]
  · by_cases h2 : c = 34
    · subst h2
      rw [getL_text, Prod.mk.injEq, Prod.mk.injEq] at h
      obtain ⟨rfl, rfl, hz⟩ := h
      obtain ⟨y, hy, hs⟩ := scan_back t.length t [] (scan t []).1 (scan t []).2.1 (Nat.le_refl _) (by rw [← hz])
      have hlen := scan_len t.length t [] (Nat.le_refl _)
      simp only [List.length_nil, Nat.zero_add] at hlen
      refine ⟨?_, bad_text _, ?_, by rw [List.length_cons]; omega⟩
      · rw [encPart_is, if_neg Bool.false_ne_true]
        rw [List.nil_append] at hy
        rw [← hy] at hs
        show (34 :: t : List UInt8) = 34 :: (escD (scan t []).1.toArray.toList ++ [0, 1]) ++ (scan t []).2.1
        rw [List.cons_append]
        congr 1
        rw [List.append_assoc]
        exact hs
      · show (scan t []).1.toArray.size ≤ _
        rw [List.size_toArray, List.length_cons]
        omega
    · rw [getL_else t h1 h2] at h
      simp at h
theorem dec_back : ∀ (f : Nat) (s : List UInt8) (acc D : List S44), decGo f s acc = (D, 0) → ∃ y, D = acc ++ y ∧ s = encL y ∧ D.length ≤ 8 ∧ ∀ p ∈ y, badP p = false ∧ p.f2.size ≤ s.length
  | 0, s, acc, D, h => by simp [decGo] at h
  | f + 1, s, acc, D, h => by
    simp only [decGo] at h
    by_cases hs : s = []
    · rw [if_pos hs] at h
      by_cases h8 : 8 < acc.length
      · rw [if_pos h8] at h; simp at h
      · rw [if_neg h8, Prod.mk.injEq] at h
        exact ⟨[], by rw [List.append_nil]; exact h.1.symm, by rw [hs]; rfl, by rw [← h.1]; omega, fun p hp => absurd hp (by simp)⟩
    · rw [if_neg hs] at h
      by_cases hz : (getL s).2.2 = 0
      · rw [if_pos hz] at h
        obtain ⟨y, h1, h2, h3, h4⟩ := dec_back f _ _ _ h
        obtain ⟨g1, g2, g3, g4⟩ := get_back hs (show getL s = ((getL s).1, (getL s).2.1, 0) by rw [← hz])
        refine ⟨(getL s).1 :: y, by rw [h1]; simp, by rw [encL, ← h2]; exact g1, h3, fun p hp => ?_⟩
        rcases List.mem_cons.1 hp with rfl | hp
        · exact ⟨g2, g3⟩
        · exact ⟨(h4 p hp).1, Nat.le_trans (h4 p hp).2 g4⟩
      · rw [if_neg hz, Prod.mk.injEq] at h
        exact absurd h.2 hz
theorem dec_none : ∀ (f : Nat) (s : List UInt8) (acc : List S44), (decGo f s acc).2 ≠ 0 → (decGo f s acc).1 = []
  | 0, _, _, _ => by simp [decGo]
  | f + 1, s, acc, h => by
    simp only [decGo] at h ⊢
    by_cases hs : s = []
    · rw [if_pos hs] at h ⊢
      by_cases h8 : 8 < acc.length
      · rw [if_pos h8]
      · rw [if_neg h8] at h; exact absurd rfl h
    · rw [if_neg hs] at h ⊢
      by_cases hz : (getL s).2.2 = 0
      · rw [if_pos hz] at h ⊢
        exact dec_none f _ _ h
      · rw [if_neg hz]
theorem good_check {l : List S44} (h8 : l.length ≤ 8) (hg : ∀ p ∈ l, badP p = false) : checkL l = 0 := by
  unfold checkL
  rw [if_neg (by omega), if_neg]
  intro h
  obtain ⟨p, hp, hb⟩ := List.any_eq_true.1 h
  rw [hg p hp] at hb
  cases hb
theorem all_good {l : List S52} (hz : checkL (l.map to44) = 0) (hi : ∀ p ∈ l, I64 p.f1) : ∀ p ∈ l.map to44, badP p = false ∧ I64 p.f1 := fun p hp => by
  refine ⟨check_good hz p hp, ?_⟩
  obtain ⟨q, hq, rfl⟩ := List.mem_map.1 hp
  exact hi q hq
theorem enc_len {l : List S52} (hz : checkL (l.map to44) = 0) (hb : bulkL l ≤ 1048576) : (encL (l.map to44)).length ≤ 33554456 := by
  have h8 := check_eight hz
  have h := encL_length (l.map to44) (fun p hp => by
    obtain ⟨q, hq, rfl⟩ := List.mem_map.1 hp
    exact small_of hb q hq)
  omega
theorem enc_small {l : List S52} (hz : checkL (l.map to44) = 0) (hb : bulkL l ≤ 1048576) : keys_Encode.f (l.map to44) = some (⟨(encL (l.map to44)).toArray⟩, 0) :=
  small_check _ hz (fun p hp => by
    obtain ⟨q, hq, rfl⟩ := List.mem_map.1 hp
    exact small_of hb q hq)
end Go.Proofs.YtdodfelbejkbiaaDoor.K
