/- Plain: the law of the order: keys stand as their parts do. -/
import Derived.Test.YtdodfelbejkbiaaDoorPk
import Derived.Test.YtdodfelbejkbiaaDoorKx11
namespace Go.Proofs.YtdodfelbejkbiaaDoor.K
open Go Go.RowKit Go.Shelf Go.Proofs.YtdodfelbejkbiaaDoorW.PrintWords Go.Proofs.YtdodfelbejkbiaaDoorW.PrintLast Go.Proofs.YtdodfelbejkbiaaDoorW.PrintMore

theorem u8_above_zero {c : UInt8} (h : c ≠ 0) : 0 < c := by
  rcases u8_trichotomy 0 c with h1 | h1 | h1
  · exact h1
  · exact absurd h1.symm h
  · rw [UInt8.lt_iff_toNat_lt] at h1
    have e : (0 : UInt8).toNat = 0 := rfl
    omega
theorem less_head {a b : UInt8} (x y : List UInt8) (h : a < b) : Op.bytesLess (a :: x) (b :: y) = true := by
  rw [less_cons, decide_eq_true h, Bool.true_or]
theorem less_same (a : UInt8) (x y : List UInt8) : Op.bytesLess (a :: x) (a :: y) = Op.bytesLess x y := by
  rw [less_cons, decide_eq_false (u8_irrefl a), Bool.false_or, beq_self_eq_true, Bool.true_and]
theorem text_order : ∀ (x y : List UInt8), Op.bytesLess x y = true → ∀ t t', Op.bytesLess (escD x ++ 0 :: 1 :: t) (escD y ++ 0 :: 1 :: t') = true
  | x, [], h, _, _ => by rw [less_nil] at h; cases h
  | [], d :: y, _, t, t' => by
    by_cases hd : d = 0
    · subst hd
      rw [escD, escD, if_pos rfl, List.nil_append, List.cons_append, less_same, List.cons_append]
      exact less_head _ _ (by decide)
    · rw [escD, escD, if_neg hd, List.nil_append, List.cons_append]
      exact less_head _ _ (u8_above_zero hd)
  | c :: x, d :: y, h, t, t' => by
    rw [less_cons, Bool.or_eq_true] at h
    rcases h with h | h
    · have h := of_decide_eq_true h
      have hd : d ≠ 0 := fun e => by
        subst e
        rw [UInt8.lt_iff_toNat_lt] at h
        have e : (0 : UInt8).toNat = 0 := rfl
        omega
      rw [escD, escD, if_neg hd]
      by_cases hc : c = 0
      · subst hc
        rw [if_pos rfl, List.cons_append, List.cons_append]
        exact less_head _ _ h
      · rw [if_neg hc, List.cons_append, List.cons_append]
        exact less_head _ _ h
    · rw [Bool.and_eq_true] at h
      have hcd : c = d := eq_of_beq h.1
      subst hcd
      have ih := text_order x y h.2 t t'
      rw [escD, escD]
      by_cases hc : c = 0
      · subst hc
        rw [if_pos rfl, if_pos rfl]
        simp only [List.cons_append]
        rw [less_same, less_same]
        exact ih
      · rw [if_neg hc, if_neg hc]
        simp only [List.cons_append]
        rw [less_same]
        exact ih
theorem text_same {x y : ByteArray} (h : cmpStr x y = 0) : x = y := by
  unfold cmpStr at h
  by_cases h1 : Op.bytesLess x.toList y.toList = true
  · rw [if_pos h1] at h; cases h
  · rw [if_neg h1] at h
    by_cases h2 : Op.bytesLess y.toList x.toList = true
    · rw [if_pos h2] at h; cases h
    · have e := less_total x.toList y.toList (by simpa using h1) (by simpa using h2)
      rw [Lib.toList_data, Lib.toList_data] at e
      obtain ⟨⟨x⟩⟩ := x
      obtain ⟨⟨y⟩⟩ := y
      simp at e
      rw [e]
/-- two parts: their order is their texts' order -/
theorem part_order (p q : S44) (hp : badP p = false) (hq : badP q = false) (ip : I64 p.f1) (iq : I64 q.f1) :
    (ordP p q = 0 ∧ p = q) ∨ (ordP p q = -1 ∧ ∀ t t', Op.bytesLess (encPart p ++ t) (encPart q ++ t') = true) ∨ (ordP p q = 1 ∧ ∀ t t', Op.bytesLess (encPart q ++ t') (encPart p ++ t) = true) := by
  rw [encPart_is, encPart_is]
  obtain ⟨f, n, x⟩ := p
  obtain ⟨g, m, y⟩ := q
  have h17 : (17 : UInt8) < 34 := by decide
  cases f <;> cases g
  · have hn := good_text hp rfl
    have hm := good_text hq rfl
    simp only at hn hm
    subst hn hm
    rw [if_neg Bool.false_ne_true, if_neg Bool.false_ne_true]
    have ho : ordP ⟨false, 0, x⟩ ⟨false, 0, y⟩ = cmpStr x y := by
      unfold ordP cmpInt
      simp
    rw [ho]
    have shape : ∀ (z : ByteArray) (t : List UInt8), 34 :: (escD z.data.toList ++ [0, 1]) ++ t = 34 :: (escD z.data.toList ++ 0 :: 1 :: t) := fun z t => by simp
    simp only [shape, less_same]
    by_cases h1 : Op.bytesLess x.toList y.toList = true
    · refine .inr (.inl ⟨by unfold cmpStr; rw [if_pos h1], fun t t' => ?_⟩)
      rw [Lib.toList_data, Lib.toList_data] at h1
      exact text_order _ _ h1 t t'
    · by_cases h2 : Op.bytesLess y.toList x.toList = true
      · refine .inr (.inr ⟨by unfold cmpStr; rw [if_neg h1, if_pos h2], fun t t' => ?_⟩)
        rw [Lib.toList_data, Lib.toList_data] at h2
        exact text_order _ _ h2 t' t
      · have hz : cmpStr x y = 0 := by unfold cmpStr; rw [if_neg h1, if_neg h2]
        exact .inl ⟨hz, by rw [text_same hz]⟩
  · refine .inr (.inr ⟨by rfl, fun t t' => ?_⟩)
    rw [if_neg Bool.false_ne_true, if_pos rfl]
    exact less_head _ _ h17
  · refine .inr (.inl ⟨by rfl, fun t t' => ?_⟩)
    rw [if_neg Bool.false_ne_true, if_pos rfl]
    exact less_head _ _ h17
  · have hx := bytes_nil (good_num hp rfl)
    have hy := bytes_nil (good_num hq rfl)
    simp only at hx hy ip iq
    subst hx hy
    rw [if_pos rfl, if_pos rfl]
    have vn := mOf_val ip
    have vm := mOf_val iq
    have ln := octets_num (mOf_lt ip)
    have lm := octets_num (mOf_lt iq)
    have hl : (octets (mOf n) 8).length = (octets (mOf m) 8).length := by rw [octets_nine, octets_nine]
    simp only [List.cons_append, less_same]
    have ho : ordP ⟨true, n, ⟨#[]⟩⟩ ⟨true, m, ⟨#[]⟩⟩ = if cmpInt n m = 0 then cmpStr ⟨#[]⟩ ⟨#[]⟩ else cmpInt n m := by
      unfold ordP
      simp
    rw [ho]
    have hs : cmpStr ⟨#[]⟩ ⟨#[]⟩ = 0 := by
      unfold cmpStr
      rw [less_irrefl, if_neg Bool.false_ne_true, if_neg Bool.false_ne_true]
    rw [hs]
    by_cases h1 : n < m
    · have hc : cmpInt n m = -1 := by unfold cmpInt; rw [if_pos h1]
      rw [hc]
      exact .inr (.inl ⟨by rfl, fun t t' => num_order _ _ hl (by rw [ln, lm]; omega) t t'⟩)
    · by_cases h2 : m < n
      · have hc : cmpInt n m = 1 := by unfold cmpInt; rw [if_neg h1, if_pos h2]
        rw [hc]
        exact .inr (.inr ⟨by rfl, fun t t' => num_order _ _ hl.symm (by rw [ln, lm]; omega) t' t⟩)
      · have hc : cmpInt n m = 0 := by unfold cmpInt; rw [if_neg h1, if_neg h2]
        rw [hc]
        have : n = m := by omega
        exact .inl ⟨by rfl, by rw [this]⟩
/-- two keys: their order is their parts' order -/
theorem key_order : ∀ (a b : List S44), (∀ p ∈ a, badP p = false ∧ I64 p.f1) → (∀ p ∈ b, badP p = false ∧ I64 p.f1) →
    (cmpL a b = 0 ∧ encL a = encL b) ∨ (cmpL a b = -1 ∧ Op.bytesLess (encL a) (encL b) = true) ∨ (cmpL a b = 1 ∧ Op.bytesLess (encL b) (encL a) = true)
  | [], [], _, _ => .inl ⟨rfl, rfl⟩
  | [], q :: b, _, _ => by
    refine .inr (.inl ⟨rfl, ?_⟩)
    obtain ⟨c, t, e⟩ := List.exists_cons_of_ne_nil (encPart_ne q)
    rw [encL, encL, e]
    rfl
  | p :: a, [], _, _ => by
    refine .inr (.inr ⟨rfl, ?_⟩)
    obtain ⟨c, t, e⟩ := List.exists_cons_of_ne_nil (encPart_ne p)
    rw [encL, encL, e]
    rfl
  | p :: a, q :: b, ha, hb => by
    obtain ⟨hp, ip⟩ := ha p (by simp)
    obtain ⟨hq, iq⟩ := hb q (by simp)
    rw [encL, encL, cmpL]
    rcases part_order p q hp hq ip iq with ⟨h, rfl⟩ | ⟨h, hl⟩ | ⟨h, hl⟩
    · rw [if_pos h, less_append, less_append]
      rcases key_order a b (fun x hx => ha x (by simp [hx])) (fun x hx => hb x (by simp [hx])) with ⟨h1, h2⟩ | h2 | h2
      · exact .inl ⟨h1, by rw [h2]⟩
      · exact .inr (.inl h2)
      · exact .inr (.inr h2)
    · rw [h, if_neg (by decide)]
      exact .inr (.inl ⟨rfl, hl _ _⟩)
    · rw [h, if_neg (by decide)]
      exact .inr (.inr ⟨rfl, hl _ _⟩)
theorem encL_append : ∀ (a b : List S44), encL (a ++ b) = encL a ++ encL b
  | [], b => by simp [encL]
  | p :: a, b => by rw [List.cons_append, encL, encL, encL_append a b, List.append_assoc]
theorem encL_take (a : List S44) (n : Nat) : encL a = encL (a.take n) ++ encL (a.drop n) := by
  rw [← encL_append, List.take_append_drop]
theorem min_nat (a b : Nat) : mn (a : Int) (b : Int) = ((min a b : Nat) : Int) := by
  unfold mn
  split <;> omega
theorem bulk_take : ∀ (l : List S52) (n : Nat), bulkL (l.take n) ≤ bulkL l
  | [], n => by rw [List.take_nil]; exact Nat.le_refl _
  | p :: l, 0 => Nat.zero_le _
  | p :: l, n + 1 => by
    have := bulk_take l n
    simp only [List.take_succ_cons, bulkL]
    omega
theorem order_j1 (a b : List S52) (ha : bulkL a ≤ 1048576) (hz : checkL (a.map to44) = 0) (k : Nat) (hk : 40000000 ≤ k) : ticklerlaw02_KeysOrder.j1 (k + 1) a b ⟨(encL (a.map to44)).toArray⟩ false = some true := by
  have hl := bulk_length a
  have hm : min a.length b.length ≤ a.length := Nat.min_le_left _ _
  have h8 := check_eight hz
  rw [List.length_map] at h8
  simp only [ticklerlaw02_KeysOrder.j1, min_nat]
  rw [if_neg Bool.false_ne_true, if_pos (by omega), if_pos (by omega)]
  have en : (((min a.length b.length : Nat) : Int)).toNat = min a.length b.length := by omega
  rw [en]
  generalize min a.length b.length = n at hm
  have hln : (a.take n).length ≤ 8 := by rw [List.length_take]; omega
  rw [of_is (a.take n) (by omega) k (by omega)]
  simp only [Option.bind_some]
  have hmap : (a.take n).map to44 = (a.map to44).take n := List.map_take
  have hz' : checkL ((a.take n).map to44) = 0 := good_check (by rw [List.length_map]; exact hln) (fun p hp => by
    rw [hmap] at hp
    exact check_good hz p (List.mem_of_mem_take hp))
  rw [enc_small hz' (Nat.le_trans (bulk_take a n) ha)]
  simp only [Option.bind_some, ticklerlaw02_num.f, if_true]
  have e := encL_take (a.map to44) n
  rw [← hmap] at e
  generalize encL ((a.take n).map to44) = x at e
  generalize encL ((a.map to44).drop n) = y at e
  rw [e]
  have s1 : (⟨x.toArray⟩ : ByteArray).size = x.length := by simp [ByteArray.size]
  have s2 : (⟨(x ++ y).toArray⟩ : ByteArray).size = x.length + y.length := by simp [ByteArray.size]
  have s3 : ((x.length : Int)).toNat = x.length := by omega
  rw [s1, s2, if_pos (by omega), if_pos (by omega), s3, Lib.toList_data, Lib.toList_data, extract_list]
  have s4 : (⟨(x ++ y).toArray⟩ : ByteArray).data.toList.take x.length = x := by simp
  rw [s4, beq_self_eq_true]
theorem order_j0 (a b : List S52) (ha : bulkL a ≤ 1048576) (hz : checkL (a.map to44) = 0) (hy : checkL (b.map to44) = 0) (ia : ∀ p ∈ a, I64 p.f1) (ib : ∀ p ∈ b, I64 p.f1) (k : Nat) (hk : 40000000 ≤ k) :
    ticklerlaw02_KeysOrder.j0 (k + 1 + 1) a b ⟨(encL (a.map to44)).toArray⟩ ⟨(encL (b.map to44)).toArray⟩ (cmpL (a.map to44) (b.map to44)) 0 false = some true := by
  have hj := order_j1 a b ha hz k hk
  simp only [ticklerlaw02_KeysOrder.j0, ticklerlaw02_num.f, Option.bind_some]
  rw [if_neg Bool.false_ne_true, if_pos trivial, Lib.toList_data, Lib.toList_data]
  have t1 : (⟨(encL (a.map to44)).toArray⟩ : ByteArray).data.toList = encL (a.map to44) := rfl
  have t2 : (⟨(encL (b.map to44)).toArray⟩ : ByteArray).data.toList = encL (b.map to44) := rfl
  rw [t1, t2]
  rcases key_order _ _ (all_good hz ia) (all_good hy ib) with ⟨h1, h2⟩ | ⟨h1, h2⟩ | ⟨h1, h2⟩
  · rw [h1, ← h2, less_irrefl, beq_self_eq_true, if_neg (by decide)]
    exact hj
  · rw [h1, h2, if_neg (by decide)]
    have hne : (encL (a.map to44) == encL (b.map to44)) = false := by
      rw [beq_eq_false_iff_ne]
      intro e
      rw [e, less_irrefl] at h2
      cases h2
    rw [hne]
    exact hj
  · rw [h1, less_asymm h2, if_neg (by decide)]
    rw [less_ne h2]
    exact hj
theorem law_order (a b : List S52) (ha : bulkL a ≤ 1048576) (hb : bulkL b ≤ 1048576) (ia : ∀ p ∈ a, I64 p.f1) (ib : ∀ p ∈ b, I64 p.f1) (k : Nat) (hk : 40000000 ≤ k) : ticklerlaw02_KeysOrder.f (k + 1 + 1) a b = some true := by
  have hla := bulk_length a
  have hlb := bulk_length b
  unfold ticklerlaw02_KeysOrder.f keys_Compare.f
  rw [alive_true, of_is a (by omega) (k + 1 + 1) (by omega), of_is b (by omega) (k + 1 + 1) (by omega)]
  simp only [Option.bind_some, if_true, ticklerlaw02_num.f]
  by_cases hz : checkL (a.map to44) = 0
  · by_cases hy : checkL (b.map to44) = 0
    · rw [enc_small hz ha, enc_small hy hb, if_neg (by simpa using hz), if_neg (by simpa using hy)]
      simp only [Option.bind_some, if_true]
      exact order_j0 a b ha hz hy ia ib k hk
    · rw [enc_small hz ha, enc_bad _ hy, if_neg (by simpa using hz), if_pos hy]
      simp only [Option.bind_some, if_true, ticklerlaw02_KeysOrder.j0, ticklerlaw02_num.f]
      rw [if_pos (by simpa using hy), if_neg hy]
      rfl
  · rw [enc_bad _ hz, if_pos hz]
    by_cases hy : checkL (b.map to44) = 0
    · rw [enc_small hy hb]
      simp only [Option.bind_some, if_neg hz, if_true, ticklerlaw02_KeysOrder.j0, ticklerlaw02_num.f]
      rfl
    · rw [enc_bad _ hy]
      simp only [Option.bind_some, if_neg hz, if_true, ticklerlaw02_KeysOrder.j0, ticklerlaw02_num.f]
      rfl
end Go.Proofs.YtdodfelbejkbiaaDoor.K
