/- Plain: the numbers of a set, their text; a text of five words between blanks is those words. -/
import Derived.Lib.FieldsP
import Derived.Lib.DecodeN
import Derived.Lib.Join
import Derived.Lib.IndexBytes
import Derived.Lib.TrailingZeros
import Derived.Test.YtkffmgalmooioaaDoorSplit
namespace Go.Proofs.YtkffmgalmooioaaDoor.Cr
open Go Go.RowKit Go.Shelf Go.Proofs.YtkffmgalmooioaaDoor.Sp

theorem bytes_ext {s t : ByteArray} (h : s.data.toList = t.data.toList) : s = t := by
  obtain ⟨⟨a⟩⟩ := s
  obtain ⟨⟨b⟩⟩ := t
  simp only at h
  rw [h]
theorem size_of_data (s : ByteArray) : s.size = s.data.toList.length := by rw [Array.length_toList]; rfl
theorem index_none {c : UInt8} : ∀ {l : List UInt8}, (∀ b ∈ l, b ≠ c) → Lib.indexByte l c = -1
  | [], _ => rfl
  | b :: l, h => by
    unfold Lib.indexByte
    rw [if_neg (by simpa using h b (by simp)), if_pos (by rw [index_none (fun x hx => h x (by simp [hx]))]; rfl)]
theorem index_first {c : UInt8} : ∀ {l : List UInt8} (r : List UInt8), (∀ b ∈ l, b ≠ c) → Lib.indexByte (l ++ c :: r) c = l.length
  | [], r, _ => by simp [Lib.indexByte]
  | b :: l, r, h => by
    have ih := index_first (l := l) r (fun x hx => h x (by simp [hx]))
    rw [List.cons_append]
    unfold Lib.indexByte
    rw [if_neg (by simpa using h b (by simp)), ih, if_neg (by simp)]
    simp
theorem join_two (sep x y : List UInt8) (r : List (List UInt8)) : Lib.join (x :: y :: r) sep = x ++ (sep ++ Lib.join (y :: r) sep) := by
  rw [Lib.join_cons, Lib.join_cons]
  simp [Lib.joinTail]
/-- the pieces of a joined text are what was joined -/
theorem split_join (c : UInt8) : ∀ (xs : List (List UInt8)) (f : Nat) (t : ByteArray), xs ≠ [] → (∀ x ∈ xs, ∀ b ∈ x, b ≠ c) → t.data.toList = Lib.join xs [c] → t.size ≤ f → splitB c f t = xs.map fun x => ⟨x.toArray⟩
  | [], _, _, h, _, _, _ => absurd rfl h
  | [x], f, t, _, hx, ht, _ => by
    rw [Lib.join_one] at ht
    rw [split_last c f t (by rw [ht, index_none (hx x (by simp))]; omega)]
    simp only [List.map_cons, List.map_nil, List.cons.injEq, and_true]
    exact bytes_ext ht
  | x :: y :: r, f, t, _, hx, ht, hf => by
    rw [join_two] at ht
    have hi : Lib.indexByte t.data.toList c = x.length := by rw [ht]; exact index_first _ (hx x (by simp))
    obtain ⟨f', rfl, he⟩ := split_more c f t hf (by rw [hi]; omega)
    have hsz : t.size = x.length + (1 + (Lib.join (y :: r) [c]).length) := by rw [size_of_data, ht]; simp; omega
    rw [he, hi, List.map_cons, split_join c (y :: r) f' _ (by simp) (fun z hz => hx z (List.mem_cons_of_mem _ hz)) (by rw [Lib.extract_to_end, ht]; simp) (by rw [size_of_data, Lib.extract_to_end, ht]; simp; omega)]
    refine congrArg (· :: _) (bytes_ext ?_)
    rw [Lib.extract_data, ht]
    simp
/-- an octet below 128 is a rune of one octet -/
theorem decode_low (s : ByteArray) (i : Nat) (hb : (s.get! i).toNat < 128) : Utf8.decode s i = ((s.get! i).toNat, 1) := by
  rw [Lib.decode_at]
  unfold Lib.decodeN
  rw [if_pos hb]
theorem get_data (s : ByteArray) (i : Nat) (h : i < s.size) : some (s.get! i) = s.data.toList[i]? := by
  obtain ⟨⟨l⟩⟩ := s
  have hl : i < l.length := by simpa [ByteArray.size] using h
  simp [ByteArray.get!, hl]
theorem span_word (s : ByteArray) (a : Nat) (acc : List (Nat × Nat)) : ∀ (w : List UInt8) (f pos : Nat) (tail : List UInt8), s.data.toList.drop pos = w ++ tail → (∀ b ∈ w, b ≠ 32 ∧ b.toNat < 128) → pos + w.length ≤ s.size →
    Lib.spansFromP (fun c => c == 32) s (f + w.length) pos (some a) acc = Lib.spansFromP (fun c => c == 32) s f (pos + w.length) (some a) acc
  | [], f, pos, tail, _, _, _ => rfl
  | b :: w, f, pos, tail, hd, hb, hs => by
    have hp : pos < s.size := by simp at hs; omega
    have hg : s.get! pos = b := by
      have h := get_data s pos hp
      have h2 : s.data.toList[pos]? = some b := by rw [← List.head?_drop, hd]; rfl
      rw [h2] at h; injection h
    obtain ⟨h1, h2⟩ := hb b (by simp)
    have hdec := decode_low s pos (by rw [hg]; exact h2)
    rw [List.length_cons, show f + (w.length + 1) = f + w.length + 1 by omega, Lib.spansFromP, if_pos hp, hdec, hg, if_neg (by
      simp only [beq_iff_eq]
      intro e
      exact h1 (UInt8.toNat_inj.1 e))]
    have ih := span_word s a acc w f (pos + 1) tail (by rw [← List.drop_drop, hd]; rfl) (fun x hx => hb x (by simp [hx])) (by simp at hs; omega)
    simp only []
    rw [ih]
    congr 1
    omega
theorem span_first (s : ByteArray) (acc : List (Nat × Nat)) (w : List UInt8) (f pos : Nat) (tail : List UInt8) (hne : w ≠ []) (hd : s.data.toList.drop pos = w ++ tail) (hb : ∀ b ∈ w, b ≠ 32 ∧ b.toNat < 128) (hs : pos + w.length ≤ s.size) :
    Lib.spansFromP (fun c => c == 32) s (f + w.length) pos none acc = Lib.spansFromP (fun c => c == 32) s f (pos + w.length) (some pos) acc := by
  cases w with
  | nil => exact absurd rfl hne
  | cons b w =>
    have hp : pos < s.size := by simp at hs; omega
    have hg : s.get! pos = b := by
      have h := get_data s pos hp
      have h2 : s.data.toList[pos]? = some b := by rw [← List.head?_drop, hd]; rfl
      rw [h2] at h; injection h
    obtain ⟨h1, h2⟩ := hb b (by simp)
    have hdec := decode_low s pos (by rw [hg]; exact h2)
    rw [List.length_cons, show f + (w.length + 1) = f + w.length + 1 by omega, Lib.spansFromP, if_pos hp, hdec, hg, if_neg (by
      simp only [beq_iff_eq]
      intro e
      exact h1 (UInt8.toNat_inj.1 e))]
    have ih := span_word s pos acc w f (pos + 1) tail (by rw [← List.drop_drop, hd]; rfl) (fun x hx => hb x (by simp [hx])) (by simp at hs; omega)
    simp only []
    rw [ih]
    congr 1
    omega
theorem span_blank (s : ByteArray) (a : Nat) (acc : List (Nat × Nat)) (f pos : Nat) (tail : List UInt8) (hd : s.data.toList.drop pos = 32 :: tail) (hp : pos < s.size) :
    Lib.spansFromP (fun c => c == 32) s (f + 1) pos (some a) acc = Lib.spansFromP (fun c => c == 32) s f (pos + 1) none (acc ++ [(a, pos)]) := by
  have hg : s.get! pos = 32 := by
    have h := get_data s pos hp
    have h2 : s.data.toList[pos]? = some 32 := by rw [← List.head?_drop, hd]; rfl
    rw [h2] at h; injection h
  have hdec := decode_low s pos (by rw [hg]; decide)
  rw [Lib.spansFromP, if_pos hp, hdec, hg, if_pos (by decide)]
theorem fields_go (s : ByteArray) : ∀ (xs : List (List UInt8)) (f pos : Nat) (acc : List (Nat × Nat)), xs ≠ [] → (∀ x ∈ xs, x ≠ [] ∧ ∀ b ∈ x, b ≠ 32 ∧ b.toNat < 128) → s.data.toList.drop pos = Lib.join xs [32] → s.size = pos + (Lib.join xs [32]).length → (Lib.join xs [32]).length ≤ f →
    (Lib.closeSpans s (Lib.spansFromP (fun c => c == 32) s f pos none acc)).map (fun x => s.extract x.1 x.2) = acc.map (fun x => s.extract x.1 x.2) ++ xs.map fun x => ⟨x.toArray⟩
  | [], _, _, _, h, _, _, _, _ => absurd rfl h
  | [x], f, pos, acc, _, hx, hd, hs, hf => by
    rw [Lib.join_one] at hd hs hf
    obtain ⟨g, rfl⟩ : ∃ g, f = g + x.length := ⟨f - x.length, by omega⟩
    obtain ⟨h1, h2⟩ := hx x (by simp)
    rw [span_first s acc x g pos [] h1 (by rw [hd]; simp) h2 (by omega), Lib.spansFromP_end _ _ _ _ _ _ (by omega)]
    simp only [Lib.closeSpans, List.map_append, List.map_cons, List.map_nil]
    refine congrArg (_ ++ ·) (congrArg (· :: []) (bytes_ext ?_))
    rw [Lib.extract_data, hd, hs]
    simp
  | x :: y :: r, f, pos, acc, _, hx, hd, hs, hf => by
    rw [join_two] at hd hs hf
    simp only [List.length_append, List.length_cons, List.length_nil] at hs hf
    obtain ⟨g, rfl⟩ : ∃ g, f = g + 1 + x.length := ⟨f - x.length - 1, by omega⟩
    obtain ⟨h1, h2⟩ := hx x (by simp)
    have hd2 : s.data.toList.drop (pos + x.length) = 32 :: Lib.join (y :: r) [32] := by rw [← List.drop_drop, hd]; simp
    have hd3 : s.data.toList.drop (pos + x.length + 1) = Lib.join (y :: r) [32] := by rw [← List.drop_drop, hd2]; rfl
    rw [span_first s acc x (g + 1) pos _ h1 hd h2 (by omega), span_blank s pos acc g _ _ hd2 (by omega)]
    rw [fields_go s (y :: r) g _ _ (by simp) (fun z hz => hx z (List.mem_cons_of_mem _ hz)) hd3 (by omega) (by omega)]
    simp only [List.map_append, List.map_cons, List.map_nil, List.append_assoc]
    refine congrArg (_ ++ ·) ?_
    simp only [List.cons_append, List.nil_append]
    refine congrArg (· :: _) (bytes_ext ?_)
    rw [Lib.extract_data, hd, show pos + x.length - pos = x.length by omega]
    simp
/-- words between single blanks are the text's words -/
theorem fields_join (s : ByteArray) (xs : List (List UInt8)) (hne : xs ≠ []) (hx : ∀ x ∈ xs, x ≠ [] ∧ ∀ b ∈ x, b ≠ 32 ∧ b.toNat < 128) (hs : s.data.toList = Lib.join xs [32]) : Lib.goFieldsP (fun c => c == 32) s = xs.map fun x => ⟨x.toArray⟩ := by
  unfold Lib.goFieldsP Lib.spansOfP
  have h := fields_go s xs s.size 0 [] hne hx (by simpa using hs) (by rw [size_of_data, hs]; omega) (by rw [size_of_data, hs]; omega)
  simpa using h

/-- a number of at most two digits, in a text -/
def dig (n : Nat) : ByteArray := if n < 10 then ⟨#[UInt8.ofNat (48 + n)]⟩ else ⟨#[UInt8.ofNat (48 + n / 10), UInt8.ofNat (48 + n % 10)]⟩
/-- the numbers of a set, the least first -/
def items : Nat → Nat → List Nat
  | 0, _ => []
  | k + 1, s => if s = 0 then [] else Lib.ctz 64 s :: items k (s &&& (s - 1))
theorem enc_dig (d : Nat) (hd : d < 10) : Utf8.encode (48 + (d : Int)) = ⟨#[UInt8.ofNat (48 + d)]⟩ := by
  have h : ∀ d : Fin 10, Utf8.encode (48 + (d.val : Int)) = ⟨#[UInt8.ofNat (48 + d.val)]⟩ := by decide +kernel
  exact h ⟨d, hd⟩
theorem two_pow_odd_pred (c m : Nat) : 2 ^ c * (2 * m + 1) - 1 = 2 ^ (c + 1) * m + (2 ^ c - 1) := by
  have hp : 0 < 2 ^ c := Nat.two_pow_pos c
  rw [Nat.pow_succ, Nat.mul_add, Nat.mul_one, Nat.mul_assoc]
  omega
theorem clear_low (c m : Nat) : (2 ^ c * (2 * m + 1)) &&& (2 ^ c * (2 * m + 1) - 1) = 2 ^ (c + 1) * m := by
  rw [two_pow_odd_pred]
  have hlt : 2 ^ c - 1 < 2 ^ (c + 1) := by have := Nat.two_pow_pos c; rw [Nat.pow_succ]; omega
  apply Nat.eq_of_testBit_eq
  intro i
  rw [Nat.testBit_and, Nat.testBit_two_pow_mul, Nat.testBit_two_pow_mul_add _ hlt, Nat.testBit_two_pow_mul]
  by_cases h : i < c + 1
  · rw [if_pos h, Nat.testBit_two_pow_sub_one]
    by_cases h2 : i < c
    · simp [h2, show ¬ c ≤ i by omega, show ¬ c + 1 ≤ i by omega]
    · simp [h2, show ¬ c + 1 ≤ i by omega]
  · rw [if_neg h]
    have e : i - c = (i - (c + 1)) + 1 := by omega
    rw [e, Nat.testBit_succ, show (2 * m + 1) / 2 = m by omega]
    simp [show c ≤ i by omega, show c + 1 ≤ i by omega]
/-- a round: the lowest number leaves the set -/
theorem items_cut (f x : Nat) (hx : x < 18446744073709551616) (h0 : x ≠ 0) (hd : 2 ^ (64 - f) ∣ x) : ∃ k c m, f = k + 1 ∧ Lib.ctz 64 x = c ∧ 64 - f ≤ c ∧ 64 - k ≤ c + 1 ∧ x = 2 ^ c * (2 * m + 1) ∧ x &&& (x - 1) = 2 ^ (c + 1) * m ∧ items f x = c :: items k (x &&& (x - 1)) := by
  obtain ⟨m, hm, hk⟩ := Lib.ctzFrom_spec 64 x (by omega) hx
  rw [show Lib.ctzFrom 64 x = Lib.ctz 64 x by simp [Lib.ctz, h0]] at hm hk
  generalize hc : Lib.ctz 64 x = c at hm hk
  have hle : 64 - f ≤ c := by
    rcases Nat.lt_or_ge c (64 - f) with h | h
    · exfalso
      have hb : x.testBit c = true := by rw [hm, Nat.testBit_two_pow_mul]; simp [Nat.testBit_zero]
      obtain ⟨q, hq⟩ := hd
      rw [hq, Nat.testBit_two_pow_mul] at hb
      simp [show ¬ 64 - f ≤ c by omega] at hb
    · exact h
  have hcl : x &&& (x - 1) = 2 ^ (c + 1) * m := by rw [hm]; exact clear_low c m
  cases f with
  | zero => omega
  | succ k => exact ⟨k, c, m, rfl, rfl, hle, by omega, hm, hcl, by rw [items, if_neg h0, hc]⟩
theorem items_step (f x : Nat) (hx : x < 18446744073709551616) (h0 : x ≠ 0) (hd : 2 ^ (64 - f) ∣ x) : ∃ k, f = k + 1 ∧ items f x = Lib.ctz 64 x :: items k (x &&& (x - 1)) ∧ 2 ^ (64 - k) ∣ (x &&& (x - 1)) ∧ x &&& (x - 1) < x := by
  obtain ⟨k, c, m, hf, hc, hle, hk, hm, hcl, hit⟩ := items_cut f x hx h0 hd
  refine ⟨k, hf, by rw [hit, hc], by rw [hcl]; exact Nat.dvd_trans (Nat.pow_dvd_pow 2 hk) (Nat.dvd_mul_right _ _), ?_⟩
  rw [hcl, hm, Nat.pow_succ, Nat.mul_assoc]
  have hp : 0 < 2 ^ c := Nat.two_pow_pos c
  exact Nat.mul_lt_mul_of_pos_left (by omega) hp
theorem items_length : ∀ (k s : Nat), (items k s).length ≤ k
  | 0, _ => by simp [items]
  | k + 1, s => by
    unfold items
    split
    · simp
    · simpa using items_length k (s &&& (s - 1))
theorem items_nil {f : Nat} : items f 0 = [] := by cases f <;> simp [items]
/-- what holds of a set's every bit holds of its numbers -/
theorem items_bit : ∀ (f x : Nat), x < 18446744073709551616 → 2 ^ (64 - f) ∣ x → ∀ n ∈ items f x, x.testBit n = true
  | 0, x, _, _, n, hn => by simp [items] at hn
  | f + 1, x, hx, hd, n, hn => by
    by_cases h0 : x = 0
    · subst h0; rw [items_nil] at hn; simp at hn
    · obtain ⟨k, hf, hit, hd', hlt⟩ := items_step (f + 1) x hx h0 hd
      obtain rfl : f = k := by omega
      rw [hit] at hn
      rcases List.mem_cons.1 hn with rfl | hn
      · obtain ⟨_, c, m, _, hc, _, _, hm, _, _⟩ := items_cut (f + 1) x hx h0 hd
        rw [hc, hm, Nat.testBit_two_pow_mul]
        simp [Nat.testBit_zero]
      · have := items_bit f _ (Nat.lt_trans hlt hx) hd' n hn
        rw [Nat.testBit_and] at this
        simp at this
        exact this.1
/-- a set's numbers together are the set -/
theorem items_or : ∀ (f x : Nat), x < 18446744073709551616 → 2 ^ (64 - f) ∣ x → (items f x).foldr (fun n s => 2 ^ n ||| s) 0 = x
  | 0, x, hx, hd => by
    obtain ⟨q, hq⟩ := hd
    have : (2 : Nat) ^ (64 - 0) = 18446744073709551616 := by decide
    rw [this] at hq
    have : q = 0 := by omega
    subst this
    simp [items, hq]
  | f + 1, x, hx, hd => by
    by_cases h0 : x = 0
    · subst h0; rw [items_nil]; rfl
    · obtain ⟨k, c, m, hf, hc, hle, hk, hm, hcl, hit⟩ := items_cut (f + 1) x hx h0 hd
      obtain rfl : f = k := by omega
      obtain ⟨k', hf', _, hd', hlt⟩ := items_step (f + 1) x hx h0 hd
      obtain rfl : f = k' := by omega
      have ih := items_or f _ (Nat.lt_trans hlt hx) hd'
      rw [hit, List.foldr_cons, ih, hcl]
      apply Nat.eq_of_testBit_eq
      intro i
      rw [Nat.testBit_or, Nat.testBit_two_pow_mul, Nat.testBit_two_pow]
      conv => rhs; rw [hm, Nat.testBit_two_pow_mul]
      rcases Nat.lt_trichotomy i c with h | rfl | h
      · simp [show ¬ c ≤ i by omega, show ¬ c + 1 ≤ i by omega, show ¬ c = i by omega]
      · simp [Nat.testBit_zero]
      · have e : i - c = (i - (c + 1)) + 1 := by omega
        rw [e, Nat.testBit_succ, show (2 * m + 1) / 2 = m by omega]
        simp [show c ≤ i by omega, show c + 1 ≤ i by omega, show ¬ c = i by omega]
/-- how many they are -/
theorem items_few (N : Nat) (hN : N ≤ 64) : ∀ (f x j : Nat), x < 2 ^ N → 2 ^ (64 - f) ∣ x → 2 ^ j ∣ x → (items f x).length ≤ N - j
  | 0, x, j, _, _, _ => by simp [items]
  | f + 1, x, j, hx, hd, hj => by
    by_cases h0 : x = 0
    · subst h0; rw [items_nil]; simp
    · have hx64 : x < 18446744073709551616 := Nat.lt_of_lt_of_le hx (Nat.le_trans (Nat.pow_le_pow_right (by decide) hN) (by decide))
      obtain ⟨k, c, m, hf, hc, hle, hk, hm, hcl, hit⟩ := items_cut (f + 1) x hx64 h0 hd
      obtain rfl : f = k := by omega
      obtain ⟨k', hf', _, hd', hlt⟩ := items_step (f + 1) x hx64 h0 hd
      obtain rfl : f = k' := by omega
      have hcN : c < N := by
        rcases Nat.lt_or_ge c N with h | h
        · exact h
        · have h1 : 2 ^ N ≤ 2 ^ c := Nat.pow_le_pow_right (by decide) h
          have h2 : 2 ^ c * 1 ≤ 2 ^ c * (2 * m + 1) := Nat.mul_le_mul_left _ (by omega)
          omega
      have hjc : j ≤ c := by
        rcases Nat.lt_or_ge c j with h | h
        · exfalso
          have hb : x.testBit c = true := by rw [hm, Nat.testBit_two_pow_mul]; simp [Nat.testBit_zero]
          obtain ⟨q, hq⟩ := hj
          rw [hq, Nat.testBit_two_pow_mul] at hb
          simp [show ¬ j ≤ c by omega] at hb
        · exact h
      have ih := items_few N hN f _ (c + 1) (Nat.lt_trans hlt hx) hd' (by rw [hcl]; exact Nat.dvd_mul_right _ _)
      rw [hit, List.length_cons]
      omega
theorem dig_size (n : Nat) : 1 ≤ (dig n).data.toList.length ∧ (dig n).data.toList.length ≤ 2 ∧ (n < 10 → (dig n).data.toList.length = 1) := by
  unfold dig
  split
  · simp
  · rename_i h; exact ⟨by simp, by simp, fun g => absurd g h⟩
/-- a digit's octet -/
theorem dig_octets (n : Nat) (hn : n < 100) : ∀ b ∈ (dig n).data.toList, 48 ≤ b.toNat ∧ b.toNat ≤ 57 := by
  have h : ∀ n : Fin 100, ∀ b ∈ (dig n.val).data.toList, 48 ≤ b.toNat ∧ b.toNat ≤ 57 := by decide +kernel
  exact h ⟨n, hn⟩
/-- a set's text -/
def setText (s : Nat) : List UInt8 := Lib.join ((items 64 s).map fun n => (dig n).data.toList) [44]
theorem join_size (D : Nat) : ∀ (xs : List (List UInt8)), (∀ x ∈ xs, x.length ≤ D) → (Lib.join xs [44]).length + 1 ≤ (D + 1) * xs.length + 1
  | [], _ => by simp [Lib.join_nil]
  | [x], h => by rw [Lib.join_one]; have := h x (by simp); simp; omega
  | x :: y :: r, h => by
    have ih := join_size D (y :: r) (fun z hz => h z (List.mem_cons_of_mem _ hz))
    have hx := h x (by simp)
    rw [join_two]
    simp only [List.length_append, List.length_cons, List.length_nil] at ih ⊢
    have e : (D + 1) * (r.length + 1 + 1) = (D + 1) * (r.length + 1) + (D + 1) := by rw [Nat.mul_add (D + 1) (r.length + 1) 1]; omega
    omega
end Go.Proofs.YtkffmgalmooioaaDoor.Cr
