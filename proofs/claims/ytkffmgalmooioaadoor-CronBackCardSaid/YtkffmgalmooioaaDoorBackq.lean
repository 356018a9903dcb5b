/- A rule's text, read by cron.Parse, is the rule. -/
import Derived.Test.YtkffmgalmooioaaDoorBackp
import Derived.Test.YtkffmgalmooioaaDoorAlive
import Derived.Test.YtkffmgalmooioaaDoorPur
namespace Go.Proofs.YtkffmgalmooioaaDoor.Cr
open Go Go.RowKit Go.Shelf Go.Proofs.YtkffmgalmooioaaDoor.Sp Go.Proofs.YtkffmgalmooioaaDoorW.PrintWords Go.Proofs.YtkffmgalmooioaaDoorW.PrintLast Go.Proofs.YtkffmgalmooioaaDoorW.PrintMore

/-- the number that a text of digits is -/
def numOf (x : ByteArray) : Nat := x.data.toList.foldl (fun a b => 10 * a + (b.toNat - 48)) 0
theorem numOf_dig (n : Nat) (hn : n < 100) : numOf (dig n) = n := by
  have h : ∀ n : Fin 100, numOf (dig n.val) = n.val := by decide +kernel
  exact h ⟨n, hn⟩
theorem isNum_dig (n : Nat) (hn : n < 100) : IsNum (dig n) n := by
  intro w
  by_cases h : n < 10
  · have hs : (dig n).size = 1 := by unfold dig; rw [if_pos h]; rfl
    have h0 : ((dig n).data.toList.getD 0 0).toNat = 48 + n := by unfold dig; rw [if_pos h]; simp; omega
    have e : (((48 + n : Nat) : Int) - 48) = (n : Int) := by omega
    have k := number_one (dig n) (48 + n) w hs (Aside0.mk h0) (by omega) (by omega)
    rw [e] at k
    exact k
  · have hs : (dig n).size = 2 := by unfold dig; rw [if_neg h]; rfl
    have h0 : ((dig n).data.toList.getD 0 0).toNat = 48 + n / 10 := by unfold dig; rw [if_neg h]; simp; omega
    have h1 : ((dig n).data.toList.getD 1 0).toNat = 48 + n % 10 := by unfold dig; rw [if_neg h]; simp; omega
    have e : 10 * (((48 + n / 10 : Nat) : Int) - 48) + (((48 + n % 10 : Nat) : Int) - 48) = (n : Int) := by omega
    have k := number_two (dig n) (48 + n / 10) (48 + n % 10) w hs (Aside0.mk h0) (Aside0.mk h1) (by omega) (by omega) (by omega) (by omega)
    rw [e] at k
    exact k
theorem no_octet (n : Nat) (hn : n < 100) (c : UInt8) (hc : c.toNat < 48) : ∀ b ∈ (dig n).data.toList, b ≠ c := by
  intro b hb e
  have := (dig_octets n hn b hb).1
  rw [e] at this
  omega
theorem orAll_foldr (l : List Nat) (h : ∀ n ∈ l, n < 100) : orAll (fun x => 2 ^ numOf x) (l.map dig) = l.foldr (fun n s => 2 ^ n ||| s) 0 := by
  induction l with
  | nil => rfl
  | cons n l ih =>
    simp only [List.map_cons, orAll, List.foldr_cons]
    rw [ih (fun m hm => h m (by simp [hm])), numOf_dig n (h n (by simp))]
theorem bit_lt {s n : Nat} (hs : s < 18446744073709551616) (h : s.testBit n = true) : n < 64 := by
  rcases Nat.lt_or_ge n 64 with h' | h'
  · exact h'
  · have : s < 2 ^ n := Nat.lt_of_lt_of_le hs (Nat.le_trans (by decide : 18446744073709551616 ≤ 2 ^ 64) (Nat.pow_le_pow_right (by decide) h'))
    rw [Nat.testBit_lt_two_pow this] at h
    cases h
theorem items_lt {s : Nat} (hs : s < 18446744073709551616) : ∀ n ∈ items 64 s, n < 64 := fun n hn => bit_lt hs (items_bit 64 s hs ⟨s, by simp⟩ n hn)
theorem items_ne {s : Nat} (h0 : s ≠ 0) : items 64 s ≠ [] := by unfold items; rw [if_neg h0]; simp
theorem setText_data (s : Nat) : (⟨(setText s).toArray⟩ : ByteArray).data.toList = setText s := by simp
theorem setText_size (s : Nat) : (⟨(setText s).toArray⟩ : ByteArray).size ≤ 200 := by
  rw [size_of_data, setText_data]
  have h := join_size 2 ((items 64 s).map fun n => (dig n).data.toList) (fun x hx => by obtain ⟨n, _, rfl⟩ := List.mem_map.1 hx; exact (dig_size n).2.1)
  have h2 := items_length 64 s
  rw [List.length_map] at h
  unfold setText
  omega
/-- a field that lists a set's numbers answers the set -/
theorem field_set (lo hi : Int) (s : Nat) (w : World) (hs : s < 18446744073709551616) (h0 : s ≠ 0) (hb : ∀ n, s.testBit n = true → lo ≤ (n : Int) ∧ (n : Int) ≤ hi) :
    Calls Tryd.prog 29 #[.agg #[.int .i64 lo, .int .i64 hi], .string ⟨(setText s).toArray⟩] w fun e w' => e = .returned (.tuple #[.int .u64 (s : Nat), .bool true]) ∧ Below w.heap.size w w' := by
  have hlt := items_lt hs
  have hsz := setText_size s
  have hsp : splitB 44 (⟨(setText s).toArray⟩ : ByteArray).size ⟨(setText s).toArray⟩ = (items 64 s).map dig := by
    rw [split_join 44 ((items 64 s).map fun n => (dig n).data.toList) _ _ (by simpa using items_ne h0) ?_ (by rw [setText_data]; rfl) (Nat.le_refl _), List.map_map]
    · exact List.map_congr_left fun n _ => bytes_ext (by simp)
    · intro x hx
      obtain ⟨n, hn, rfl⟩ := List.mem_map.1 hx
      exact no_octet n (by have := hlt n hn; omega) 44 (by decide)
  refine (field_calls lo hi _ (fun x => 2 ^ numOf x) w (by omega) (fun x hx => ?_)).mono ?_
  · rw [hsp] at hx
    obtain ⟨n, hn, rfl⟩ := List.mem_map.1 hx
    have h64 := hlt n hn
    have hbit := hb n (items_bit 64 s hs ⟨s, by simp⟩ n hn)
    show IsItem lo hi (dig n) (2 ^ numOf (dig n))
    rw [numOf_dig n (by omega)]
    refine ⟨(pow_wrap n (by omega)).2, fun W => ?_⟩
    have e : ((2 ^ n : Nat) : Int) = 2 ^ n := Int.natCast_pow 2 n
    show Calls Tryd.prog 45 _ W fun e w' => e = .returned (.tuple #[.int .u64 ((2 ^ n : Nat) : Int), .bool true]) ∧ _
    rw [e]
    refine item_num lo hi n (dig n) W ?_ (Aside0.mk (index_none (no_octet n (by omega) 45 (by decide)))) (Aside0.mk (index_none (no_octet n (by omega) 47 (by decide)))) (Aside0.mk (isNum_dig n (by omega))) hbit.1 hbit.2 (by omega)
    rw [Lib.toList_data, beq_eq_false_iff_ne]
    intro h
    exact no_octet n (by omega) 42 (by decide) 42 (by rw [h]; simp) rfl
  · rintro e w' ⟨rfl, hbel⟩
    rw [hsp, orAll_foldr _ (fun n hn => by have := hlt n hn; omega), items_or 64 s hs ⟨s, by simp⟩]
    exact ⟨rfl, hbel⟩
/-- a field's text: a star, or the set's numbers -/
def fieldText (star : Bool) (s : Nat) : List UInt8 := if star = true then [42] else setText s
theorem field_text (lo hi s : Nat) (star : Bool) (w : World) (hs : s < 18446744073709551616) (h0 : s ≠ 0) (hb : ∀ n, s.testBit n = true → lo ≤ n ∧ n ≤ hi) (hlo : lo ≤ hi) (hhi : hi ≤ 63) (hst : star = true → s = bitsFrom lo (hi + 1 - lo)) :
    Calls Tryd.prog 29 #[.agg #[.int .i64 lo, .int .i64 hi], .string ⟨(fieldText star s).toArray⟩] w fun e w' => e = .returned (.tuple #[.int .u64 (s : Nat), .bool true]) ∧ Below w.heap.size w w' := by
  unfold fieldText
  cases star with
  | false =>
    rw [if_neg (by decide)]
    exact field_set lo hi s w hs h0 (fun n hn => by have := hb n hn; omega)
  | true =>
    rw [if_pos rfl, hst rfl]
    exact field_star lo hi w hlo hhi
theorem join_mem {sep : List UInt8} : ∀ {xs : List (List UInt8)} {b : UInt8}, b ∈ Lib.join xs sep → b ∈ sep ∨ ∃ x ∈ xs, b ∈ x
  | [], b, h => by rw [Lib.join_nil] at h; simp at h
  | [x], b, h => by rw [Lib.join_one] at h; exact .inr ⟨x, by simp, h⟩
  | x :: y :: r, b, h => by
    rw [join_two, List.mem_append, List.mem_append] at h
    rcases h with h | h | h
    · exact .inr ⟨x, by simp, h⟩
    · exact .inl h
    · rcases join_mem (xs := y :: r) h with h | ⟨z, hz, h⟩
      · exact .inl h
      · exact .inr ⟨z, List.mem_cons_of_mem _ hz, h⟩
theorem setText_octets {s : Nat} (hs : s < 18446744073709551616) : ∀ b ∈ setText s, 44 ≤ b.toNat ∧ b.toNat ≤ 57 ∧ b.toNat ≠ 42 := by
  intro b hb
  rcases join_mem hb with h | ⟨x, hx, h⟩
  · obtain rfl : b = 44 := by simpa using h
    decide
  · obtain ⟨n, hn, rfl⟩ := List.mem_map.1 hx
    have := dig_octets n (by have := items_lt hs n hn; omega) b h
    omega
theorem setText_ne {s : Nat} (h0 : s ≠ 0) : setText s ≠ [] := by
  unfold setText
  cases hit : items 64 s with
  | nil => exact absurd hit (items_ne h0)
  | cons n l =>
    rw [List.map_cons, Lib.join_cons]
    intro h
    have h1 := (List.append_eq_nil_iff.1 h).1
    have := (dig_size n).1
    rw [h1] at this
    simp at this
theorem fieldText_good {star : Bool} {s : Nat} (hs : s < 18446744073709551616) (h0 : s ≠ 0) : fieldText star s ≠ [] ∧ ∀ b ∈ fieldText star s, b ≠ 32 ∧ b.toNat < 128 := by
  unfold fieldText
  cases star with
  | true => rw [if_pos rfl]; exact ⟨by simp, by decide⟩
  | false =>
    rw [if_neg (by decide)]
    refine ⟨setText_ne h0, fun b hb => ?_⟩
    have := setText_octets hs b hb
    refine ⟨fun e => ?_, by omega⟩
    rw [e] at this
    have h32 : (32 : UInt8).toNat = 32 := by decide
    omega
theorem fieldText_star {star : Bool} {s : Nat} (hs : s < 18446744073709551616) : ((⟨(fieldText star s).toArray⟩ : ByteArray).toList == [42]) = star := by
  rw [Lib.toList_data]
  unfold fieldText
  cases star with
  | true => rfl
  | false =>
    rw [if_neg (by decide), beq_eq_false_iff_ne]
    intro h
    have h' : setText s = [42] := by simpa using h
    have := setText_octets hs 42 (by rw [h']; simp)
    exact this.2.2 rfl
/-- how long -/
theorem fieldText_len {star : Bool} {s N j D : Nat} (hN : N ≤ 64) (hs : s < 2 ^ N) (hj : 2 ^ j ∣ s) (hD : D = 2 ∨ D = 1 ∧ N ≤ 10) (h1 : j < N) : (fieldText star s).length ≤ (D + 1) * (N - j) := by
  unfold fieldText
  cases star with
  | true =>
    rw [if_pos rfl]
    have : 1 * 1 ≤ (D + 1) * (N - j) := Nat.mul_le_mul (by omega) (by omega)
    simpa using this
  | false =>
    rw [if_neg (by decide)]
    have hs64 : s < 18446744073709551616 := Nat.lt_of_lt_of_le hs (Nat.le_trans (Nat.pow_le_pow_right (by decide) hN) (by decide))
    have hfew := items_few N hN 64 s j hs ⟨s, by simp⟩ hj
    have h := join_size D ((items 64 s).map fun n => (dig n).data.toList) (fun x hx => by
      obtain ⟨n, hn, rfl⟩ := List.mem_map.1 hx
      rcases hD with rfl | ⟨rfl, h10⟩
      · exact (dig_size n).2.1
      · have hb := items_bit 64 s hs64 ⟨s, by simp⟩ n hn
        have hn10 : n < N := by
          rcases Nat.lt_or_ge n N with h' | h'
          · exact h'
          · rw [Nat.testBit_lt_two_pow (Nat.lt_of_lt_of_le hs (Nat.pow_le_pow_right (by decide) h'))] at hb; cases hb
        rw [(dig_size n).2.2 (by omega)]
        exact Nat.le_refl 1)
    rw [List.length_map] at h
    have h2 : (D + 1) * (items 64 s).length ≤ (D + 1) * (N - j) := Nat.mul_le_mul_left _ hfew
    unfold setText
    omega
theorem in_mask {all lo hi : Nat} (ha : all < 18446744073709551616) (h : ∀ i : Fin 64, all.testBit i.val = true → lo ≤ i.val ∧ i.val ≤ hi) {x : Nat} (hx : x < 18446744073709551616) (hok : okSet x all = true) :
    x ≠ 0 ∧ (∀ i, x.testBit i = true → lo ≤ i ∧ i ≤ hi) := by
  refine ⟨fun e => ?_, fun i hi => ?_⟩
  · obtain ⟨i, hi⟩ := Pure.okSet_some hx ha hok
    rw [e, Nat.zero_testBit] at hi
    cases hi
  · exact h ⟨i, bit_lt hx hi⟩ (Pure.okSet_bit hx ha hok hi)
theorem in_pow {x lo hi : Nat} (h : ∀ i, x.testBit i = true → lo ≤ i ∧ i ≤ hi) (hlo : lo ≤ 1) : x < 2 ^ (hi + 1) ∧ 2 ^ lo ∣ x := by
  refine ⟨Nat.lt_pow_two_of_testBit x fun i hi => ?_, ?_⟩
  · cases hb : x.testBit i with
    | false => rfl
    | true => have := h i hb; omega
  · rcases Nat.lt_or_ge 0 lo with h1 | h1
    · obtain rfl : lo = 1 := by omega
      have hb : x.testBit 0 = false := by
        cases hb : x.testBit 0 with
        | false => rfl
        | true => have := h 0 hb; omega
      rw [Nat.testBit_zero] at hb
      have : x % 2 ≠ 1 := by simpa using hb
      exact ⟨x / 2, by omega⟩
    · obtain rfl : lo = 0 := by omega
      exact ⟨x, by simp⟩
/-- the five fields' texts of a rule -/
def ruleFields (a b c d e : Nat) (f g : Bool) : List (List UInt8) :=
  [fieldText (decide (a = 1152921504606846975)) a, fieldText (decide (b = 16777215)) b, fieldText (f && decide (c = 4294967294)) c, fieldText (decide (d = 8190)) d, fieldText (g && decide (e = 127)) e]
/-- a rule's text -/
def ruleText (a b c d e : Nat) (f g : Bool) : ByteArray := ⟨(Lib.join (ruleFields a b c d e f g) [32]).toArray⟩
set_option maxRecDepth 100000 in
theorem rule_sets {a b c d e : Nat} {f g : Bool} (hr : Pure.Rule a b c d e f g) :
    (a ≠ 0 ∧ ∀ i, a.testBit i = true → 0 ≤ i ∧ i ≤ 59) ∧ (b ≠ 0 ∧ ∀ i, b.testBit i = true → 0 ≤ i ∧ i ≤ 23) ∧ (c ≠ 0 ∧ ∀ i, c.testBit i = true → 1 ≤ i ∧ i ≤ 31) ∧ (d ≠ 0 ∧ ∀ i, d.testBit i = true → 1 ≤ i ∧ i ≤ 12) ∧ (e ≠ 0 ∧ ∀ i, e.testBit i = true → 0 ≤ i ∧ i ≤ 6) := by
  obtain ⟨h0, h1, h2, h3, h4, _, _⟩ := hr.parts
  exact ⟨in_mask (by decide) (by decide +kernel) hr.ra h0, in_mask (by decide) (by decide +kernel) hr.rb h1, in_mask (by decide) (by decide +kernel) hr.rc h2, in_mask (by decide) (by decide +kernel) hr.rd h3, in_mask (by decide) (by decide +kernel) hr.re h4⟩
theorem rule_size {a b c d e : Nat} {f g : Bool} (hr : Pure.Rule a b c d e f g) : (ruleText a b c d e f g).size ≤ 400 := by
  obtain ⟨⟨_, k0⟩, ⟨_, k1⟩, ⟨_, k2⟩, ⟨_, k3⟩, ⟨_, k4⟩⟩ := rule_sets hr
  have p0 := in_pow k0 (by omega)
  have p1 := in_pow k1 (by omega)
  have p2 := in_pow k2 (by omega)
  have p3 := in_pow k3 (by omega)
  have p4 := in_pow k4 (by omega)
  have l0 := fieldText_len (star := decide (a = 1152921504606846975)) (D := 2) (by decide) p0.1 p0.2 (.inl rfl) (by decide)
  have l1 := fieldText_len (star := decide (b = 16777215)) (D := 2) (by decide) p1.1 p1.2 (.inl rfl) (by decide)
  have l2 := fieldText_len (star := f && decide (c = 4294967294)) (D := 2) (by decide) p2.1 p2.2 (.inl rfl) (by decide)
  have l3 := fieldText_len (star := decide (d = 8190)) (D := 2) (by decide) p3.1 p3.2 (.inl rfl) (by decide)
  have l4 := fieldText_len (star := g && decide (e = 127)) (D := 1) (by decide) p4.1 p4.2 (.inr ⟨rfl, by decide⟩) (by decide)
  have hs : (ruleText a b c d e f g).size = (Lib.join (ruleFields a b c d e f g) [32]).length := by rw [size_of_data]; simp [ruleText]
  rw [hs]
  unfold ruleFields
  rw [join_two, join_two, join_two, join_two, Lib.join_one]
  simp only [List.length_append, List.length_cons, List.length_nil]
  omega
theorem rule_words {a b c d e : Nat} {f g : Bool} (hr : Pure.Rule a b c d e f g) : Lib.goFieldsP blankP (ruleText a b c d e f g) =
    [⟨(fieldText (decide (a = 1152921504606846975)) a).toArray⟩, ⟨(fieldText (decide (b = 16777215)) b).toArray⟩, ⟨(fieldText (f && decide (c = 4294967294)) c).toArray⟩, ⟨(fieldText (decide (d = 8190)) d).toArray⟩, ⟨(fieldText (g && decide (e = 127)) e).toArray⟩] := by
  obtain ⟨⟨z0, _⟩, ⟨z1, _⟩, ⟨z2, _⟩, ⟨z3, _⟩, ⟨z4, _⟩⟩ := rule_sets hr
  have h := fields_join (ruleText a b c d e f g) (ruleFields a b c d e f g) (by simp [ruleFields]) (fun x hx => by
    simp only [ruleFields, List.mem_cons, List.not_mem_nil, or_false] at hx
    rcases hx with rfl | rfl | rfl | rfl | rfl
    · exact fieldText_good hr.ra z0
    · exact fieldText_good hr.rb z1
    · exact fieldText_good hr.rc z2
    · exact fieldText_good hr.rd z3
    · exact fieldText_good hr.re z4) (by simp [ruleText])
  exact h
theorem weekdays_back {e : Nat} (h : e < 128) : Go.bits .or .u64 (Go.bits .and .u64 (e : Int) 127) ((e : Int) / 128) = e := by
  have h1 : Go.bits .and .u64 (e : Int) ((127 : Nat) : Int) = ((e &&& 127 : Nat) : Int) := bits_and_u64_nat e 127 (by omega) (by decide)
  have h2 : e &&& 127 = e := by
    have := Nat.and_two_pow_sub_one_eq_mod e 7
    rw [show (2 : Nat) ^ 7 - 1 = 127 by decide] at this
    rw [this]; omega
  have h3 : ((e : Int) / 128) = ((0 : Nat) : Int) := by omega
  have h4 := bits_or_u64_nat e 0 (by omega) (by decide)
  rw [show (127 : Int) = ((127 : Nat) : Int) from rfl, h1, h2, h3, h4, Nat.or_zero]
theorem stars : bitsFrom 0 60 = 1152921504606846975 ∧ bitsFrom 0 24 = 16777215 ∧ bitsFrom 1 31 = 4294967294 ∧ bitsFrom 1 12 = 8190 ∧ bitsFrom 0 8 = 255 := by decide +kernel
set_option maxRecDepth 100000 in
/-- a rule comes back from its text -/
theorem parse_rule {a b c d e : Nat} {f g : Bool} (hr : Pure.Rule a b c d e f g) (w : World) :
    Calls Tryd.prog 14 #[.string (ruleText a b c d e f g)] w fun r w' => r = .returned (.tuple #[.agg #[.int .u64 a, .int .u64 b, .int .u64 c, .int .u64 d, .int .u64 e, .bool f, .bool g], .int .i64 0]) ∧ Below w.heap.size w w' := by
  obtain ⟨⟨z0, k0⟩, ⟨z1, k1⟩, ⟨z2, k2⟩, ⟨z3, k3⟩, ⟨z4, k4⟩⟩ := rule_sets hr
  obtain ⟨_, _, _, _, _, hf, hg⟩ := hr.parts
  obtain ⟨s0, s1, s2, s3, s4⟩ := stars
  have he := (in_pow k4 (by omega)).1
  have F0 := fun w => field_text 0 59 a (decide (a = 1152921504606846975)) w hr.ra z0 k0 (by decide) (by decide) (fun h => by rw [of_decide_eq_true h]; exact s0.symm)
  have F1 := fun w => field_text 0 23 b (decide (b = 16777215)) w hr.rb z1 k1 (by decide) (by decide) (fun h => by rw [of_decide_eq_true h]; exact s1.symm)
  have F2 := fun w => field_text 1 31 c (f && decide (c = 4294967294)) w hr.rc z2 k2 (by decide) (by decide) (fun h => by simp only [Bool.and_eq_true, decide_eq_true_eq] at h; rw [h.2]; exact s2.symm)
  have F3 := fun w => field_text 1 12 d (decide (d = 8190)) w hr.rd z3 k3 (by decide) (by decide) (fun h => by rw [of_decide_eq_true h]; exact s3.symm)
  have t2 : ((⟨(fieldText (f && decide (c = 4294967294)) c).toArray⟩ : ByteArray).toList == [42]) = f := by
    rw [fieldText_star hr.rc]
    cases f with
    | false => rfl
    | true => rw [hf rfl]; rfl
  have t4 : ((⟨(fieldText (g && decide (e = 127)) e).toArray⟩ : ByteArray).toList == [42]) = g := by
    rw [fieldText_star hr.re]
    cases g with
    | false => rfl
    | true => rw [hg rfl]; rfl
  have F4 : ∀ w, Calls Tryd.prog 29 #[.agg #[.int .i64 0, .int .i64 7], .string ⟨(fieldText (g && decide (e = 127)) e).toArray⟩] w fun r w' => r = .returned (.tuple #[.int .u64 ((if g = true then 255 else e : Nat) : Int), .bool true]) ∧ Below w.heap.size w w' := by
    intro w
    cases hgc : g with
    | true =>
      have h := field_star 0 7 w (by decide) (by decide)
      rw [show 7 + 1 - 0 = 8 from rfl, s4] at h
      rw [if_pos rfl, hg hgc]
      exact h
    | false =>
      rw [if_neg (by decide), Bool.false_and]
      exact field_text 0 7 e false w hr.re z4 (fun i hi => by have := k4 i hi; omega) (by decide) (by decide) (fun h => by cases h)
  have h := parse_calls (ruleText a b c d e f g) _ _ _ _ _ a b c d (if g = true then 255 else e) w (rule_size hr) (rule_words hr) (Aside0.mk F0) (Aside0.mk F1) (Aside0.mk F2) (Aside0.mk F3) (Aside0.mk F4)
  rw [t2, t4] at h
  have hw : Go.bits .or .u64 (Go.bits .and .u64 ((if g = true then 255 else e : Nat) : Int) 127) (((if g = true then 255 else e : Nat) : Int) / 128) = (e : Int) := by
    cases hgc : g with
    | true =>
      rw [if_pos rfl, hg hgc]
      decide +kernel
    | false =>
      rw [if_neg (by decide)]
      exact weekdays_back (by have : (2 : Nat) ^ (6 + 1) = 128 := by decide
                              omega)
  rw [hw] at h
  exact h
end Go.Proofs.YtkffmgalmooioaaDoor.Cr
