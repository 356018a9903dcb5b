/- Plain: a key read: the program's way and the page's are one. -/
import Derived.Test.YtdodfelbejkbiaaDoorPb
import Derived.Test.YtdodfelbejkbiaaDoorKx6
namespace Go.Proofs.YtdodfelbejkbiaaDoor.K
open Go Go.RowKit Go.Shelf Go.Proofs.YtdodfelbejkbiaaDoorW.PrintWords Go.Proofs.YtdodfelbejkbiaaDoorW.PrintLast Go.Proofs.YtdodfelbejkbiaaDoorW.PrintMore

def to44 (p : S52) : S44 := ⟨p.f0, p.f1, p.f2⟩
def to52 (p : S44) : S52 := ⟨p.f0, p.f1, p.f2⟩
/-- a part ahead, what is left, the error -/
def getL (s : List UInt8) : S44 × List UInt8 × Int :=
  if s.getD 0 0 = 17 then
    (if s.length < 9 then (z44, [], 8) else (⟨true, (numFold ((s.drop 1).take 8) : Int) - 9223372036854775808, ⟨#[]⟩⟩, s.drop 9, 0))
  else if s.getD 0 0 = 34 then (⟨false, 0, ⟨(scan (s.drop 1) []).1.toArray⟩⟩, (scan (s.drop 1) []).2.1, (scan (s.drop 1) []).2.2)
  else (z44, [], 22)
theorem num8_lt (s : List UInt8) : numFold ((s.drop 1).take 8) < 18446744073709551616 := by
  have h := numFold_lt' ((s.drop 1).take 8)
  have h2 : 256 ^ ((s.drop 1).take 8).length ≤ 256 ^ 8 := Nat.pow_le_pow_right (by decide) (by rw [List.length_take]; omega)
  have e : (256 : Nat) ^ 8 = 18446744073709551616 := by decide
  omega
theorem get_is (a : ByteArray) (h0 : 0 < a.size) (h1 : a.size ≤ 140737488351232) :
    keys_get.f a = some ((getL a.data.toList).1.f0, (getL a.data.toList).1.f1, (getL a.data.toList).1.f2, ⟨(getL a.data.toList).2.1.toArray⟩, (getL a.data.toList).2.2) := by
  unfold keys_get.f getL
  rw [if_neg (by omega)]
  have hl := size_list a
  by_cases e1 : a.data.toList.getD 0 0 = 17
  · rw [if_pos e1, if_pos e1]
    by_cases h9 : a.size < 9
    · rw [if_pos h9, if_pos (by omega)]; rfl
    · rw [if_neg h9, if_neg (by omega), val_of _ (num8_lt _)]
  · rw [if_neg e1, if_neg e1]
    by_cases e2 : a.data.toList.getD 0 0 = 34
    · rw [if_pos e2, if_pos e2, words_scan a.size (a.data.toList.drop 1) [] (by rw [List.length_drop]; omega)]
    · rw [if_neg e2, if_neg e2]; rfl
theorem getL_less {s : List UInt8} (h : s ≠ []) : (getL s).2.1.length < s.length := by
  have hp := List.length_pos_iff.2 h
  have hs := scan_len (s.drop 1).length (s.drop 1) [] (Nat.le_refl _)
  rw [List.length_drop] at hs
  unfold getL
  split
  · split
    · simpa using hp
    · simp only [List.length_drop]; omega
  · split
    · simp only []; omega
    · simpa using hp
/-- a key's parts, and the error -/
def decGo : Nat → List UInt8 → List S44 → List S44 × Int
  | 0, _, _ => ([], 8)
  | f + 1, s, acc => if s = [] then (if 8 < acc.length then ([], 3) else (acc, 0)) else if (getL s).2.2 = 0 then decGo f (getL s).2.1 (acc ++ [(getL s).1]) else ([], (getL s).2.2)
theorem dec_is : ∀ (n k f : Nat) (a : ByteArray) (acc : List S44), a.size ≤ n → n < k → n < f → a.size ≤ 140737488351232 → acc.length + a.size < 4398046511104 →
    keys_Decode.l0 k a acc = some (decGo f a.data.toList acc) := by
  intro n
  induction n with
  | zero =>
    intro k f a acc hn hk hf h1 hacc
    obtain ⟨k, rfl⟩ : ∃ m, k = m + 1 := ⟨k - 1, by omega⟩
    obtain ⟨f, rfl⟩ : ∃ m, f = m + 1 := ⟨f - 1, by omega⟩
    have he : a.data.toList = [] := List.eq_nil_of_length_eq_zero (by rw [size_list]; omega)
    simp only [keys_Decode.l0]
    rw [decGo, if_pos (by rw [Lib.toList_data]; exact he), if_pos he]
    by_cases h8 : 8 < acc.length
    · rw [if_pos (by omega), if_pos h8]
    · rw [if_neg (by omega), if_neg h8]
  | succ n ih =>
    intro k f a acc hn hk hf h1 hacc
    obtain ⟨k, rfl⟩ : ∃ m, k = m + 1 := ⟨k - 1, by omega⟩
    obtain ⟨f, rfl⟩ : ∃ m, f = m + 1 := ⟨f - 1, by omega⟩
    simp only [keys_Decode.l0]
    rw [decGo]
    by_cases he : a.data.toList = []
    · rw [if_pos (by rw [Lib.toList_data]; exact he), if_pos he]
      by_cases h8 : 8 < acc.length
      · rw [if_pos (by omega), if_pos h8]
      · rw [if_neg (by omega), if_neg h8]
    · have h0 : 0 < a.size := by have := List.length_pos_iff.2 he; rw [size_list] at this; exact this
      have hless := getL_less he
      rw [size_list] at hless
      rw [if_neg (by rw [Lib.toList_data]; exact he), if_neg he, get_is a h0 h1]
      simp only [Option.bind_some]
      by_cases hz : (getL a.data.toList).2.2 = 0
      · rw [if_pos hz, if_pos hz, if_pos (by omega)]
        have hsz : (⟨(getL a.data.toList).2.1.toArray⟩ : ByteArray).size = (getL a.data.toList).2.1.length := by rw [← size_list]
        have := ih k f ⟨(getL a.data.toList).2.1.toArray⟩ (acc ++ [(getL a.data.toList).1]) (by omega) (by omega) (by omega) (by omega) (by rw [List.length_append]; simp only [List.length_cons, List.length_nil]; omega)
        exact this
      · rw [if_neg hz, if_neg hz]
theorem bt_at (s : ByteArray) (i : Nat) : bt s (i : Int) = (((s.data.toList.getD i 0).toNat : Nat) : Int) := by
  unfold bt
  rw [Int.toNat_natCast]
  by_cases h : i < s.size
  · rw [dif_pos h, byte_at s i h]
  · rw [dif_neg h, List.getD_eq_getElem?_getD, List.getElem?_eq_none (by rw [size_list]; omega)]
    rfl
theorem w_one {i : Nat} (h : i ≤ 140737488351232) : wrap64 ((i : Int) + 1) = ((i + 1 : Nat) : Int) := by unfold wrap64; omega
theorem w_two {i : Nat} (h : i ≤ 140737488351232) : wrap64 ((i : Int) + 2) = ((i + 2 : Nat) : Int) := by unfold wrap64; omega
theorem w_nine {i : Nat} (h : i ≤ 140737488351232) : wrap64 ((i : Int) + 9) = ((i + 9 : Nat) : Int) := by unfold wrap64; omega
theorem w_add {i j : Nat} (h : i ≤ 140737488351232) (h2 : j ≤ 140737488351232) : wrap64 ((i : Int) + (j : Int)) = ((i + j : Nat) : Int) := by unfold wrap64; omega
theorem w_sub {i j : Nat} (h : i ≤ 140737488351232) (h2 : j ≤ i) : wrap64 ((i : Int) - (j : Int)) = ((i - j : Nat) : Int) := by unfold wrap64; omega
theorem w_rest {a b c : Nat} (h : b ≤ 140737488351232) (h2 : c + a ≤ b) : wrap64 ((a : Int) + (((b - a : Nat) : Int) - (c : Int))) = ((b - c : Nat) : Int) := by unfold wrap64; omega
def nums8 (l : List UInt8) : List Int := l.map fun b => (b.toNat : Int)
theorem nums8_snoc (l : List UInt8) (c : UInt8) : nums8 l ++ [(c.toNat : Int)] = nums8 (l ++ [c]) := by simp [nums8]
theorem nums8_more (l m : List UInt8) : nums8 l ++ nums8 m = nums8 (l ++ m) := by simp [nums8]
theorem nums8_length (l : List UInt8) : (nums8 l).length = l.length := by simp [nums8]
theorem drop_head (l : List UInt8) (i : Nat) (h : i < l.length) : l.drop i = l.getD i 0 :: l.drop (i + 1) := by
  rw [List.drop_eq_getElem_cons h, List.getD_eq_getElem?_getD, List.getElem?_eq_getElem h]
  rfl
theorem u8_zero {a : UInt8} : ((a.toNat : Nat) : Int) = 0 ↔ a = 0 := by
  constructor
  · intro h
    apply UInt8.toNat_inj.1
    have : (0 : UInt8).toNat = 0 := rfl
    omega
  · rintro rfl; rfl
theorem u8_one {a : UInt8} : ((a.toNat : Nat) : Int) = 1 ↔ a = 1 := by
  constructor
  · intro h
    apply UInt8.toNat_inj.1
    have : (1 : UInt8).toNat = 1 := rfl
    omega
  · rintro rfl; rfl
theorem u8_ff {a : UInt8} : ((a.toNat : Nat) : Int) = 255 ↔ a = 255 := by
  constructor
  · intro h
    apply UInt8.toNat_inj.1
    have : (255 : UInt8).toNat = 255 := rfl
    omega
  · rintro rfl; rfl
theorem u8_17 {a : UInt8} : ((a.toNat : Nat) : Int) = 17 ↔ a = 17 := by
  constructor
  · intro h
    apply UInt8.toNat_inj.1
    have : (17 : UInt8).toNat = 17 := rfl
    omega
  · rintro rfl; rfl
theorem u8_34 {a : UInt8} : ((a.toNat : Nat) : Int) = 34 ↔ a = 34 := by
  constructor
  · intro h
    apply UInt8.toNat_inj.1
    have : (34 : UInt8).toNat = 34 := rfl
    omega
  · rintro rfl; rfl
/-- what the page's text answers -/
def textR (n : Nat) (r : List UInt8 × List UInt8 × Int) : ByteArray × Int × Int := if r.2.2 = 0 then (⟨r.1.toArray⟩, (n : Int) - (r.2.1.length : Int), 0) else (⟨#[]⟩, 0, r.2.2)
theorem rtext_is (x : ByteArray) (hx : x.size ≤ 140737488351232) : ∀ (d k i : Nat) (acc : List UInt8), x.size - i ≤ d → i ≤ x.size → d < k → acc.length ≤ i →
    ticklerref02_text.l0 k x (nums8 acc) (i : Int) = some (textR x.size (scan (x.data.toList.drop i) acc)) := by
  intro d
  induction d using Nat.strongRecOn with
  | _ d ih =>
    intro k i acc hd hi hk ha
    obtain ⟨k, rfl⟩ : ∃ m, k = m + 1 := ⟨k - 1, by omega⟩
    have hl := size_list x
    simp only [ticklerref02_text.l0]
    by_cases hlt : i < x.size
    · rw [if_pos (by omega), if_pos (by omega), bt_at, drop_head _ i (by omega)]
      generalize hc : x.data.toList.getD i 0 = c
      by_cases hz : c = 0
      · subst hz
        rw [if_pos (u8_zero.2 rfl), w_one (by omega)]
        by_cases hl1 : i + 1 < x.size
        · rw [if_neg (by omega), if_pos (by omega), if_pos (by omega), bt_at, drop_head _ (i + 1) (by omega), scan_zero]
          generalize hd2 : x.data.toList.getD (i + 1) 0 = c2
          by_cases h1 : c2 = 1
          · subst h1
            rw [if_pos (u8_one.2 rfl), if_pos rfl, w_two (by omega)]
            unfold textR
            rw [if_pos rfl]
            have e : strOfNums (nums8 acc) = ⟨acc.toArray⟩ := strOf_bytes acc
            rw [e, List.length_drop, hl]
            refine congrArg some (congrArg (Prod.mk _) (congrArg (fun z => (z, (0 : Int))) ?_))
            omega
          · rw [if_neg (fun e => h1 (u8_one.1 e)), if_neg h1]
            by_cases h2 : c2 = 255
            · subst h2
              rw [if_pos (u8_ff.2 rfl), if_pos rfl, if_pos (by rw [nums8_length]; omega), w_one (by omega)]
              have := ih (d - 2) (by omega) k (i + 1 + 1) (acc ++ [0]) (by omega) (by omega) (by omega) (by rw [List.length_append]; simp only [List.length_cons, List.length_nil]; omega)
              have e0 : nums8 acc ++ [0] = nums8 (acc ++ [0]) := by simp [nums8]
              rw [e0]
              exact this
            · rw [if_neg (fun e => h2 (u8_ff.1 e)), if_neg h2]
              rfl
        · rw [if_pos (by omega), List.drop_of_length_le (by omega), scan_zero_nil]
          rfl
      · rw [if_neg (fun e => hz (u8_zero.1 e)), if_pos (by rw [nums8_length]; omega), nums8_snoc, w_one (by omega), scan_ne hz]
        exact ih (d - 1) (by omega) k (i + 1) _ (by omega) (by omega) (by omega) (by rw [List.length_append]; simp only [List.length_cons, List.length_nil]; omega)
    · rw [if_neg (by omega), List.drop_of_length_le (by omega)]
      rfl
theorem byte_of (x : ByteArray) (i j : Nat) : (x.data.toList.drop i).getD j 0 = x.data.toList.getD (i + j) 0 := by
  rw [List.getD_eq_getElem?_getD, List.getD_eq_getElem?_getD, List.getElem?_drop]
/-- the page's loop over a number's octets -/
theorem rnum_is (x : ByteArray) (hx : x.size ≤ 140737488351232) (acc : List S52) (hacc : acc.length < 4398046511104) (i : Nat) (hi : i + 9 ≤ x.size) : ∀ (d k j : Nat), j + d = 8 → d + 1 ≤ k →
    ticklerref02_Decode.l1 k x acc (i : Int) ((numFold (((x.data.toList.drop i).drop 1).take j) : Nat) : Int) ((j + 1 : Nat) : Int) =
      ticklerref02_Decode.l0 (k - (d + 1)) x (acc ++ [⟨true, (numFold (((x.data.toList.drop i).drop 1).take 8) : Int) - 9223372036854775808, ⟨#[]⟩⟩]) ((i + 9 : Nat) : Int) := by
  intro d
  induction d with
  | zero =>
    intro k j hj hk
    obtain ⟨k, rfl⟩ : ∃ m, k = m + 1 := ⟨k - 1, by omega⟩
    obtain rfl : j = 8 := by omega
    simp only [ticklerref02_Decode.l1]
    rw [if_neg (by omega), if_pos hacc, val_of _ (num8_lt _), w_nine (by omega)]
    rfl
  | succ d ih =>
    intro k j hj hk
    obtain ⟨k, rfl⟩ : ∃ m, k = m + 1 := ⟨k - 1, by omega⟩
    simp only [ticklerref02_Decode.l1]
    have hl := size_list x
    rw [if_pos (by omega), w_add (by omega) (by omega), if_pos (by omega), if_pos (by omega), w_one (by omega), bt_at]
    have hlen : j < ((x.data.toList.drop i).drop 1).length := by rw [List.length_drop, List.length_drop]; omega
    have hb : x.data.toList.getD (i + (j + 1)) 0 = ((x.data.toList.drop i).drop 1)[j] := by
      rw [List.getElem_drop, List.getElem_drop, List.getD_eq_getElem?_getD, List.getElem?_eq_getElem (by omega)]
      simp only [Option.getD_some]
      congr 1
      omega
    have hst := numFold_step (((x.data.toList.drop i).drop 1).take j) ((x.data.toList.drop i).drop 1)[j] (by rw [List.length_take]; omega)
    rw [← List.take_succ_eq_append_getElem hlen] at hst
    rw [hb, hst, ih k (j + 1) (by omega) (by omega)]
    congr 1
    omega
theorem rdec_is (x : ByteArray) (hx : x.size ≤ 140737488351232) : ∀ (n k f i : Nat) (acc : List S44), x.size - i ≤ n → i ≤ x.size → 2 * n + 12 ≤ k → n < f → acc.length + (x.size - i) < 4398046511104 →
    ticklerref02_Decode.l0 k x (acc.map to52) (i : Int) = some ((decGo f (x.data.toList.drop i) acc).1.map to52, (decGo f (x.data.toList.drop i) acc).2) := by
  intro n
  induction n using Nat.strongRecOn with
  | _ n ih =>
    intro k f i acc hn hi hk hf hacc
    obtain ⟨k, rfl⟩ : ∃ m, k = m + 1 := ⟨k - 1, by omega⟩
    obtain ⟨f, rfl⟩ : ∃ m, f = m + 1 := ⟨f - 1, by omega⟩
    have hl := size_list x
    have hal : (acc.map to52).length = acc.length := List.length_map _
    simp only [ticklerref02_Decode.l0]
    rw [decGo]
    by_cases hlt : i < x.size
    · have hne : x.data.toList.drop i ≠ [] := by intro e; have := congrArg List.length e; rw [List.length_drop] at this; simp at this; omega
      rw [if_pos (by omega), if_pos (by omega), if_neg hne, bt_at]
      have hb0 : (x.data.toList.drop i).getD 0 0 = x.data.toList.getD i 0 := by rw [byte_of]; rfl
      have hless := getL_less hne
      rw [List.length_drop, hl] at hless
      by_cases e1 : x.data.toList.getD i 0 = 17
      · rw [if_pos (u8_17.2 e1), w_sub (by omega) hi]
        clear hless
        by_cases h9 : x.size - i < 9
        · have hg : getL (x.data.toList.drop i) = (z44, [], 8) := by unfold getL; rw [hb0, if_pos e1, if_pos (by rw [List.length_drop]; omega)]
          rw [if_pos (by omega), hg]
          rfl
        · have hg : getL (x.data.toList.drop i) = (⟨true, (numFold (((x.data.toList.drop i).drop 1).take 8) : Int) - 9223372036854775808, ⟨#[]⟩⟩, (x.data.toList.drop i).drop 9, 0) := by unfold getL; rw [hb0, if_pos e1, if_neg (by rw [List.length_drop]; omega)]
          rw [if_neg (by omega), hg]
          clear hg
          simp only []
          have h := rnum_is x hx (acc.map to52) (by omega) i (by omega) 8 k 0 (by omega) (by omega)
          rw [List.take_zero] at h
          have e0 : ((numFold [] : Nat) : Int) = 0 := rfl
          have e00 : ((0 + 1 : Nat) : Int) = 1 := rfl
          rw [e0, e00] at h
          rw [h]
          simp only [if_true]
          have hi2 := ih (n - 9) (by omega) (k - (8 + 1)) f (i + 9) (acc ++ [⟨true, (numFold (((x.data.toList.drop i).drop 1).take 8) : Int) - 9223372036854775808, ⟨#[]⟩⟩]) (by omega) (by omega) (by omega) (by omega) (by rw [List.length_append]; simp only [List.length_cons, List.length_nil]; omega)
          rw [List.map_append] at hi2
          rw [show (x.data.toList.drop i).drop 9 = x.data.toList.drop (i + 9) from List.drop_drop]
          exact hi2
      · rw [if_neg (fun e => e1 (u8_17.1 e))]
        by_cases e2 : x.data.toList.getD i 0 = 34
        · rw [if_pos (u8_34.2 e2), w_one (by omega), if_pos (by omega), if_pos (by omega)]
          have hg : getL (x.data.toList.drop i) = (⟨false, 0, ⟨(scan ((x.data.toList.drop i).drop 1) []).1.toArray⟩⟩, (scan ((x.data.toList.drop i).drop 1) []).2.1, (scan ((x.data.toList.drop i).drop 1) []).2.2) := by unfold getL; rw [hb0, if_neg e1, if_pos e2]
          rw [hg]
          clear hless hg
          have hsz : (x.extract (i + 1) x.size).size = x.size - (i + 1) := by rw [ByteArray.size_extract]; omega
          have ht := rtext_is (x.extract (i + 1) x.size) (by omega) (x.size - (i + 1)) k 0 [] (by omega) (by omega) (by omega) (Nat.le_refl _)
          rw [extract_from, List.drop_zero] at ht
          have e5 : nums8 [] = ([] : List Int) := rfl
          have e6 : ((0 : Nat) : Int) = 0 := rfl
          rw [e5, e6] at ht
          have hte : ticklerref02_text.f k (x.extract ((i + 1 : Nat) : Int).toNat x.size) = ticklerref02_text.l0 k (x.extract (i + 1) x.size) [] 0 := by rw [Int.toNat_natCast]; rfl
          rw [hte, ht, List.drop_drop]
          simp only [Option.bind_some]
          have hsl := scan_len (x.data.toList.drop (i + 1)).length (x.data.toList.drop (i + 1)) [] (Nat.le_refl _)
          rw [List.length_drop, hl] at hsl
          generalize hr : scan (x.data.toList.drop (i + 1)) [] = r at hsl
          rw [hsz]
          unfold textR
          by_cases hz : r.2.2 = 0
          · rw [if_pos hz, if_pos hz, if_pos rfl, if_pos (by omega)]
            have hrest : r.2.1 = x.data.toList.drop (x.size - r.2.1.length) := by
              obtain ⟨y, _, hs⟩ := scan_back _ _ _ r.1 r.2.1 (Nat.le_refl _) (by rw [hr, ← hz])
              have e : x.data.toList = x.data.toList.take (i + 1) ++ (escD y ++ [0, 1]) ++ r.2.1 := by
                rw [List.append_assoc, List.append_assoc]
                have : escD y ++ ([0, 1] ++ r.2.1) = escD y ++ 0 :: 1 :: r.2.1 := rfl
                rw [this, ← hs, List.take_append_drop]
              have el := congrArg List.length e
              rw [List.length_append, hl] at el
              conv => rhs; rw [e]
              rw [show x.size - r.2.1.length = (x.data.toList.take (i + 1) ++ (escD y ++ [0, 1])).length by omega, List.drop_left]
            simp only []
            rw [w_rest (by omega) (by omega)]
            have hi2 := ih (n - 1) (by omega) k f (x.size - r.2.1.length) (acc ++ [⟨false, 0, ⟨r.1.toArray⟩⟩]) (by omega) (by omega) (by omega) (by omega) (by rw [List.length_append]; simp only [List.length_cons, List.length_nil]; omega)
            rw [List.map_append, ← hrest] at hi2
            exact hi2
          · rw [if_neg hz, if_neg hz]
            simp only []
            rw [if_neg hz]
            rfl
        · rw [if_neg (fun e => e2 (u8_34.1 e))]
          have hg : getL (x.data.toList.drop i) = (z44, [], 22) := by unfold getL; rw [hb0, if_neg e1, if_neg e2]
          rw [hg]
          rfl
    · have he : x.data.toList.drop i = [] := List.drop_of_length_le (by omega)
      rw [if_neg (by omega), if_pos he, hal]
      by_cases h8 : 8 < acc.length
      · rw [if_pos (by omega), if_pos h8]; rfl
      · rw [if_neg (by omega), if_neg h8]
end Go.Proofs.YtdodfelbejkbiaaDoor.K
