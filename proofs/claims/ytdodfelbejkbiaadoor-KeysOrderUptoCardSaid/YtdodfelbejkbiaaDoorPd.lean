/- Plain: parts handed over, looked at, written, compared, what is above: the program's way and the page's are one. -/
import Derived.Test.YtdodfelbejkbiaaDoorPc
import Derived.Test.YtdodfelbejkbiaaDoorKx7s
import Derived.Test.YtdodfelbejkbiaaDoorKx10
namespace Go.Proofs.YtdodfelbejkbiaaDoor.K
open Go Go.RowKit Go.Shelf Go.Proofs.YtdodfelbejkbiaaDoorW.PrintWords Go.Proofs.YtdodfelbejkbiaaDoorW.PrintLast Go.Proofs.YtdodfelbejkbiaaDoorW.PrintMore

theorem rd52 (l : List S52) (n : Nat) (h : n < l.length) : rd_T52 l (n : Int) = l[n] := by simp [rd_T52, List.getD_eq_getElem?_getD, h]
theorem to_back (p : S44) : to44 (to52 p) = p := rfl
theorem to_forth (p : S52) : to52 (to44 p) = p := rfl
theorem map_back (l : List S44) : (l.map to52).map to44 = l := by rw [List.map_map]; exact List.map_id'' (fun p => rfl) l
theorem map_forth (l : List S52) : (l.map to44).map to52 = l := by rw [List.map_map]; exact List.map_id'' (fun p => rfl) l
theorem of_l0 (l : List S52) (hl : l.length < 4398046511104) : ∀ (d k n : Nat), n + d = l.length → d < k → ticklerlaw02_of.l0 k l ((l.take n).map to44) (n : Int) = some (l.map to44) := by
  intro d
  induction d with
  | zero =>
    intro k n hn hk
    obtain ⟨k, rfl⟩ : ∃ m, k = m + 1 := ⟨k - 1, by omega⟩
    simp only [ticklerlaw02_of.l0]
    rw [if_neg (by omega), List.take_of_length_le (by omega)]
  | succ d ih =>
    intro k n hn hk
    obtain ⟨k, rfl⟩ : ∃ m, k = m + 1 := ⟨k - 1, by omega⟩
    have hlen : ((l.take n).map to44).length = n := by rw [List.length_map, List.length_take]; omega
    simp only [ticklerlaw02_of.l0]
    rw [if_pos (by omega), if_pos (by omega), if_pos (by omega), w_one (by omega), rd52 l n (by omega)]
    have e : (l.take n).map to44 ++ [(⟨l[n].f0, l[n].f1, l[n].f2⟩ : S44)] = (l.take (n + 1)).map to44 := by
      rw [List.take_succ_eq_append_getElem (show n < l.length by omega), List.map_append]; rfl
    rw [e]
    exact ih k (n + 1) (by omega) (by omega)
theorem of_is (l : List S52) (hl : l.length < 4398046511104) (k : Nat) (hk : l.length < k) : ticklerlaw02_of.f k l = some (l.map to44) := of_l0 l hl l.length k 0 (by omega) hk
theorem same_l0 (l : List S44) (hl : l.length ≤ 140737488351232) : ∀ (d k n : Nat), n + d = l.length → d < k → ticklerlaw02_same.l0 k l (l.map to52) (n : Int) = some true := by
  intro d
  induction d with
  | zero =>
    intro k n hn hk
    obtain ⟨k, rfl⟩ : ∃ m, k = m + 1 := ⟨k - 1, by omega⟩
    simp only [ticklerlaw02_same.l0]
    rw [if_neg (by omega)]
  | succ d ih =>
    intro k n hn hk
    obtain ⟨k, rfl⟩ : ∃ m, k = m + 1 := ⟨k - 1, by omega⟩
    have hlen : (l.map to52).length = l.length := List.length_map _
    simp only [ticklerlaw02_same.l0]
    rw [if_pos (by omega), if_pos (by omega), if_pos (by omega), w_one (by omega), rd_at l n (by omega), rd52 (l.map to52) n (by omega), List.getElem_map]
    have e : (!(l[n].f0 == (to52 l[n]).f0) || (!(l[n].f1 == (to52 l[n]).f1) || (!(l[n].f2.toList == (to52 l[n]).f2.toList)))) = false := by simp [to52]
    rw [e, if_neg (by decide)]
    exact ih k (n + 1) (by omega) (by omega)
theorem same_is (l : List S44) (hl : l.length ≤ 140737488351232) (k : Nat) (hk : l.length < k) : ticklerlaw02_same.f k l (l.map to52) = some true := by
  unfold ticklerlaw02_same.f
  rw [if_pos (by rw [List.length_map])]
  exact same_l0 l hl l.length k 0 (by omega) hk
theorem same_of (l : List S52) (hl : l.length ≤ 140737488351232) (k : Nat) (hk : l.length < k) : ticklerlaw02_same.f k (l.map to44) l = some true := by
  have h := same_is (l.map to44) (by rw [List.length_map]; exact hl) k (by rw [List.length_map]; exact hk)
  rw [map_forth] at h
  exact h
theorem rcheck_l0 (l : List S52) (hl : l.length ≤ 8) : ∀ (d k n : Nat), n + d = l.length → d < k → ticklerref02_Check.l0 k l (n : Int) = some (if ((l.map to44).drop n).any badP then 1 else 0) := by
  intro d
  induction d with
  | zero =>
    intro k n hn hk
    obtain ⟨k, rfl⟩ : ∃ m, k = m + 1 := ⟨k - 1, by omega⟩
    simp only [ticklerref02_Check.l0]
    rw [if_neg (by omega), List.drop_of_length_le (by rw [List.length_map]; omega)]
    rfl
  | succ d ih =>
    intro k n hn hk
    obtain ⟨k, rfl⟩ : ∃ m, k = m + 1 := ⟨k - 1, by omega⟩
    have hlen : (l.map to44).length = l.length := List.length_map _
    simp only [ticklerref02_Check.l0]
    rw [if_pos (by omega), if_pos (by omega), rd52 l n (by omega), w_one (by omega), ih k (n + 1) (by omega) (by omega), List.drop_eq_getElem_cons (show n < (l.map to44).length by omega), List.any_cons, List.getElem_map]
    generalize ((l.map to44).drop (n + 1)).any badP = rest
    obtain ⟨f, m, t⟩ := l[n]
    have hb : badP (to44 ⟨f, m, t⟩) = ((f && !t.toList.isEmpty) || (!f && m != 0)) := rfl
    rw [hb]
    simp only []
    cases f with
    | true =>
      rw [if_pos rfl]
      by_cases ht : t.toList = []
      · rw [if_pos ht, if_pos rfl, ht]; simp
      · rw [if_neg ht]; cases hq : t.toList with
        | nil => exact absurd hq ht
        | cons a b => simp
    | false =>
      rw [if_neg (by decide), if_neg (by decide)]
      by_cases hm : m = 0
      · rw [if_pos hm, hm]; simp
      · rw [if_neg hm]
        have : (m != 0) = true := by simpa using hm
        rw [this]; simp
theorem rcheck_is (l : List S52) (k : Nat) (hk : 9 < k) : ticklerref02_Check.f k l = some (checkL (l.map to44)) := by
  unfold ticklerref02_Check.f checkL
  rw [List.length_map]
  by_cases h : 8 < l.length
  · rw [if_pos (by omega), if_pos h]
  · rw [if_neg (by omega), if_neg h]
    have := rcheck_l0 l (by omega) l.length k 0 (by omega) (by omega)
    exact this
/-- a number's octets, as numbers -/
theorem num_octets (n : Int) : ([17, ((Go.bits .xor .u64 (IntKind.u64.wrap n) 9223372036854775808) / 72057594037927936) % 256, ((Go.bits .xor .u64 (IntKind.u64.wrap n) 9223372036854775808) / 281474976710656) % 256, ((Go.bits .xor .u64 (IntKind.u64.wrap n) 9223372036854775808) / 1099511627776) % 256, ((Go.bits .xor .u64 (IntKind.u64.wrap n) 9223372036854775808) / 4294967296) % 256, ((Go.bits .xor .u64 (IntKind.u64.wrap n) 9223372036854775808) / 16777216) % 256, ((Go.bits .xor .u64 (IntKind.u64.wrap n) 9223372036854775808) / 65536) % 256, ((Go.bits .xor .u64 (IntKind.u64.wrap n) 9223372036854775808) / 256) % 256, (Go.bits .xor .u64 (IntKind.u64.wrap n) 9223372036854775808) % 256] : List Int) = nums8 (17 :: octets (mOf n) 8) := by
  rw [mOf_is]
  generalize mOf n = M
  have h0 := octet_cell M 0 72057594037927936 (by decide)
  have h1 := octet_cell M 1 281474976710656 (by decide)
  have h2 := octet_cell M 2 1099511627776 (by decide)
  have h3 := octet_cell M 3 4294967296 (by decide)
  have h4 := octet_cell M 4 16777216 (by decide)
  have h5 := octet_cell M 5 65536 (by decide)
  have h6 := octet_cell M 6 256 (by decide)
  have h7 := octet_cell M 7 1 (by decide)
  rw [show ((M : Int) / ((1 : Nat) : Int)) = M by omega] at h7
  have e : nums8 (17 :: octets M 8) = [17, ((octet M 0).toNat : Int), ((octet M 1).toNat : Int), ((octet M 2).toNat : Int), ((octet M 3).toNat : Int), ((octet M 4).toNat : Int), ((octet M 5).toNat : Int), ((octet M 6).toNat : Int), ((octet M 7).toNat : Int)] := rfl
  rw [e, ← h0, ← h1, ← h2, ← h3, ← h4, ← h5, ← h6, ← h7]
  rfl
/-- the page's loop over a text's octets -/
theorem renc_l1 (l : List S52) (n : Nat) (hn : n < l.length) (hn2 : l.length ≤ 8) (t : List UInt8) (ht : l[n].f2.data.toList = t) (htl : t.length ≤ 2097152) : ∀ (d k j : Nat) (acc : List UInt8), j + d = t.length → d + 1 ≤ k → acc.length + 2 * d + 2 < 140737488355328 →
    ticklerref02_Encode.l1 k l (nums8 acc) (n : Int) (j : Int) = ticklerref02_Encode.l0 (k - (d + 1)) l (nums8 (acc ++ (escD (t.drop j) ++ [0, 1]))) ((n + 1 : Nat) : Int) := by
  intro d
  have hts : l[n].f2.size = t.length := by rw [← ht, size_list]
  induction d with
  | zero =>
    intro k j acc hj hk ha
    obtain ⟨k, rfl⟩ : ∃ m, k = m + 1 := ⟨k - 1, by omega⟩
    simp only [ticklerref02_Encode.l1]
    rw [if_pos (by omega), if_pos (by omega), rd52 l n hn, if_neg (by omega)]
    simp only [Option.bind_some]
    rw [if_pos (by rw [nums8_length]; simp only [List.length_cons, List.length_nil]; omega), w_one (by omega), List.drop_of_length_le (by omega)]
    have e : nums8 acc ++ [0, 1] = nums8 (acc ++ (escD [] ++ [0, 1])) := by simp [nums8, escD]
    rw [e]
    rfl
  | succ d ih =>
    intro k j acc hj hk ha
    obtain ⟨k, rfl⟩ : ∃ m, k = m + 1 := ⟨k - 1, by omega⟩
    simp only [ticklerref02_Encode.l1]
    rw [if_pos (by omega), if_pos (by omega), rd52 l n hn, if_pos (by omega), if_pos (by omega), if_pos (by rw [nums8_length]; omega), bt_at, ht, w_one (by omega)]
    simp only [Option.bind_some]
    rw [drop_head t j (by omega)]
    generalize hc : t.getD j 0 = c
    by_cases hz : c = 0
    · subst hz
      rw [if_pos (u8_zero.2 rfl), if_pos (by rw [nums8_snoc, nums8_length, List.length_append]; simp only [List.length_cons, List.length_nil]; omega)]
      have e : nums8 acc ++ [((0 : UInt8).toNat : Int)] ++ [255] = nums8 (acc ++ [0, 255]) := by simp [nums8]
      rw [e, ih k (j + 1) (acc ++ [0, 255]) (by omega) (by omega) (by rw [List.length_append]; simp only [List.length_cons, List.length_nil]; omega), escD, if_pos rfl]
      rw [show k + 1 - (d + 1 + 1) = k - (d + 1) by omega]
      simp
    · rw [if_neg (fun e => hz (u8_zero.1 e)), nums8_snoc, ih k (j + 1) (acc ++ [c]) (by omega) (by omega) (by rw [List.length_append]; simp only [List.length_cons, List.length_nil]; omega), escD, if_neg hz]
      rw [show k + 1 - (d + 1 + 1) = k - (d + 1) by omega]
      simp
theorem encPart_is (p : S44) : encPart p = if p.f0 = true then 17 :: octets (mOf p.f1) 8 else 34 :: (escD p.f2.data.toList ++ [0, 1]) := by
  unfold encPart esc
  rw [esc_is]
theorem renc_l0 (l : List S52) (hl : l.length ≤ 8) (hsz : ∀ p ∈ l, p.f2.size ≤ 2097152) : ∀ (d k n : Nat) (acc : List UInt8), n + d = l.length → 2097155 * d + 1 ≤ k → acc.length + 4194307 * d < 140737488355328 →
    ticklerref02_Encode.l0 k l (nums8 acc) (n : Int) = some (⟨(acc ++ encL ((l.map to44).drop n)).toArray⟩, 0) := by
  intro d
  induction d with
  | zero =>
    intro k n acc hn hk ha
    obtain ⟨k, rfl⟩ : ∃ m, k = m + 1 := ⟨k - 1, by omega⟩
    simp only [ticklerref02_Encode.l0]
    rw [if_neg (by omega), List.drop_of_length_le (by rw [List.length_map]; omega)]
    have e : strOfNums (nums8 acc) = ⟨acc.toArray⟩ := strOf_bytes acc
    rw [e, encL, List.append_nil]
  | succ d ih =>
    intro k n acc hn hk ha
    obtain ⟨k, rfl⟩ : ∃ m, k = m + 1 := ⟨k - 1, by omega⟩
    have hlt : n < l.length := by omega
    have hlen : (l.map to44).length = l.length := List.length_map _
    have hp := hsz l[n] (List.getElem_mem hlt)
    have hpe := encPart_length (to44 l[n]) hp
    have hd : (l.map to44).drop n = to44 l[n] :: (l.map to44).drop (n + 1) := by
      rw [List.drop_eq_getElem_cons (show n < (l.map to44).length by omega), List.getElem_map]
    simp only [ticklerref02_Encode.l0]
    rw [if_pos (by omega), if_pos (by omega), rd52 l n hlt, hd, encL]
    have hpi := encPart_is (to44 l[n])
    have hf : (to44 l[n]).f0 = l[n].f0 := rfl
    rw [hf] at hpi
    by_cases hb : l[n].f0 = true
    · rw [if_pos hb] at hpi ⊢
      simp only [Option.bind_some]
      rw [num_octets, nums8_more, if_pos (by rw [nums8_length, nums8_length]; rw [hpi] at hpe; have e : (to44 l[n]).f1 = l[n].f1 := rfl
                                             rw [e] at hpe; omega), w_one (by omega)]
      have e : (to44 l[n]).f1 = l[n].f1 := rfl
      rw [e] at hpi
      rw [← hpi]
      have := ih k (n + 1) (acc ++ encPart (to44 l[n])) (by omega) (by omega) (by rw [List.length_append]; omega)
      rw [List.append_assoc] at this
      exact this
    · rw [if_neg hb] at hpi ⊢
      rw [if_pos (by rw [nums8_length]; omega)]
      have e34 : nums8 acc ++ [34] = nums8 (acc ++ [34]) := by simp [nums8]
      have hts : l[n].f2.data.toList.length = l[n].f2.size := size_list _
      have h1 := renc_l1 l n hlt hl l[n].f2.data.toList rfl (by omega) l[n].f2.data.toList.length k 0 (acc ++ [34]) (by omega) (by omega) (by rw [List.length_append]; simp only [List.length_cons, List.length_nil]; omega)
      have e0 : ((0 : Nat) : Int) = 0 := rfl
      rw [e0, List.drop_zero] at h1
      rw [e34, h1]
      have e2 : acc ++ [34] ++ (escD l[n].f2.data.toList ++ [0, 1]) = acc ++ encPart (to44 l[n]) := by
        have e : (to44 l[n]).f2 = l[n].f2 := rfl
        rw [hpi, e, List.append_assoc]; rfl
      rw [e2]
      have := ih (k - (l[n].f2.data.toList.length + 1)) (n + 1) (acc ++ encPart (to44 l[n])) (by omega) (by omega) (by rw [List.length_append]; omega)
      rw [List.append_assoc] at this
      exact this
theorem all_small {l : List S52} (hsz : ∀ p ∈ l, p.f2.size ≤ 2097152) : (l.map to44).all (fun p => decide (p.f2.size ≤ 2097152)) = true := by
  rw [List.all_eq_true]
  intro p hp
  obtain ⟨q, hq, rfl⟩ := List.mem_map.1 hp
  exact decide_eq_true (hsz q hq)
/-- a key written: one answer -/
theorem enc_same (l : List S52) (hsz : ∀ p ∈ l, p.f2.size ≤ 2097152) (k : Nat) (hk : 20000000 ≤ k) : ∃ r, keys_Encode.f (l.map to44) = some r ∧ ticklerref02_Encode.f k l = some r := by
  unfold keys_Encode.f ticklerref02_Encode.f
  rw [rcheck_is l k (by omega)]
  simp only [Option.bind_some]
  by_cases hz : checkL (l.map to44) = 0
  · rw [if_pos hz, if_pos hz, all_small hsz, if_pos rfl]
    have h8 := check_eight hz
    rw [List.length_map] at h8
    have h := renc_l0 l h8 hsz l.length k 0 [] (by omega) (by omega) (by simp only [List.length_nil]; omega)
    rw [List.drop_zero, List.nil_append] at h
    exact ⟨_, rfl, h⟩
  · rw [if_neg hz, if_neg hz]
    exact ⟨_, rfl, rfl⟩
theorem small_check (l : List S44) (hz : checkL l = 0) (hsz : ∀ p ∈ l, p.f2.size ≤ 2097152) : keys_Encode.f l = some (⟨(encL l).toArray⟩, 0) := by
  unfold keys_Encode.f
  rw [if_pos hz, if_pos (by rw [List.all_eq_true]; exact fun p hp => decide_eq_true (hsz p hp))]
theorem enc_bad (l : List S44) (hz : checkL l ≠ 0) : keys_Encode.f l = some (⟨#[]⟩, checkL l) := by
  unfold keys_Encode.f
  rw [if_neg hz]
/-- what is above: one answer -/
theorem rabove_l0 (s : ByteArray) (hs : s.size ≤ 140737488351232) : ∀ (n k : Nat), n ≤ s.size → n < k → ticklerref02_Above.l0 k s (n : Int) = some (match aboveGo s.data.toList n with | some x => (⟨x.toArray⟩, true) | none => (⟨#[]⟩, false)) := by
  intro n
  induction n with
  | zero =>
    intro k hn hk
    obtain ⟨k, rfl⟩ : ∃ m, k = m + 1 := ⟨k - 1, by omega⟩
    simp only [ticklerref02_Above.l0]
    rw [if_neg (by omega), if_pos (by omega)]
    rfl
  | succ n ih =>
    intro k hn hk
    obtain ⟨k, rfl⟩ : ∃ m, k = m + 1 := ⟨k - 1, by omega⟩
    simp only [ticklerref02_Above.l0]
    have e1 : ((1 : Nat) : Int) = 1 := rfl
    have hw := w_sub (i := n + 1) (j := 1) (by omega) (by omega)
    rw [e1, show n + 1 - 1 = n by omega] at hw
    rw [hw]
    clear hw
    rw [if_pos (by omega), if_pos (by omega), if_pos (by omega), bt_at]
    rw [aboveGo]
    by_cases hv : s.data.toList.getD n 0 = 255
    · rw [if_pos (u8_ff.2 hv), if_pos hv]
      exact ih k (by omega) (by omega)
    · rw [if_neg (fun e => hv (u8_ff.1 e)), if_neg hv, if_neg (by omega), if_pos (by omega)]
      simp only [Option.bind_some]
      have hb : (((s.data.toList.getD n 0).toNat : Int) + 1) % 256 = ((s.data.toList.getD n 0 + 1).toNat : Int) := by
        rw [UInt8.toNat_add]
        have : (1 : UInt8).toNat = 1 := rfl
        omega
      have hst : strOfNums [(((s.data.toList.getD n 0).toNat : Int) + 1) % 256] = ⟨#[s.data.toList.getD n 0 + 1]⟩ := by
        rw [hb]
        exact strOf_bytes [s.data.toList.getD n 0 + 1]
      rw [hst, Int.toNat_natCast]
      have h1 : (⟨#[s.data.toList.getD n 0 + 1]⟩ : ByteArray).size = 1 := rfl
      rw [if_pos (by rw [ByteArray.size_extract, h1]; omega)]
      refine congrArg some (congrArg (fun z => (z, true)) ?_)
      have ext : ∀ a b : ByteArray, a.data.toList = b.data.toList → a = b := by
        intro a b h
        obtain ⟨⟨a⟩⟩ := a
        obtain ⟨⟨b⟩⟩ := b
        simp only at h
        rw [h]
      apply ext
      rw [ByteArray.data_append, Array.toList_append, extract_list]
theorem above_same (s : ByteArray) (hs : s.size ≤ 140737488351232) (k : Nat) (hk : s.size < k) : ∃ r, keys_Above.f s = some r ∧ ticklerref02_Above.f k s = some r := by
  unfold keys_Above.f ticklerref02_Above.f
  rw [if_pos hs]
  exact ⟨_, rfl, rabove_l0 s hs s.size k (Nat.le_refl _) hk⟩
end Go.Proofs.YtdodfelbejkbiaaDoor.K
