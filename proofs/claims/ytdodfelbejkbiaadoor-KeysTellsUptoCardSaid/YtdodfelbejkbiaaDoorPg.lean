/- Plain: the laws of telling and of owning. -/
import Derived.Test.YtdodfelbejkbiaaDoorPf
namespace Go.Proofs.YtdodfelbejkbiaaDoor.K
open Go Go.RowKit Go.Shelf Go.Proofs.YtdodfelbejkbiaaDoorW.PrintWords Go.Proofs.YtdodfelbejkbiaaDoorW.PrintLast Go.Proofs.YtdodfelbejkbiaaDoorW.PrintMore

/-- what a key reads as -/
def decOf (s : ByteArray) : List S44 × Int := decGo (s.size + 1) s.data.toList []
theorem dec_eight : ∀ (f : Nat) (s : List UInt8) (acc : List S44), (decGo f s acc).1.length ≤ 8
  | 0, _, _ => by simp [decGo]
  | f + 1, s, acc => by
    simp only [decGo]
    split
    · split
      · exact Nat.zero_le _
      · simp only []; omega
    · split
      · exact dec_eight f _ _
      · exact Nat.zero_le _
theorem dec_all (s : ByteArray) (hs : s.size ≤ 34000000) (k : Nat) (hk : 34000001 ≤ k) : keys_Decode.f k s = some (decOf s) := by
  unfold keys_Decode.f decOf
  exact dec_is s.size k (s.size + 1) s [] (Nat.le_refl _) (by omega) (by omega) (by omega) (by simp only [List.length_nil]; omega)
theorem rdec_all (s : ByteArray) (hs : s.size ≤ 1048576) (k : Nat) (hk : 34000001 ≤ k) : ticklerref02_Decode.f k s = some ((decOf s).1.map to52, (decOf s).2) := by
  unfold ticklerref02_Decode.f decOf
  have h := rdec_is s (by omega) s.size k (s.size + 1) 0 [] (by omega) (by omega) (by omega) (by omega) (by simp only [List.length_nil]; omega)
  rw [List.drop_zero] at h
  exact h
theorem same_dec (s : ByteArray) (k : Nat) (hk : 9 ≤ k) : ticklerlaw02_same.f k (decOf s).1 ((decOf s).1.map to52) = some true := by
  have h := dec_eight (s.size + 1) s.data.toList []
  unfold decOf
  exact same_is _ (by omega) k (by omega)
theorem small_of {l : List S52} (hb : bulkL l ≤ 1048576) : ∀ p ∈ l, p.f2.size ≤ 2097152 := fun p hp => by
  have := bulk_each hp
  omega
theorem law_tells (l : List S52) (s : ByteArray) (hb : bulkL l ≤ 1048576) (hs : s.size ≤ 1048576) (k : Nat) (hk : 40000000 ≤ k) : ticklerlaw02_KeysTells.f k l s = some true := by
  have hl := bulk_length l
  obtain ⟨r, e1, e2⟩ := enc_same l (small_of hb) k (by omega)
  obtain ⟨u, a1, a2⟩ := above_same s (by omega) k (by omega)
  unfold ticklerlaw02_KeysTells.f
  rw [of_is l (by omega) k (by omega)]
  simp only [Option.bind_some]
  rw [e1, e2, dec_all s (by omega) k (by omega), rdec_all s hs k (by omega), a1, a2]
  simp only [Option.bind_some, ticklerlaw02_num.f, if_true, beq_self_eq_true]
  rw [same_dec s k (by omega), check_is _ k (by omega), rcheck_is l k (by omega), same_of l (by omega) k (by omega), alive_true]
  simp only [Option.bind_some, if_true]
theorem own_l0 (s : ByteArray) (hs : s.size ≤ 1048576) : ∀ (d k n : Nat) (x : List S44), n + d = x.length → x.length ≤ 8 → 34000002 + d ≤ k →
    ticklerlaw02_KeysOwn.l0 k s x (decOf s).2 ((decOf s).1.map to52) (decOf s).2 (n : Int) = some true := by
  intro d
  induction d with
  | zero =>
    intro k n x hn hx hk
    obtain ⟨k, rfl⟩ : ∃ m, k = m + 1 := ⟨k - 1, by omega⟩
    simp only [ticklerlaw02_KeysOwn.l0]
    rw [if_neg (by omega), dec_all s (by omega) k (by omega)]
    simp only [Option.bind_some, ticklerlaw02_num.f, if_true]
    rw [same_dec s k (by omega)]
    simp only [Option.bind_some]
  | succ d ih =>
    intro k n x hn hx hk
    obtain ⟨k, rfl⟩ : ∃ m, k = m + 1 := ⟨k - 1, by omega⟩
    simp only [ticklerlaw02_KeysOwn.l0]
    rw [if_pos (by omega), if_pos (by omega), w_one (by omega)]
    exact ih k (n + 1) _ (by rw [List.length_set]; omega) (by rw [List.length_set]; omega) (by omega)
theorem law_own (s : ByteArray) (hs : s.size ≤ 1048576) (k : Nat) (hk : 40000000 ≤ k) : ticklerlaw02_KeysOwn.f k s = some true := by
  unfold ticklerlaw02_KeysOwn.f
  rw [alive_true, dec_all s (by omega) k (by omega), rdec_all s hs k (by omega)]
  simp only [Option.bind_some, if_true]
  have h := dec_eight (s.size + 1) s.data.toList []
  exact own_l0 s hs (decOf s).1.length k 0 _ (by omega) h (by unfold decOf; omega)
end Go.Proofs.YtdodfelbejkbiaaDoor.K
