/- keys.get: a part ahead, and what is left: its contract. -/
import Derived.Test.YtdodfelbejkbiaaDoorWds
import Derived.RegionTactic
import Derived.ChangeAlike
import Derived.StillTailTactics
namespace Go.Proofs.YtdodfelbejkbiaaDoor.K
open Go Go.RowKit Go.Shelf Go.Proofs.YtdodfelbejkbiaaDoorW.PrintWords Go.Proofs.YtdodfelbejkbiaaDoorW.PrintLast Go.Proofs.YtdodfelbejkbiaaDoorW.PrintMore

/-- the number that octets are, the greatest first -/
def numFold (l : List UInt8) : Nat := l.foldl (fun m c => m * 256 + c.toNat) 0
def keys_get.f (a0 : ByteArray) : Option (Bool × Int × ByteArray × ByteArray × Int) :=
  if a0.size = 0 ∨ 140737488351232 < a0.size then none
  else if a0.data.toList.getD 0 0 = 17 then
    (if a0.size < 9 then some (false, 0, ⟨#[]⟩, ⟨#[]⟩, 8)
     else some (true, wrap64 (Go.bits .xor .u64 (numFold ((a0.data.toList.drop 1).take 8) : Nat) 9223372036854775808), ⟨#[]⟩, ⟨(a0.data.toList.drop 9).toArray⟩, 0))
  else if a0.data.toList.getD 0 0 = 34 then some (false, 0, ⟨(wordsGo a0.size (a0.data.toList.drop 1) []).1.toArray⟩, ⟨(wordsGo a0.size (a0.data.toList.drop 1) []).2.1.toArray⟩, (wordsGo a0.size (a0.data.toList.drop 1) []).2.2)
  else some (false, 0, ⟨#[]⟩, ⟨#[]⟩, 22)
def GetPost (s : ByteArray) (w : World) (e : Ending) (w' : World) : Prop :=
  ∀ b n x y r, keys_get.f s = some (b, n, x, y, r) → e = .returned (.tuple #[.agg #[.bool b, .int .i64 n, .string x], .string y, .int .i64 r]) ∧ Below w.heap.size w w'
theorem post_get {s : ByteArray} {w w' : World} {e : Ending} {b : Bool} {n r : Int} {x y : ByteArray} (h : keys_get.f s = some (b, n, x, y, r)) (he : e = .returned (.tuple #[.agg #[.bool b, .int .i64 n, .string x], .string y, .int .i64 r])) (hb : Below w.heap.size w w') : GetPost s w e w' := by
  intro b' n' x' y' r' h'
  rw [h] at h'
  injection h' with h'
  injection h' with h1 h'
  injection h' with h2 h'
  injection h' with h3 h'
  injection h' with h4 h5
  subst h1 h2 h3 h4 h5
  exact ⟨he, hb⟩
set_option maxHeartbeats 400000 in
set_option maxRecDepth 100000 in
theorem get_short (s : ByteArray) (w : World) (h0 : 0 < s.size) (h1 : s.size ≤ 140737488351232) (hv : ((s[0]'h0).toNat : Int) = 17 ∧ s.size < 9 ∨ ((s[0]'h0).toNat : Int) ≠ 17 ∧ ((s[0]'h0).toNat : Int) ≠ 34) : Calls Tryd.prog 24 #[.string s] w (GetPost s w) := by
  have hnn : ¬ (s.size = 0 ∨ 140737488351232 < s.size) := by omega
  rcases hv with ⟨hv, hsz⟩ | ⟨hv, hv2⟩
  · have HF := Aside0.mk (show keys_get.f s = some (false, 0, ⟨#[]⟩, ⟨#[]⟩, 8) by
      unfold keys_get.f
      rw [if_neg hnn, if_pos (by rw [byte_at s 0 h0]; exact UInt8.toNat_inj.1 (by have e17 : (17 : UInt8).toNat = 17 := rfl; omega)), if_pos hsz])
    have hv1 : (((s[0]'h0).toNat : Int) == 17) = true := by rw [hv]; rfl
    clear hv
    have hsz' : (s.size : Int) < 9 := by omega
    go_enter Tryd.func24, Tryd.ntmps24
    go_wp2_with fail
    refine bodyPost_ret (v := .tuple #[.agg #[.bool false, .int .i64 0, .string ⟨#[]⟩], .string ⟨#[]⟩, .int .i64 8]) ?ra1 rfl ?pa1
    case ra1 => simp [results, Tryd.results24, go_sem]
    case pa1 => exact post_get HF.out rfl (by repeat (first | exact Below.refl _ _ | refine below_set ?_ (Nat.le_refl _) | refine below_alloc ?_ _))
  · have HF := Aside0.mk (show keys_get.f s = some (false, 0, ⟨#[]⟩, ⟨#[]⟩, 22) by
      unfold keys_get.f
      rw [if_neg hnn, if_neg (by rw [byte_at s 0 h0]; intro e; rw [e] at hv; exact hv rfl), if_neg (by rw [byte_at s 0 h0]; intro e; rw [e] at hv2; exact hv2 rfl)])
    have hv1 : (((s[0]'h0).toNat : Int) == 17) = false := beq_eq_false_iff_ne.2 hv
    have hv3 : (((s[0]'h0).toNat : Int) == 34) = false := beq_eq_false_iff_ne.2 hv2
    clear hv hv2
    go_enter Tryd.func24, Tryd.ntmps24
    go_wp2_with fail
    refine bodyPost_ret (v := .tuple #[.agg #[.bool false, .int .i64 0, .string ⟨#[]⟩], .string ⟨#[]⟩, .int .i64 22]) ?ra2 rfl ?pa2
    case ra2 => simp [results, Tryd.results24, go_sem]
    case pa2 => exact post_get HF.out rfl (by repeat (first | exact Below.refl _ _ | refine below_set ?_ (Nat.le_refl _) | refine below_alloc ?_ _))
set_option maxHeartbeats 400000 in
set_option maxRecDepth 100000 in
theorem get_text (s : ByteArray) (w : World) (h0 : 0 < s.size) (h1 : s.size ≤ 140737488351232) (hv : ((s[0]'h0).toNat : Int) = 34) : Calls Tryd.prog 24 #[.string s] w (GetPost s w) := by
  have hnn : ¬ (s.size = 0 ∨ 140737488351232 < s.size) := by omega
  have hT : (s.extract 1 s.size).data.toList = s.data.toList.drop 1 := extract_from s 1
  have hTs : (s.extract 1 s.size).size = s.size - 1 := by rw [ByteArray.size_extract]; omega
  have hW := words_calls (s.extract 1 s.size)
  rw [hT, hTs, show s.size - 1 + 1 = s.size by omega] at hW
  have HF := Aside0.mk (show keys_get.f s = some (false, 0, ⟨(wordsGo s.size (s.data.toList.drop 1) []).1.toArray⟩, ⟨(wordsGo s.size (s.data.toList.drop 1) []).2.1.toArray⟩, (wordsGo s.size (s.data.toList.drop 1) []).2.2) by
    unfold keys_get.f
    rw [if_neg hnn, if_neg (by rw [byte_at s 0 h0]; intro e; rw [e] at hv; exact absurd hv (by decide)), if_pos (by rw [byte_at s 0 h0]; exact UInt8.toNat_inj.1 (by have e34 : (34 : UInt8).toNat = 34 := rfl; omega))])
  generalize wordsGo s.size (s.data.toList.drop 1) [] = q at HF hW
  obtain ⟨x, y, e⟩ := q
  have HW := Aside0.mk hW
  have hv1 : (((s[0]'h0).toNat : Int) == 17) = false := by rw [hv]; rfl
  have hv3 : (((s[0]'h0).toNat : Int) == 34) = true := by rw [hv]; rfl
  clear hv hW hT hTs
  obtain ⟨X, hX⟩ : ∃ X : ByteArray, X = ⟨x.toArray⟩ := ⟨_, rfl⟩
  obtain ⟨Y, hY⟩ : ∃ X : ByteArray, X = ⟨y.toArray⟩ := ⟨_, rfl⟩
  have HX := Aside0.mk hX
  have HY := Aside0.mk hY
  clear hX hY
  go_enter Tryd.func24, Tryd.ntmps24
  go_wp2_with fail
  refine (HW.out _ (by omega)).mono ?_
  rintro e w' ⟨rfl, hb⟩
  have HP := Aside0.mk (blk_below (blk_new w (.cells #[.bool false, .int .i64 0, .string ⟨#[]⟩] 44)) hb)
  have B1 := Aside0.mk (below_step (below_alloc (Below.refl w.heap.size w) (.cells #[.bool false, .int .i64 0, .string ⟨#[]⟩] 44)) hb)
  clear hb
  have hc0 : w'.cell? ⟨w.heap.size, 0, none⟩ = some (.bool false) := (blk_cell HP.out 0).trans rfl
  have hc1 : w'.cell? ⟨w.heap.size, 1, none⟩ = some (.int .i64 0) := (blk_cell HP.out 1).trans rfl
  have hc2 : w'.cell? ⟨w.heap.size, 2, none⟩ = some (.string ⟨#[]⟩) := (blk_cell HP.out 2).trans rfl
  have hf0 := blk_frozen HP.out 0
  have hf1 := blk_frozen HP.out 1
  have hf2 := blk_frozen HP.out 2
  dsimp only
  rw [← HX.out, ← HY.out]
  go_wp2_with fail
  refine bodyPost_ret (v := .tuple #[.agg #[.bool false, .int .i64 0, .string X], .string Y, .int .i64 e]) ?ra2 rfl ?pa2
  case ra2 => simp [results, Tryd.results24, go_sem, hc0, hc1, hc2]
  case pa2 => exact post_get HF.out (by rw [HX.out, HY.out]) (by repeat (first | exact B1.out | refine below_set ?_ (Nat.le_refl _)))
theorem numFold_snoc (l : List UInt8) (c : UInt8) : numFold (l ++ [c]) = numFold l * 256 + c.toNat := by unfold numFold; rw [List.foldl_append]; rfl
theorem numFold_lt : ∀ (k : Nat) (l : List UInt8), l.length = k → numFold l < 256 ^ k := by
  intro k
  induction k with
  | zero => intro l h; rw [List.eq_nil_of_length_eq_zero h]; decide
  | succ k ih =>
    intro l h
    obtain ⟨r, c, rfl⟩ : ∃ r c, l = r ++ [c] := ⟨l.dropLast, l.getLast (by intro e; rw [e] at h; simp at h), (List.dropLast_concat_getLast _).symm⟩
    have hr := ih r (by simpa using h)
    rw [numFold_snoc, Nat.pow_succ]
    have := c.toNat_lt
    omega
theorem numFold_step (l : List UInt8) (c : UInt8) (h : l.length ≤ 7) : Go.bits .or .u64 (IntKind.u64.wrap ((numFold l : Int) * 256)) (IntKind.u64.wrap (c.toNat : Int)) = ((numFold (l ++ [c]) : Nat) : Int) := by
  have h1 := numFold_lt l.length l rfl
  have h2 : 256 ^ l.length ≤ 256 ^ 7 := Nat.pow_le_pow_right (by decide) h
  have h3 : (256 : Nat) ^ 7 = 72057594037927936 := by decide
  have h4 := c.toNat_lt
  have e1 : IntKind.u64.wrap ((numFold l : Int) * 256) = ((numFold l * 256 : Nat) : Int) := by rw [IntKind.wrap_u64]; omega
  have e2 : IntKind.u64.wrap (c.toNat : Int) = ((c.toNat : Nat) : Int) := by rw [IntKind.wrap_u64]; omega
  rw [e1, e2, bits_or_u64_nat _ _ (by omega) (by omega), numFold_snoc]
  have e3 : numFold l * 256 ||| c.toNat = numFold l * 256 + c.toNat := by
    have := Nat.two_pow_add_eq_or_of_lt (i := 8) (b := c.toNat) (by omega) (numFold l)
    rw [show (2 : Nat) ^ 8 = 256 by decide] at this
    rw [Nat.mul_comm, this]
  rw [e3]
set_option maxHeartbeats 400000 in
set_option maxRecDepth 100000 in
theorem get_num (s : ByteArray) (w : World) (h0 : 0 < s.size) (h1 : s.size ≤ 140737488351232) (h9 : 9 ≤ s.size) (hv : ((s[0]'h0).toNat : Int) = 17) : Calls Tryd.prog 24 #[.string s] w (GetPost s w) := by
  have hnn : ¬ (s.size = 0 ∨ 140737488351232 < s.size) := by omega
  have HF := Aside0.mk (show keys_get.f s = some (true, wrap64 (Go.bits .xor .u64 (numFold ((s.data.toList.drop 1).take 8) : Nat) 9223372036854775808), ⟨#[]⟩, ⟨(s.data.toList.drop 9).toArray⟩, 0) by
    unfold keys_get.f
    rw [if_neg hnn, if_pos (by rw [byte_at s 0 h0]; exact UInt8.toNat_inj.1 (by have e17 : (17 : UInt8).toNat = 17 := rfl; omega)), if_neg (by omega)])
  have hv1 : (((s[0]'h0).toNat : Int) == 17) = true := by rw [hv]; rfl
  clear hv
  have h9' : ¬ (s.size : Int) < 9 := by omega
  have cv := fun (t : ByteArray) W => print_bytes (P := Tryd.prog) 9 51 5 Tryd.underlying9 Tryd.underlying51 Tryd.underlying5 t W
  go_enter Tryd.func24, Tryd.ntmps24
  go_wp2_with fail
  have HP := Aside0.mk (show (Lib.bytesWorld (w.alloc (.cells #[.bool false, .int .i64 0, .string ⟨#[]⟩] 44)) 5 (s.extract 1 9)).heap[w.heap.size]? = some (.cells #[.bool false, .int .i64 0, .string ⟨#[]⟩] 44 (0, 0)) from
    blk_below (blk_new w (.cells #[.bool false, .int .i64 0, .string ⟨#[]⟩] 44)) (bytes_below (Below.refl _ _) (Nat.le_refl _) 5 (s.extract 1 9)))
  have B1 := Aside0.mk (below_step (below_alloc (Below.refl w.heap.size w) (.cells #[.bool false, .int .i64 0, .string ⟨#[]⟩] 44)) (bytes_below (Below.refl _ _) (Nat.le_refl _) 5 (s.extract 1 9)))
  have HC := Aside0.mk (show ∀ j, j < 8 → (Lib.bytesWorld (w.alloc (.cells #[.bool false, .int .i64 0, .string ⟨#[]⟩] 44)) 5 (s.extract 1 9)).cell? ⟨w.heap.size + 1, j, none⟩ = some (.int .u8 (((s.data.toList.drop 1).take 8).getD j 0).toNat) from fun j hj => by
    have h := Lib.bytesWorld_cell (w.alloc (.cells #[.bool false, .int .i64 0, .string ⟨#[]⟩] 44)) 5 (s.extract 1 9) j (by rw [ByteArray.size_extract]; omega)
    rw [World.size_alloc, Lib.extract_data] at h
    exact h)
  generalize hL : (s.data.toList.drop 1).take 8 = L at HF HC
  have HL := Aside0.mk (show L.length = 8 by rw [← hL, List.length_take, List.length_drop, size_list]; omega)
  clear hL
  generalize Lib.bytesWorld (w.alloc (.cells #[.bool false, .int .i64 0, .string ⟨#[]⟩] 44)) 5 (s.extract 1 9) = w0 at HP HC B1 ⊢
  generalize grownCap (w.alloc (.cells #[.bool false, .int .i64 0, .string ⟨#[]⟩] 44)) 8 0 5 = cap
  go_loop [5, 20] (fun v5 v20 => ∃ k : Nat, k ≤ 8 ∧ v20 = .int .i64 k ∧ v5 = .int .u64 (numFold (L.take k) : Nat)) (fun _ i => 8 - (intOf i).toNat)
  case atStart => exact ⟨0, by decide, rfl, rfl⟩
  case round =>
    obtain ⟨k, hk, rfl, rfl⟩ := hrel
    by_cases hlt : k < 8
    · have hc := HC.out k hlt
      have hst := numFold_step (L.take k) (L.getD k 0) (by rw [List.length_take]; omega)
      have hts : L.take k ++ [L.getD k 0] = L.take (k + 1) := by
        have hkl : k < L.length := by rw [HL.out]; omega
        rw [List.take_succ_eq_append_getElem hkl, List.getD_eq_getElem?_getD, List.getElem?_eq_getElem hkl]; rfl
      rw [hts] at hst
      clear hts
      generalize L.getD k 0 = ch at hc hst
      go_wp2_with fail
      go_round
      case rel => exact ⟨k + 1, by omega, by go_num, rfl⟩
      case measure => simp [intOf]; omega
    · obtain rfl : k = 8 := by omega
      have hLt : L.take 8 = L := List.take_of_length_le (by rw [HL.out]; exact Nat.le_refl 8)
      rw [hLt]
      clear hLt
      have hc0 : w0.cell? ⟨w.heap.size, 0, none⟩ = some (.bool false) := (blk_cell HP.out 0).trans rfl
      have hc1 : w0.cell? ⟨w.heap.size, 1, none⟩ = some (.int .i64 0) := (blk_cell HP.out 1).trans rfl
      have hc2 : w0.cell? ⟨w.heap.size, 2, none⟩ = some (.string ⟨#[]⟩) := (blk_cell HP.out 2).trans rfl
      have hf0 := blk_frozen HP.out 0
      have hf1 := blk_frozen HP.out 1
      have hf2 := blk_frozen HP.out 2
      go_wp2_with fail
      go_region
      go_wp2_with fail
      have HN := Aside0.mk (blk_drew (blk_put (cs' := #[.bool true, .int .i64 (wrap64 (Go.bits .xor .u64 (numFold L : Nat) 9223372036854775808)), .string ⟨#[]⟩]) (blk_put (cs' := #[.bool true, .int .i64 (wrap64 (Go.bits .xor .u64 (numFold L : Nat) 9223372036854775808)), .string ⟨#[]⟩]) (blk_put (cs' := #[.bool true, .int .i64 0, .string ⟨#[]⟩]) HP.out 0 (.bool true) rfl) 1 (.int .i64 (wrap64 (Go.bits .xor .u64 (numFold L : Nat) 9223372036854775808))) rfl) 2 (.string ⟨#[]⟩) rfl))
      have BN := Aside0.mk (below_drew1 (below_set (g := w.heap.size) (j := 2) (v := .string ⟨#[]⟩) (below_set (g := w.heap.size) (j := 1) (v := .int .i64 (wrap64 (Go.bits .xor .u64 (numFold L : Nat) 9223372036854775808))) (below_set (g := w.heap.size) (j := 0) (v := .bool true) B1.out (Nat.le_refl _)) (Nat.le_refl _)) (Nat.le_refl _)))
      clear hc0 hc1 hc2 hf0 hf1 hf2
      generalize (((w0.setCell ⟨w.heap.size, 0, none⟩ (.bool true)).setCell ⟨w.heap.size, 1, none⟩ (.int .i64 (wrap64 (Go.bits .xor .u64 (numFold L : Nat) 9223372036854775808)))).setCell ⟨w.heap.size, 2, none⟩ (.string ⟨#[]⟩)).drew = w1 at HN BN ⊢
      have hc0 : w1.cell? ⟨w.heap.size, 0, none⟩ = some (.bool true) := (blk_cell HN.out 0).trans rfl
      have hc1 : w1.cell? ⟨w.heap.size, 1, none⟩ = some (.int .i64 (wrap64 (Go.bits .xor .u64 (numFold L : Nat) 9223372036854775808))) := (blk_cell HN.out 1).trans rfl
      have hc2 : w1.cell? ⟨w.heap.size, 2, none⟩ = some (.string ⟨#[]⟩) := (blk_cell HN.out 2).trans rfl
      refine bodyPost_ret (v := .tuple #[.agg #[.bool true, .int .i64 (wrap64 (Go.bits .xor .u64 (numFold L : Nat) 9223372036854775808)), .string ⟨#[]⟩], .string (s.extract 9 s.size), .int .i64 0]) ?ra3 rfl ?pa3
      case ra3 => simp [results, Tryd.results24, go_sem, hc0, hc1, hc2]
      case pa3 => exact post_get HF.out (by rw [← extract_from]) BN.out
theorem keys_get.calls (s : ByteArray) (b : Bool) (n : Int) (x y : ByteArray) (r : Int) (w : World) (h : keys_get.f s = some (b, n, x, y, r)) :
    Calls Tryd.prog 24 #[.string s] w fun e w' => e = .returned (.tuple #[.agg #[.bool b, .int .i64 n, .string x], .string y, .int .i64 r]) ∧ Below w.heap.size w w' := by
  have hnn : ¬ (s.size = 0 ∨ 140737488351232 < s.size) := fun hc => by unfold keys_get.f at h; rw [if_pos hc] at h; cases h
  have h0 : 0 < s.size := by omega
  have h1 : s.size ≤ 140737488351232 := by omega
  have H : Calls Tryd.prog 24 #[.string s] w (GetPost s w) := by
    by_cases e1 : ((s[0]'h0).toNat : Int) = 17
    · by_cases h9 : s.size < 9
      · exact get_short s w h0 h1 (.inl ⟨e1, h9⟩)
      · exact get_num s w h0 h1 (by omega) e1
    · by_cases e2 : ((s[0]'h0).toNat : Int) = 34
      · exact get_text s w h0 h1 e2
      · exact get_short s w h0 h1 (.inr ⟨e1, e2⟩)
  exact H.mono fun e w' hp => hp b n x y r h
end Go.Proofs.YtdodfelbejkbiaaDoor.K
