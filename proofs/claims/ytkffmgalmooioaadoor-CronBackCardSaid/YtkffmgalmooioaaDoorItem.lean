/- A cron field's items: a number of one or two digits, or a star: contracts of number, spread and item at these. -/
import Derived.Test.YtkffmgalmooioaaDoorCrx0
import Derived.Test.YtkffmgalmooioaaDoorShelf
import Derived.WalkLawsBesides
import Derived.WalkSpells
import Derived.LoopN
import Derived.Laws.Bits64b
import Derived.Outline
namespace Go.Proofs.YtkffmgalmooioaaDoor.Cr
open Go.RowKit Go.Proofs.YtkffmgalmooioaaDoorW.PrintWords Go.Proofs.YtkffmgalmooioaaDoorW.PrintLast Go.Proofs.YtkffmgalmooioaaDoorW.PrintMore

set_option maxHeartbeats 400000 in
theorem cut61_absent (s : ByteArray) (c : UInt8) (w : World) (h : Aside0 (Lib.indexByte s.data.toList c = -1)) :
    Calls Tryd.prog 61 #[.string s, .string ⟨#[c]⟩] w fun e w' => e = .returned (.tuple #[.string s, .string ⟨#[]⟩, .bool false]) ∧ w = w' := by
  go_enter Tryd.func61, Tryd.ntmps61
  go_wp2_with fail
  refine (Tryd.stringslite_Index_one s c _).mono ?_
  rintro e w' ⟨rfl, rfl⟩
  rw [h.out]
  go_wp2_with fail
  go_ret3
  exact ⟨rfl, rfl⟩
set_option maxHeartbeats 400000 in
theorem cut_absent (s : ByteArray) (c : UInt8) (w : World) (h : Aside0 (Lib.indexByte s.data.toList c = -1)) :
    Calls Tryd.prog 51 #[.string s, .string ⟨#[c]⟩] w fun e w' => e = .returned (.tuple #[.string s, .string ⟨#[]⟩, .bool false]) ∧ w = w' := by
  go_enter Tryd.func51, Tryd.ntmps51
  go_wp2_with fail
  refine (cut61_absent s c _ h).mono ?_
  rintro e w' ⟨rfl, rfl⟩
  go_wp2_with fail
  go_ret3
  exact ⟨rfl, rfl⟩
theorem below_bytes (w : World) (s : ByteArray) : Below w.heap.size w (Lib.bytesWorld w 5 s) := bytes_below (Below.refl _ _) (Nat.le_refl _) 5 s
set_option maxHeartbeats 400000 in
set_option maxRecDepth 100000 in
theorem number_one (s : ByteArray) (a : Nat) (w : World) (hs : s.size = 1) (h0 : Aside0 ((s.data.toList.getD 0 0).toNat = a)) (a0 : 48 ≤ a) (a1 : a ≤ 57) :
    Calls Tryd.prog 52 #[.string s] w fun e w' => e = .returned (.tuple #[.int .i64 (a - 48), .bool true]) ∧ Below w.heap.size w w' := by
  have cv := fun W => print_bytes (P := Tryd.prog) 9 82 5 Tryd.underlying9 Tryd.underlying82 Tryd.underlying5 s W
  have c0 : (Lib.bytesWorld w 5 s).cell? ⟨w.heap.size, 0, none⟩ = some (.int .u8 a) := by
    rw [Lib.bytesWorld_cell w 5 s 0 (by omega), h0.out]
  go_enter Tryd.func52, Tryd.ntmps52
  go_wp2_with fail
  refine wp_loop_rounds 2 ?_
  rw [rounds_succ]
  go_wp2_with fail
  rw [rounds_succ]
  go_wp2_with fail
  go_ret2
  exact ⟨rfl, below_bytes w s⟩
set_option maxHeartbeats 400000 in
set_option maxRecDepth 100000 in
theorem number_two (s : ByteArray) (a b : Nat) (w : World) (hs : s.size = 2) (h0 : Aside0 ((s.data.toList.getD 0 0).toNat = a)) (h1 : Aside0 ((s.data.toList.getD 1 0).toNat = b)) (a0 : 48 ≤ a) (a1 : a ≤ 57) (b0 : 48 ≤ b) (b1 : b ≤ 57) :
    Calls Tryd.prog 52 #[.string s] w fun e w' => e = .returned (.tuple #[.int .i64 (10 * (a - 48) + (b - 48)), .bool true]) ∧ Below w.heap.size w w' := by
  have cv := fun W => print_bytes (P := Tryd.prog) 9 82 5 Tryd.underlying9 Tryd.underlying82 Tryd.underlying5 s W
  have c0 : (Lib.bytesWorld w 5 s).cell? ⟨w.heap.size, 0, none⟩ = some (.int .u8 a) := by
    rw [Lib.bytesWorld_cell w 5 s 0 (by omega), h0.out]
  have c1 : (Lib.bytesWorld w 5 s).cell? ⟨w.heap.size, 1, none⟩ = some (.int .u8 b) := by
    rw [Lib.bytesWorld_cell w 5 s 1 (by omega), h1.out]
  go_enter Tryd.func52, Tryd.ntmps52
  go_wp2_with fail
  refine wp_loop_rounds 3 ?_
  rw [rounds_succ]
  go_wp2_with fail
  rw [rounds_succ]
  go_wp2_with fail
  rw [rounds_succ]
  go_wp2_with fail
  go_ret2
  exact ⟨rfl, below_bytes w s⟩
theorem pow_wrap (n : Nat) (h : n ≤ 63) : IntKind.u64.wrap (2 ^ n) = ((2 ^ n : Nat) : Int) ∧ 2 ^ n < 18446744073709551616 := by
  have hl : 2 ^ n < 18446744073709551616 := Nat.lt_of_le_of_lt (Nat.pow_le_pow_right (by decide) h) (by decide)
  refine ⟨?_, hl⟩
  rw [IntKind.wrap_u64, show (2 : Int) ^ n = ((2 ^ n : Nat) : Int) from (Int.natCast_pow 2 n).symm]
  generalize 2 ^ n = q at *
  omega
theorem or_pow (n : Nat) (h : n ≤ 63) : Go.bits .or .u64 0 (IntKind.u64.wrap (2 ^ n)) = 2 ^ n := by
  rw [(pow_wrap n h).1]
  have e := bits_or_u64_nat 0 (2 ^ n) (by decide) (pow_wrap n h).2
  rw [Nat.zero_or] at e
  have e2 : ((0 : Nat) : Int) = 0 := rfl
  rw [e2] at e
  rw [e, Int.natCast_pow]; rfl
/-- a text is a number's: number answers n -/
def IsNum (s : ByteArray) (n : Int) : Prop := ∀ w, Calls Tryd.prog 52 #[.string s] w fun e w' => e = .returned (.tuple #[.int .i64 n, .bool true]) ∧ Below w.heap.size w w'
set_option maxHeartbeats 400000 in
set_option maxRecDepth 100000 in
theorem spread_star (lo hi : Int) (w : World) :
    Calls Tryd.prog 53 #[.agg #[.int .i64 lo, .int .i64 hi], .string ⟨#[42]⟩] w fun e w' => e = .returned (.tuple #[.agg #[.int .i64 lo, .int .i64 hi], .bool true, .bool true]) ∧ Below w.heap.size w w' := by
  go_enter Tryd.func53, Tryd.ntmps53
  go_wp2_with fail
  refine bodyPost_ret (v := .tuple #[.agg #[.int .i64 lo, .int .i64 hi], .bool true, .bool true]) ?r rfl ⟨rfl, ?_⟩
  case r => simp [results, Tryd.results53, go_sem]
  exact below_alloc (below_alloc (Below.refl _ _) _) _
set_option maxHeartbeats 400000 in
set_option maxRecDepth 100000 in
theorem spread_num (lo hi n : Int) (s : ByteArray) (w : World) (hs : (s.toList == [42]) = false) (hi' : Aside0 (Lib.indexByte s.data.toList 45 = -1)) (hn : Aside0 (IsNum s n)) (h0 : lo ≤ n) (h1 : n ≤ hi) :
    Calls Tryd.prog 53 #[.agg #[.int .i64 lo, .int .i64 hi], .string s] w fun e w' => e = .returned (.tuple #[.agg #[.int .i64 n, .int .i64 n], .bool false, .bool true]) ∧ Below w.heap.size w w' := by
  go_enter Tryd.func53, Tryd.ntmps53
  go_wp2_with fail
  refine (cut_absent s 45 _ hi').mono ?_
  rintro e w' ⟨rfl, rfl⟩
  go_wp2_with fail
  refine (hn.out _).mono ?_
  rintro e w1 ⟨rfl, hb⟩
  have H1 := Aside0.mk (blk_below (g := w.heap.size) (o := .cells #[.int .i64 lo, .int .i64 hi] 64 (0, 0)) (blk_alloc (blk_new w _) _) hb)
  have R1 := Aside0.mk (blk_below (g := w.heap.size + 1) (o := .cells #[.int .i64 0, .int .i64 0] 64 (0, 0)) (by have h := blk_new (w.alloc (.cells #[.int .i64 lo, .int .i64 hi] 64)) (.cells #[.int .i64 0, .int .i64 0] 64); rwa [World.size_alloc] at h) hb)
  have B1 := Aside0.mk (below_step (below_alloc (below_alloc (Below.refl w.heap.size w) _) _) hb)
  clear hb
  go_wp2_with fail
  refine (hn.out _).mono ?_
  rintro e w2 ⟨rfl, hb⟩
  have H2 := Aside0.mk (blk_below H1.out hb)
  have R2 := Aside0.mk (blk_below R1.out hb)
  have B2 := Aside0.mk (below_step B1.out hb)
  clear hb
  have hc0 : w2.cell? ⟨w.heap.size, 0, none⟩ = some (.int .i64 lo) := (blk_cell H2.out 0).trans rfl
  have hc1 : w2.cell? ⟨w.heap.size, 1, none⟩ = some (.int .i64 hi) := (blk_cell H2.out 1).trans rfl
  have hr0 : w2.cell? ⟨w.heap.size + 1, 0, none⟩ = some (.int .i64 0) := (blk_cell R2.out 0).trans rfl
  have hr1 : w2.cell? ⟨w.heap.size + 1, 1, none⟩ = some (.int .i64 0) := (blk_cell R2.out 1).trans rfl
  have hf0 := blk_frozen R2.out 0
  have hf1 := blk_frozen R2.out 1
  go_wp2_with fail
  refine bodyPost_ret (v := .tuple #[.agg #[.int .i64 n, .int .i64 n], .bool false, .bool true]) ?r rfl ⟨rfl, ?_⟩
  case r => simp [results, Tryd.results53, go_sem, hr0, hr1]
  iterate 2 (refine below_set ?_ (by omega))
  exact B2.out
set_option maxHeartbeats 400000 in
set_option maxRecDepth 100000 in
theorem item_num (lo hi : Int) (n : Nat) (s : ByteArray) (w : World) (hs : (s.toList == [42]) = false) (hi' : Aside0 (Lib.indexByte s.data.toList 45 = -1)) (hi2 : Aside0 (Lib.indexByte s.data.toList 47 = -1)) (hn : Aside0 (IsNum s n)) (h0 : lo ≤ n) (h1 : n ≤ hi) (hn63 : n ≤ 63) :
    Calls Tryd.prog 45 #[.agg #[.int .i64 lo, .int .i64 hi], .string s] w fun e w' => e = .returned (.tuple #[.int .u64 (2 ^ n), .bool true]) ∧ Below w.heap.size w w' := by
  go_enter Tryd.func45, Tryd.ntmps45
  go_wp2_with fail
  refine (cut_absent s 47 _ hi2).mono ?_
  rintro e w' ⟨rfl, rfl⟩
  go_wp2_with fail
  refine (spread_num lo hi n s _ hs hi' hn h0 h1).mono ?_
  rintro e w1 ⟨rfl, hb⟩
  have B1 := Aside0.mk (below_step (below_alloc (Below.refl w.heap.size w) _) hb)
  clear hb
  go_wp2_with fail
  refine wp_loop_rounds 2 ?_
  rw [rounds_succ]
  go_wp2_with fail
  rw [rounds_succ]
  go_wp2_with fail
  go_ret2
  exact ⟨by rw [or_pow n hn63]; rfl, below_alloc B1.out _⟩
/-- bits from low on, so many -/
def bitsFrom : Nat → Nat → Nat
  | _, 0 => 0
  | low, k + 1 => bitsFrom low k ||| 2 ^ (low + k)
theorem bitsFrom_lt (low : Nat) : ∀ k, low + k ≤ 64 → bitsFrom low k < 18446744073709551616
  | 0, _ => by unfold bitsFrom; decide
  | k + 1, h => by
    have a := bitsFrom_lt low k (by omega)
    have b := (pow_wrap (low + k) (by omega)).2
    show bitsFrom low k ||| 2 ^ (low + k) < 2 ^ 64
    exact Nat.or_lt_two_pow a b
set_option maxHeartbeats 400000 in
set_option maxRecDepth 100000 in
theorem item_star (lo hi : Nat) (w : World) (h0 : lo ≤ hi) (h1 : hi ≤ 63) :
    Calls Tryd.prog 45 #[.agg #[.int .i64 lo, .int .i64 hi], .string ⟨#[42]⟩] w fun e w' => e = .returned (.tuple #[.int .u64 (bitsFrom lo (hi + 1 - lo)), .bool true]) ∧ Below w.heap.size w w' := by
  go_enter Tryd.func45, Tryd.ntmps45
  go_wp2_with fail
  refine (cut_absent _ 47 _ ⟨by decide⟩).mono ?_
  rintro e w' ⟨rfl, rfl⟩
  go_wp2_with fail
  refine (spread_star lo hi _).mono ?_
  rintro e w1 ⟨rfl, hb⟩
  have B1 := Aside0.mk (below_step (below_alloc (Below.refl w.heap.size w) _) hb)
  clear hb
  go_wp2_with fail
  go_loop [4, 11] (fun v i => ∃ k : Nat, lo + k ≤ hi + 1 ∧ i = .int .i64 (lo + k) ∧ v = .int .u64 (bitsFrom lo k)) (fun _ i => hi + 1 - (intOf i).toNat)
  case atStart => exact ⟨0, by omega, by simp, rfl⟩
  case round =>
    obtain ⟨k, hk, rfl, rfl⟩ := hrel
    by_cases hlt : lo + k ≤ hi
    · go_wp2_with fail
      go_round
      case rel => exact ⟨k + 1, by omega, by go_num, by rw [(pow_wrap (lo + k) (by omega)).1, bits_or_u64_nat _ _ (bitsFrom_lt lo k (by omega)) (pow_wrap (lo + k) (by omega)).2]; rfl⟩
      case measure => simp [intOf]; omega
    · go_wp2_with fail
      go_ret2
      exact ⟨by rw [show hi + 1 - lo = k by omega]; rfl, below_alloc B1.out _⟩
end Go.Proofs.YtkffmgalmooioaaDoor.Cr
