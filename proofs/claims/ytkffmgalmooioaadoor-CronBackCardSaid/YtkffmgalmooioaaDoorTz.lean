/- math/bits.TrailingZeros64 and cron.from, where the library's table lies as it is laid: their contracts. -/
import Derived.Test.YtkffmgalmooioaaDoorCrx0
import Derived.Shelf.Spec.TrailingZeros
namespace Go.Proofs.YtkffmgalmooioaaDoor.Cr
open Go.RowKit Go.Proofs.YtkffmgalmooioaaDoorW.PrintWords Go.Proofs.YtkffmgalmooioaaDoorW.PrintLast Go.Proofs.YtkffmgalmooioaaDoorW.PrintMore

/-- the library's table lies in its variable -/
def HasTab (w : World) : Prop := Go.Proofs.TabAt 0 Lib.deBruijn64tab w
theorem HasTab.below {w w' : World} (h : HasTab w) (hb : Below w.heap.size w w') : HasTab w' := fun j hj => pw_cell_below hb (h j hj)
set_option maxHeartbeats 400000 in
theorem tz_core (x k idx : Nat) (w : World) (hx0 : ((x : Int) == 0) = false)
    (key : IntKind.u64.wrap (bits BinOp.and IntKind.u64 (x : Int) (IntKind.u64.wrap (-(x : Int))) * 285870213051353865) / 288230376151711744 = (idx : Int))
    (hi : idx < 64) (hk : k < 64) (hcell : w.cell? ⟨0, idx, none⟩ = some (.int .u8 k)) :
    Calls Tryd.prog 38 #[.int .u64 x] w fun e w' => e = .returned (.int .i64 k) ∧ w = w' := by
  go_enter Tryd.func38, Tryd.ntmps38
  go_wp2_with (simp only [key])
  go_ret
  exact ⟨rfl, rfl⟩
theorem tz_calls (x : Nat) (hx : x < 18446744073709551616) (hx0 : x ≠ 0) (w : World) (hT : HasTab w) :
    Calls Tryd.prog 38 #[.int .u64 x] w fun e w' => e = .returned (.int .i64 (Lib.ctz 64 x)) ∧ w = w' := by
  obtain ⟨hlow, hk⟩ := Lib.lowest_bit 64 x hx0 hx
  obtain ⟨hi, htab⟩ := Lib.deBruijn64_at _ hk
  have hcell := hT _ hi
  rw [htab] at hcell
  exact tz_core x _ _ w (by simp; omega) (tz64_key x _ hx hx0 hlow) hi hk hcell
/-- the least of a set from a number on -/
def cron_from.f (a0 : Int) (a1 : Int) : Option (Int × Bool) :=
  if 0 ≤ a0 ∧ a0 < 18446744073709551616 ∧ 0 ≤ a1 then
    (if a1 > 63 then some (0, false) else if a0 / 2 ^ a1.toNat = 0 then some (0, false) else some (a1 + (Lib.ctz 64 (a0 / 2 ^ a1.toNat).toNat : Nat), true))
  else none
set_option maxHeartbeats 400000 in
theorem from_far (a0 a1 : Int) (w : World) (h0 : a1 > 63) :
    Calls Tryd.prog 36 #[.int .u64 a0, .int .i64 a1] w fun e w' => e = .returned (.tuple #[.int .i64 0, .bool false]) ∧ w = w' := by
  go_enter Tryd.func36, Tryd.ntmps36
  go_wp2_with fail
  go_ret2
  exact ⟨rfl, rfl⟩
set_option maxHeartbeats 400000 in
theorem from_none (a0 : Int) (n : Nat) (w : World) (h0 : n ≤ 63) (h : a0 / 2 ^ n = 0) :
    Calls Tryd.prog 36 #[.int .u64 a0, .int .i64 n] w fun e w' => e = .returned (.tuple #[.int .i64 0, .bool false]) ∧ w = w' := by
  go_enter Tryd.func36, Tryd.ntmps36
  go_wp2_with fail
  go_ret2
  exact ⟨rfl, rfl⟩
set_option maxHeartbeats 400000 in
theorem from_some (a0 : Int) (n x c : Nat) (w : World) (h0 : n ≤ 63) (h : a0 / 2 ^ n = (x : Int)) (hx0 : ((x : Int) == 0) = false) (hc : c ≤ 64) (hT : Aside0 (∀ w, HasTab w → Calls Tryd.prog 38 #[.int .u64 x] w fun e w' => e = .returned (.int .i64 c) ∧ w = w')) (ht : Aside0 (HasTab w)) :
    Calls Tryd.prog 36 #[.int .u64 a0, .int .i64 n] w fun e w' => e = .returned (.tuple #[.int .i64 (n + c), .bool true]) ∧ w = w' := by
  go_enter Tryd.func36, Tryd.ntmps36
  go_wp2_with fail
  refine (hT.out _ ht.out).mono ?_
  rintro e w' ⟨rfl, rfl⟩
  go_wp2_with fail
  go_ret2
  exact ⟨rfl, rfl⟩
theorem ctz_le (x : Nat) (hx0 : x ≠ 0) (hx : x < 18446744073709551616) : Lib.ctz 64 x ≤ 64 := by
  have := (Lib.lowest_bit 64 x hx0 hx).2; omega
theorem cron_from.calls (a0 : Int) (a1 : Int) (r1 : Int) (r2 : Bool) (w : World) (h : cron_from.f a0 a1 = some (r1, r2)) (ht : HasTab w) :
    Calls Tryd.prog 36 #[.int .u64 a0, .int .i64 a1] w fun e w' => e = .returned (.tuple #[.int .i64 r1, .bool r2]) ∧ Drawn0 w w' := by
  unfold cron_from.f at h
  by_cases c : 0 ≤ a0 ∧ a0 < 18446744073709551616 ∧ 0 ≤ a1
  · rw [if_pos c] at h
    obtain ⟨c0, c1, c2⟩ := c
    by_cases c3 : a1 > 63
    · rw [if_pos c3] at h
      simp only [Option.some.injEq, Prod.mk.injEq] at h
      obtain ⟨rfl, rfl⟩ := h
      exact (from_far a0 a1 w c3).mono fun e w' ⟨he, hw⟩ => ⟨he, hw ▸ Drawn0.refl w⟩
    · rw [if_neg c3] at h
      obtain ⟨n, rfl⟩ := Int.eq_ofNat_of_zero_le c2
      rw [Int.toNat_natCast] at h
      by_cases c4 : a0 / 2 ^ n = 0
      · rw [if_pos c4] at h
        simp only [Option.some.injEq, Prod.mk.injEq] at h
        obtain ⟨rfl, rfl⟩ := h
        exact (from_none a0 n w (by omega) c4).mono fun e w' ⟨he, hw⟩ => ⟨he, hw ▸ Drawn0.refl w⟩
      · rw [if_neg c4] at h
        simp only [Option.some.injEq, Prod.mk.injEq] at h
        obtain ⟨rfl, rfl⟩ := h
        have hp : (0 : Int) < 2 ^ n := Int.pow_pos (by decide)
        have hq0 : 0 ≤ a0 / 2 ^ n := Int.ediv_nonneg c0 (Int.le_of_lt hp)
        have hq1 : a0 / 2 ^ n ≤ a0 := Int.ediv_le_self _ c0
        obtain ⟨x, hx⟩ := Int.eq_ofNat_of_zero_le hq0
        rw [hx] at c4 hq1 ⊢
        rw [Int.toNat_natCast]
        have hx0 : x ≠ 0 := by omega
        have hxl : x < 18446744073709551616 := by omega
        exact (from_some a0 n x (Lib.ctz 64 x) w (by omega) hx (by simp; omega) (ctz_le x hx0 hxl) ⟨fun w hw => tz_calls x hxl hx0 w hw⟩ ⟨ht⟩).mono fun e w' ⟨he, hw⟩ => ⟨he, hw ▸ Drawn0.refl w⟩
  · rw [if_neg c] at h; cases h
end Go.Proofs.YtkffmgalmooioaaDoor.Cr
