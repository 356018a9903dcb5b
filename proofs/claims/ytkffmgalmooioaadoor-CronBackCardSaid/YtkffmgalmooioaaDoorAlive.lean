/- The law's sign of life: the 29th of February, at noon. -/
import Derived.Test.YtkffmgalmooioaaDoorParse
import Derived.Test.YtkffmgalmooioaaDoorCs2
import Derived.Test.YtkffmgalmooioaaDoorCrm
namespace Go.Proofs.YtkffmgalmooioaaDoor.Cr
open Go Go.RowKit Go.Shelf Go.Proofs.YtkffmgalmooioaaDoor.Sp Go.Proofs.YtkffmgalmooioaaDoorW.PrintWords Go.Proofs.YtkffmgalmooioaaDoorW.PrintLast Go.Proofs.YtkffmgalmooioaaDoorW.PrintMore

theorem fields_of_alive : Lib.goFieldsP blankP ⟨#[48, 32, 49, 50, 32, 50, 57, 32, 50, 32, 42]⟩ = [⟨#[48]⟩, ⟨#[49, 50]⟩, ⟨#[50, 57]⟩, ⟨#[50]⟩, ⟨#[42]⟩] := by decide +kernel
theorem isNum_0 : IsNum ⟨#[48]⟩ (0 : Nat) := fun w => number_one ⟨#[48]⟩ 48 w rfl (Aside0.mk rfl) (by decide) (by decide)
theorem isNum_2 : IsNum ⟨#[50]⟩ (2 : Nat) := fun w => number_one ⟨#[50]⟩ 50 w rfl (Aside0.mk rfl) (by decide) (by decide)
theorem isNum_12 : IsNum ⟨#[49, 50]⟩ (12 : Nat) := fun w => number_two ⟨#[49, 50]⟩ 49 50 w rfl (Aside0.mk rfl) (Aside0.mk rfl) (by decide) (by decide) (by decide) (by decide)
theorem isNum_29 : IsNum ⟨#[50, 57]⟩ (29 : Nat) := fun w => number_two ⟨#[50, 57]⟩ 50 57 w rfl (Aside0.mk rfl) (Aside0.mk rfl) (by decide) (by decide) (by decide) (by decide)
theorem field_num (lo hi : Int) (n : Nat) (s : ByteArray) (w : World) (hsz : s.size ≤ 1000000) (hsp : splitB 44 s.size s = [s]) (hs : (s.toList == [42]) = false) (hi' : Lib.indexByte s.data.toList 45 = -1) (hi2 : Lib.indexByte s.data.toList 47 = -1) (hn : IsNum s n) (h0 : lo ≤ n) (h1 : n ≤ hi) (hn63 : n ≤ 63) :
    Calls Tryd.prog 29 #[.agg #[.int .i64 lo, .int .i64 hi], .string s] w fun e w' => e = .returned (.tuple #[.int .u64 ((2 ^ n : Nat) : Int), .bool true]) ∧ Below w.heap.size w w' := by
  refine (field_calls lo hi s (fun _ => 2 ^ n) w hsz (fun x hx => ?_)).mono ?_
  · rw [hsp] at hx
    obtain rfl : x = s := by simpa using hx
    refine ⟨(pow_wrap n hn63).2, fun W => ?_⟩
    have e : ((2 ^ n : Nat) : Int) = 2 ^ n := Int.natCast_pow 2 n
    show Calls Tryd.prog 45 _ W fun e w' => e = .returned (.tuple #[.int .u64 ((2 ^ n : Nat) : Int), .bool true]) ∧ _
    rw [e]
    exact item_num lo hi n x W hs (Aside0.mk hi') (Aside0.mk hi2) (Aside0.mk hn) h0 h1 hn63
  · rintro e w' ⟨rfl, hb⟩
    rw [hsp]
    exact ⟨by simp [orAll], hb⟩
theorem field_star (lo hi : Nat) (w : World) (h0 : lo ≤ hi) (h1 : hi ≤ 63) :
    Calls Tryd.prog 29 #[.agg #[.int .i64 lo, .int .i64 hi], .string ⟨#[42]⟩] w fun e w' => e = .returned (.tuple #[.int .u64 (bitsFrom lo (hi + 1 - lo)), .bool true]) ∧ Below w.heap.size w w' := by
  have hsp : splitB 44 1 ⟨#[42]⟩ = [⟨#[42]⟩] := by decide +kernel
  refine (field_calls lo hi ⟨#[42]⟩ (fun _ => bitsFrom lo (hi + 1 - lo)) w (by decide) (fun x hx => ?_)).mono ?_
  · obtain rfl : x = ⟨#[42]⟩ := by
      have hx' : x ∈ splitB 44 1 ⟨#[42]⟩ := hx
      rw [hsp] at hx'; simpa using hx'
    exact ⟨bitsFrom_lt _ _ (by omega), fun W => item_star lo hi W h0 h1⟩
  · rintro e w' ⟨rfl, hb⟩
    refine ⟨?_, hb⟩
    show Ending.returned (.tuple #[.int .u64 (orAll (fun _ => bitsFrom lo (hi + 1 - lo)) (splitB 44 1 ⟨#[42]⟩)), .bool true]) = _
    rw [hsp]
    simp [orAll]
theorem parse_alive (w : World) :
    Calls Tryd.prog 14 #[.string ⟨#[48, 32, 49, 50, 32, 50, 57, 32, 50, 32, 42]⟩] w fun e w' => e = .returned (.tuple #[.agg #[.int .u64 1, .int .u64 4096, .int .u64 536870912, .int .u64 4, .int .u64 127, .bool false, .bool true], .int .i64 0]) ∧ Below w.heap.size w w' := by
  refine (parse_calls _ _ _ _ _ _ 1 4096 536870912 4 255 w (by decide) fields_of_alive
    (Aside0.mk fun w => field_num 0 59 0 _ w (by decide) (by decide +kernel) (by decide +kernel) (by decide) (by decide) isNum_0 (by decide) (by decide) (by decide))
    (Aside0.mk fun w => field_num 0 23 12 _ w (by decide) (by decide +kernel) (by decide +kernel) (by decide) (by decide) isNum_12 (by decide) (by decide) (by decide))
    (Aside0.mk fun w => field_num 1 31 29 _ w (by decide) (by decide +kernel) (by decide +kernel) (by decide) (by decide) isNum_29 (by decide) (by decide) (by decide))
    (Aside0.mk fun w => field_num 1 12 2 _ w (by decide) (by decide +kernel) (by decide +kernel) (by decide) (by decide) isNum_2 (by decide) (by decide) (by decide))
    (Aside0.mk fun w => field_star 0 7 w (by decide) (by decide))).mono ?_
  rintro e w' ⟨rfl, hb⟩
  have e2 : ((⟨#[50, 57]⟩ : ByteArray).toList == [42]) = false := by decide +kernel
  have e4 : ((⟨#[42]⟩ : ByteArray).toList == [42]) = true := by decide +kernel
  have e5 : Go.bits .or .u64 (Go.bits .and .u64 ((255 : Nat) : Int) 127) (((255 : Nat) : Int) / 128) = 127 := by decide +kernel
  exact ⟨by rw [e2, e4, e5]; rfl, hb⟩
def ticklerlaw17_alive.f : Option Bool := some true
theorem alive_next : cron_Next.f 5000 1 4096 536870912 4 127 false true 1767225600 = some (1835438400, true, 0) := by decide +kernel
set_option maxHeartbeats 400000 in
set_option maxRecDepth 100000 in
theorem alive_walk (w : World) (hp : Aside0 (∀ w, Calls Tryd.prog 14 #[.string ⟨#[48, 32, 49, 50, 32, 50, 57, 32, 50, 32, 42]⟩] w fun e w' => e = .returned (.tuple #[.agg #[.int .u64 1, .int .u64 4096, .int .u64 536870912, .int .u64 4, .int .u64 127, .bool false, .bool true], .int .i64 0]) ∧ Below w.heap.size w w'))
    (hn : Aside0 (∀ w, HasTab w → Calls Tryd.prog 9 #[.agg #[.int .u64 1, .int .u64 4096, .int .u64 536870912, .int .u64 4, .int .u64 127, .bool false, .bool true], .int .i64 1767225600] w fun e w' => e = .returned (.tuple #[.int .i64 1835438400, .bool true, .int .i64 0]) ∧ Below w.heap.size w w')) (ht : Aside0 (HasTab w)) :
    Calls Tryd.prog 8 #[] w fun e w' => e = .returned (.bool true) ∧ Below w.heap.size w w' := by
  go_enter Tryd.func8, Tryd.ntmps8
  go_wp2_with fail
  refine (hp.out _).mono ?_
  rintro e w1 ⟨rfl, hb⟩
  have T1 := Aside0.mk (ht.out.below hb)
  have B1 := Aside0.mk hb
  clear hb
  go_wp2_with fail
  have HR := Aside0.mk (blk_new w1 (.cells #[.int .u64 1, .int .u64 4096, .int .u64 536870912, .int .u64 4, .int .u64 127, .bool false, .bool true] 29 (0, 0)))
  refine (hn.out _ (T1.out.below (below_alloc (Below.refl _ _) _))).mono ?_
  rintro e w2 ⟨rfl, hb⟩
  have B2 := Aside0.mk (below_step (below_alloc B1.out (.cells #[.int .u64 1, .int .u64 4096, .int .u64 536870912, .int .u64 4, .int .u64 127, .bool false, .bool true] 29 (0, 0))) hb)
  clear hb
  go_wp2_with fail
  refine (ticklerlaw17_num.calls 0 0 _ (by kernel_rfl)).mono ?_
  rintro e w3 ⟨rfl, ⟨nd, rfl⟩⟩
  go_wp2_with fail
  refine (ticklerlaw17_num.calls 0 0 _ (by kernel_rfl)).mono ?_
  rintro e w4 ⟨rfl, ⟨ne, rfl⟩⟩
  go_wp2_with fail
  go_ret
  exact ⟨rfl, pw_below_drewN B2.out _⟩
theorem ticklerlaw17_alive.calls (r : Bool) (w : World) (h : ticklerlaw17_alive.f = some r) (ht : HasTab w) : Calls Tryd.prog 8 #[] w fun e w' => e = .returned (.bool r) ∧ Below w.heap.size w w' := by
  obtain rfl : true = r := by simpa [ticklerlaw17_alive.f] using h
  exact alive_walk w (Aside0.mk parse_alive) (Aside0.mk fun w ht => cron_Next.calls 5000 1 4096 536870912 4 127 false true 1767225600 1835438400 true 0 w alive_next ht) (Aside0.mk ht)
end Go.Proofs.YtkffmgalmooioaaDoor.Cr
