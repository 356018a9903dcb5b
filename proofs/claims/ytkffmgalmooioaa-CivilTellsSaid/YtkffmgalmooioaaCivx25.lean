/- Contracts of the Go functions over this seat's translation, each beside a Lean function with the same answers. Lines written for this claim by the kit's print tool, turned by this session. -/
import Derived.Test.YtkffmgalmooioaaCivx0
import Derived.Test.YtkffmgalmooioaaCivx23
import Derived.Test.YtkffmgalmooioaaCivx24
namespace Go.Proofs.Ytkffmgalmooioaa.Civ
open Go.RowKit Go.Proofs.YtkffmgalmooioaaW.PrintWords Go.Proofs.YtkffmgalmooioaaW.PrintLast Go.Proofs.YtkffmgalmooioaaW.PrintMore
attribute [local go_sem] max2_int min2_int max_two min_two max_three min_three max_four min_four   -- for this text's walks alone
set_option linter.unusedVariables false
set_option linter.unusedSimpArgs false

/-! ### ticklerref16_Text: function 24 -/
def ticklerref16_Text.f (k : Nat) (a0 : Int) : Option (ByteArray × Int) := (ticklerref16_Split.f k a0).bind fun bt230 => (if bt230.2.2.2.2.2.2.2 = 0 then ((ticklerref16_digits.f k bt230.1 4).bind fun t239 => (if t239.size + 1 ≤ 9223372036854775807 then ((ticklerref16_digits.f k bt230.2.1 2).bind fun t240 => (if (t239 ++ (⟨#[45]⟩ : ByteArray)).size + t240.size ≤ 9223372036854775807 then (if ((t239 ++ (⟨#[45]⟩ : ByteArray)) ++ t240).size + 1 ≤ 9223372036854775807 then ((ticklerref16_digits.f k bt230.2.2.1 2).bind fun t241 => (if (((t239 ++ (⟨#[45]⟩ : ByteArray)) ++ t240) ++ (⟨#[45]⟩ : ByteArray)).size + t241.size ≤ 9223372036854775807 then (if ((((t239 ++ (⟨#[45]⟩ : ByteArray)) ++ t240) ++ (⟨#[45]⟩ : ByteArray)) ++ t241).size + 1 ≤ 9223372036854775807 then ((ticklerref16_digits.f k bt230.2.2.2.1 2).bind fun t242 => (if (((((t239 ++ (⟨#[45]⟩ : ByteArray)) ++ t240) ++ (⟨#[45]⟩ : ByteArray)) ++ t241) ++ (⟨#[32]⟩ : ByteArray)).size + t242.size ≤ 9223372036854775807 then (if ((((((t239 ++ (⟨#[45]⟩ : ByteArray)) ++ t240) ++ (⟨#[45]⟩ : ByteArray)) ++ t241) ++ (⟨#[32]⟩ : ByteArray)) ++ t242).size + 1 ≤ 9223372036854775807 then ((ticklerref16_digits.f k bt230.2.2.2.2.1 2).bind fun t243 => (if (((((((t239 ++ (⟨#[45]⟩ : ByteArray)) ++ t240) ++ (⟨#[45]⟩ : ByteArray)) ++ t241) ++ (⟨#[32]⟩ : ByteArray)) ++ t242) ++ (⟨#[58]⟩ : ByteArray)).size + t243.size ≤ 9223372036854775807 then (if ((((((((t239 ++ (⟨#[45]⟩ : ByteArray)) ++ t240) ++ (⟨#[45]⟩ : ByteArray)) ++ t241) ++ (⟨#[32]⟩ : ByteArray)) ++ t242) ++ (⟨#[58]⟩ : ByteArray)) ++ t243).size + 1 ≤ 9223372036854775807 then ((ticklerref16_digits.f k bt230.2.2.2.2.2.1 2).bind fun t244 => (if (((((((((t239 ++ (⟨#[45]⟩ : ByteArray)) ++ t240) ++ (⟨#[45]⟩ : ByteArray)) ++ t241) ++ (⟨#[32]⟩ : ByteArray)) ++ t242) ++ (⟨#[58]⟩ : ByteArray)) ++ t243) ++ (⟨#[58]⟩ : ByteArray)).size + t244.size ≤ 9223372036854775807 then (some ((((((((((t239 ++ (⟨#[45]⟩ : ByteArray)) ++ t240) ++ (⟨#[45]⟩ : ByteArray)) ++ t241) ++ (⟨#[32]⟩ : ByteArray)) ++ t242) ++ (⟨#[58]⟩ : ByteArray)) ++ t243) ++ (⟨#[58]⟩ : ByteArray)) ++ t244, 0)) else (none))) else (none)) else (none))) else (none)) else (none))) else (none)) else (none))) else (none)) else (none))) else (none))) else (some ((⟨#[]⟩ : ByteArray), bt230.2.2.2.2.2.2.2)))
theorem ticklerref16_Text.mono : ∀ a0 k, LeO (ticklerref16_Text.f k a0) (ticklerref16_Text.f (k + 1) a0) := by
  intro a0 k
  unfold ticklerref16_Text.f
  repeat' first
      | (with_reducible exact ticklerref16_Split.mono _ _)
      | (with_reducible exact ticklerref16_digits.mono _ _ _)
      | (with_reducible exact LeO.refl _)
      | (with_reducible exact LeO.none _)
      | (with_reducible refine LeO.ite ?_ ?_)
      | (with_reducible refine LeO.bind ?_ (fun _ => ?_))
      | exact ticklerref16_Split.mono _ _
      | exact ticklerref16_digits.mono _ _ _
      | exact LeO.none _
      | refine LeO.ite ?_ ?_
      | refine LeO.bind ?_ (fun _ => ?_)
def ticklerref16_Text.T4 : Bool × List (List Nat × List Nat) := (true, [([], []), ([0], [0]), ([1], [1]), ([2], [2]), ([], []), ([4], [4]), ([5, 2], [5]), ([3, 6], [3, 6]), ([7], [7]), ([], []), ([9], [9]), ([10, 6], [10]), ([8, 11], [8, 11]), ([12], [12]), ([], []), ([14], [14]), ([15, 11], [15]), ([13, 16], [13, 16]), ([17], [17]), ([], []), ([19], [19]), ([20, 16], [20]), ([18, 21], [18, 21]), ([22], [22]), ([], []), ([24], [24]), ([25, 21], [25]), ([23, 26], [23, 26]), ([27, 26, 0, 1, 2, 3, 4, 5, 6, 7, 8, 9, 10, 11, 12, 13, 14, 15, 16, 17, 18, 19, 20, 21, 22, 23, 24, 25, 26, 27], [27]), ([28, 0, 1, 2, 3, 4, 5, 6, 7, 8, 9, 10, 11, 12, 13, 14, 15, 16, 17, 18, 19, 20, 21, 22, 23, 24, 25, 26, 27, 28], [])])
def ticklerref16_Text.B4 : List Nat := [0, 1, 3, 7, 0, 16, 55, 127, 255, 0, 512, 1655, 4095, 8191, 0, 16384, 52855, 131071, 262143, 0, 524288, 1691255, 4194303, 8388607, 0, 16777216, 54120055, 134217727, 268435455, 536870911]
theorem ticklerref16_Text.tab4 : rtab .any (opsOf Try.f24 4) = ticklerref16_Text.T4 := by kernel_rfl
theorem ticklerref16_Text.bits4 : waitsOk ticklerref16_Text.T4.2 ticklerref16_Text.B4 = true := by kernel_rfl
set_option maxHeartbeats 8000000 in
set_option maxRecDepth 100000 in
theorem ticklerref16_Text.calls (k : Nat) (a0 : Int) (r1 : ByteArray) (r2 : Int) (w : World) (h : ticklerref16_Text.f k a0 = some (r1, r2)) :
    Calls Try.prog 24 #[.int .i64 a0] w fun e w' => e = .returned (.tuple #[.string r1, .int .i64 r2]) ∧ Below w.heap.size w w' := by
  have hu37 := Try.underlying37
  have HB := Aside0.mk (Below.refl w.heap.size w)
  have H : ((ticklerref16_Split.f k a0).bind fun bt230 => (if bt230.2.2.2.2.2.2.2 = 0 then ((ticklerref16_digits.f k bt230.1 4).bind fun t239 => (if t239.size + 1 ≤ 9223372036854775807 then ((ticklerref16_digits.f k bt230.2.1 2).bind fun t240 => (if (t239 ++ (⟨#[45]⟩ : ByteArray)).size + t240.size ≤ 9223372036854775807 then (if ((t239 ++ (⟨#[45]⟩ : ByteArray)) ++ t240).size + 1 ≤ 9223372036854775807 then ((ticklerref16_digits.f k bt230.2.2.1 2).bind fun t241 => (if (((t239 ++ (⟨#[45]⟩ : ByteArray)) ++ t240) ++ (⟨#[45]⟩ : ByteArray)).size + t241.size ≤ 9223372036854775807 then (if ((((t239 ++ (⟨#[45]⟩ : ByteArray)) ++ t240) ++ (⟨#[45]⟩ : ByteArray)) ++ t241).size + 1 ≤ 9223372036854775807 then ((ticklerref16_digits.f k bt230.2.2.2.1 2).bind fun t242 => (if (((((t239 ++ (⟨#[45]⟩ : ByteArray)) ++ t240) ++ (⟨#[45]⟩ : ByteArray)) ++ t241) ++ (⟨#[32]⟩ : ByteArray)).size + t242.size ≤ 9223372036854775807 then (if ((((((t239 ++ (⟨#[45]⟩ : ByteArray)) ++ t240) ++ (⟨#[45]⟩ : ByteArray)) ++ t241) ++ (⟨#[32]⟩ : ByteArray)) ++ t242).size + 1 ≤ 9223372036854775807 then ((ticklerref16_digits.f k bt230.2.2.2.2.1 2).bind fun t243 => (if (((((((t239 ++ (⟨#[45]⟩ : ByteArray)) ++ t240) ++ (⟨#[45]⟩ : ByteArray)) ++ t241) ++ (⟨#[32]⟩ : ByteArray)) ++ t242) ++ (⟨#[58]⟩ : ByteArray)).size + t243.size ≤ 9223372036854775807 then (if ((((((((t239 ++ (⟨#[45]⟩ : ByteArray)) ++ t240) ++ (⟨#[45]⟩ : ByteArray)) ++ t241) ++ (⟨#[32]⟩ : ByteArray)) ++ t242) ++ (⟨#[58]⟩ : ByteArray)) ++ t243).size + 1 ≤ 9223372036854775807 then ((ticklerref16_digits.f k bt230.2.2.2.2.2.1 2).bind fun t244 => (if (((((((((t239 ++ (⟨#[45]⟩ : ByteArray)) ++ t240) ++ (⟨#[45]⟩ : ByteArray)) ++ t241) ++ (⟨#[32]⟩ : ByteArray)) ++ t242) ++ (⟨#[58]⟩ : ByteArray)) ++ t243) ++ (⟨#[58]⟩ : ByteArray)).size + t244.size ≤ 9223372036854775807 then (some ((((((((((t239 ++ (⟨#[45]⟩ : ByteArray)) ++ t240) ++ (⟨#[45]⟩ : ByteArray)) ++ t241) ++ (⟨#[32]⟩ : ByteArray)) ++ t242) ++ (⟨#[58]⟩ : ByteArray)) ++ t243) ++ (⟨#[58]⟩ : ByteArray)) ++ t244, 0)) else (none))) else (none)) else (none))) else (none)) else (none))) else (none)) else (none))) else (none)) else (none))) else (none))) else (some ((⟨#[]⟩ : ByteArray), bt230.2.2.2.2.2.2.2)))) = some (r1, r2) := h
  clear h
  replace H := Option.bind_eq_some_iff.mp H
  obtain ⟨⟨t230, t231, t232, t233, t234, t235, t236, t237⟩, A20, H⟩ := H
  replace H : (if t237 = 0 then ((ticklerref16_digits.f k t230 4).bind fun t239 => (if t239.size + 1 ≤ 9223372036854775807 then ((ticklerref16_digits.f k t231 2).bind fun t240 => (if (t239 ++ (⟨#[45]⟩ : ByteArray)).size + t240.size ≤ 9223372036854775807 then (if ((t239 ++ (⟨#[45]⟩ : ByteArray)) ++ t240).size + 1 ≤ 9223372036854775807 then ((ticklerref16_digits.f k t232 2).bind fun t241 => (if (((t239 ++ (⟨#[45]⟩ : ByteArray)) ++ t240) ++ (⟨#[45]⟩ : ByteArray)).size + t241.size ≤ 9223372036854775807 then (if ((((t239 ++ (⟨#[45]⟩ : ByteArray)) ++ t240) ++ (⟨#[45]⟩ : ByteArray)) ++ t241).size + 1 ≤ 9223372036854775807 then ((ticklerref16_digits.f k t233 2).bind fun t242 => (if (((((t239 ++ (⟨#[45]⟩ : ByteArray)) ++ t240) ++ (⟨#[45]⟩ : ByteArray)) ++ t241) ++ (⟨#[32]⟩ : ByteArray)).size + t242.size ≤ 9223372036854775807 then (if ((((((t239 ++ (⟨#[45]⟩ : ByteArray)) ++ t240) ++ (⟨#[45]⟩ : ByteArray)) ++ t241) ++ (⟨#[32]⟩ : ByteArray)) ++ t242).size + 1 ≤ 9223372036854775807 then ((ticklerref16_digits.f k t234 2).bind fun t243 => (if (((((((t239 ++ (⟨#[45]⟩ : ByteArray)) ++ t240) ++ (⟨#[45]⟩ : ByteArray)) ++ t241) ++ (⟨#[32]⟩ : ByteArray)) ++ t242) ++ (⟨#[58]⟩ : ByteArray)).size + t243.size ≤ 9223372036854775807 then (if ((((((((t239 ++ (⟨#[45]⟩ : ByteArray)) ++ t240) ++ (⟨#[45]⟩ : ByteArray)) ++ t241) ++ (⟨#[32]⟩ : ByteArray)) ++ t242) ++ (⟨#[58]⟩ : ByteArray)) ++ t243).size + 1 ≤ 9223372036854775807 then ((ticklerref16_digits.f k t235 2).bind fun t244 => (if (((((((((t239 ++ (⟨#[45]⟩ : ByteArray)) ++ t240) ++ (⟨#[45]⟩ : ByteArray)) ++ t241) ++ (⟨#[32]⟩ : ByteArray)) ++ t242) ++ (⟨#[58]⟩ : ByteArray)) ++ t243) ++ (⟨#[58]⟩ : ByteArray)).size + t244.size ≤ 9223372036854775807 then (some ((((((((((t239 ++ (⟨#[45]⟩ : ByteArray)) ++ t240) ++ (⟨#[45]⟩ : ByteArray)) ++ t241) ++ (⟨#[32]⟩ : ByteArray)) ++ t242) ++ (⟨#[58]⟩ : ByteArray)) ++ t243) ++ (⟨#[58]⟩ : ByteArray)) ++ t244, 0)) else (none))) else (none)) else (none))) else (none)) else (none))) else (none)) else (none))) else (none)) else (none))) else (none))) else (some ((⟨#[]⟩ : ByteArray), t237))) = some (r1, r2) := H
  have A2 := Aside0.mk A20
  clear A20
  by_cases c3 : t237 = 0
  · rw [if_pos c3] at H
    have c3b0 : (t237 == 0) = true := beq_iff_eq.mpr c3
    have c3b1 : (t237 != 0) = false := bne_eq_false_iff_eq.mpr c3
    clear c3
    replace H := Option.bind_eq_some_iff.mp H
    obtain ⟨t239, A40, H⟩ := H
    replace H : (if t239.size + 1 ≤ 9223372036854775807 then ((ticklerref16_digits.f k t231 2).bind fun t240 => (if (t239 ++ (⟨#[45]⟩ : ByteArray)).size + t240.size ≤ 9223372036854775807 then (if ((t239 ++ (⟨#[45]⟩ : ByteArray)) ++ t240).size + 1 ≤ 9223372036854775807 then ((ticklerref16_digits.f k t232 2).bind fun t241 => (if (((t239 ++ (⟨#[45]⟩ : ByteArray)) ++ t240) ++ (⟨#[45]⟩ : ByteArray)).size + t241.size ≤ 9223372036854775807 then (if ((((t239 ++ (⟨#[45]⟩ : ByteArray)) ++ t240) ++ (⟨#[45]⟩ : ByteArray)) ++ t241).size + 1 ≤ 9223372036854775807 then ((ticklerref16_digits.f k t233 2).bind fun t242 => (if (((((t239 ++ (⟨#[45]⟩ : ByteArray)) ++ t240) ++ (⟨#[45]⟩ : ByteArray)) ++ t241) ++ (⟨#[32]⟩ : ByteArray)).size + t242.size ≤ 9223372036854775807 then (if ((((((t239 ++ (⟨#[45]⟩ : ByteArray)) ++ t240) ++ (⟨#[45]⟩ : ByteArray)) ++ t241) ++ (⟨#[32]⟩ : ByteArray)) ++ t242).size + 1 ≤ 9223372036854775807 then ((ticklerref16_digits.f k t234 2).bind fun t243 => (if (((((((t239 ++ (⟨#[45]⟩ : ByteArray)) ++ t240) ++ (⟨#[45]⟩ : ByteArray)) ++ t241) ++ (⟨#[32]⟩ : ByteArray)) ++ t242) ++ (⟨#[58]⟩ : ByteArray)).size + t243.size ≤ 9223372036854775807 then (if ((((((((t239 ++ (⟨#[45]⟩ : ByteArray)) ++ t240) ++ (⟨#[45]⟩ : ByteArray)) ++ t241) ++ (⟨#[32]⟩ : ByteArray)) ++ t242) ++ (⟨#[58]⟩ : ByteArray)) ++ t243).size + 1 ≤ 9223372036854775807 then ((ticklerref16_digits.f k t235 2).bind fun t244 => (if (((((((((t239 ++ (⟨#[45]⟩ : ByteArray)) ++ t240) ++ (⟨#[45]⟩ : ByteArray)) ++ t241) ++ (⟨#[32]⟩ : ByteArray)) ++ t242) ++ (⟨#[58]⟩ : ByteArray)) ++ t243) ++ (⟨#[58]⟩ : ByteArray)).size + t244.size ≤ 9223372036854775807 then (some ((((((((((t239 ++ (⟨#[45]⟩ : ByteArray)) ++ t240) ++ (⟨#[45]⟩ : ByteArray)) ++ t241) ++ (⟨#[32]⟩ : ByteArray)) ++ t242) ++ (⟨#[58]⟩ : ByteArray)) ++ t243) ++ (⟨#[58]⟩ : ByteArray)) ++ t244, 0)) else (none))) else (none)) else (none))) else (none)) else (none))) else (none)) else (none))) else (none)) else (none))) else (none)) = some (r1, r2) := H
    have A4 := Aside0.mk A40
    clear A40
    by_cases c5 : t239.size + 1 ≤ 9223372036854775807
    · rw [if_pos c5] at H
      have c5b0 := eq_true c5
      have c5b1 : decide (t239.size + 1 ≤ 9223372036854775807) = true := decide_eq_true c5
      try have c5b2 : (9223372036854775807 < t239.size + 1) = False := eq_false (Nat.not_lt.2 c5)
      replace H := Option.bind_eq_some_iff.mp H
      obtain ⟨t240, A60, H⟩ := H
      replace H : (if (t239 ++ (⟨#[45]⟩ : ByteArray)).size + t240.size ≤ 9223372036854775807 then (if ((t239 ++ (⟨#[45]⟩ : ByteArray)) ++ t240).size + 1 ≤ 9223372036854775807 then ((ticklerref16_digits.f k t232 2).bind fun t241 => (if (((t239 ++ (⟨#[45]⟩ : ByteArray)) ++ t240) ++ (⟨#[45]⟩ : ByteArray)).size + t241.size ≤ 9223372036854775807 then (if ((((t239 ++ (⟨#[45]⟩ : ByteArray)) ++ t240) ++ (⟨#[45]⟩ : ByteArray)) ++ t241).size + 1 ≤ 9223372036854775807 then ((ticklerref16_digits.f k t233 2).bind fun t242 => (if (((((t239 ++ (⟨#[45]⟩ : ByteArray)) ++ t240) ++ (⟨#[45]⟩ : ByteArray)) ++ t241) ++ (⟨#[32]⟩ : ByteArray)).size + t242.size ≤ 9223372036854775807 then (if ((((((t239 ++ (⟨#[45]⟩ : ByteArray)) ++ t240) ++ (⟨#[45]⟩ : ByteArray)) ++ t241) ++ (⟨#[32]⟩ : ByteArray)) ++ t242).size + 1 ≤ 9223372036854775807 then ((ticklerref16_digits.f k t234 2).bind fun t243 => (if (((((((t239 ++ (⟨#[45]⟩ : ByteArray)) ++ t240) ++ (⟨#[45]⟩ : ByteArray)) ++ t241) ++ (⟨#[32]⟩ : ByteArray)) ++ t242) ++ (⟨#[58]⟩ : ByteArray)).size + t243.size ≤ 9223372036854775807 then (if ((((((((t239 ++ (⟨#[45]⟩ : ByteArray)) ++ t240) ++ (⟨#[45]⟩ : ByteArray)) ++ t241) ++ (⟨#[32]⟩ : ByteArray)) ++ t242) ++ (⟨#[58]⟩ : ByteArray)) ++ t243).size + 1 ≤ 9223372036854775807 then ((ticklerref16_digits.f k t235 2).bind fun t244 => (if (((((((((t239 ++ (⟨#[45]⟩ : ByteArray)) ++ t240) ++ (⟨#[45]⟩ : ByteArray)) ++ t241) ++ (⟨#[32]⟩ : ByteArray)) ++ t242) ++ (⟨#[58]⟩ : ByteArray)) ++ t243) ++ (⟨#[58]⟩ : ByteArray)).size + t244.size ≤ 9223372036854775807 then (some ((((((((((t239 ++ (⟨#[45]⟩ : ByteArray)) ++ t240) ++ (⟨#[45]⟩ : ByteArray)) ++ t241) ++ (⟨#[32]⟩ : ByteArray)) ++ t242) ++ (⟨#[58]⟩ : ByteArray)) ++ t243) ++ (⟨#[58]⟩ : ByteArray)) ++ t244, 0)) else (none))) else (none)) else (none))) else (none)) else (none))) else (none)) else (none))) else (none)) else (none)) = some (r1, r2) := H
      have A6 := Aside0.mk A60
      clear A60
      by_cases c7 : (t239 ++ (⟨#[45]⟩ : ByteArray)).size + t240.size ≤ 9223372036854775807
      · rw [if_pos c7] at H
        have c7b0 := eq_true c7
        have c7b1 : decide ((t239 ++ (⟨#[45]⟩ : ByteArray)).size + t240.size ≤ 9223372036854775807) = true := decide_eq_true c7
        try have c7b2 : (9223372036854775807 < (t239 ++ (⟨#[45]⟩ : ByteArray)).size + t240.size) = False := eq_false (Nat.not_lt.2 c7)
        have c7b3 : (9223372036854775807 < t239.size + 1 + t240.size) = False := eq_false (Nat.not_lt.2 (by have h := c7; simp only [ByteArray.size_append] at h; exact h))
        by_cases c8 : ((t239 ++ (⟨#[45]⟩ : ByteArray)) ++ t240).size + 1 ≤ 9223372036854775807
        · rw [if_pos c8] at H
          have c8b0 := eq_true c8
          have c8b1 : decide (((t239 ++ (⟨#[45]⟩ : ByteArray)) ++ t240).size + 1 ≤ 9223372036854775807) = true := decide_eq_true c8
          try have c8b2 : (9223372036854775807 < ((t239 ++ (⟨#[45]⟩ : ByteArray)) ++ t240).size + 1) = False := eq_false (Nat.not_lt.2 c8)
          have c8b3 : (9223372036854775807 < t239.size + 1 + t240.size + 1) = False := eq_false (Nat.not_lt.2 (by have h := c8; simp only [ByteArray.size_append] at h; exact h))
          replace H := Option.bind_eq_some_iff.mp H
          obtain ⟨t241, A90, H⟩ := H
          replace H : (if (((t239 ++ (⟨#[45]⟩ : ByteArray)) ++ t240) ++ (⟨#[45]⟩ : ByteArray)).size + t241.size ≤ 9223372036854775807 then (if ((((t239 ++ (⟨#[45]⟩ : ByteArray)) ++ t240) ++ (⟨#[45]⟩ : ByteArray)) ++ t241).size + 1 ≤ 9223372036854775807 then ((ticklerref16_digits.f k t233 2).bind fun t242 => (if (((((t239 ++ (⟨#[45]⟩ : ByteArray)) ++ t240) ++ (⟨#[45]⟩ : ByteArray)) ++ t241) ++ (⟨#[32]⟩ : ByteArray)).size + t242.size ≤ 9223372036854775807 then (if ((((((t239 ++ (⟨#[45]⟩ : ByteArray)) ++ t240) ++ (⟨#[45]⟩ : ByteArray)) ++ t241) ++ (⟨#[32]⟩ : ByteArray)) ++ t242).size + 1 ≤ 9223372036854775807 then ((ticklerref16_digits.f k t234 2).bind fun t243 => (if (((((((t239 ++ (⟨#[45]⟩ : ByteArray)) ++ t240) ++ (⟨#[45]⟩ : ByteArray)) ++ t241) ++ (⟨#[32]⟩ : ByteArray)) ++ t242) ++ (⟨#[58]⟩ : ByteArray)).size + t243.size ≤ 9223372036854775807 then (if ((((((((t239 ++ (⟨#[45]⟩ : ByteArray)) ++ t240) ++ (⟨#[45]⟩ : ByteArray)) ++ t241) ++ (⟨#[32]⟩ : ByteArray)) ++ t242) ++ (⟨#[58]⟩ : ByteArray)) ++ t243).size + 1 ≤ 9223372036854775807 then ((ticklerref16_digits.f k t235 2).bind fun t244 => (if (((((((((t239 ++ (⟨#[45]⟩ : ByteArray)) ++ t240) ++ (⟨#[45]⟩ : ByteArray)) ++ t241) ++ (⟨#[32]⟩ : ByteArray)) ++ t242) ++ (⟨#[58]⟩ : ByteArray)) ++ t243) ++ (⟨#[58]⟩ : ByteArray)).size + t244.size ≤ 9223372036854775807 then (some ((((((((((t239 ++ (⟨#[45]⟩ : ByteArray)) ++ t240) ++ (⟨#[45]⟩ : ByteArray)) ++ t241) ++ (⟨#[32]⟩ : ByteArray)) ++ t242) ++ (⟨#[58]⟩ : ByteArray)) ++ t243) ++ (⟨#[58]⟩ : ByteArray)) ++ t244, 0)) else (none))) else (none)) else (none))) else (none)) else (none))) else (none)) else (none)) = some (r1, r2) := H
          have A9 := Aside0.mk A90
          clear A90
          by_cases c10 : (((t239 ++ (⟨#[45]⟩ : ByteArray)) ++ t240) ++ (⟨#[45]⟩ : ByteArray)).size + t241.size ≤ 9223372036854775807
          · rw [if_pos c10] at H
            have c10b0 := eq_true c10
            have c10b1 : decide ((((t239 ++ (⟨#[45]⟩ : ByteArray)) ++ t240) ++ (⟨#[45]⟩ : ByteArray)).size + t241.size ≤ 9223372036854775807) = true := decide_eq_true c10
            try have c10b2 : (9223372036854775807 < (((t239 ++ (⟨#[45]⟩ : ByteArray)) ++ t240) ++ (⟨#[45]⟩ : ByteArray)).size + t241.size) = False := eq_false (Nat.not_lt.2 c10)
            have c10b3 : (9223372036854775807 < t239.size + 1 + t240.size + 1 + t241.size) = False := eq_false (Nat.not_lt.2 (by have h := c10; simp only [ByteArray.size_append] at h; exact h))
            by_cases c11 : ((((t239 ++ (⟨#[45]⟩ : ByteArray)) ++ t240) ++ (⟨#[45]⟩ : ByteArray)) ++ t241).size + 1 ≤ 9223372036854775807
            · rw [if_pos c11] at H
              have c11b0 := eq_true c11
              have c11b1 : decide (((((t239 ++ (⟨#[45]⟩ : ByteArray)) ++ t240) ++ (⟨#[45]⟩ : ByteArray)) ++ t241).size + 1 ≤ 9223372036854775807) = true := decide_eq_true c11
              try have c11b2 : (9223372036854775807 < ((((t239 ++ (⟨#[45]⟩ : ByteArray)) ++ t240) ++ (⟨#[45]⟩ : ByteArray)) ++ t241).size + 1) = False := eq_false (Nat.not_lt.2 c11)
              have c11b3 : (9223372036854775807 < t239.size + 1 + t240.size + 1 + t241.size + 1) = False := eq_false (Nat.not_lt.2 (by have h := c11; simp only [ByteArray.size_append] at h; exact h))
              replace H := Option.bind_eq_some_iff.mp H
              obtain ⟨t242, A120, H⟩ := H
              replace H : (if (((((t239 ++ (⟨#[45]⟩ : ByteArray)) ++ t240) ++ (⟨#[45]⟩ : ByteArray)) ++ t241) ++ (⟨#[32]⟩ : ByteArray)).size + t242.size ≤ 9223372036854775807 then (if ((((((t239 ++ (⟨#[45]⟩ : ByteArray)) ++ t240) ++ (⟨#[45]⟩ : ByteArray)) ++ t241) ++ (⟨#[32]⟩ : ByteArray)) ++ t242).size + 1 ≤ 9223372036854775807 then ((ticklerref16_digits.f k t234 2).bind fun t243 => (if (((((((t239 ++ (⟨#[45]⟩ : ByteArray)) ++ t240) ++ (⟨#[45]⟩ : ByteArray)) ++ t241) ++ (⟨#[32]⟩ : ByteArray)) ++ t242) ++ (⟨#[58]⟩ : ByteArray)).size + t243.size ≤ 9223372036854775807 then (if ((((((((t239 ++ (⟨#[45]⟩ : ByteArray)) ++ t240) ++ (⟨#[45]⟩ : ByteArray)) ++ t241) ++ (⟨#[32]⟩ : ByteArray)) ++ t242) ++ (⟨#[58]⟩ : ByteArray)) ++ t243).size + 1 ≤ 9223372036854775807 then ((ticklerref16_digits.f k t235 2).bind fun t244 => (if (((((((((t239 ++ (⟨#[45]⟩ : ByteArray)) ++ t240) ++ (⟨#[45]⟩ : ByteArray)) ++ t241) ++ (⟨#[32]⟩ : ByteArray)) ++ t242) ++ (⟨#[58]⟩ : ByteArray)) ++ t243) ++ (⟨#[58]⟩ : ByteArray)).size + t244.size ≤ 9223372036854775807 then (some ((((((((((t239 ++ (⟨#[45]⟩ : ByteArray)) ++ t240) ++ (⟨#[45]⟩ : ByteArray)) ++ t241) ++ (⟨#[32]⟩ : ByteArray)) ++ t242) ++ (⟨#[58]⟩ : ByteArray)) ++ t243) ++ (⟨#[58]⟩ : ByteArray)) ++ t244, 0)) else (none))) else (none)) else (none))) else (none)) else (none)) = some (r1, r2) := H
              have A12 := Aside0.mk A120
              clear A120
              by_cases c13 : (((((t239 ++ (⟨#[45]⟩ : ByteArray)) ++ t240) ++ (⟨#[45]⟩ : ByteArray)) ++ t241) ++ (⟨#[32]⟩ : ByteArray)).size + t242.size ≤ 9223372036854775807
              · rw [if_pos c13] at H
                have c13b0 := eq_true c13
                have c13b1 : decide ((((((t239 ++ (⟨#[45]⟩ : ByteArray)) ++ t240) ++ (⟨#[45]⟩ : ByteArray)) ++ t241) ++ (⟨#[32]⟩ : ByteArray)).size + t242.size ≤ 9223372036854775807) = true := decide_eq_true c13
                try have c13b2 : (9223372036854775807 < (((((t239 ++ (⟨#[45]⟩ : ByteArray)) ++ t240) ++ (⟨#[45]⟩ : ByteArray)) ++ t241) ++ (⟨#[32]⟩ : ByteArray)).size + t242.size) = False := eq_false (Nat.not_lt.2 c13)
                have c13b3 : (9223372036854775807 < t239.size + 1 + t240.size + 1 + t241.size + 1 + t242.size) = False := eq_false (Nat.not_lt.2 (by have h := c13; simp only [ByteArray.size_append] at h; exact h))
                by_cases c14 : ((((((t239 ++ (⟨#[45]⟩ : ByteArray)) ++ t240) ++ (⟨#[45]⟩ : ByteArray)) ++ t241) ++ (⟨#[32]⟩ : ByteArray)) ++ t242).size + 1 ≤ 9223372036854775807
                · rw [if_pos c14] at H
                  have c14b0 := eq_true c14
                  have c14b1 : decide (((((((t239 ++ (⟨#[45]⟩ : ByteArray)) ++ t240) ++ (⟨#[45]⟩ : ByteArray)) ++ t241) ++ (⟨#[32]⟩ : ByteArray)) ++ t242).size + 1 ≤ 9223372036854775807) = true := decide_eq_true c14
                  try have c14b2 : (9223372036854775807 < ((((((t239 ++ (⟨#[45]⟩ : ByteArray)) ++ t240) ++ (⟨#[45]⟩ : ByteArray)) ++ t241) ++ (⟨#[32]⟩ : ByteArray)) ++ t242).size + 1) = False := eq_false (Nat.not_lt.2 c14)
                  have c14b3 : (9223372036854775807 < t239.size + 1 + t240.size + 1 + t241.size + 1 + t242.size + 1) = False := eq_false (Nat.not_lt.2 (by have h := c14; simp only [ByteArray.size_append] at h; exact h))
                  replace H := Option.bind_eq_some_iff.mp H
                  obtain ⟨t243, A150, H⟩ := H
                  replace H : (if (((((((t239 ++ (⟨#[45]⟩ : ByteArray)) ++ t240) ++ (⟨#[45]⟩ : ByteArray)) ++ t241) ++ (⟨#[32]⟩ : ByteArray)) ++ t242) ++ (⟨#[58]⟩ : ByteArray)).size + t243.size ≤ 9223372036854775807 then (if ((((((((t239 ++ (⟨#[45]⟩ : ByteArray)) ++ t240) ++ (⟨#[45]⟩ : ByteArray)) ++ t241) ++ (⟨#[32]⟩ : ByteArray)) ++ t242) ++ (⟨#[58]⟩ : ByteArray)) ++ t243).size + 1 ≤ 9223372036854775807 then ((ticklerref16_digits.f k t235 2).bind fun t244 => (if (((((((((t239 ++ (⟨#[45]⟩ : ByteArray)) ++ t240) ++ (⟨#[45]⟩ : ByteArray)) ++ t241) ++ (⟨#[32]⟩ : ByteArray)) ++ t242) ++ (⟨#[58]⟩ : ByteArray)) ++ t243) ++ (⟨#[58]⟩ : ByteArray)).size + t244.size ≤ 9223372036854775807 then (some ((((((((((t239 ++ (⟨#[45]⟩ : ByteArray)) ++ t240) ++ (⟨#[45]⟩ : ByteArray)) ++ t241) ++ (⟨#[32]⟩ : ByteArray)) ++ t242) ++ (⟨#[58]⟩ : ByteArray)) ++ t243) ++ (⟨#[58]⟩ : ByteArray)) ++ t244, 0)) else (none))) else (none)) else (none)) = some (r1, r2) := H
                  have A15 := Aside0.mk A150
                  clear A150
                  by_cases c16 : (((((((t239 ++ (⟨#[45]⟩ : ByteArray)) ++ t240) ++ (⟨#[45]⟩ : ByteArray)) ++ t241) ++ (⟨#[32]⟩ : ByteArray)) ++ t242) ++ (⟨#[58]⟩ : ByteArray)).size + t243.size ≤ 9223372036854775807
                  · rw [if_pos c16] at H
                    have c16b0 := eq_true c16
                    have c16b1 : decide ((((((((t239 ++ (⟨#[45]⟩ : ByteArray)) ++ t240) ++ (⟨#[45]⟩ : ByteArray)) ++ t241) ++ (⟨#[32]⟩ : ByteArray)) ++ t242) ++ (⟨#[58]⟩ : ByteArray)).size + t243.size ≤ 9223372036854775807) = true := decide_eq_true c16
                    try have c16b2 : (9223372036854775807 < (((((((t239 ++ (⟨#[45]⟩ : ByteArray)) ++ t240) ++ (⟨#[45]⟩ : ByteArray)) ++ t241) ++ (⟨#[32]⟩ : ByteArray)) ++ t242) ++ (⟨#[58]⟩ : ByteArray)).size + t243.size) = False := eq_false (Nat.not_lt.2 c16)
                    have c16b3 : (9223372036854775807 < t239.size + 1 + t240.size + 1 + t241.size + 1 + t242.size + 1 + t243.size) = False := eq_false (Nat.not_lt.2 (by have h := c16; simp only [ByteArray.size_append] at h; exact h))
                    by_cases c17 : ((((((((t239 ++ (⟨#[45]⟩ : ByteArray)) ++ t240) ++ (⟨#[45]⟩ : ByteArray)) ++ t241) ++ (⟨#[32]⟩ : ByteArray)) ++ t242) ++ (⟨#[58]⟩ : ByteArray)) ++ t243).size + 1 ≤ 9223372036854775807
                    · rw [if_pos c17] at H
                      have c17b0 := eq_true c17
                      have c17b1 : decide (((((((((t239 ++ (⟨#[45]⟩ : ByteArray)) ++ t240) ++ (⟨#[45]⟩ : ByteArray)) ++ t241) ++ (⟨#[32]⟩ : ByteArray)) ++ t242) ++ (⟨#[58]⟩ : ByteArray)) ++ t243).size + 1 ≤ 9223372036854775807) = true := decide_eq_true c17
                      try have c17b2 : (9223372036854775807 < ((((((((t239 ++ (⟨#[45]⟩ : ByteArray)) ++ t240) ++ (⟨#[45]⟩ : ByteArray)) ++ t241) ++ (⟨#[32]⟩ : ByteArray)) ++ t242) ++ (⟨#[58]⟩ : ByteArray)) ++ t243).size + 1) = False := eq_false (Nat.not_lt.2 c17)
                      have c17b3 : (9223372036854775807 < t239.size + 1 + t240.size + 1 + t241.size + 1 + t242.size + 1 + t243.size + 1) = False := eq_false (Nat.not_lt.2 (by have h := c17; simp only [ByteArray.size_append] at h; exact h))
                      replace H := Option.bind_eq_some_iff.mp H
                      obtain ⟨t244, A180, H⟩ := H
                      replace H : (if (((((((((t239 ++ (⟨#[45]⟩ : ByteArray)) ++ t240) ++ (⟨#[45]⟩ : ByteArray)) ++ t241) ++ (⟨#[32]⟩ : ByteArray)) ++ t242) ++ (⟨#[58]⟩ : ByteArray)) ++ t243) ++ (⟨#[58]⟩ : ByteArray)).size + t244.size ≤ 9223372036854775807 then (some ((((((((((t239 ++ (⟨#[45]⟩ : ByteArray)) ++ t240) ++ (⟨#[45]⟩ : ByteArray)) ++ t241) ++ (⟨#[32]⟩ : ByteArray)) ++ t242) ++ (⟨#[58]⟩ : ByteArray)) ++ t243) ++ (⟨#[58]⟩ : ByteArray)) ++ t244, 0)) else (none)) = some (r1, r2) := H
                      have A18 := Aside0.mk A180
                      clear A180
                      by_cases c19 : (((((((((t239 ++ (⟨#[45]⟩ : ByteArray)) ++ t240) ++ (⟨#[45]⟩ : ByteArray)) ++ t241) ++ (⟨#[32]⟩ : ByteArray)) ++ t242) ++ (⟨#[58]⟩ : ByteArray)) ++ t243) ++ (⟨#[58]⟩ : ByteArray)).size + t244.size ≤ 9223372036854775807
                      · rw [if_pos c19] at H
                        have c19b0 := eq_true c19
                        have c19b1 : decide ((((((((((t239 ++ (⟨#[45]⟩ : ByteArray)) ++ t240) ++ (⟨#[45]⟩ : ByteArray)) ++ t241) ++ (⟨#[32]⟩ : ByteArray)) ++ t242) ++ (⟨#[58]⟩ : ByteArray)) ++ t243) ++ (⟨#[58]⟩ : ByteArray)).size + t244.size ≤ 9223372036854775807) = true := decide_eq_true c19
                        try have c19b2 : (9223372036854775807 < (((((((((t239 ++ (⟨#[45]⟩ : ByteArray)) ++ t240) ++ (⟨#[45]⟩ : ByteArray)) ++ t241) ++ (⟨#[32]⟩ : ByteArray)) ++ t242) ++ (⟨#[58]⟩ : ByteArray)) ++ t243) ++ (⟨#[58]⟩ : ByteArray)).size + t244.size) = False := eq_false (Nat.not_lt.2 c19)
                        have c19b3 : (9223372036854775807 < t239.size + 1 + t240.size + 1 + t241.size + 1 + t242.size + 1 + t243.size + 1 + t244.size) = False := eq_false (Nat.not_lt.2 (by have h := c19; simp only [ByteArray.size_append] at h; exact h))
                        simp only [Option.some.injEq, Prod.mk.injEq] at H
                        obtain ⟨rfl, rfl⟩ := H
                        go_enter Try.func24, Try.ntmps24
                        try go_wp2_with (first | ((with_reducible refine gate_callee (f := 23) rfl ?_); refine goesL_ (some 8) rfl rfl Try.func23 (by kernel_rfl) rfl #[.int .i64 a0] rfl (by (try simp only [List.map_toArray, List.map_cons, List.map_nil]); first | done | rfl | (simp only [List.length_drop, List.length_take]; rfl)) ?_; (with_reducible refine (ticklerref16_Split.calls k a0 t230 t231 t232 t233 t234 t235 t236 t237 _ A2.out).mono ?_); rintro e w20 ⟨rfl, hb⟩; refine ⟨_, rfl, ?_⟩; have n0_ := Aside0.mk (below_step (by repeat (first | (with_reducible first | exact HB.out | apply below_alloc | apply pw_below_drewN | apply below_drew1) | exact HB.out)) hb); clear HB; have HB := n0_; clear n0_; (try clear hb); (try clear hb2); (try clear hk); (try clear hi)) | ((with_reducible refine gate_dst (N := 4) rfl ?_); refine box_event ?hg (N := 4) ?hd (cs := #[.int .i64 0, .int .i64 0, .int .i64 0, .int .i64 0, .int .i64 0, .int .i64 0, .int .i64 0]) (t := 37) ?hr ?_; (case hd => rfl); (case hg => rfl); (case hr => first | (go_simp; done) | (go_simp; rfl)); intro gb238 hg w21 hbox hb; have n0_ := Aside0.mk (below_step (by repeat (first | (with_reducible first | exact HB.out | apply below_alloc | apply pw_below_drewN | apply below_drew1) | exact HB.out)) hb); have n1_ := Aside0.mk (hbox); have n2_ := Aside0.mk ((by rw [hg]; exact (below_size (by repeat (first | (with_reducible first | exact HB.out | apply below_alloc | apply pw_below_drewN | apply below_drew1) | exact HB.out))) : w.heap.size ≤ gb238)); have n3_ := Aside0.mk ((by rw [hg]; exact (below_size (by repeat (first | (with_reducible first | exact HB.out | apply below_alloc | apply pw_below_drewN | apply below_drew1) | exact HB.out))) : w.heap.size ≤ gb238)); clear HB; have HB := n0_; have BK238 := n1_; have GW238 := n2_; have GE238 := n3_; clear n0_ n1_ n2_ n3_; clear hb hbox hg; have hcz22_0 : w21.cell? ⟨gb238, 0, none⟩ = some (.int .i64 0) := (blk_cell BK238.out 0).trans rfl; have hcz22_1 : w21.cell? ⟨gb238, 1, none⟩ = some (.int .i64 0) := (blk_cell BK238.out 1).trans rfl; have hcz22_2 : w21.cell? ⟨gb238, 2, none⟩ = some (.int .i64 0) := (blk_cell BK238.out 2).trans rfl; have hcz22_3 : w21.cell? ⟨gb238, 3, none⟩ = some (.int .i64 0) := (blk_cell BK238.out 3).trans rfl; have hcz22_4 : w21.cell? ⟨gb238, 4, none⟩ = some (.int .i64 0) := (blk_cell BK238.out 4).trans rfl; have hcz22_5 : w21.cell? ⟨gb238, 5, none⟩ = some (.int .i64 0) := (blk_cell BK238.out 5).trans rfl; have hcz22_6 : w21.cell? ⟨gb238, 6, none⟩ = some (.int .i64 0) := (blk_cell BK238.out 6).trans rfl; have hfz22_0 := blk_frozen BK238.out 0; have hfz22_1 := blk_frozen BK238.out 1; have hfz22_2 := blk_frozen BK238.out 2; have hfz22_3 := blk_frozen BK238.out 3; have hfz22_4 := blk_frozen BK238.out 4; have hfz22_5 := blk_frozen BK238.out 5; have hfz22_6 := blk_frozen BK238.out 6))
                        have n0_ : Aside0 ((((((((w21.setCell ⟨gb238, 0, none⟩ (.int .i64 t230)).setCell ⟨gb238, 1, none⟩ (.int .i64 t231)).setCell ⟨gb238, 2, none⟩ (.int .i64 t232)).setCell ⟨gb238, 3, none⟩ (.int .i64 t233)).setCell ⟨gb238, 4, none⟩ (.int .i64 t234)).setCell ⟨gb238, 5, none⟩ (.int .i64 t235)).setCell ⟨gb238, 6, none⟩ (.int .i64 t236)).heap[gb238]? = some (.cells #[.int .i64 t230, .int .i64 t231, .int .i64 t232, .int .i64 t233, .int .i64 t234, .int .i64 t235, .int .i64 t236] 37 (0, 0))) := ⟨by (with_reducible repeat (first | refine blk_drewN ?_ _ | refine blk_drew ?_ | refine blk_alloc ?_ _)); refine blk_put (cs := #[.int .i64 t230, .int .i64 t231, .int .i64 t232, .int .i64 t233, .int .i64 t234, .int .i64 t235, .int .i64 0]) ?_ 6 _ rfl; (with_reducible repeat (first | refine blk_drewN ?_ _ | refine blk_drew ?_ | refine blk_alloc ?_ _)); refine blk_put (cs := #[.int .i64 t230, .int .i64 t231, .int .i64 t232, .int .i64 t233, .int .i64 t234, .int .i64 0, .int .i64 0]) ?_ 5 _ rfl; (with_reducible repeat (first | refine blk_drewN ?_ _ | refine blk_drew ?_ | refine blk_alloc ?_ _)); refine blk_put (cs := #[.int .i64 t230, .int .i64 t231, .int .i64 t232, .int .i64 t233, .int .i64 0, .int .i64 0, .int .i64 0]) ?_ 4 _ rfl; (with_reducible repeat (first | refine blk_drewN ?_ _ | refine blk_drew ?_ | refine blk_alloc ?_ _)); refine blk_put (cs := #[.int .i64 t230, .int .i64 t231, .int .i64 t232, .int .i64 0, .int .i64 0, .int .i64 0, .int .i64 0]) ?_ 3 _ rfl; (with_reducible repeat (first | refine blk_drewN ?_ _ | refine blk_drew ?_ | refine blk_alloc ?_ _)); refine blk_put (cs := #[.int .i64 t230, .int .i64 t231, .int .i64 0, .int .i64 0, .int .i64 0, .int .i64 0, .int .i64 0]) ?_ 2 _ rfl; (with_reducible repeat (first | refine blk_drewN ?_ _ | refine blk_drew ?_ | refine blk_alloc ?_ _)); refine blk_put (cs := #[.int .i64 t230, .int .i64 0, .int .i64 0, .int .i64 0, .int .i64 0, .int .i64 0, .int .i64 0]) ?_ 1 _ rfl; (with_reducible repeat (first | refine blk_drewN ?_ _ | refine blk_drew ?_ | refine blk_alloc ?_ _)); refine blk_put (cs := #[.int .i64 0, .int .i64 0, .int .i64 0, .int .i64 0, .int .i64 0, .int .i64 0, .int .i64 0]) ?_ 0 _ rfl; (with_reducible repeat (first | refine blk_drewN ?_ _ | refine blk_drew ?_ | refine blk_alloc ?_ _)); exact BK238.out⟩
                        have n1_ : Aside0 (Below w.heap.size w (((((((w21.setCell ⟨gb238, 0, none⟩ (.int .i64 t230)).setCell ⟨gb238, 1, none⟩ (.int .i64 t231)).setCell ⟨gb238, 2, none⟩ (.int .i64 t232)).setCell ⟨gb238, 3, none⟩ (.int .i64 t233)).setCell ⟨gb238, 4, none⟩ (.int .i64 t234)).setCell ⟨gb238, 5, none⟩ (.int .i64 t235)).setCell ⟨gb238, 6, none⟩ (.int .i64 t236))) := ⟨by repeat (first | (with_reducible first | exact HB.out | apply below_alloc | apply pw_below_drewN | apply below_drew1 | refine below_set ?_ GE238.out) | exact HB.out)⟩
                        (try clear BK238)
                        (try clear HB)
                        generalize (((((((w21.setCell ⟨gb238, 0, none⟩ (.int .i64 t230)).setCell ⟨gb238, 1, none⟩ (.int .i64 t231)).setCell ⟨gb238, 2, none⟩ (.int .i64 t232)).setCell ⟨gb238, 3, none⟩ (.int .i64 t233)).setCell ⟨gb238, 4, none⟩ (.int .i64 t234)).setCell ⟨gb238, 5, none⟩ (.int .i64 t235)).setCell ⟨gb238, 6, none⟩ (.int .i64 t236)) = w23 at n0_ n1_ ⊢
                        have BK238 := n0_
                        have HB := n1_
                        clear n0_ n1_
                        have n0_ := Aside0.mk (blk_drew BK238.out)
                        have n1_ := Aside0.mk (below_drew1 HB.out)
                        clear BK238
                        clear HB
                        have BK238 := n0_
                        have HB := n1_
                        clear n0_ n1_
                        refine start_ (n := 30) (S := fun w' => w'.cell? ⟨gb238, 0, none⟩ = some (.int .i64 t230) ∧ w'.cell? ⟨gb238, 1, none⟩ = some (.int .i64 t231) ∧ w'.cell? ⟨gb238, 2, none⟩ = some (.int .i64 t232) ∧ w'.cell? ⟨gb238, 3, none⟩ = some (.int .i64 t233) ∧ w'.cell? ⟨gb238, 4, none⟩ = some (.int .i64 t234) ∧ w'.cell? ⟨gb238, 5, none⟩ = some (.int .i64 t235) ∧ w'.cell? ⟨gb238, 6, none⟩ = some (.int .i64 t236)) (ds := []) #[false, false, false, false, false, false, false, false, false, false, false, false, false, false, false, false, false, false, false, false, false, false, false, false, false, false, false, false, false, false] (by kernel_rfl) rfl rfl ⟨(blk_cell BK238.out 0).trans rfl, (blk_cell BK238.out 1).trans rfl, (blk_cell BK238.out 2).trans rfl, (blk_cell BK238.out 3).trans rfl, (blk_cell BK238.out 4).trans rfl, (blk_cell BK238.out 5).trans rfl, (blk_cell BK238.out 6).trans rfl⟩ (fun hHeld => ?_); refine with_tabW ticklerref16_Text.tab4 ticklerref16_Text.bits4 (fun HT_ HW_ => ?_)
                        generalize w23.drew = w24 at BK238 HB hHeld ⊢
                        refine pure_ (i := 0) (N := some 14) (v := ?_) (a' := ?_) #[true, false, false, false, false, false, false, false, false, false, false, false, false, false, false, false, false, false, false, false, false, false, false, false, false, false, false, false, false, false] rfl rfl (any_of HT_.out (by kernel_rfl)) (fun _ _ _ h => h) (Or.inl ⟨by rfl, ?_⟩) ?_ ?_
                        rotate_left
                        · intro w'
                          go_simp
                          with_reducible rfl
                        rotate_left
                        · simp only [Act.put, List.setIfInBounds_toArray, List.set_cons_zero, List.set_cons_succ, i64_w, i32_w]
                          rfl
                        refine pure_ (i := 4) (N := some 18) (v := ?_) (a' := ?_) #[true, false, false, false, true, false, false, false, false, false, false, false, false, false, false, false, false, false, false, false, false, false, false, false, false, false, false, false, false, false] rfl rfl (any_of HT_.out (by kernel_rfl)) (fun _ _ _ h => h) (Or.inl ⟨by rfl, ?_⟩) ?_ ?_
                        rotate_left
                        · intro w'
                          go_simp
                          with_reducible rfl
                        rotate_left
                        · simp only [Act.put, List.setIfInBounds_toArray, List.set_cons_zero, List.set_cons_succ, i64_w, i32_w]
                          rfl
                        refine pure_ (i := 9) (N := some 23) (v := ?_) (a' := ?_) #[true, false, false, false, true, false, false, false, false, true, false, false, false, false, false, false, false, false, false, false, false, false, false, false, false, false, false, false, false, false] rfl rfl (any_of HT_.out (by kernel_rfl)) (fun _ _ _ h => h) (Or.inl ⟨by rfl, ?_⟩) ?_ ?_
                        rotate_left
                        · intro w'
                          go_simp
                          with_reducible rfl
                        rotate_left
                        · simp only [Act.put, List.setIfInBounds_toArray, List.set_cons_zero, List.set_cons_succ, i64_w, i32_w]
                          rfl
                        refine pure_ (i := 14) (N := some 28) (v := ?_) (a' := ?_) #[true, false, false, false, true, false, false, false, false, true, false, false, false, false, true, false, false, false, false, false, false, false, false, false, false, false, false, false, false, false] rfl rfl (any_of HT_.out (by kernel_rfl)) (fun _ _ _ h => h) (Or.inl ⟨by rfl, ?_⟩) ?_ ?_
                        rotate_left
                        · intro w'
                          go_simp
                          with_reducible rfl
                        rotate_left
                        · simp only [Act.put, List.setIfInBounds_toArray, List.set_cons_zero, List.set_cons_succ, i64_w, i32_w]
                          rfl
                        refine pure_ (i := 19) (N := some 33) (v := ?_) (a' := ?_) #[true, false, false, false, true, false, false, false, false, true, false, false, false, false, true, false, false, false, false, true, false, false, false, false, false, false, false, false, false, false] rfl rfl (any_of HT_.out (by kernel_rfl)) (fun _ _ _ h => h) (Or.inl ⟨by rfl, ?_⟩) ?_ ?_
                        rotate_left
                        · intro w'
                          go_simp
                          with_reducible rfl
                        rotate_left
                        · simp only [Act.put, List.setIfInBounds_toArray, List.set_cons_zero, List.set_cons_succ, i64_w, i32_w]
                          rfl
                        refine pure_ (i := 24) (N := some 38) (v := ?_) (a' := ?_) #[true, false, false, false, true, false, false, false, false, true, false, false, false, false, true, false, false, false, false, true, false, false, false, false, true, false, false, false, false, false] rfl rfl (any_of HT_.out (by kernel_rfl)) (fun _ _ _ h => h) (Or.inl ⟨by rfl, ?_⟩) ?_ ?_
                        rotate_left
                        · intro w'
                          go_simp
                          with_reducible rfl
                        rotate_left
                        · simp only [Act.put, List.setIfInBounds_toArray, List.set_cons_zero, List.set_cons_succ, i64_w, i32_w]
                          rfl
                        refine take_ (i := 1) (N := some 15) (v := ?_) (a' := ?_) #[true, true, false, false, true, false, false, false, false, true, false, false, false, false, true, false, false, false, false, true, false, false, false, false, true, false, false, false, false, false] rfl rfl (take_ofW HT_.out HW_.out (by kernel_rfl)) (fun _ _ _ h => h) (Or.inl ⟨by rfl, ?_⟩) hHeld ?_ ?_
                        rotate_left
                        · rintro w' ⟨s0, s1, s2, s3, s4, s5, s6⟩
                          go_simp
                          with_reducible rfl
                        rotate_left
                        · simp only [Act.put, List.setIfInBounds_toArray, List.set_cons_zero, List.set_cons_succ, i64_w, i32_w]
                          rfl
                        refine take_ (i := 5) (N := some 19) (v := ?_) (a' := ?_) #[true, true, false, false, true, true, false, false, false, true, false, false, false, false, true, false, false, false, false, true, false, false, false, false, true, false, false, false, false, false] rfl rfl (take_ofW HT_.out HW_.out (by kernel_rfl)) (fun _ _ _ h => h) (Or.inl ⟨by rfl, ?_⟩) hHeld ?_ ?_
                        rotate_left
                        · rintro w' ⟨s0, s1, s2, s3, s4, s5, s6⟩
                          go_simp
                          with_reducible rfl
                        rotate_left
                        · simp only [Act.put, List.setIfInBounds_toArray, List.set_cons_zero, List.set_cons_succ, i64_w, i32_w]
                          rfl
                        refine take_ (i := 10) (N := some 24) (v := ?_) (a' := ?_) #[true, true, false, false, true, true, false, false, false, true, true, false, false, false, true, false, false, false, false, true, false, false, false, false, true, false, false, false, false, false] rfl rfl (take_ofW HT_.out HW_.out (by kernel_rfl)) (fun _ _ _ h => h) (Or.inl ⟨by rfl, ?_⟩) hHeld ?_ ?_
                        rotate_left
                        · rintro w' ⟨s0, s1, s2, s3, s4, s5, s6⟩
                          go_simp
                          with_reducible rfl
                        rotate_left
                        · simp only [Act.put, List.setIfInBounds_toArray, List.set_cons_zero, List.set_cons_succ, i64_w, i32_w]
                          rfl
                        refine take_ (i := 15) (N := some 29) (v := ?_) (a' := ?_) #[true, true, false, false, true, true, false, false, false, true, true, false, false, false, true, true, false, false, false, true, false, false, false, false, true, false, false, false, false, false] rfl rfl (take_ofW HT_.out HW_.out (by kernel_rfl)) (fun _ _ _ h => h) (Or.inl ⟨by rfl, ?_⟩) hHeld ?_ ?_
                        rotate_left
                        · rintro w' ⟨s0, s1, s2, s3, s4, s5, s6⟩
                          go_simp
                          with_reducible rfl
                        rotate_left
                        · simp only [Act.put, List.setIfInBounds_toArray, List.set_cons_zero, List.set_cons_succ, i64_w, i32_w]
                          rfl
                        refine take_ (i := 20) (N := some 34) (v := ?_) (a' := ?_) #[true, true, false, false, true, true, false, false, false, true, true, false, false, false, true, true, false, false, false, true, true, false, false, false, true, false, false, false, false, false] rfl rfl (take_ofW HT_.out HW_.out (by kernel_rfl)) (fun _ _ _ h => h) (Or.inl ⟨by rfl, ?_⟩) hHeld ?_ ?_
                        rotate_left
                        · rintro w' ⟨s0, s1, s2, s3, s4, s5, s6⟩
                          go_simp
                          with_reducible rfl
                        rotate_left
                        · simp only [Act.put, List.setIfInBounds_toArray, List.set_cons_zero, List.set_cons_succ, i64_w, i32_w]
                          rfl
                        refine take_ (i := 25) (N := some 39) (v := ?_) (a' := ?_) #[true, true, false, false, true, true, false, false, false, true, true, false, false, false, true, true, false, false, false, true, true, false, false, false, true, true, false, false, false, false] rfl rfl (take_ofW HT_.out HW_.out (by kernel_rfl)) (fun _ _ _ h => h) (Or.inl ⟨by rfl, ?_⟩) hHeld ?_ ?_
                        rotate_left
                        · rintro w' ⟨s0, s1, s2, s3, s4, s5, s6⟩
                          go_simp
                          with_reducible rfl
                        rotate_left
                        · simp only [Act.put, List.setIfInBounds_toArray, List.set_cons_zero, List.set_cons_succ, i64_w, i32_w]
                          rfl
                        refine one_ (i := 2) (N := some 16) #[true, true, true, false, true, true, false, false, false, true, true, false, false, false, true, true, false, false, false, true, true, false, false, false, true, true, false, false, false, false] rfl rfl (one_of HT_.out (by kernel_rfl)) (by decide) (fun K hK => ?_)
                        refine goes_ Try.func30 (by kernel_rfl) rfl #[.int .i64 t230, .int .i64 4] (by rfl) rfl rfl (by (try simp only [List.map_toArray, List.map_cons, List.map_nil]); first | done | rfl | (simp only [List.length_drop, List.length_take]; rfl)) ?_
                        with_reducible refine (ticklerref16_digits.calls k t230 4 t239 _ A4.out).mono ?_
                        rintro e w25 ⟨rfl, hb⟩
                        refine ⟨_, rfl, ?_⟩
                        have n0_ := Aside0.mk (blk_below (g := gb238) (o := .cells #[.int .i64 t230, .int .i64 t231, .int .i64 t232, .int .i64 t233, .int .i64 t234, .int .i64 t235, .int .i64 t236] 37 (0, 0)) (by (with_reducible repeat (first | refine blk_drewN ?_ _ | refine blk_drew ?_ | refine blk_alloc ?_ _)); exact BK238.out) hb)
                        have n1_ := Aside0.mk (below_step (by repeat (first | (with_reducible first | exact HB.out | apply below_alloc | apply pw_below_drewN | apply below_drew1 | refine below_set ?_ GE238.out) | exact HB.out)) hb)
                        clear BK238
                        clear HB
                        have BK238 := n0_
                        have HB := n1_
                        clear n0_ n1_
                        (try clear hb)
                        (try clear hb2)
                        (try clear hk)
                        (try clear hi)
                        refine hK.out _ _ ⟨(blk_cell BK238.out 0).trans rfl, (blk_cell BK238.out 1).trans rfl, (blk_cell BK238.out 2).trans rfl, (blk_cell BK238.out 3).trans rfl, (blk_cell BK238.out 4).trans rfl, (blk_cell BK238.out 5).trans rfl, (blk_cell BK238.out 6).trans rfl⟩ (fun hHeld => ?_)
                        clear hK K
                        refine norm_ (a' := ?_) ?_ ?_
                        rotate_left
                        · show Act.put _ (some 16) _ = _
                          simp only [Act.put, List.setIfInBounds_toArray, List.set_cons_zero, List.set_cons_succ, i64_w, i32_w]
                          rfl
                        refine pure_ (i := 3) (N := some 17) (v := ?_) (a' := ?_) #[true, true, true, true, true, true, false, false, false, true, true, false, false, false, true, true, false, false, false, true, true, false, false, false, true, true, false, false, false, false] rfl rfl (any_of HT_.out (by kernel_rfl)) (fun _ _ _ h => h) (Or.inl ⟨by rfl, ?_⟩) ?_ ?_
                        rotate_left
                        · intro w'
                          go_simp
                          with_reducible rfl
                        rotate_left
                        · simp only [Act.put, List.setIfInBounds_toArray, List.set_cons_zero, List.set_cons_succ, i64_w, i32_w]
                          rfl
                        refine one_ (i := 6) (N := some 20) #[true, true, true, true, true, true, true, false, false, true, true, false, false, false, true, true, false, false, false, true, true, false, false, false, true, true, false, false, false, false] rfl rfl (one_of HT_.out (by kernel_rfl)) (by decide) (fun K hK => ?_)
                        refine goes_ Try.func30 (by kernel_rfl) rfl #[.int .i64 t231, .int .i64 2] (by rfl) rfl rfl (by (try simp only [List.map_toArray, List.map_cons, List.map_nil]); first | done | rfl | (simp only [List.length_drop, List.length_take]; rfl)) ?_
                        with_reducible refine (ticklerref16_digits.calls k t231 2 t240 _ A6.out).mono ?_
                        rintro e w26 ⟨rfl, hb⟩
                        refine ⟨_, rfl, ?_⟩
                        have n0_ := Aside0.mk (blk_below (g := gb238) (o := .cells #[.int .i64 t230, .int .i64 t231, .int .i64 t232, .int .i64 t233, .int .i64 t234, .int .i64 t235, .int .i64 t236] 37 (0, 0)) (by (with_reducible repeat (first | refine blk_drewN ?_ _ | refine blk_drew ?_ | refine blk_alloc ?_ _)); exact BK238.out) hb)
                        have n1_ := Aside0.mk (below_step (by repeat (first | (with_reducible first | exact HB.out | apply below_alloc | apply pw_below_drewN | apply below_drew1 | refine below_set ?_ GE238.out) | exact HB.out)) hb)
                        clear BK238
                        clear HB
                        have BK238 := n0_
                        have HB := n1_
                        clear n0_ n1_
                        (try clear hb)
                        (try clear hb2)
                        (try clear hk)
                        (try clear hi)
                        refine hK.out _ _ ⟨(blk_cell BK238.out 0).trans rfl, (blk_cell BK238.out 1).trans rfl, (blk_cell BK238.out 2).trans rfl, (blk_cell BK238.out 3).trans rfl, (blk_cell BK238.out 4).trans rfl, (blk_cell BK238.out 5).trans rfl, (blk_cell BK238.out 6).trans rfl⟩ (fun hHeld => ?_)
                        clear hK K
                        refine norm_ (a' := ?_) ?_ ?_
                        rotate_left
                        · show Act.put _ (some 20) _ = _
                          simp only [Act.put, List.setIfInBounds_toArray, List.set_cons_zero, List.set_cons_succ, i64_w, i32_w]
                          rfl
                        refine pure_ (i := 7) (N := some 21) (v := ?_) (a' := ?_) #[true, true, true, true, true, true, true, true, false, true, true, false, false, false, true, true, false, false, false, true, true, false, false, false, true, true, false, false, false, false] rfl rfl (any_of HT_.out (by kernel_rfl)) (fun _ _ _ h => h) (Or.inl ⟨by rfl, ?_⟩) ?_ ?_
                        rotate_left
                        · intro w'
                          go_simp
                          with_reducible rfl
                        rotate_left
                        · simp only [Act.put, List.setIfInBounds_toArray, List.set_cons_zero, List.set_cons_succ, i64_w, i32_w]
                          rfl
                        refine pure_ (i := 8) (N := some 22) (v := ?_) (a' := ?_) #[true, true, true, true, true, true, true, true, true, true, true, false, false, false, true, true, false, false, false, true, true, false, false, false, true, true, false, false, false, false] rfl rfl (any_of HT_.out (by kernel_rfl)) (fun _ _ _ h => h) (Or.inl ⟨by rfl, ?_⟩) ?_ ?_
                        rotate_left
                        · intro w'
                          go_simp
                          with_reducible rfl
                        rotate_left
                        · simp only [Act.put, List.setIfInBounds_toArray, List.set_cons_zero, List.set_cons_succ, i64_w, i32_w]
                          rfl
                        refine one_ (i := 11) (N := some 25) #[true, true, true, true, true, true, true, true, true, true, true, true, false, false, true, true, false, false, false, true, true, false, false, false, true, true, false, false, false, false] rfl rfl (one_of HT_.out (by kernel_rfl)) (by decide) (fun K hK => ?_)
                        refine goes_ Try.func30 (by kernel_rfl) rfl #[.int .i64 t232, .int .i64 2] (by rfl) rfl rfl (by (try simp only [List.map_toArray, List.map_cons, List.map_nil]); first | done | rfl | (simp only [List.length_drop, List.length_take]; rfl)) ?_
                        with_reducible refine (ticklerref16_digits.calls k t232 2 t241 _ A9.out).mono ?_
                        rintro e w27 ⟨rfl, hb⟩
                        refine ⟨_, rfl, ?_⟩
                        have n0_ := Aside0.mk (blk_below (g := gb238) (o := .cells #[.int .i64 t230, .int .i64 t231, .int .i64 t232, .int .i64 t233, .int .i64 t234, .int .i64 t235, .int .i64 t236] 37 (0, 0)) (by (with_reducible repeat (first | refine blk_drewN ?_ _ | refine blk_drew ?_ | refine blk_alloc ?_ _)); exact BK238.out) hb)
                        have n1_ := Aside0.mk (below_step (by repeat (first | (with_reducible first | exact HB.out | apply below_alloc | apply pw_below_drewN | apply below_drew1 | refine below_set ?_ GE238.out) | exact HB.out)) hb)
                        clear BK238
                        clear HB
                        have BK238 := n0_
                        have HB := n1_
                        clear n0_ n1_
                        (try clear hb)
                        (try clear hb2)
                        (try clear hk)
                        (try clear hi)
                        refine hK.out _ _ ⟨(blk_cell BK238.out 0).trans rfl, (blk_cell BK238.out 1).trans rfl, (blk_cell BK238.out 2).trans rfl, (blk_cell BK238.out 3).trans rfl, (blk_cell BK238.out 4).trans rfl, (blk_cell BK238.out 5).trans rfl, (blk_cell BK238.out 6).trans rfl⟩ (fun hHeld => ?_)
                        clear hK K
                        refine norm_ (a' := ?_) ?_ ?_
                        rotate_left
                        · show Act.put _ (some 25) _ = _
                          simp only [Act.put, List.setIfInBounds_toArray, List.set_cons_zero, List.set_cons_succ, i64_w, i32_w]
                          rfl
                        refine pure_ (i := 12) (N := some 26) (v := ?_) (a' := ?_) #[true, true, true, true, true, true, true, true, true, true, true, true, true, false, true, true, false, false, false, true, true, false, false, false, true, true, false, false, false, false] rfl rfl (any_of HT_.out (by kernel_rfl)) (fun _ _ _ h => h) (Or.inl ⟨by rfl, ?_⟩) ?_ ?_
                        rotate_left
                        · intro w'
                          go_simp
                          with_reducible rfl
                        rotate_left
                        · simp only [Act.put, List.setIfInBounds_toArray, List.set_cons_zero, List.set_cons_succ, i64_w, i32_w]
                          rfl
                        refine pure_ (i := 13) (N := some 27) (v := ?_) (a' := ?_) #[true, true, true, true, true, true, true, true, true, true, true, true, true, true, true, true, false, false, false, true, true, false, false, false, true, true, false, false, false, false] rfl rfl (any_of HT_.out (by kernel_rfl)) (fun _ _ _ h => h) (Or.inl ⟨by rfl, ?_⟩) ?_ ?_
                        rotate_left
                        · intro w'
                          go_simp
                          with_reducible rfl
                        rotate_left
                        · simp only [Act.put, List.setIfInBounds_toArray, List.set_cons_zero, List.set_cons_succ, i64_w, i32_w]
                          rfl
                        refine one_ (i := 16) (N := some 30) #[true, true, true, true, true, true, true, true, true, true, true, true, true, true, true, true, true, false, false, true, true, false, false, false, true, true, false, false, false, false] rfl rfl (one_of HT_.out (by kernel_rfl)) (by decide) (fun K hK => ?_)
                        refine goes_ Try.func30 (by kernel_rfl) rfl #[.int .i64 t233, .int .i64 2] (by rfl) rfl rfl (by (try simp only [List.map_toArray, List.map_cons, List.map_nil]); first | done | rfl | (simp only [List.length_drop, List.length_take]; rfl)) ?_
                        with_reducible refine (ticklerref16_digits.calls k t233 2 t242 _ A12.out).mono ?_
                        rintro e w28 ⟨rfl, hb⟩
                        refine ⟨_, rfl, ?_⟩
                        have n0_ := Aside0.mk (blk_below (g := gb238) (o := .cells #[.int .i64 t230, .int .i64 t231, .int .i64 t232, .int .i64 t233, .int .i64 t234, .int .i64 t235, .int .i64 t236] 37 (0, 0)) (by (with_reducible repeat (first | refine blk_drewN ?_ _ | refine blk_drew ?_ | refine blk_alloc ?_ _)); exact BK238.out) hb)
                        have n1_ := Aside0.mk (below_step (by repeat (first | (with_reducible first | exact HB.out | apply below_alloc | apply pw_below_drewN | apply below_drew1 | refine below_set ?_ GE238.out) | exact HB.out)) hb)
                        clear BK238
                        clear HB
                        have BK238 := n0_
                        have HB := n1_
                        clear n0_ n1_
                        (try clear hb)
                        (try clear hb2)
                        (try clear hk)
                        (try clear hi)
                        refine hK.out _ _ ⟨(blk_cell BK238.out 0).trans rfl, (blk_cell BK238.out 1).trans rfl, (blk_cell BK238.out 2).trans rfl, (blk_cell BK238.out 3).trans rfl, (blk_cell BK238.out 4).trans rfl, (blk_cell BK238.out 5).trans rfl, (blk_cell BK238.out 6).trans rfl⟩ (fun hHeld => ?_)
                        clear hK K
                        refine norm_ (a' := ?_) ?_ ?_
                        rotate_left
                        · show Act.put _ (some 30) _ = _
                          simp only [Act.put, List.setIfInBounds_toArray, List.set_cons_zero, List.set_cons_succ, i64_w, i32_w]
                          rfl
                        refine pure_ (i := 17) (N := some 31) (v := ?_) (a' := ?_) #[true, true, true, true, true, true, true, true, true, true, true, true, true, true, true, true, true, true, false, true, true, false, false, false, true, true, false, false, false, false] rfl rfl (any_of HT_.out (by kernel_rfl)) (fun _ _ _ h => h) (Or.inl ⟨by rfl, ?_⟩) ?_ ?_
                        rotate_left
                        · intro w'
                          go_simp
                          with_reducible rfl
                        rotate_left
                        · simp only [Act.put, List.setIfInBounds_toArray, List.set_cons_zero, List.set_cons_succ, i64_w, i32_w]
                          rfl
                        refine pure_ (i := 18) (N := some 32) (v := ?_) (a' := ?_) #[true, true, true, true, true, true, true, true, true, true, true, true, true, true, true, true, true, true, true, true, true, false, false, false, true, true, false, false, false, false] rfl rfl (any_of HT_.out (by kernel_rfl)) (fun _ _ _ h => h) (Or.inl ⟨by rfl, ?_⟩) ?_ ?_
                        rotate_left
                        · intro w'
                          go_simp
                          with_reducible rfl
                        rotate_left
                        · simp only [Act.put, List.setIfInBounds_toArray, List.set_cons_zero, List.set_cons_succ, i64_w, i32_w]
                          rfl
                        refine one_ (i := 21) (N := some 35) #[true, true, true, true, true, true, true, true, true, true, true, true, true, true, true, true, true, true, true, true, true, true, false, false, true, true, false, false, false, false] rfl rfl (one_of HT_.out (by kernel_rfl)) (by decide) (fun K hK => ?_)
                        refine goes_ Try.func30 (by kernel_rfl) rfl #[.int .i64 t234, .int .i64 2] (by rfl) rfl rfl (by (try simp only [List.map_toArray, List.map_cons, List.map_nil]); first | done | rfl | (simp only [List.length_drop, List.length_take]; rfl)) ?_
                        with_reducible refine (ticklerref16_digits.calls k t234 2 t243 _ A15.out).mono ?_
                        rintro e w29 ⟨rfl, hb⟩
                        refine ⟨_, rfl, ?_⟩
                        have n0_ := Aside0.mk (blk_below (g := gb238) (o := .cells #[.int .i64 t230, .int .i64 t231, .int .i64 t232, .int .i64 t233, .int .i64 t234, .int .i64 t235, .int .i64 t236] 37 (0, 0)) (by (with_reducible repeat (first | refine blk_drewN ?_ _ | refine blk_drew ?_ | refine blk_alloc ?_ _)); exact BK238.out) hb)
                        have n1_ := Aside0.mk (below_step (by repeat (first | (with_reducible first | exact HB.out | apply below_alloc | apply pw_below_drewN | apply below_drew1 | refine below_set ?_ GE238.out) | exact HB.out)) hb)
                        clear BK238
                        clear HB
                        have BK238 := n0_
                        have HB := n1_
                        clear n0_ n1_
                        (try clear hb)
                        (try clear hb2)
                        (try clear hk)
                        (try clear hi)
                        refine hK.out _ _ ⟨(blk_cell BK238.out 0).trans rfl, (blk_cell BK238.out 1).trans rfl, (blk_cell BK238.out 2).trans rfl, (blk_cell BK238.out 3).trans rfl, (blk_cell BK238.out 4).trans rfl, (blk_cell BK238.out 5).trans rfl, (blk_cell BK238.out 6).trans rfl⟩ (fun hHeld => ?_)
                        clear hK K
                        refine norm_ (a' := ?_) ?_ ?_
                        rotate_left
                        · show Act.put _ (some 35) _ = _
                          simp only [Act.put, List.setIfInBounds_toArray, List.set_cons_zero, List.set_cons_succ, i64_w, i32_w]
                          rfl
                        refine pure_ (i := 22) (N := some 36) (v := ?_) (a' := ?_) #[true, true, true, true, true, true, true, true, true, true, true, true, true, true, true, true, true, true, true, true, true, true, true, false, true, true, false, false, false, false] rfl rfl (any_of HT_.out (by kernel_rfl)) (fun _ _ _ h => h) (Or.inl ⟨by rfl, ?_⟩) ?_ ?_
                        rotate_left
                        · intro w'
                          go_simp
                          with_reducible rfl
                        rotate_left
                        · simp only [Act.put, List.setIfInBounds_toArray, List.set_cons_zero, List.set_cons_succ, i64_w, i32_w]
                          rfl
                        refine pure_ (i := 23) (N := some 37) (v := ?_) (a' := ?_) #[true, true, true, true, true, true, true, true, true, true, true, true, true, true, true, true, true, true, true, true, true, true, true, true, true, true, false, false, false, false] rfl rfl (any_of HT_.out (by kernel_rfl)) (fun _ _ _ h => h) (Or.inl ⟨by rfl, ?_⟩) ?_ ?_
                        rotate_left
                        · intro w'
                          go_simp
                          with_reducible rfl
                        rotate_left
                        · simp only [Act.put, List.setIfInBounds_toArray, List.set_cons_zero, List.set_cons_succ, i64_w, i32_w]
                          rfl
                        refine one_ (i := 26) (N := some 40) #[true, true, true, true, true, true, true, true, true, true, true, true, true, true, true, true, true, true, true, true, true, true, true, true, true, true, true, false, false, false] rfl rfl (one_of HT_.out (by kernel_rfl)) (by decide) (fun K hK => ?_)
                        refine goes_ Try.func30 (by kernel_rfl) rfl #[.int .i64 t235, .int .i64 2] (by rfl) rfl rfl (by (try simp only [List.map_toArray, List.map_cons, List.map_nil]); first | done | rfl | (simp only [List.length_drop, List.length_take]; rfl)) ?_
                        with_reducible refine (ticklerref16_digits.calls k t235 2 t244 _ A18.out).mono ?_
                        rintro e w30 ⟨rfl, hb⟩
                        refine ⟨_, rfl, ?_⟩
                        have n0_ := Aside0.mk (blk_below (g := gb238) (o := .cells #[.int .i64 t230, .int .i64 t231, .int .i64 t232, .int .i64 t233, .int .i64 t234, .int .i64 t235, .int .i64 t236] 37 (0, 0)) (by (with_reducible repeat (first | refine blk_drewN ?_ _ | refine blk_drew ?_ | refine blk_alloc ?_ _)); exact BK238.out) hb)
                        have n1_ := Aside0.mk (below_step (by repeat (first | (with_reducible first | exact HB.out | apply below_alloc | apply pw_below_drewN | apply below_drew1 | refine below_set ?_ GE238.out) | exact HB.out)) hb)
                        clear BK238
                        clear HB
                        have BK238 := n0_
                        have HB := n1_
                        clear n0_ n1_
                        (try clear hb)
                        (try clear hb2)
                        (try clear hk)
                        (try clear hi)
                        refine hK.out _ _ ⟨(blk_cell BK238.out 0).trans rfl, (blk_cell BK238.out 1).trans rfl, (blk_cell BK238.out 2).trans rfl, (blk_cell BK238.out 3).trans rfl, (blk_cell BK238.out 4).trans rfl, (blk_cell BK238.out 5).trans rfl, (blk_cell BK238.out 6).trans rfl⟩ (fun hHeld => ?_)
                        clear hK K
                        refine norm_ (a' := ?_) ?_ ?_
                        rotate_left
                        · show Act.put _ (some 40) _ = _
                          simp only [Act.put, List.setIfInBounds_toArray, List.set_cons_zero, List.set_cons_succ, i64_w, i32_w]
                          rfl
                        refine pure_ (i := 27) (N := some 41) (v := ?_) (a' := ?_) #[true, true, true, true, true, true, true, true, true, true, true, true, true, true, true, true, true, true, true, true, true, true, true, true, true, true, true, true, false, false] rfl rfl (any_of HT_.out (by kernel_rfl)) (fun _ _ _ h => h) (Or.inl ⟨by rfl, ?_⟩) ?_ ?_
                        rotate_left
                        · intro w'
                          go_simp
                          with_reducible rfl
                        rotate_left
                        · simp only [Act.put, List.setIfInBounds_toArray, List.set_cons_zero, List.set_cons_succ, i64_w, i32_w]
                          rfl
                        refine pure_ (i := 28) (N := some 2) (v := ?_) (a' := ?_) #[true, true, true, true, true, true, true, true, true, true, true, true, true, true, true, true, true, true, true, true, true, true, true, true, true, true, true, true, true, false] rfl rfl (any_of HT_.out (by kernel_rfl)) (fun _ _ _ h => h) (Or.inl ⟨by rfl, ?_⟩) ?_ ?_
                        rotate_left
                        · intro w'
                          go_simp
                          with_reducible rfl
                        rotate_left
                        · simp only [Act.put, List.setIfInBounds_toArray, List.set_cons_zero, List.set_cons_succ, i64_w, i32_w]
                          rfl
                        refine pure_ (i := 29) (N := some 3) (v := ?_) (a' := ?_) #[true, true, true, true, true, true, true, true, true, true, true, true, true, true, true, true, true, true, true, true, true, true, true, true, true, true, true, true, true, true] rfl rfl (any_of HT_.out (by kernel_rfl)) (fun _ _ _ h => h) (Or.inl ⟨by rfl, ?_⟩) ?_ ?_
                        rotate_left
                        · intro w'
                          go_simp
                          with_reducible rfl
                        rotate_left
                        · simp only [Act.put, List.setIfInBounds_toArray, List.set_cons_zero, List.set_cons_succ, i64_w, i32_w]
                          rfl
                        refine done_ (done_of HT_.out (by kernel_rfl)) ?_
                        try go_wp2
                        go_ret2
                        exact ⟨by first | rfl | (simp [errW_none, errW_some] <;> rfl) | (simp [*, errW_none, errW_some] <;> rfl), by repeat (first | (with_reducible first | exact HB.out | apply below_alloc | apply pw_below_drewN | apply below_drew1 | refine below_set ?_ GE238.out) | exact HB.out)⟩
                      · rw [if_neg c19] at H
                        exact absurd H (by simp)
                    · rw [if_neg c17] at H
                      exact absurd H (by simp)
                  · rw [if_neg c16] at H
                    exact absurd H (by simp)
                · rw [if_neg c14] at H
                  exact absurd H (by simp)
              · rw [if_neg c13] at H
                exact absurd H (by simp)
            · rw [if_neg c11] at H
              exact absurd H (by simp)
          · rw [if_neg c10] at H
            exact absurd H (by simp)
        · rw [if_neg c8] at H
          exact absurd H (by simp)
      · rw [if_neg c7] at H
        exact absurd H (by simp)
    · rw [if_neg c5] at H
      exact absurd H (by simp)
  · rw [if_neg c3] at H
    have c3b0 : (t237 == 0) = false := beq_eq_false_iff_ne.mpr c3
    have c3b1 : (t237 != 0) = true := bne_iff_ne.mpr c3
    simp only [Option.some.injEq, Prod.mk.injEq] at H
    obtain ⟨rfl, rfl⟩ := H
    go_enter Try.func24, Try.ntmps24
    go_wp2_with (first | ((with_reducible refine gate_callee (f := 23) rfl ?_); refine goesL_ (some 8) rfl rfl Try.func23 (by kernel_rfl) rfl #[.int .i64 a0] rfl (by (try simp only [List.map_toArray, List.map_cons, List.map_nil]); first | done | rfl | (simp only [List.length_drop, List.length_take]; rfl)) ?_; (with_reducible refine (ticklerref16_Split.calls k a0 t230 t231 t232 t233 t234 t235 t236 t237 _ A2.out).mono ?_); rintro e w31 ⟨rfl, hb⟩; refine ⟨_, rfl, ?_⟩; have n0_ := Aside0.mk (below_step (by repeat (first | (with_reducible first | exact HB.out | apply below_alloc | apply pw_below_drewN | apply below_drew1) | exact HB.out)) hb); clear HB; have HB := n0_; clear n0_; (try clear hb); (try clear hb2); (try clear hk); (try clear hi)) | ((with_reducible refine gate_dst (N := 4) rfl ?_); refine box_event ?hg (N := 4) ?hd (cs := #[.int .i64 0, .int .i64 0, .int .i64 0, .int .i64 0, .int .i64 0, .int .i64 0, .int .i64 0]) (t := 37) ?hr ?_; (case hd => rfl); (case hg => rfl); (case hr => first | (go_simp; done) | (go_simp; rfl)); intro gb238 hg w32 hbox hb; have n0_ := Aside0.mk (below_step (by repeat (first | (with_reducible first | exact HB.out | apply below_alloc | apply pw_below_drewN | apply below_drew1) | exact HB.out)) hb); have n1_ := Aside0.mk (hbox); have n2_ := Aside0.mk ((by rw [hg]; exact (below_size (by repeat (first | (with_reducible first | exact HB.out | apply below_alloc | apply pw_below_drewN | apply below_drew1) | exact HB.out))) : w.heap.size ≤ gb238)); have n3_ := Aside0.mk ((by rw [hg]; exact (below_size (by repeat (first | (with_reducible first | exact HB.out | apply below_alloc | apply pw_below_drewN | apply below_drew1) | exact HB.out))) : w.heap.size ≤ gb238)); clear HB; have HB := n0_; have BK238 := n1_; have GW238 := n2_; have GE238 := n3_; clear n0_ n1_ n2_ n3_; clear hb hbox hg; have hcz33_0 : w32.cell? ⟨gb238, 0, none⟩ = some (.int .i64 0) := (blk_cell BK238.out 0).trans rfl; have hcz33_1 : w32.cell? ⟨gb238, 1, none⟩ = some (.int .i64 0) := (blk_cell BK238.out 1).trans rfl; have hcz33_2 : w32.cell? ⟨gb238, 2, none⟩ = some (.int .i64 0) := (blk_cell BK238.out 2).trans rfl; have hcz33_3 : w32.cell? ⟨gb238, 3, none⟩ = some (.int .i64 0) := (blk_cell BK238.out 3).trans rfl; have hcz33_4 : w32.cell? ⟨gb238, 4, none⟩ = some (.int .i64 0) := (blk_cell BK238.out 4).trans rfl; have hcz33_5 : w32.cell? ⟨gb238, 5, none⟩ = some (.int .i64 0) := (blk_cell BK238.out 5).trans rfl; have hcz33_6 : w32.cell? ⟨gb238, 6, none⟩ = some (.int .i64 0) := (blk_cell BK238.out 6).trans rfl; have hfz33_0 := blk_frozen BK238.out 0; have hfz33_1 := blk_frozen BK238.out 1; have hfz33_2 := blk_frozen BK238.out 2; have hfz33_3 := blk_frozen BK238.out 3; have hfz33_4 := blk_frozen BK238.out 4; have hfz33_5 := blk_frozen BK238.out 5; have hfz33_6 := blk_frozen BK238.out 6))
    go_ret2
    exact ⟨by first | rfl | (simp [errW_none, errW_some] <;> rfl) | (simp [*, errW_none, errW_some] <;> rfl), by repeat (first | (with_reducible first | exact HB.out | apply below_alloc | apply pw_below_drewN | apply below_drew1 | refine below_set ?_ GE238.out) | exact HB.out)⟩

end Go.Proofs.Ytkffmgalmooioaa.Civ
