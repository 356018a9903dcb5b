/- cron.Print: a rule's text: its contract. -/
import Derived.Test.YtkffmgalmooioaaDoorList
import Derived.Test.YtkffmgalmooioaaDoorBackq
import Derived.StillTailTactics
import Derived.Deep.RegionHeld3
import Derived.Deep.QuietTactic
import Derived.BigQuiet
namespace Go.Proofs.YtkffmgalmooioaaDoor.Cr
open Go Go.RowKit Go.Shelf Go.Proofs.YtkffmgalmooioaaDoor.Sp Go.Proofs.YtkffmgalmooioaaDoorW.PrintWords Go.Proofs.YtkffmgalmooioaaDoorW.PrintLast Go.Proofs.YtkffmgalmooioaaDoorW.PrintMore

/-- a round's end: the row has one string more; what lay below stands -/
theorem round_end {wr w3 w6 : World} {v v' : Value} {k B : Nat} {L : List ByteArray} {t : ByteArray} (hown : wr.ownsRow B 9 1 v k ((L.take k).map Value.string)) (hB : Below B w3 wr) (hown' : w6.ownsRow B 9 1 v' (k + 1) ((L.take k).map Value.string ++ [.string t]))
    (hg : (wr.alloc (.cells #[.string t] 9)).grownBy w6 v.ownBlock) (ht : L[k]? = some t) (hz : B ≤ wr.heap.size) : (∃ g cap, v' = .slice (some ⟨g, 0, none⟩) (k + 1) cap) ∧ Aside0 (w6.ownsRow B 9 1 v' (k + 1) ((L.take (k + 1)).map Value.string)) ∧ Aside0 (Below B w3 w6) := by
  refine ⟨?_, ⟨?_⟩, ⟨?_⟩⟩
  · rcases hown'.2 with ⟨_, h⟩ | ⟨g, cap, _, h, _⟩
    · omega
    · exact ⟨g, cap, h⟩
  · rw [List.take_add_one, ht]
    simpa using hown'
  · exact (hB.alloc hz _).grown hg (by simp; omega) (fun q hq => (hown.lt q hq).1)
theorem own_kept {wr w5 : World} {v : Value} {k B : Nat} {xs : List Value} (h : wr.ownsRow B 9 1 v k xs) (hb : Below wr.heap.size wr w5) : w5.ownsRow B 9 1 v k xs := by
  refine h.kept (row := none) ⟨hb.os, hb.tape, hb.output, hb.size, fun i hi _ => hb.block i hi⟩ ?_
  cases hv : v.ownBlock with
  | none => exact .inl rfl
  | some q => exact .inr (by simp)
theorem below_trans0 {w w3 wr : World} (h : Below w.heap.size w w3) (k : Below w3.heap.size w3 wr) : Below w.heap.size w wr := below_step h k
set_option maxHeartbeats 400000 in
set_option maxRecDepth 100000 in
theorem print_no (a b c d e : Nat) (f g : Bool) (w : World) (h : Aside0 (okRule a b c d e f g = false)) :
    Calls Tryd.prog 13 #[.agg #[.int .u64 a, .int .u64 b, .int .u64 c, .int .u64 d, .int .u64 e, .bool f, .bool g]] w fun r w' => r = .returned (.tuple #[.string ⟨#[]⟩, .int .i64 9]) ∧ Below w.heap.size w w' := by
  go_enter Tryd.func13, Tryd.ntmps13
  go_wp2_with fail
  refine (check_any a b c d e f g _).mono ?_
  rintro r w1 ⟨rfl, hb⟩
  rw [h.out]
  have B1 := Aside0.mk (below_step (below_alloc (Below.refl w.heap.size w) _) hb)
  clear hb
  go_wp2_with fail
  go_ret2
  exact ⟨rfl, B1.out⟩
set_option maxHeartbeats 4000000 in
set_option maxRecDepth 100000 in
theorem print_yes (a b c d e : Nat) (f g : Bool) (w : World) (h : Aside0 (okRule a b c d e f g = true)) (ht : Aside0 (HasTab w)) (hra : a < 18446744073709551616) (hrb : b < 18446744073709551616) (hrc : c < 18446744073709551616) (hrd : d < 18446744073709551616) (hre : e < 18446744073709551616) :
    Calls Tryd.prog 13 #[.agg #[.int .u64 a, .int .u64 b, .int .u64 c, .int .u64 d, .int .u64 e, .bool f, .bool g]] w fun r w' => r = .returned (.tuple #[.string (ruleText a b c d e f g), .int .i64 0]) ∧ Below w.heap.size w w' := by
  have i0 : ∀ w, (Instr.index 56 (.agg #[.int .u64 a, .int .u64 b, .int .u64 c, .int .u64 d, .int .u64 e]) (.int .i64 0)).run Tryd.prog w = .ok (.int .u64 a) w := fun _ => by kernel_rfl
  have i1 : ∀ w, (Instr.index 56 (.agg #[.int .u64 a, .int .u64 b, .int .u64 c, .int .u64 d, .int .u64 e]) (.int .i64 1)).run Tryd.prog w = .ok (.int .u64 b) w := fun _ => by kernel_rfl
  have i2 : ∀ w, (Instr.index 56 (.agg #[.int .u64 a, .int .u64 b, .int .u64 c, .int .u64 d, .int .u64 e]) (.int .i64 2)).run Tryd.prog w = .ok (.int .u64 c) w := fun _ => by kernel_rfl
  have i3 : ∀ w, (Instr.index 56 (.agg #[.int .u64 a, .int .u64 b, .int .u64 c, .int .u64 d, .int .u64 e]) (.int .i64 3)).run Tryd.prog w = .ok (.int .u64 d) w := fun _ => by kernel_rfl
  have i4 : ∀ w, (Instr.index 56 (.agg #[.int .u64 a, .int .u64 b, .int .u64 c, .int .u64 d, .int .u64 e]) (.int .i64 4)).run Tryd.prog w = .ok (.int .u64 e) w := fun _ => by kernel_rfl
  obtain ⟨ii, hi, hi0, hi1, hi2⟩ := info_parts info9
  go_enter Tryd.func13, Tryd.ntmps13
  go_wp2_with fail
  refine (check_any a b c d e f g _).mono ?_
  rintro r w1 ⟨rfl, hb⟩
  rw [h.out]
  have H1 := Aside0.mk (blk_below (g := w.heap.size) (o := .cells #[.int .u64 a, .int .u64 b, .int .u64 c, .int .u64 d, .int .u64 e, .bool f, .bool g] 29 (0, 0)) (blk_new w _) hb)
  have B1 := Aside0.mk (below_step (below_alloc (Below.refl w.heap.size w) _) hb)
  clear hb
  go_wp2_with fail
  refine (wholes_calls _).mono ?_
  rintro r w2 ⟨rfl, hb⟩
  have H2 := Aside0.mk (blk_below H1.out hb)
  have B2 := Aside0.mk (below_step B1.out hb)
  clear hb
  have hz1 : w.heap.size < w2.heap.size := blk_lt H2.out
  have hc0 : w2.cell? ⟨w.heap.size, 0, none⟩ = some (.int .u64 a) := (blk_cell H2.out 0).trans rfl
  have hc1 : w2.cell? ⟨w.heap.size, 1, none⟩ = some (.int .u64 b) := (blk_cell H2.out 1).trans rfl
  have hc2 : w2.cell? ⟨w.heap.size, 2, none⟩ = some (.int .u64 c) := (blk_cell H2.out 2).trans rfl
  have hc3 : w2.cell? ⟨w.heap.size, 3, none⟩ = some (.int .u64 d) := (blk_cell H2.out 3).trans rfl
  have hc4 : w2.cell? ⟨w.heap.size, 4, none⟩ = some (.int .u64 e) := (blk_cell H2.out 4).trans rfl
  have hc5 : w2.cell? ⟨w.heap.size, 5, none⟩ = some (.bool f) := (blk_cell H2.out 5).trans rfl
  have hc6 : w2.cell? ⟨w.heap.size, 6, none⟩ = some (.bool g) := (blk_cell H2.out 6).trans rfl
  go_wp2_with fail
  refine (sets_calls _ _ _ _ _ _ _ _).mono ?_
  rintro r w3 ⟨rfl, hb⟩
  have HA := Aside0.mk (blk_below (g := w2.heap.size) (o := .cells #[.int .u64 1152921504606846975, .int .u64 16777215, .int .u64 4294967294, .int .u64 8190, .int .u64 127] 56 (0, 0)) (blk_alloc (blk_new w2 _) _) hb)
  have HP := Aside0.mk (blk_below (g := w2.heap.size + 1) (o := .cells #[.bool true, .bool true, .bool f, .bool true, .bool g] 58 (0, 0)) (by have h := blk_new (w2.alloc (.cells #[.int .u64 1152921504606846975, .int .u64 16777215, .int .u64 4294967294, .int .u64 8190, .int .u64 127] 56)) (.cells #[.bool true, .bool true, .bool f, .bool true, .bool g] 58); rwa [World.size_alloc] at h) hb)
  have B3 := Aside0.mk (below_step (below_alloc (below_alloc B2.out _) _) hb)
  have hz3 : w2.heap.size + 1 < w3.heap.size := blk_lt HP.out
  have T3 := Aside0.mk (ht.out.below B3.out)
  clear hb hc0 hc1 hc2 hc3 hc4 hc5 hc6
  obtain ⟨L, hL⟩ : ∃ L : List ByteArray, L = (ruleFields a b c d e f g).map fun x => ⟨x.toArray⟩ := ⟨_, rfl⟩
  have HL := Aside0.mk hL
  clear hL
  go_wp2_with fail
  go_loopw [7, 23] (fun v i wr => ∃ k : Nat, k ≤ 5 ∧ i = .int .i64 k ∧ (∃ ao cv, v = .slice ao k cv) ∧ Aside0 (wr.ownsRow w3.heap.size 9 1 v k ((L.take k).map Value.string)) ∧ Aside0 (Below w3.heap.size w3 wr)) (fun _ i _ => 5 - (intOf i).toNat)
  case atStart => exact ⟨0, by decide, rfl, ⟨none, 0, rfl⟩, ⟨by simpa using World.ownsRow_nil _ _ _ _⟩, ⟨Below.refl _ _⟩⟩
  case round =>
    obtain ⟨k, hk, rfl, ⟨ao, cv, rfl⟩, hO, hB⟩ := hrel
    have k' : k = 0 ∨ k = 1 ∨ k = 2 ∨ k = 3 ∨ k = 4 ∨ k = 5 := by omega
    rcases k' with rfl | rfl | rfl | rfl | rfl | rfl
    · cases hs : ((a : Int) == 1152921504606846975) with
      | true =>
        have cP : wr.cell? ⟨w2.heap.size + 1, 0, none⟩ = some (.bool true) := (pw_cell_below hB.out ((blk_cell HP.out 0).trans (by first | rfl | (rw [hf]; rfl))))
        have cA : wr.cell? ⟨w2.heap.size, 0, none⟩ = some (.int .u64 1152921504606846975) := (pw_cell_below hB.out ((blk_cell HA.out 0).trans rfl))
        have hown := hO.out
        have hBn := hB.out
        have hz5 := hBn.size
        have he : a = 1152921504606846975 := by have h1 : (a : Int) = 1152921504606846975 := eq_of_beq hs; omega
        have HE := Aside0.mk he
        clear he
        go_wp2_with (at_builtin; refine wpList_append_own _ rfl _ _ 59 rfl w3.heap.size 9 ii (.string ByteArray.empty) 1 16 Tryd.underlying59 hi hi0 hi1 hi2 rfl (by decide) (.slice ao 0 cv) 0 _ rfl (hown.alloc _) ⟨wr.heap.size, 0, none⟩ 1 1 [.string ⟨#[42]⟩] rfl rfl (cell_one_new _ _ _) (fun x hx => by simp at hx; subst hx; rfl) (by unfold maxLen; omega) (by omega) (by simp; omega) ?_; intro v' w6 hown' hgrow6 hnil6)
        obtain ⟨⟨g6, cap6, hv6⟩, ho6, hb6⟩ := round_end (k := 0) (t := ⟨#[42]⟩) hown hBn hown' hgrow6 (by rw [HL.out]; unfold ruleFields; rw [decide_eq_true HE.out]; rfl) hz5
        clear hnil6 hgrow6 hown' hown hBn
        subst hv6
        go_roundw
        case rel => exact ⟨1, by decide, by go_num, ⟨some ⟨g6, 0, none⟩, cap6, rfl⟩, ho6, hb6⟩
        case measure => simp [intOf]
      | false =>
        have he : ¬ a = 1152921504606846975 := by have h1 : ¬ (a : Int) = 1152921504606846975 := beq_eq_false_iff_ne.1 hs; omega
        have HE := Aside0.mk he
        clear he
        have cP : wr.cell? ⟨w2.heap.size + 1, 0, none⟩ = some (.bool true) := (pw_cell_below hB.out ((blk_cell HP.out 0).trans (by first | rfl | (rw [hf]; rfl))))
        have cA : wr.cell? ⟨w2.heap.size, 0, none⟩ = some (.int .u64 1152921504606846975) := (pw_cell_below hB.out ((blk_cell HA.out 0).trans rfl))
        go_wp2_with fail
        refine (list_calls a hra _ (Aside0.mk (T3.out.below hB.out))).mono ?_
        rintro r w5 ⟨rfl, hb5⟩
        obtain ⟨S, hS⟩ : ∃ S : ByteArray, S = ⟨(Lib.join ((items 64 a).map fun n => (dig n).data.toList) [44]).toArray⟩ := ⟨_, rfl⟩
        rw [← hS]
        have ft : fieldText false a = S.data.toList := by rw [hS]; rfl
        have FT := Aside0.mk ft
        clear hS ft cP cA
        have hown := own_kept hO.out hb5
        have hBn := below_step hB.out hb5
        have hz5 := hBn.size
        clear hb5
        go_wp2_with (at_builtin; refine wpList_append_own _ rfl _ _ 59 rfl w3.heap.size 9 ii (.string ByteArray.empty) 1 16 Tryd.underlying59 hi hi0 hi1 hi2 rfl (by decide) (.slice ao 0 cv) 0 _ rfl (hown.alloc _) ⟨w5.heap.size, 0, none⟩ 1 1 [.string S] rfl rfl (cell_one_new _ _ _) (fun x hx => by simp at hx; subst hx; rfl) (by unfold maxLen; omega) (by omega) (by simp; omega) ?_; intro v' w6 hown' hgrow6 hnil6)
        obtain ⟨⟨g6, cap6, hv6⟩, ho6, hb6⟩ := round_end (k := 0) (t := S) hown hBn hown' hgrow6 (by rw [HL.out]; unfold ruleFields; rw [decide_eq_false HE.out, FT.out]; rfl) hz5
        clear hnil6 hgrow6 hown' hown hBn
        subst hv6
        go_roundw
        case rel => exact ⟨1, by decide, by go_num, ⟨some ⟨g6, 0, none⟩, cap6, rfl⟩, ho6, hb6⟩
        case measure => simp [intOf]
    · cases hs : ((b : Int) == 16777215) with
      | true =>
        have cP : wr.cell? ⟨w2.heap.size + 1, 1, none⟩ = some (.bool true) := (pw_cell_below hB.out ((blk_cell HP.out 1).trans (by first | rfl | (rw [hf]; rfl))))
        have cA : wr.cell? ⟨w2.heap.size, 1, none⟩ = some (.int .u64 16777215) := (pw_cell_below hB.out ((blk_cell HA.out 1).trans rfl))
        have hown := hO.out
        have hBn := hB.out
        have hz5 := hBn.size
        have he : b = 16777215 := by have h1 : (b : Int) = 16777215 := eq_of_beq hs; omega
        have HE := Aside0.mk he
        clear he
        go_wp2_with (at_builtin; refine wpList_append_own _ rfl _ _ 59 rfl w3.heap.size 9 ii (.string ByteArray.empty) 1 16 Tryd.underlying59 hi hi0 hi1 hi2 rfl (by decide) (.slice ao 1 cv) 1 _ rfl (hown.alloc _) ⟨wr.heap.size, 0, none⟩ 1 1 [.string ⟨#[42]⟩] rfl rfl (cell_one_new _ _ _) (fun x hx => by simp at hx; subst hx; rfl) (by unfold maxLen; omega) (by omega) (by simp; omega) ?_; intro v' w6 hown' hgrow6 hnil6)
        obtain ⟨⟨g6, cap6, hv6⟩, ho6, hb6⟩ := round_end (k := 1) (t := ⟨#[42]⟩) hown hBn hown' hgrow6 (by rw [HL.out]; unfold ruleFields; rw [decide_eq_true HE.out]; rfl) hz5
        clear hnil6 hgrow6 hown' hown hBn
        subst hv6
        go_roundw
        case rel => exact ⟨2, by decide, by go_num, ⟨some ⟨g6, 0, none⟩, cap6, rfl⟩, ho6, hb6⟩
        case measure => simp [intOf]
      | false =>
        have he : ¬ b = 16777215 := by have h1 : ¬ (b : Int) = 16777215 := beq_eq_false_iff_ne.1 hs; omega
        have HE := Aside0.mk he
        clear he
        have cP : wr.cell? ⟨w2.heap.size + 1, 1, none⟩ = some (.bool true) := (pw_cell_below hB.out ((blk_cell HP.out 1).trans (by first | rfl | (rw [hf]; rfl))))
        have cA : wr.cell? ⟨w2.heap.size, 1, none⟩ = some (.int .u64 16777215) := (pw_cell_below hB.out ((blk_cell HA.out 1).trans rfl))
        go_wp2_with fail
        refine (list_calls b hrb _ (Aside0.mk (T3.out.below hB.out))).mono ?_
        rintro r w5 ⟨rfl, hb5⟩
        obtain ⟨S, hS⟩ : ∃ S : ByteArray, S = ⟨(Lib.join ((items 64 b).map fun n => (dig n).data.toList) [44]).toArray⟩ := ⟨_, rfl⟩
        rw [← hS]
        have ft : fieldText false b = S.data.toList := by rw [hS]; rfl
        have FT := Aside0.mk ft
        clear hS ft cP cA
        have hown := own_kept hO.out hb5
        have hBn := below_step hB.out hb5
        have hz5 := hBn.size
        clear hb5
        go_wp2_with (at_builtin; refine wpList_append_own _ rfl _ _ 59 rfl w3.heap.size 9 ii (.string ByteArray.empty) 1 16 Tryd.underlying59 hi hi0 hi1 hi2 rfl (by decide) (.slice ao 1 cv) 1 _ rfl (hown.alloc _) ⟨w5.heap.size, 0, none⟩ 1 1 [.string S] rfl rfl (cell_one_new _ _ _) (fun x hx => by simp at hx; subst hx; rfl) (by unfold maxLen; omega) (by omega) (by simp; omega) ?_; intro v' w6 hown' hgrow6 hnil6)
        obtain ⟨⟨g6, cap6, hv6⟩, ho6, hb6⟩ := round_end (k := 1) (t := S) hown hBn hown' hgrow6 (by rw [HL.out]; unfold ruleFields; rw [decide_eq_false HE.out, FT.out]; rfl) hz5
        clear hnil6 hgrow6 hown' hown hBn
        subst hv6
        go_roundw
        case rel => exact ⟨2, by decide, by go_num, ⟨some ⟨g6, 0, none⟩, cap6, rfl⟩, ho6, hb6⟩
        case measure => simp [intOf]
    · cases hf : f with
      | true =>
        cases hs : ((c : Int) == 4294967294) with
        | true =>
          have cP : wr.cell? ⟨w2.heap.size + 1, 2, none⟩ = some (.bool true) := (pw_cell_below hB.out ((blk_cell HP.out 2).trans (by first | rfl | (rw [hf]; rfl))))
          have cA : wr.cell? ⟨w2.heap.size, 2, none⟩ = some (.int .u64 4294967294) := (pw_cell_below hB.out ((blk_cell HA.out 2).trans rfl))
          have hown := hO.out
          have hBn := hB.out
          have hz5 := hBn.size
          have he : c = 4294967294 := by have h1 : (c : Int) = 4294967294 := eq_of_beq hs; omega
          have HE := Aside0.mk he
          clear he
          go_wp2_with (at_builtin; refine wpList_append_own _ rfl _ _ 59 rfl w3.heap.size 9 ii (.string ByteArray.empty) 1 16 Tryd.underlying59 hi hi0 hi1 hi2 rfl (by decide) (.slice ao 2 cv) 2 _ rfl (hown.alloc _) ⟨wr.heap.size, 0, none⟩ 1 1 [.string ⟨#[42]⟩] rfl rfl (cell_one_new _ _ _) (fun x hx => by simp at hx; subst hx; rfl) (by unfold maxLen; omega) (by omega) (by simp; omega) ?_; intro v' w6 hown' hgrow6 hnil6)
          obtain ⟨⟨g6, cap6, hv6⟩, ho6, hb6⟩ := round_end (k := 2) (t := ⟨#[42]⟩) hown hBn hown' hgrow6 (by rw [HL.out]; unfold ruleFields; rw [hf, decide_eq_true HE.out]; rfl) hz5
          clear hnil6 hgrow6 hown' hown hBn
          subst hv6
          go_roundw
          case rel => exact ⟨3, by decide, by go_num, ⟨some ⟨g6, 0, none⟩, cap6, rfl⟩, ho6, hb6⟩
          case measure => simp [intOf]
        | false =>
          have he : ¬ c = 4294967294 := by have h1 : ¬ (c : Int) = 4294967294 := beq_eq_false_iff_ne.1 hs; omega
          have HE := Aside0.mk he
          clear he
          have cP : wr.cell? ⟨w2.heap.size + 1, 2, none⟩ = some (.bool true) := (pw_cell_below hB.out ((blk_cell HP.out 2).trans (by first | rfl | (rw [hf]; rfl))))
          have cA : wr.cell? ⟨w2.heap.size, 2, none⟩ = some (.int .u64 4294967294) := (pw_cell_below hB.out ((blk_cell HA.out 2).trans rfl))
          go_wp2_with fail
          refine (list_calls c hrc _ (Aside0.mk (T3.out.below hB.out))).mono ?_
          rintro r w5 ⟨rfl, hb5⟩
          obtain ⟨S, hS⟩ : ∃ S : ByteArray, S = ⟨(Lib.join ((items 64 c).map fun n => (dig n).data.toList) [44]).toArray⟩ := ⟨_, rfl⟩
          rw [← hS]
          have ft : fieldText false c = S.data.toList := by rw [hS]; rfl
          have FT := Aside0.mk ft
          clear hS ft cP cA
          have hown := own_kept hO.out hb5
          have hBn := below_step hB.out hb5
          have hz5 := hBn.size
          clear hb5
          go_wp2_with (at_builtin; refine wpList_append_own _ rfl _ _ 59 rfl w3.heap.size 9 ii (.string ByteArray.empty) 1 16 Tryd.underlying59 hi hi0 hi1 hi2 rfl (by decide) (.slice ao 2 cv) 2 _ rfl (hown.alloc _) ⟨w5.heap.size, 0, none⟩ 1 1 [.string S] rfl rfl (cell_one_new _ _ _) (fun x hx => by simp at hx; subst hx; rfl) (by unfold maxLen; omega) (by omega) (by simp; omega) ?_; intro v' w6 hown' hgrow6 hnil6)
          obtain ⟨⟨g6, cap6, hv6⟩, ho6, hb6⟩ := round_end (k := 2) (t := S) hown hBn hown' hgrow6 (by rw [HL.out]; unfold ruleFields; rw [hf, decide_eq_false HE.out, Bool.and_false, FT.out]; rfl) hz5
          clear hnil6 hgrow6 hown' hown hBn
          subst hv6
          go_roundw
          case rel => exact ⟨3, by decide, by go_num, ⟨some ⟨g6, 0, none⟩, cap6, rfl⟩, ho6, hb6⟩
          case measure => simp [intOf]
      | false =>
        have cP : wr.cell? ⟨w2.heap.size + 1, 2, none⟩ = some (.bool false) := (pw_cell_below hB.out ((blk_cell HP.out 2).trans (by first | rfl | (rw [hf]; rfl))))
        have cA : wr.cell? ⟨w2.heap.size, 2, none⟩ = some (.int .u64 4294967294) := (pw_cell_below hB.out ((blk_cell HA.out 2).trans rfl))
        go_wp2_with fail
        refine (list_calls c hrc _ (Aside0.mk (T3.out.below hB.out))).mono ?_
        rintro r w5 ⟨rfl, hb5⟩
        obtain ⟨S, hS⟩ : ∃ S : ByteArray, S = ⟨(Lib.join ((items 64 c).map fun n => (dig n).data.toList) [44]).toArray⟩ := ⟨_, rfl⟩
        rw [← hS]
        have ft : fieldText false c = S.data.toList := by rw [hS]; rfl
        have FT := Aside0.mk ft
        clear hS ft cP cA
        have hown := own_kept hO.out hb5
        have hBn := below_step hB.out hb5
        have hz5 := hBn.size
        clear hb5
        go_wp2_with (at_builtin; refine wpList_append_own _ rfl _ _ 59 rfl w3.heap.size 9 ii (.string ByteArray.empty) 1 16 Tryd.underlying59 hi hi0 hi1 hi2 rfl (by decide) (.slice ao 2 cv) 2 _ rfl (hown.alloc _) ⟨w5.heap.size, 0, none⟩ 1 1 [.string S] rfl rfl (cell_one_new _ _ _) (fun x hx => by simp at hx; subst hx; rfl) (by unfold maxLen; omega) (by omega) (by simp; omega) ?_; intro v' w6 hown' hgrow6 hnil6)
        obtain ⟨⟨g6, cap6, hv6⟩, ho6, hb6⟩ := round_end (k := 2) (t := S) hown hBn hown' hgrow6 (by rw [HL.out]; unfold ruleFields; rw [hf, Bool.false_and, FT.out]; rfl) hz5
        clear hnil6 hgrow6 hown' hown hBn
        subst hv6
        go_roundw
        case rel => exact ⟨3, by decide, by go_num, ⟨some ⟨g6, 0, none⟩, cap6, rfl⟩, ho6, hb6⟩
        case measure => simp [intOf]
    · cases hs : ((d : Int) == 8190) with
      | true =>
        have cP : wr.cell? ⟨w2.heap.size + 1, 3, none⟩ = some (.bool true) := (pw_cell_below hB.out ((blk_cell HP.out 3).trans (by first | rfl | (rw [hf]; rfl))))
        have cA : wr.cell? ⟨w2.heap.size, 3, none⟩ = some (.int .u64 8190) := (pw_cell_below hB.out ((blk_cell HA.out 3).trans rfl))
        have hown := hO.out
        have hBn := hB.out
        have hz5 := hBn.size
        have he : d = 8190 := by have h1 : (d : Int) = 8190 := eq_of_beq hs; omega
        have HE := Aside0.mk he
        clear he
        go_wp2_with (at_builtin; refine wpList_append_own _ rfl _ _ 59 rfl w3.heap.size 9 ii (.string ByteArray.empty) 1 16 Tryd.underlying59 hi hi0 hi1 hi2 rfl (by decide) (.slice ao 3 cv) 3 _ rfl (hown.alloc _) ⟨wr.heap.size, 0, none⟩ 1 1 [.string ⟨#[42]⟩] rfl rfl (cell_one_new _ _ _) (fun x hx => by simp at hx; subst hx; rfl) (by unfold maxLen; omega) (by omega) (by simp; omega) ?_; intro v' w6 hown' hgrow6 hnil6)
        obtain ⟨⟨g6, cap6, hv6⟩, ho6, hb6⟩ := round_end (k := 3) (t := ⟨#[42]⟩) hown hBn hown' hgrow6 (by rw [HL.out]; unfold ruleFields; rw [decide_eq_true HE.out]; rfl) hz5
        clear hnil6 hgrow6 hown' hown hBn
        subst hv6
        go_roundw
        case rel => exact ⟨4, by decide, by go_num, ⟨some ⟨g6, 0, none⟩, cap6, rfl⟩, ho6, hb6⟩
        case measure => simp [intOf]
      | false =>
        have he : ¬ d = 8190 := by have h1 : ¬ (d : Int) = 8190 := beq_eq_false_iff_ne.1 hs; omega
        have HE := Aside0.mk he
        clear he
        have cP : wr.cell? ⟨w2.heap.size + 1, 3, none⟩ = some (.bool true) := (pw_cell_below hB.out ((blk_cell HP.out 3).trans (by first | rfl | (rw [hf]; rfl))))
        have cA : wr.cell? ⟨w2.heap.size, 3, none⟩ = some (.int .u64 8190) := (pw_cell_below hB.out ((blk_cell HA.out 3).trans rfl))
        go_wp2_with fail
        refine (list_calls d hrd _ (Aside0.mk (T3.out.below hB.out))).mono ?_
        rintro r w5 ⟨rfl, hb5⟩
        obtain ⟨S, hS⟩ : ∃ S : ByteArray, S = ⟨(Lib.join ((items 64 d).map fun n => (dig n).data.toList) [44]).toArray⟩ := ⟨_, rfl⟩
        rw [← hS]
        have ft : fieldText false d = S.data.toList := by rw [hS]; rfl
        have FT := Aside0.mk ft
        clear hS ft cP cA
        have hown := own_kept hO.out hb5
        have hBn := below_step hB.out hb5
        have hz5 := hBn.size
        clear hb5
        go_wp2_with (at_builtin; refine wpList_append_own _ rfl _ _ 59 rfl w3.heap.size 9 ii (.string ByteArray.empty) 1 16 Tryd.underlying59 hi hi0 hi1 hi2 rfl (by decide) (.slice ao 3 cv) 3 _ rfl (hown.alloc _) ⟨w5.heap.size, 0, none⟩ 1 1 [.string S] rfl rfl (cell_one_new _ _ _) (fun x hx => by simp at hx; subst hx; rfl) (by unfold maxLen; omega) (by omega) (by simp; omega) ?_; intro v' w6 hown' hgrow6 hnil6)
        obtain ⟨⟨g6, cap6, hv6⟩, ho6, hb6⟩ := round_end (k := 3) (t := S) hown hBn hown' hgrow6 (by rw [HL.out]; unfold ruleFields; rw [decide_eq_false HE.out, FT.out]; rfl) hz5
        clear hnil6 hgrow6 hown' hown hBn
        subst hv6
        go_roundw
        case rel => exact ⟨4, by decide, by go_num, ⟨some ⟨g6, 0, none⟩, cap6, rfl⟩, ho6, hb6⟩
        case measure => simp [intOf]
    · cases hf : g with
      | true =>
        cases hs : ((e : Int) == 127) with
        | true =>
          have cP : wr.cell? ⟨w2.heap.size + 1, 4, none⟩ = some (.bool true) := (pw_cell_below hB.out ((blk_cell HP.out 4).trans (by first | rfl | (rw [hf]; rfl))))
          have cA : wr.cell? ⟨w2.heap.size, 4, none⟩ = some (.int .u64 127) := (pw_cell_below hB.out ((blk_cell HA.out 4).trans rfl))
          have hown := hO.out
          have hBn := hB.out
          have hz5 := hBn.size
          have he : e = 127 := by have h1 : (e : Int) = 127 := eq_of_beq hs; omega
          have HE := Aside0.mk he
          clear he
          go_wp2_with (at_builtin; refine wpList_append_own _ rfl _ _ 59 rfl w3.heap.size 9 ii (.string ByteArray.empty) 1 16 Tryd.underlying59 hi hi0 hi1 hi2 rfl (by decide) (.slice ao 4 cv) 4 _ rfl (hown.alloc _) ⟨wr.heap.size, 0, none⟩ 1 1 [.string ⟨#[42]⟩] rfl rfl (cell_one_new _ _ _) (fun x hx => by simp at hx; subst hx; rfl) (by unfold maxLen; omega) (by omega) (by simp; omega) ?_; intro v' w6 hown' hgrow6 hnil6)
          obtain ⟨⟨g6, cap6, hv6⟩, ho6, hb6⟩ := round_end (k := 4) (t := ⟨#[42]⟩) hown hBn hown' hgrow6 (by rw [HL.out]; unfold ruleFields; rw [hf, decide_eq_true HE.out]; rfl) hz5
          clear hnil6 hgrow6 hown' hown hBn
          subst hv6
          go_roundw
          case rel => exact ⟨5, by decide, by go_num, ⟨some ⟨g6, 0, none⟩, cap6, rfl⟩, ho6, hb6⟩
          case measure => simp [intOf]
        | false =>
          have he : ¬ e = 127 := by have h1 : ¬ (e : Int) = 127 := beq_eq_false_iff_ne.1 hs; omega
          have HE := Aside0.mk he
          clear he
          have cP : wr.cell? ⟨w2.heap.size + 1, 4, none⟩ = some (.bool true) := (pw_cell_below hB.out ((blk_cell HP.out 4).trans (by first | rfl | (rw [hf]; rfl))))
          have cA : wr.cell? ⟨w2.heap.size, 4, none⟩ = some (.int .u64 127) := (pw_cell_below hB.out ((blk_cell HA.out 4).trans rfl))
          go_wp2_with fail
          refine (list_calls e hre _ (Aside0.mk (T3.out.below hB.out))).mono ?_
          rintro r w5 ⟨rfl, hb5⟩
          obtain ⟨S, hS⟩ : ∃ S : ByteArray, S = ⟨(Lib.join ((items 64 e).map fun n => (dig n).data.toList) [44]).toArray⟩ := ⟨_, rfl⟩
          rw [← hS]
          have ft : fieldText false e = S.data.toList := by rw [hS]; rfl
          have FT := Aside0.mk ft
          clear hS ft cP cA
          have hown := own_kept hO.out hb5
          have hBn := below_step hB.out hb5
          have hz5 := hBn.size
          clear hb5
          go_wp2_with (at_builtin; refine wpList_append_own _ rfl _ _ 59 rfl w3.heap.size 9 ii (.string ByteArray.empty) 1 16 Tryd.underlying59 hi hi0 hi1 hi2 rfl (by decide) (.slice ao 4 cv) 4 _ rfl (hown.alloc _) ⟨w5.heap.size, 0, none⟩ 1 1 [.string S] rfl rfl (cell_one_new _ _ _) (fun x hx => by simp at hx; subst hx; rfl) (by unfold maxLen; omega) (by omega) (by simp; omega) ?_; intro v' w6 hown' hgrow6 hnil6)
          obtain ⟨⟨g6, cap6, hv6⟩, ho6, hb6⟩ := round_end (k := 4) (t := S) hown hBn hown' hgrow6 (by rw [HL.out]; unfold ruleFields; rw [hf, decide_eq_false HE.out, Bool.and_false, FT.out]; rfl) hz5
          clear hnil6 hgrow6 hown' hown hBn
          subst hv6
          go_roundw
          case rel => exact ⟨5, by decide, by go_num, ⟨some ⟨g6, 0, none⟩, cap6, rfl⟩, ho6, hb6⟩
          case measure => simp [intOf]
      | false =>
        have cP : wr.cell? ⟨w2.heap.size + 1, 4, none⟩ = some (.bool false) := (pw_cell_below hB.out ((blk_cell HP.out 4).trans (by first | rfl | (rw [hf]; rfl))))
        have cA : wr.cell? ⟨w2.heap.size, 4, none⟩ = some (.int .u64 127) := (pw_cell_below hB.out ((blk_cell HA.out 4).trans rfl))
        go_wp2_with fail
        refine (list_calls e hre _ (Aside0.mk (T3.out.below hB.out))).mono ?_
        rintro r w5 ⟨rfl, hb5⟩
        obtain ⟨S, hS⟩ : ∃ S : ByteArray, S = ⟨(Lib.join ((items 64 e).map fun n => (dig n).data.toList) [44]).toArray⟩ := ⟨_, rfl⟩
        rw [← hS]
        have ft : fieldText false e = S.data.toList := by rw [hS]; rfl
        have FT := Aside0.mk ft
        clear hS ft cP cA
        have hown := own_kept hO.out hb5
        have hBn := below_step hB.out hb5
        have hz5 := hBn.size
        clear hb5
        go_wp2_with (at_builtin; refine wpList_append_own _ rfl _ _ 59 rfl w3.heap.size 9 ii (.string ByteArray.empty) 1 16 Tryd.underlying59 hi hi0 hi1 hi2 rfl (by decide) (.slice ao 4 cv) 4 _ rfl (hown.alloc _) ⟨w5.heap.size, 0, none⟩ 1 1 [.string S] rfl rfl (cell_one_new _ _ _) (fun x hx => by simp at hx; subst hx; rfl) (by unfold maxLen; omega) (by omega) (by simp; omega) ?_; intro v' w6 hown' hgrow6 hnil6)
        obtain ⟨⟨g6, cap6, hv6⟩, ho6, hb6⟩ := round_end (k := 4) (t := S) hown hBn hown' hgrow6 (by rw [HL.out]; unfold ruleFields; rw [hf, Bool.false_and, FT.out]; rfl) hz5
        clear hnil6 hgrow6 hown' hown hBn
        subst hv6
        go_roundw
        case rel => exact ⟨5, by decide, by go_num, ⟨some ⟨g6, 0, none⟩, cap6, rfl⟩, ho6, hb6⟩
        case measure => simp [intOf]
    · go_wp2_with fail
      have hO' := hO.out
      have hL5 : L.length = 5 := by rw [HL.out]; rfl
      rw [List.take_of_length_le (by omega)] at hO'
      have hsm : (Lib.join (L.map (·.data.toList)) [32]).length ≤ 400 := by
        have hsz := rule_size ⟨hra, hrb, hrc, hrd, hre, h.out⟩
        rw [size_of_data] at hsz
        rw [HL.out, List.map_map]
        simpa [ruleText, Function.comp_def] using hsz
      refine (join_owned (.slice ao 5 cv) L ⟨#[32]⟩ (by rw [hL5]; exact hO') (by omega) (by simp only []; omega)).mono ?_
      rintro r w6 ⟨rfl, hb6⟩
      have B6 := Aside0.mk (below_step (below_trans0 B3.out hB.out) hb6)
      clear hb6 hO' hsm hL5
      go_wp2_with fail
      go_ret2
      refine ⟨?_, B6.out⟩
      rw [HL.out, List.map_map]
      simp [ruleText, Function.comp_def]
end Go.Proofs.YtkffmgalmooioaaDoor.Cr
