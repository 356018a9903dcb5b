/- The text of a second: the program's function beside a plain one, and its contract. -/
import Derived.Test.YtkffmgalmooioaaPut
import Derived.Test.YtkffmgalmooioaaCivPure
namespace Go.Proofs.Ytkffmgalmooioaa.Civ
open Go.RowKit Go.Proofs.YtkffmgalmooioaaW.PrintWords Go.Proofs.YtkffmgalmooioaaW.PrintLast Go.Proofs.YtkffmgalmooioaaW.PrintMore

/-- 0000-00-00 00:00:00 -/
def txt0 : List Int := [48, 48, 48, 48, 45, 48, 48, 45, 48, 48, 32, 48, 48, 58, 48, 48, 58, 48, 48]
def txtL (y m d h i s : Int) : List Int := putF 2 (putF 2 (putF 2 (putF 2 (putF 2 (putF 4 txt0 3 y) 6 m) 9 d) 12 h) 15 i) 18 s
theorem txtL_length (y m d h i s : Int) : (txtL y m d h i s).length = 19 := by
  unfold txtL
  rw [putF_length, putF_length, putF_length, putF_length, putF_length, putF_length]; rfl
def civil_Text.f (k : Nat) (a0 : Int) : Option (ByteArray × Int) := (civil_Split.f k a0).bind fun bt => (if bt.2.2.2.2.2.2.2 = 0 then (some (strOfNums (txtL bt.1 bt.2.1 bt.2.2.1 bt.2.2.2.1 bt.2.2.2.2.1 bt.2.2.2.2.2.1), 0)) else (some ((⟨#[]⟩ : ByteArray), bt.2.2.2.2.2.2.2)))
theorem civil_Text.mono : ∀ a0 k, LeO (civil_Text.f k a0) (civil_Text.f (k + 1) a0) := by
  intro a0 k
  unfold civil_Text.f
  exact LeO.bind (civil_Split.mono a0 k) (fun _ => LeO.refl _)
set_option maxHeartbeats 400000 in
set_option maxRecDepth 100000 in
theorem text_err (k : Nat) (a0 y m d h i s wd e : Int) (w : World) (A : Aside0 (civil_Split.f k a0 = some (y, m, d, h, i, s, wd, e))) (he : (e != 0) = true) :
    Calls Try.prog 11 #[.int .i64 a0] w fun r w' => r = .returned (.tuple #[.string (⟨#[]⟩ : ByteArray), .int .i64 e]) ∧ Below w.heap.size w w' := by
  go_enter Try.func11, Try.ntmps11
  go_wp2_with fail
  refine (civil_Split.calls _ _ _ _ _ _ _ _ _ _ _ A.out).mono ?_
  rintro r w1 ⟨rfl, hb⟩
  go_wp2_with fail
  go_ret2
  exact ⟨rfl, (hb.alloc hb.size _)⟩
theorem oct0 (w1 : World) (o o2 : Obj) : Oct (((w1.alloc o).alloc (.cells #[.int .u8 48, .int .u8 48, .int .u8 48, .int .u8 48, .int .u8 45, .int .u8 48, .int .u8 48, .int .u8 45, .int .u8 48, .int .u8 48, .int .u8 32, .int .u8 48, .int .u8 48, .int .u8 58, .int .u8 48, .int .u8 48, .int .u8 58, .int .u8 48, .int .u8 48] 5 (19, 20))).alloc o2) (w1.heap.size + 1) (19, 20) txt0 := by
  unfold Oct
  show ((((w1.heap.push _).push _).push _)[w1.heap.size + 1]? = _)
  simp only [Array.getElem?_push, Array.size_push]
  rw [if_neg (by omega), if_pos trivial]
  rfl
theorem box0 (w1 : World) (o o1 : Obj) (v : Value) : (((w1.alloc o).alloc o1).alloc (.cells #[v] 53)).cell? ⟨w1.heap.size + 1 + 1, 0, none⟩ = some v := by
  rw [World.cell?_alloc_at _ _ _ _ (by simp)]; rfl
theorem box_next {w1 w2 : World} {g bv : Nat} {v : Value} (hg : w1.grownBy w2 (some g)) (h : Aside0 (w1.cell? ⟨bv, 0, none⟩ = some v)) (hne : Aside0 (bv ≠ g)) : Aside0 (w2.cell? ⟨bv, 0, none⟩ = some v) :=
  ⟨hg.cell h.out (by intro e; exact hne.out (by cases e; rfl))⟩
theorem hX_ (w w1 : World) (hb : Below w.heap.size w w1) (o1 o2 o3 : Obj) (w2 w3 w4 w5 w6 : World) {w7 : World} (h2 : (((w1.alloc o1).alloc o2).alloc o3).grownBy w2 (some (w1.heap.size + 1))) (h3 : w2.grownBy w3 (some (w1.heap.size + 1))) (h4 : w3.grownBy w4 (some (w1.heap.size + 1)))
    (h5 : w4.grownBy w5 (some (w1.heap.size + 1))) (h6 : w5.grownBy w6 (some (w1.heap.size + 1))) (h7 : w6.grownBy w7 (some (w1.heap.size + 1))) : Below w.heap.size w w7 := by
  have hs := hb.size
  have hr : ∀ k, some (w1.heap.size + 1) = some k → w.heap.size ≤ k := by intro k e; cases e; omega
  have b1 : Below w.heap.size w (((w1.alloc o1).alloc o2).alloc o3) := below_alloc (below_alloc (below_alloc hb _) _) _
  have b2 := pw_below_grown b1 _ b1.size h2 hr
  have b3 := pw_below_grown b2 _ b2.size h3 hr
  have b4 := pw_below_grown b3 _ b3.size h4 hr
  have b5 := pw_below_grown b4 _ b4.size h5 hr
  have b6 := pw_below_grown b5 _ b5.size h6 hr
  exact pw_below_grown b6 _ b6.size h7 hr
/-- all are from 0 to a number -/
def Bd (B : Int) (cs : List Int) : Prop := ∀ j : Nat, 0 ≤ cs.getD j 0 ∧ cs.getD j 0 ≤ B
theorem Bd.put {B : Int} {cs : List Int} (h : Bd B cs) (k : Nat) (e n : Int) (hn : 0 ≤ n) (hk : (k : Int) ≤ e + 1) : Bd (B + 9) (putF k cs e n) :=
  putF_bd B k cs e n hn hk (fun j => ⟨(h j).1, by have := (h j).2; omega⟩) (fun j _ => (h j).2)
theorem Bd.low {B : Int} {cs : List Int} (h : Bd B cs) (hB : B ≤ 200) (e : Int) : Aside0 (∀ j : Nat, (j : Int) ≤ e → 0 ≤ cs.getD j 0 ∧ cs.getD j 0 ≤ 200) := ⟨fun j _ => ⟨(h j).1, by have := (h j).2; omega⟩⟩
theorem bd0 : Bd 58 txt0 := by
  intro j
  by_cases c : j < 19
  · have h : ∀ i : Fin 19, 0 ≤ txt0.getD i 0 ∧ txt0.getD i 0 ≤ 58 := by decide
    exact h ⟨j, c⟩
  · rw [List.getD_eq_getElem?_getD, List.getElem?_eq_none (by show 19 ≤ j; omega)]; decide
set_option maxHeartbeats 400000 in
set_option maxRecDepth 100000 in
theorem text_ok (k : Nat) (a0 y m d h i s wd : Int) (w : World) (A : Aside0 (civil_Split.f k a0 = some (y, m, d, h, i, s, wd, 0)))
    (hy : 0 ≤ y ∧ y < 10000) (hm : 0 ≤ m ∧ m < 100) (hd : 0 ≤ d ∧ d < 100) (hh : 0 ≤ h ∧ h < 100) (hi : 0 ≤ i ∧ i < 100) (hs : 0 ≤ s ∧ s < 100) :
    Calls Try.prog 11 #[.int .i64 a0] w fun r w' => r = .returned (.tuple #[.string (strOfNums (txtL y m d h i s)), .int .i64 0]) ∧ Below w.heap.size w w' := by
  have hmf : ∀ (fn : Fn) (first cap : Array Value) (w : World), (Instr.makeFunc fn first cap).run Try.prog w = .ok (.func fn first cap) w := fun _ _ _ _ => rfl
  have kc : ∀ (w1 : World) (o : Obj) (C : Array Value) (n c : Nat), (convert 53 53 (.slice (some ⟨w1.heap.size + 1, 0, none⟩) n c)).run Try.prog ((w1.alloc o).alloc (.cells C 5)) = .ok (.slice (some ⟨w1.heap.size + 1, 0, none⟩) n c) ((w1.alloc o).alloc (.cells C 5 (C.size, C.size + 1))) :=
    fun w1 o C n c => Go.Joins.run_convert_bytes_const_at (P := Try.prog) (w1.alloc o) 53 5 C n c _ (by simp) Try.underlying53 Try.underlying5
  have i0 : ∀ w, (Instr.index 55 (.agg #[.int .i64 y, .int .i64 m, .int .i64 d, .int .i64 h, .int .i64 i, .int .i64 s]) (.int .i64 0)).run Try.prog w = .ok (.int .i64 y) w := fun _ => by kernel_rfl
  have i1 : ∀ w, (Instr.index 55 (.agg #[.int .i64 y, .int .i64 m, .int .i64 d, .int .i64 h, .int .i64 i, .int .i64 s]) (.int .i64 1)).run Try.prog w = .ok (.int .i64 m) w := fun _ => by kernel_rfl
  have i2 : ∀ w, (Instr.index 55 (.agg #[.int .i64 y, .int .i64 m, .int .i64 d, .int .i64 h, .int .i64 i, .int .i64 s]) (.int .i64 2)).run Try.prog w = .ok (.int .i64 d) w := fun _ => by kernel_rfl
  have i3 : ∀ w, (Instr.index 55 (.agg #[.int .i64 y, .int .i64 m, .int .i64 d, .int .i64 h, .int .i64 i, .int .i64 s]) (.int .i64 3)).run Try.prog w = .ok (.int .i64 h) w := fun _ => by kernel_rfl
  have i4 : ∀ w, (Instr.index 55 (.agg #[.int .i64 y, .int .i64 m, .int .i64 d, .int .i64 h, .int .i64 i, .int .i64 s]) (.int .i64 4)).run Try.prog w = .ok (.int .i64 i) w := fun _ => by kernel_rfl
  have i5 : ∀ w, (Instr.index 55 (.agg #[.int .i64 y, .int .i64 m, .int .i64 d, .int .i64 h, .int .i64 i, .int .i64 s]) (.int .i64 5)).run Try.prog w = .ok (.int .i64 s) w := fun _ => by kernel_rfl
  go_enter Try.func11, Try.ntmps11
  go_wp2_with fail
  refine (civil_Split.calls _ _ _ _ _ _ _ _ _ _ _ A.out).mono ?_
  rintro r w1 ⟨rfl, hb⟩
  go_wp2_with fail
  refine wp_loop_rounds 7 ?_
  rw [rounds_succ]
  go_wp2_with fail
  have HX := Aside0.mk hb
  clear hb
  refine (put_any 4 txt0 3 y _ (w1.heap.size + 1) (w1.heap.size + 1 + 1) (19, 20) rfl (by decide) ⟨oct0 _ _ _⟩ ⟨box0 _ _ _ _⟩ ⟨by omega⟩ hy.1 hy.2 ⟨by omega⟩ (by decide) (by decide) (bd0.low (by decide) _)).mono ?_
  rintro r w2 ⟨rfl, hg2, ho2⟩
  have HG2 := Aside0.mk hg2
  have HO2 := Aside0.mk ho2
  have HX2 := box_next hg2 ⟨box0 _ _ _ _⟩ ⟨by omega⟩
  clear hg2 ho2
  go_wp2_with fail
  rw [rounds_succ]
  go_wp2_with fail
  refine (put_any 2 (putF 4 txt0 3 y) 6 m _ (w1.heap.size + 1) (w1.heap.size + 1 + 1) (19, 20) (by rw [putF_length]; rfl) (by decide) HO2 HX2 ⟨by omega⟩ hm.1 (by omega) ⟨by omega⟩ (by decide) (by decide) ((bd0.put 4 3 y hy.1 (by decide)).low (by decide) _)).mono ?_
  rintro r w3 ⟨rfl, hg3, ho3⟩
  have HG3 := Aside0.mk hg3
  have HO3 := Aside0.mk ho3
  have HX3 := box_next hg3 HX2 ⟨by omega⟩
  clear hg3 ho3
  go_wp2_with fail
  rw [rounds_succ]
  go_wp2_with fail
  refine (put_any 2 (putF 2 (putF 4 txt0 3 y) 6 m) 9 d _ (w1.heap.size + 1) (w1.heap.size + 1 + 1) (19, 20) (by rw [putF_length]; rw [putF_length]; rfl) (by decide) HO3 HX3 ⟨by omega⟩ hd.1 (by omega) ⟨by omega⟩ (by decide) (by decide) (((bd0.put 4 3 y hy.1 (by decide)).put 2 6 m hm.1 (by decide)).low (by decide) _)).mono ?_
  rintro r w4 ⟨rfl, hg4, ho4⟩
  have HG4 := Aside0.mk hg4
  have HO4 := Aside0.mk ho4
  have HX4 := box_next hg4 HX3 ⟨by omega⟩
  clear hg4 ho4
  go_wp2_with fail
  rw [rounds_succ]
  go_wp2_with fail
  refine (put_any 2 (putF 2 (putF 2 (putF 4 txt0 3 y) 6 m) 9 d) 12 h _ (w1.heap.size + 1) (w1.heap.size + 1 + 1) (19, 20) (by rw [putF_length]; rw [putF_length]; rw [putF_length]; rfl) (by decide) HO4 HX4 ⟨by omega⟩ hh.1 (by omega) ⟨by omega⟩ (by decide) (by decide) ((((bd0.put 4 3 y hy.1 (by decide)).put 2 6 m hm.1 (by decide)).put 2 9 d hd.1 (by decide)).low (by decide) _)).mono ?_
  rintro r w5 ⟨rfl, hg5, ho5⟩
  have HG5 := Aside0.mk hg5
  have HO5 := Aside0.mk ho5
  have HX5 := box_next hg5 HX4 ⟨by omega⟩
  clear hg5 ho5
  go_wp2_with fail
  rw [rounds_succ]
  go_wp2_with fail
  refine (put_any 2 (putF 2 (putF 2 (putF 2 (putF 4 txt0 3 y) 6 m) 9 d) 12 h) 15 i _ (w1.heap.size + 1) (w1.heap.size + 1 + 1) (19, 20) (by rw [putF_length]; rw [putF_length]; rw [putF_length]; rw [putF_length]; rfl) (by decide) HO5 HX5 ⟨by omega⟩ hi.1 (by omega) ⟨by omega⟩ (by decide) (by decide) (((((bd0.put 4 3 y hy.1 (by decide)).put 2 6 m hm.1 (by decide)).put 2 9 d hd.1 (by decide)).put 2 12 h hh.1 (by decide)).low (by decide) _)).mono ?_
  rintro r w6 ⟨rfl, hg6, ho6⟩
  have HG6 := Aside0.mk hg6
  have HO6 := Aside0.mk ho6
  have HX6 := box_next hg6 HX5 ⟨by omega⟩
  clear hg6 ho6
  go_wp2_with fail
  rw [rounds_succ]
  go_wp2_with fail
  refine (put_any 2 (putF 2 (putF 2 (putF 2 (putF 2 (putF 4 txt0 3 y) 6 m) 9 d) 12 h) 15 i) 18 s _ (w1.heap.size + 1) (w1.heap.size + 1 + 1) (19, 20) (by rw [putF_length]; rw [putF_length]; rw [putF_length]; rw [putF_length]; rw [putF_length]; rfl) (by decide) HO6 HX6 ⟨by omega⟩ hs.1 (by omega) ⟨by omega⟩ (by decide) (by decide) ((((((bd0.put 4 3 y hy.1 (by decide)).put 2 6 m hm.1 (by decide)).put 2 9 d hd.1 (by decide)).put 2 12 h hh.1 (by decide)).put 2 15 i hi.1 (by decide)).low (by decide) _)).mono ?_
  rintro r w7 ⟨rfl, hg7, ho7⟩
  have HG7 := Aside0.mk hg7
  have hx7 := (box_next hg7 HX6 ⟨by omega⟩).out
  have hcs := run_convert_bytes_arg (P := Try.prog) w7 53 5 Try.underlying53 Try.underlying5 (w1.heap.size + 1) 0 19 19 (txtL y m d h i s) (txtL_length _ _ _ _ _ _) (fun j hj => by rw [Nat.zero_add]; exact ho7.cell j (Nat.lt_of_lt_of_eq hj (txtL_length y m d h i s).symm)) 9 Try.underlying9
  clear hg7 ho7
  go_wp2_with fail
  rw [rounds_succ]
  go_wp2_with fail
  go_ret2
  refine ⟨rfl, ?_⟩
  have hW := hX_ w w1 HX.out
  exact hW _ _ _ _ _ _ _ _ HG2.out HG3.out HG4.out HG5.out HG6.out HG7.out
/-- what a moment's numbers are bound by -/
theorem split_bounds (k : Nat) (t y m d h i s wd : Int) (A : civil_Split.f k t = some (y, m, d, h, i, s, wd, 0)) :
    0 ≤ t ∧ t < 32503680000 ∧ (0 ≤ y ∧ y < 10000) ∧ (0 ≤ m ∧ m < 100) ∧ (0 ≤ d ∧ d < 100) ∧ (0 ≤ h ∧ h < 100) ∧ (0 ≤ i ∧ i < 100) ∧ (0 ≤ s ∧ s < 100) := by
  have B := at_rounds (fun k => civil_Split.mono t k) (show k ≤ k + 2 by omega) A
  by_cases c : t < 0 ∨ 32503680000 ≤ t
  · rw [Pure.split_no k t c] at B
    simp at B
  · obtain ⟨y', m', d', hh, v, hn, hy0, hy1⟩ := Pure.split_yes k t (by omega) (by omega)
    rw [hh] at B
    simp only [Option.some.injEq, Prod.mk.injEq] at B
    obtain ⟨rfl, rfl, rfl, rfl, rfl, rfl, _, _⟩ := B
    have := v.m1; have := v.m2; have := v.d1; have := v.d2; have := Cal.dim_bd y' m'
    omega
theorem civil_Text.calls (k : Nat) (a0 : Int) (r1 : ByteArray) (r2 : Int) (w : World) (h : civil_Text.f k a0 = some (r1, r2)) :
    Calls Try.prog 11 #[.int .i64 a0] w fun e w' => e = .returned (.tuple #[.string r1, .int .i64 r2]) ∧ Below w.heap.size w w' := by
  unfold civil_Text.f at h
  obtain ⟨⟨y, m, d, hh, i, s, wd, e⟩, hs, h⟩ := Option.bind_eq_some_iff.1 h
  simp only at h
  by_cases c : e = 0
  · subst c
    rw [if_pos rfl] at h
    simp only [Option.some.injEq, Prod.mk.injEq] at h
    obtain ⟨rfl, rfl⟩ := h
    obtain ⟨_, _, b1, b2, b3, b4, b5, b6⟩ := split_bounds k a0 y m d hh i s wd hs
    exact text_ok k a0 y m d hh i s wd w ⟨hs⟩ b1 b2 b3 b4 b5 b6
  · rw [if_neg c] at h
    simp only [Option.some.injEq, Prod.mk.injEq] at h
    obtain ⟨rfl, rfl⟩ := h
    exact text_err k a0 y m d hh i s wd e w ⟨hs⟩ (bne_iff_ne.mpr c)
end Go.Proofs.Ytkffmgalmooioaa.Civ
