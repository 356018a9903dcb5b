/- cron.list: a set's numbers, in a text: its contract. -/
import Derived.Test.YtkffmgalmooioaaDoorTz
import Derived.Test.YtkffmgalmooioaaDoorShelf
import Derived.Test.YtkffmgalmooioaaDoorBackp
import Derived.WalkLawsBesides
import Derived.WalkSpells
import Derived.LoopN
import Derived.Laws.Bits64b
import Derived.Outline
import Derived.BigCall
import Derived.Maps.AppendAt
namespace Go.Proofs.YtkffmgalmooioaaDoor.Cr
open Go.RowKit Go.Proofs.YtkffmgalmooioaaDoorW.PrintWords Go.Proofs.YtkffmgalmooioaaDoorW.PrintLast Go.Proofs.YtkffmgalmooioaaDoorW.PrintMore

theorem info9 : (Tryd.prog.info? 9).map (fun i => (i.zero, i.size, i.bytes)) = some (some (.string ByteArray.empty), 1, 16) := by kernel_rfl
theorem join_len_le (D K : Nat) (sep : List UInt8) (hsep : sep.length ≤ 1) : ∀ (xs : List (List UInt8)), (∀ x ∈ xs, x.length ≤ D) → xs.length ≤ K → (Lib.join xs sep).length ≤ (D + 1) * K := by
  intro xs hx hK
  have h : (Lib.join xs sep).length ≤ (D + 1) * xs.length := by
    clear hK
    induction xs with
    | nil => simp [Lib.join_nil]
    | cons x r ih =>
      cases r with
      | nil => rw [Lib.join_one]; have := hx x (by simp); simp; omega
      | cons y r =>
        have ih := ih (fun z hz => hx z (List.mem_cons_of_mem _ hz))
        have h1 := hx x (by simp)
        rw [join_two]
        simp only [List.length_append, List.length_cons] at ih ⊢
        have e : (D + 1) * (r.length + 1 + 1) = (D + 1) * (r.length + 1) + (D + 1) := by rw [Nat.mul_add (D + 1) (r.length + 1) 1]; omega
        omega
  exact Nat.le_trans h (Nat.mul_le_mul_left _ hK)
/-- strings.Join of a row of strings that the call owns -/
theorem join_owned {w : World} {B : Nat} (v : Value) (l : List ByteArray) (sep : ByteArray) (h : w.ownsRow B 9 1 v l.length (l.map Value.string)) (hN : l.length ≤ 140737488355328) (hlen : (Lib.join (l.map (·.data.toList)) sep.data.toList).length ≤ 140737488355328) :
    Calls Tryd.prog 26 #[v, .string sep] w fun e w' => e = .returned (.string ⟨(Lib.join (l.map (·.data.toList)) sep.data.toList).toArray⟩) ∧ Below w.heap.size w w' := by
  rcases h.2 with ⟨rfl, hn⟩ | ⟨g, cap, cur, rfl, hb, hg, hc, _⟩
  · obtain rfl : l = [] := List.eq_nil_of_length_eq_zero hn
    refine (Tryd.strings_Join_none none 0 sep w).mono ?_
    rintro e w' ⟨rfl, rfl⟩
    exact ⟨by simp [Lib.join_nil], Below.refl _ _⟩
  · refine Tryd.strings_Join g 0 cap l sep w (fun j x hx => ?_) (blk_lt hg) hN hc hlen
    have hj : j < l.length := (List.getElem?_eq_some_iff.1 hx).1
    rw [Nat.zero_add, h.cellAt j (by omega), List.getElem?_map, hx]
    rfl
set_option maxHeartbeats 400000 in
set_option maxRecDepth 100000 in
theorem list_calls (s : Nat) (hs : s < 18446744073709551616) (w : World) (ht : Aside0 (HasTab w)) :
    Calls Tryd.prog 25 #[.int .u64 s] w fun e w' => e = .returned (.string ⟨(Lib.join ((items 64 s).map fun n => (dig n).data.toList) [44]).toArray⟩) ∧ Below w.heap.size w w' := by
  have e21 : Tryd.prog.intKind 21 = .i32 := by kernel_rfl
  have cv1 : ∀ (W : World) (n : Int), (Go.convert 3 21 (.int .i64 n)).run Tryd.prog W = .ok (.int .i32 (IntKind.i32.wrap n)) W := fun W n => by
    have h := run_convert_int (P := Tryd.prog) (w := W) (src := 3) (dst := 21) (k := .i64) (n := n) (by rw [Tryd.underlying3]; rfl) (by kernel_rfl)
    rw [e21] at h; exact h
  clear e21
  have cv2 : ∀ (W : World) (n : Int), (Go.convert 21 9 (.int .i32 n)).run Tryd.prog W = .ok (.string (Utf8.encode n)) W := fun W n => run_convert_int_string W 21 9 .i32 n (by rw [Tryd.underlying21]; rfl) Tryd.underlying9
  obtain ⟨i0, hi, hi0, hi1, hi2⟩ := info_parts info9
  go_enter Tryd.func25, Tryd.ntmps25
  go_wp2_with fail
  go_loopw [0, 3] (fun u0 u3 wr => ∃ (x f : Nat) (pre : List Nat), u0 = .int .u64 x ∧ x < 18446744073709551616 ∧ (∃ ao cv, u3 = .slice ao pre.length cv) ∧ pre ++ items f x = items 64 s ∧ 2 ^ (64 - f) ∣ x ∧ Aside0 (wr.ownsRow w.heap.size 9 1 u3 pre.length (pre.map fun n => .string (dig n))) ∧ Aside0 (Below w.heap.size w wr)) (fun u0 _ _ => (intOf u0).toNat)
  case atStart => exact ⟨s, 64, [], rfl, hs, ⟨none, 0, rfl⟩, rfl, ⟨s, by simp⟩, ⟨World.ownsRow_nil _ _ _ _⟩, ⟨Below.refl _ _⟩⟩
  case round =>
    obtain ⟨x, f, pre, rfl, hx, ⟨ao, cv, rfl⟩, hp0, hd0, hO, hB⟩ := hrel
    have hpl : pre.length ≤ 64 := by have := congrArg List.length hp0; rw [List.length_append] at this; have := items_length 64 s; omega
    have HP := Aside0.mk hp0
    have HV := Aside0.mk hd0
    clear hp0 hd0
    by_cases hz : x = 0
    · subst hz
      go_wp2_with fail
      have hit : pre = items 64 s := by have h := HP.out; rw [show items f 0 = [] by cases f <;> simp [items]] at h; simpa using h
      have hJ : Calls Tryd.prog 26 #[.slice ao pre.length cv, .string ⟨#[44]⟩] wr fun e w' => e = .returned (.string ⟨(Lib.join ((items 64 s).map fun n => (dig n).data.toList) [44]).toArray⟩) ∧ Below wr.heap.size wr w' := by
        rw [← hit]
        have hO' := hO.out
        have e : pre.length = (pre.map dig).length := by rw [List.length_map]
        have e2 : (pre.map fun n => Value.string (dig n)) = (pre.map dig).map Value.string := by rw [List.map_map]; rfl
        have e3 : (pre.map fun n => (dig n).data.toList) = (pre.map dig).map (·.data.toList) := by rw [List.map_map]; rfl
        rw [e2] at hO'
        rw [e3]
        have hsmall := join_len_le 2 64 [44] (by decide) ((pre.map dig).map (·.data.toList)) (fun x hx => by
          rw [← e3] at hx
          obtain ⟨n, _, rfl⟩ := List.mem_map.1 hx
          exact (dig_size n).2.1) (by simpa using hpl)
        exact join_owned (.slice ao pre.length cv) (pre.map dig) ⟨#[44]⟩ (by rw [List.length_map]; exact hO') (by omega) (by simp only []; omega)
      refine hJ.mono ?_
      rintro e w1 ⟨rfl, hb⟩
      have B1 := Aside0.mk (below_step hB.out hb)
      clear hb
      go_wp2_with fail
      go_ret
      exact ⟨rfl, B1.out⟩
    · have hz0 : ((x : Int) == 0) = false := by simp; omega
      go_wp2_with fail
      refine (tz_calls x hx hz _ (ht.out.below hB.out)).mono ?_
      rintro e w1 ⟨rfl, rfl⟩
      have hc : Aside0 (Lib.ctz 64 x ≤ 63) := ⟨by have := (Lib.lowest_bit 64 x hz hx).2; omega⟩
      obtain ⟨c, hcx⟩ : ∃ c, Lib.ctz 64 x = c := ⟨_, rfl⟩
      rw [hcx] at hc ⊢
      have HC := Aside0.mk hcx
      clear hcx
      have hc63 := hc.out
      have hm : (c : Int) % 10 = ((c % 10 : Nat) : Int) := by omega
      have hm2 : Int.tmod (c : Int) 10 = ((c % 10 : Nat) : Int) := by rw [Int.tmod_eq_emod_of_nonneg (by omega)]; exact hm
      obtain ⟨d, hd⟩ : ∃ d, d = c % 10 := ⟨_, rfl⟩
      have hd10 : d < 10 := by omega
      rw [← hd] at hm hm2
      have HD := Aside0.mk hd
      clear hd
      have q1 : IntKind.i64.wrap (48 + (d : Int)) = 48 + (d : Int) := by rw [IntKind.wrap_i64]; omega
      have q2 : IntKind.i32.wrap (48 + (d : Int)) = 48 + (d : Int) := by rw [IntKind.wrap_i32]; omega
      have q3 := enc_dig d hd10
      by_cases h10 : (10 : Int) ≤ c
      · have hq : (c : Int) / 10 = ((c / 10 : Nat) : Int) := by omega
        have hq2 : Int.tdiv (c : Int) 10 = ((c / 10 : Nat) : Int) := by rw [Int.tdiv_eq_ediv_of_nonneg (by omega)]; exact hq
        obtain ⟨t, ht0⟩ : ∃ t, t = c / 10 := ⟨_, rfl⟩
        have ht10 : t < 10 := by omega
        rw [← ht0] at hq hq2
        have HT0 := Aside0.mk ht0
        clear ht0
        have q4 : IntKind.i64.wrap (48 + (t : Int)) = 48 + (t : Int) := by rw [IntKind.wrap_i64]; omega
        have q5 : IntKind.i32.wrap (48 + (t : Int)) = 48 + (t : Int) := by rw [IntKind.wrap_i32]; omega
        have q6 := enc_dig t ht10
        obtain ⟨T1, hT1⟩ : ∃ T : ByteArray, T = ⟨#[UInt8.ofNat (48 + d)]⟩ := ⟨_, rfl⟩
        rw [← hT1] at q3
        have HT1 := Aside0.mk hT1
        clear hT1
        obtain ⟨T2, hT2⟩ : ∃ T : ByteArray, T = ⟨#[UInt8.ofNat (48 + t)]⟩ := ⟨_, rfl⟩
        rw [← hT2] at q6
        have HT2 := Aside0.mk hT2
        clear hT2
        have hown := hO.out
        have hsize := hB.out.size
        have hx1 : IntKind.u64.wrap ((x : Int) - 1) = ((x - 1 : Nat) : Int) := by rw [IntKind.wrap_u64]; omega
        have hx2 : Go.bits .and .u64 (x : Int) ((x - 1 : Nat) : Int) = ((x &&& (x - 1) : Nat) : Int) := bits_and_u64_nat x (x - 1) hx (by omega)
        obtain ⟨y, hy⟩ : ∃ y : Nat, y = x - 1 := ⟨_, rfl⟩
        rw [← hy] at hx1 hx2
        obtain ⟨z, hzz⟩ : ∃ z : Nat, z = x &&& y := ⟨_, rfl⟩
        rw [← hzz] at hx2
        have HY := Aside0.mk hy
        have HZ := Aside0.mk hzz
        clear hy hzz
        have hs1 : T1.size = 1 := by rw [HT1.out]; rfl
        have hs2 : T2.size = 1 := by rw [HT2.out]; rfl
        have hadd : ∀ W, (Op.stringOp .add T2 T1).run Tryd.prog W = .ok (.string (T2 ++ T1)) W := fun W => run_string_add_sum W T2 T1 (by omega)
        obtain ⟨T, hT⟩ : ∃ T : ByteArray, T = T2 ++ T1 := ⟨_, rfl⟩
        rw [← hT] at hadd
        have HT := Aside0.mk hT
        clear hT hs1 hs2
        dsimp only
        iterate 81 go_step
        at_builtin
        refine wpList_append_own _ rfl _ _ 59 rfl w.heap.size 9 i0 (.string ByteArray.empty) 1 16 Tryd.underlying59 hi hi0 hi1 hi2 rfl (by decide) _ _ _ rfl (hown.alloc _) ⟨wr.heap.size, 0, none⟩ 1 1 [.string T] rfl rfl (cell_one_new _ _ _) (fun x hx => by simp at hx; subst hx; rfl) (by unfold maxLen; first | omega | (simp; omega)) (by first | omega | (simp; omega)) (by simp; first | omega | done) ?_
        intro v' w3 hown' hgrow3 hnil3
        go_wp2_with fail
        obtain ⟨k, hk, hit, hdv, hlt⟩ := items_step f x hx hz HV.out
        have hz3 : z = x &&& (x - 1) := by rw [HZ.out, HY.out]
        rw [← hz3] at hit hdv hlt
        have hTc : T = dig c := by rw [HT.out, HT1.out, HT2.out, HD.out, HT0.out]; unfold dig; rw [if_neg (by omega)]; rfl
        obtain ⟨g3, cap3, hv3⟩ : ∃ g3 cap3, v' = .slice (some ⟨g3, 0, none⟩) (pre.length + 1) cap3 := by
          rcases hown'.2 with ⟨_, h⟩ | ⟨g3, cap3, _, h, _⟩
          · omega
          · exact ⟨g3, cap3, h⟩
        refine ⟨⟨z, k, pre ++ [c], rfl, by omega, ⟨some ⟨g3, 0, none⟩, cap3, by rw [hv3]; simp⟩, ?_, hdv, ⟨?_⟩, ⟨?_⟩⟩, by simp [intOf]; omega⟩
        · rw [List.append_assoc, ← HP.out, hit, HC.out]; rfl
        · rw [List.map_append, List.length_append]; simp only [List.map_cons, List.map_nil, ← hTc]; exact hown'
        · exact (hB.out.alloc hsize _).grown hgrow3 (by simp; omega) (fun q hq => (hown.lt q hq).1)
      · obtain ⟨T, hT⟩ : ∃ T : ByteArray, T = ⟨#[UInt8.ofNat (48 + d)]⟩ := ⟨_, rfl⟩
        rw [← hT] at q3
        have HT := Aside0.mk hT
        clear hT
        have hown := hO.out
        have hsize := hB.out.size
        have hx1 : IntKind.u64.wrap ((x : Int) - 1) = ((x - 1 : Nat) : Int) := by rw [IntKind.wrap_u64]; omega
        have hx2 : Go.bits .and .u64 (x : Int) ((x - 1 : Nat) : Int) = ((x &&& (x - 1) : Nat) : Int) := bits_and_u64_nat x (x - 1) hx (by omega)
        obtain ⟨y, hy⟩ : ∃ y : Nat, y = x - 1 := ⟨_, rfl⟩
        rw [← hy] at hx1 hx2
        obtain ⟨z, hzz⟩ : ∃ z : Nat, z = x &&& y := ⟨_, rfl⟩
        rw [← hzz] at hx2
        have HY := Aside0.mk hy
        have HZ := Aside0.mk hzz
        clear hy hzz
        dsimp only
        iterate 56 go_step
        at_builtin
        refine wpList_append_own _ rfl _ _ 59 rfl w.heap.size 9 i0 (.string ByteArray.empty) 1 16 Tryd.underlying59 hi hi0 hi1 hi2 rfl (by decide) _ _ _ rfl (hown.alloc _) ⟨wr.heap.size, 0, none⟩ 1 1 [.string T] rfl rfl (cell_one_new _ _ _) (fun x hx => by simp at hx; subst hx; rfl) (by unfold maxLen; first | omega | (simp; omega)) (by first | omega | (simp; omega)) (by simp; first | omega | done) ?_
        intro v' w3 hown' hgrow3 hnil3
        go_wp2_with fail
        obtain ⟨k, hk, hit, hdv, hlt⟩ := items_step f x hx hz HV.out
        have hz3 : z = x &&& (x - 1) := by rw [HZ.out, HY.out]
        rw [← hz3] at hit hdv hlt
        have hTc : T = dig c := by rw [HT.out, HD.out]; unfold dig; rw [if_pos (by omega), show c % 10 = c by omega]
        obtain ⟨g3, cap3, hv3⟩ : ∃ g3 cap3, v' = .slice (some ⟨g3, 0, none⟩) (pre.length + 1) cap3 := by
          rcases hown'.2 with ⟨_, h⟩ | ⟨g3, cap3, _, h, _⟩
          · omega
          · exact ⟨g3, cap3, h⟩
        refine ⟨⟨z, k, pre ++ [c], rfl, by omega, ⟨some ⟨g3, 0, none⟩, cap3, by rw [hv3]; simp⟩, ?_, hdv, ⟨?_⟩, ⟨?_⟩⟩, by simp [intOf]; omega⟩
        · rw [List.append_assoc, ← HP.out, hit, HC.out]; rfl
        · rw [List.map_append, List.length_append]; simp only [List.map_cons, List.map_nil, ← hTc]; exact hown'
        · exact (hB.out.alloc hsize _).grown hgrow3 (by simp; omega) (fun q hq => (hown.lt q hq).1)
end Go.Proofs.YtkffmgalmooioaaDoor.Cr
