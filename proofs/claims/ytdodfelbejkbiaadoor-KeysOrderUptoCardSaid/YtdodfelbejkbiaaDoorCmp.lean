/- keys.order in plain words; slices.CompareFunc over it and keys.Compare: their contracts. -/
import Derived.Test.YtdodfelbejkbiaaDoorEnc
import Derived.Test.YtdodfelbejkbiaaDoorKx8
namespace Go.Proofs.YtdodfelbejkbiaaDoor.K
open Go Go.RowKit Go.Shelf Go.Proofs.YtdodfelbejkbiaaDoorW.PrintWords Go.Proofs.YtdodfelbejkbiaaDoorW.PrintLast Go.Proofs.YtdodfelbejkbiaaDoorW.PrintMore

def cmpInt (a b : Int) : Int := if a < b then -1 else if b < a then 1 else 0
def cmpStr (x y : ByteArray) : Int := if Op.bytesLess x.toList y.toList = true then -1 else if Op.bytesLess y.toList x.toList = true then 1 else 0
/-- the order of two parts -/
def ordP (p q : S44) : Int := if (p.f0 != q.f0) = true then (if p.f0 = true then -1 else 1) else if cmpInt p.f1 q.f1 = 0 then cmpStr p.f2 q.f2 else cmpInt p.f1 q.f1
theorem cmpInt_is (a b : Int) : cmp_Compare_int.f a b = some (cmpInt a b) := by
  unfold cmp_Compare_int.f cmp_isNaN_int.f cmpInt
  simp only [bne_self_eq_false, Option.bind_some]
  rw [if_neg (by decide), if_neg (by decide)]
  by_cases h : a < b
  · rw [if_pos h, if_pos h]
  · rw [if_neg h, if_neg h]
    by_cases h2 : b < a
    · rw [if_pos h2, if_pos h2]
    · rw [if_neg h2, if_neg h2]
theorem cmpStr_is (a b : ByteArray) : cmp_Compare_string.f a b = some (cmpStr a b) := by
  unfold cmp_Compare_string.f cmp_isNaN_string.f cmpStr
  simp only [bne_self_eq_false, Option.bind_some]
  rw [if_neg (by decide), if_neg (by decide)]
  by_cases h : Op.bytesLess a.toList b.toList = true
  · rw [if_pos h, if_pos h]
  · rw [if_neg h, if_neg h]
    by_cases h2 : Op.bytesLess b.toList a.toList = true
    · rw [if_pos h2, if_pos h2]
    · rw [if_neg h2, if_neg h2]
theorem or_two (k : Nat) (a b : Int) : cmp_Or_int.f (k + 3) [a, b] = some (if a = 0 then b else a) := by
  have e0 : rd [a, b] 0 = a := rfl
  have e1 : rd [a, b] 1 = b := rfl
  have w1 : wrap64 ((0 : Int) + 1) = 1 := by unfold wrap64; omega
  have w2 : wrap64 ((1 : Int) + 1) = 2 := by unfold wrap64; omega
  have hl : (([a, b] : List Int).length : Int) = 2 := rfl
  unfold cmp_Or_int.f
  rw [hl]
  simp only [cmp_Or_int.l0]
  rw [if_pos (by decide), if_pos (by decide), if_pos (by rw [hl]; decide), e0]
  by_cases ha : a = 0
  · rw [if_pos ha, if_pos ha, w1, if_pos (by decide), if_pos (by decide), if_pos (by rw [hl]; decide), e1, w2]
    by_cases hb : b = 0
    · rw [if_pos hb, if_neg (by decide), hb]
    · rw [if_neg hb]
  · rw [if_neg ha, if_neg ha]
theorem order_is (k : Nat) (p q : S44) : keys_order.f (k + 3) p.f0 p.f1 p.f2 q.f0 q.f1 q.f2 = some (ordP p q) := by
  unfold keys_order.f ordP
  by_cases h : (p.f0 != q.f0) = true
  · rw [if_pos h, if_pos h]
    by_cases h2 : p.f0 = true
    · rw [if_pos h2, if_pos h2]
    · rw [if_neg h2, if_neg h2]
  · rw [if_neg h, if_neg h, cmpInt_is, cmpStr_is]
    simp only [Option.bind_some]
    rw [or_two]
    rfl
/-- the order of two lists of parts -/
def cmpL : List S44 → List S44 → Int
  | [], [] => 0
  | [], _ :: _ => -1
  | _ :: _, [] => 1
  | p :: a, q :: b => if ordP p q = 0 then cmpL a b else ordP p q
theorem ordCalls (p q : S44) (w : World) : Calls Tryd.prog 28 #[.agg #[.bool p.f0, .int .i64 p.f1, .string p.f2], .agg #[.bool q.f0, .int .i64 q.f1, .string q.f2]] w fun e w' => e = .returned (.int .i64 (ordP p q)) ∧ Below w.heap.size w w' :=
  keys_order.calls 3 _ _ _ _ _ _ _ w (order_is 0 p q)
set_option maxHeartbeats 400000 in
set_option maxRecDepth 100000 in
theorem compareFunc (A0 : Option Addr) (c0 : Nat) (l0 : List S44) (A1 : Option Addr) (c1 : Nat) (l1 : List S44) (w : World) (hr0 : Aside0 (Kd.C k44 w A0 l0.length l0)) (hr1 : Aside0 (Kd.C k44 w A1 l1.length l1)) (h0 : l0.length ≤ 140737488351232) :
    Calls Tryd.prog 27 #[.slice A0 l0.length c0, .slice A1 l1.length c1, .func (.func 28) #[] #[]] w fun e w' => e = .returned (.int .i64 (cmpL l0 l1)) ∧ Below w.heap.size w w' := by
  obtain ⟨R, hR⟩ : ∃ R, R = cmpL l0 l1 := ⟨_, rfl⟩
  rw [← hR]
  have HR := Aside0.mk hR
  clear hR
  go_enter Tryd.func27, Tryd.ntmps27
  go_wp2_with fail
  go_loopw [13] (fun v wr => ∃ n : Nat, n ≤ l0.length ∧ v = .int .i64 n ∧ Aside0 (n ≤ l1.length ∧ R = cmpL (l0.drop n) (l1.drop n)) ∧ Aside0 (Below w.heap.size w wr)) (fun v _ => l0.length - (intOf v).toNat)
  case atStart => exact ⟨0, Nat.zero_le _, rfl, ⟨Nat.zero_le _, by simpa using HR.out⟩, ⟨Below.refl _ _⟩⟩
  case round =>
    obtain ⟨n, hn, rfl, hN, hB⟩ := hrel
    have hn1 := hN.out.1
    by_cases hlt : n < l0.length
    · obtain ⟨ad, e, hx0, hx1, hx2⟩ := at_T44 hr0.out (n : Int) (by omega) (by omega)
      cases e
      replace hx0 := (hB.out.cell (World.block_lt_of_cell? w _ hx0)).trans hx0
      replace hx1 := (hB.out.cell (World.block_lt_of_cell? w _ hx1)).trans hx1
      replace hx2 := (hB.out.cell (World.block_lt_of_cell? w _ hx2)).trans hx2
      rw [rd_at l0 n hlt] at hx0 hx1 hx2
      simp only [Int.toNat_natCast] at hx0 hx1 hx2
      have p0 : (0 : Int) ≤ (n : Int) := by omega
      have hbw : w.heap.size ≤ wr.heap.size := hB.out.size
      by_cases hlt1 : n < l1.length
      · obtain ⟨bd, e, hy0, hy1, hy2⟩ := at_T44 hr1.out (n : Int) (by omega) (by omega)
        cases e
        replace hy0 := (hB.out.cell (World.block_lt_of_cell? w _ hy0)).trans hy0
        replace hy1 := (hB.out.cell (World.block_lt_of_cell? w _ hy1)).trans hy1
        replace hy2 := (hB.out.cell (World.block_lt_of_cell? w _ hy2)).trans hy2
        rw [rd_at l1 n hlt1] at hy0 hy1 hy2
        simp only [Int.toNat_natCast] at hy0 hy1 hy2
        have HC := Aside0.mk (show R = if ordP l0[n] l1[n] = 0 then cmpL (l0.drop (n + 1)) (l1.drop (n + 1)) else ordP l0[n] l1[n] from by
          rw [hN.out.2, List.drop_eq_getElem_cons hlt, List.drop_eq_getElem_cons hlt1]; rfl)
        obtain ⟨p, hp⟩ : ∃ p, p = l0[n] := ⟨_, rfl⟩
        obtain ⟨q, hq⟩ : ∃ q, q = l1[n] := ⟨_, rfl⟩
        rw [← hp] at hx0 hx1 hx2 HC
        rw [← hq] at hy0 hy1 hy2 HC
        clear hp hq
        replace hy0 := (World.cell?_alloc_lt wr (.cells #[.bool p.f0, .int .i64 p.f1, .string p.f2] 44) _ (World.block_lt_of_cell? wr _ hy0)).trans hy0
        replace hy1 := (World.cell?_alloc_lt wr (.cells #[.bool p.f0, .int .i64 p.f1, .string p.f2] 44) _ (World.block_lt_of_cell? wr _ hy1)).trans hy1
        replace hy2 := (World.cell?_alloc_lt wr (.cells #[.bool p.f0, .int .i64 p.f1, .string p.f2] 44) _ (World.block_lt_of_cell? wr _ hy2)).trans hy2
        have ge : ∀ w, (callFunc 28 #[.agg #[.bool p.f0, .int .i64 p.f1, .string p.f2], .agg #[.bool q.f0, .int .i64 q.f1, .string q.f2]]).run Tryd.prog w = .ok (.enter 28 #[.agg #[.bool p.f0, .int .i64 p.f1, .string p.f2], .agg #[.bool q.f0, .int .i64 q.f1, .string q.f2]]) w := enters_of Tryd.func28 (by kernel_rfl) rfl _
        go_wp2_with fail
        refine (ordCalls p q _).mono ?_
        rintro e w3 ⟨rfl, hb⟩
        have HB3 := Aside0.mk (below_then (below_alloc (below_alloc hB.out (.cells #[.bool p.f0, .int .i64 p.f1, .string p.f2] 44)) (.cells #[.bool q.f0, .int .i64 q.f1, .string q.f2] 44)) (by simp only [World.size_alloc]; omega) hb)
        clear hb hx0 hx1 hx2 hy0 hy1 hy2
        obtain ⟨r, hrr⟩ : ∃ r, r = ordP p q := ⟨_, rfl⟩
        rw [← hrr] at HC ⊢
        clear hrr
        by_cases hz : r = 0
        · subst hz
          have HC2 := Aside0.mk (show n + 1 ≤ l1.length ∧ R = cmpL (l0.drop (n + 1)) (l1.drop (n + 1)) from ⟨by omega, by rw [HC.out, if_pos rfl]⟩)
          go_wp2_with fail
          go_roundw
          case rel => exact ⟨n + 1, by omega, by go_num, HC2, HB3⟩
          case measure => simp [intOf]; omega
        · have hz1 : (r != 0) = true := by simpa using hz
          have HC2 := Aside0.mk (show r = R from by rw [HC.out, if_neg hz])
          clear hz
          go_wp2_with fail
          go_ret
          exact ⟨by rw [HC2.out]; rfl, HB3.out⟩
      · have HC := Aside0.mk (show R = 1 from by
          rw [hN.out.2, List.drop_eq_getElem_cons hlt, List.drop_of_length_le (show l1.length ≤ n by omega)]; rfl)
        have HB3 := Aside0.mk (below_alloc hB.out (.cells #[.bool l0[n].f0, .int .i64 l0[n].f1, .string l0[n].f2] 44))
        go_wp2_with fail
        go_ret
        exact ⟨by rw [HC.out]; rfl, HB3.out⟩
    · obtain rfl : n = l0.length := by omega
      by_cases hlt1 : l0.length < l1.length
      · have HC := Aside0.mk (show R = -1 from by
          rw [hN.out.2, List.drop_of_length_le (Nat.le_refl _), List.drop_eq_getElem_cons hlt1]; rfl)
        go_wp2_with fail
        go_ret
        exact ⟨by rw [HC.out]; rfl, hB.out⟩
      · have HC := Aside0.mk (show R = 0 from by
          rw [hN.out.2, List.drop_of_length_le (Nat.le_refl _), List.drop_of_length_le (by omega)]; rfl)
        go_wp2_with fail
        go_ret
        exact ⟨by rw [HC.out]; rfl, hB.out⟩
def keys_Compare.f (l0 l1 : List S44) : Option (Int × Int) :=
  if checkL l0 ≠ 0 then some (0, checkL l0) else if checkL l1 ≠ 0 then some (0, checkL l1) else some (cmpL l0 l1, 0)
theorem check_eight {l : List S44} (h : checkL l = 0) : l.length ≤ 8 := by
  rcases Nat.lt_or_ge 8 l.length with h8 | h8
  · unfold checkL at h; rw [if_pos h8] at h; cases h
  · exact h8
theorem chk (A : Option Addr) (c : Nat) (l : List S44) (w : World) (hr : Kd.C k44 w A l.length l) (hc : l.length ≤ c) :
    Calls Tryd.prog 19 #[.slice A l.length c] w fun e w' => e = .returned (.int .i64 (checkL l)) ∧ Below w.heap.size w w' := keys_Check.calls 10 A c l (checkL l) w hr hc (check_is l 10 (by decide))
set_option maxHeartbeats 400000 in
set_option maxRecDepth 100000 in
theorem keys_Compare.calls (A0 : Option Addr) (c0 : Nat) (l0 : List S44) (A1 : Option Addr) (c1 : Nat) (l1 : List S44) (r1 r2 : Int) (w : World) (hr0 : Kd.C k44 w A0 l0.length l0) (hc0 : l0.length ≤ c0) (hr1 : Kd.C k44 w A1 l1.length l1) (hc1 : l1.length ≤ c1) (h : keys_Compare.f l0 l1 = some (r1, r2)) :
    Calls Tryd.prog 21 #[.slice A0 l0.length c0, .slice A1 l1.length c1] w fun e w' => e = .returned (.tuple #[.int .i64 r1, .int .i64 r2]) ∧ Below w.heap.size w w' := by
  have HR0 := Aside0.mk hr0
  have HR1 := Aside0.mk hr1
  clear hr0 hr1
  unfold keys_Compare.f at h
  have B0 := Aside0.mk (below_alloc (Below.refl w.heap.size w) (.cells #[.slice A0 l0.length c0, .slice A1 l1.length c1] 27))
  by_cases hz0 : checkL l0 = 0
  · rw [if_neg (by simpa using hz0)] at h
    have HK0 := Aside0.mk (chk A0 c0 l0)
    have h8 := check_eight hz0
    rw [hz0] at HK0
    clear hz0
    by_cases hz1 : checkL l1 = 0
    · rw [if_neg (by simpa using hz1)] at h
      have HK1 := Aside0.mk (chk A1 c1 l1)
      have h81 := check_eight hz1
      rw [hz1] at HK1
      clear hz1
      injection h with h
      injection h with h1 h2
      subst h2
      have H1 := Aside0.mk h1
      clear h1
      go_enter Tryd.func21, Tryd.ntmps21
      go_wp2_with fail
      refine wp_loop_rounds 3 ?_
      rw [rounds_succ]
      go_wp2_with fail
      refine (HK0.out _ (Kd.C_alloc HR0.out _) hc0).mono ?_
      rintro e w1 ⟨rfl, hb⟩
      have P1 := Aside0.mk (blk_below (blk_new w (.cells #[.slice A0 l0.length c0, .slice A1 l1.length c1] 27)) hb)
      have B1 := Aside0.mk (below_step B0.out hb)
      clear hb
      have hc1' : w1.cell? ⟨w.heap.size, 1, none⟩ = some (.slice A1 l1.length c1) := (blk_cell P1.out 1).trans rfl
      go_wp2_with fail
      rw [rounds_succ]
      go_wp2_with fail
      refine (HK1.out _ (Kd.C_below HR1.out B1.out) hc1).mono ?_
      rintro e w2 ⟨rfl, hb⟩
      have B2 := Aside0.mk (below_step B1.out hb)
      clear hb hc1'
      go_wp2_with fail
      rw [rounds_succ]
      go_wp2_with fail
      refine (compareFunc A0 c0 l0 A1 c1 l1 _ (Aside0.mk (Kd.C_below HR0.out B2.out)) (Aside0.mk (Kd.C_below HR1.out B2.out)) (by omega)).mono ?_
      rintro e w3 ⟨rfl, hb⟩
      have B3 := Aside0.mk (below_step B2.out hb)
      clear hb
      rw [H1.out]
      go_wp2_with fail
      go_ret2
      exact ⟨rfl, B3.out⟩
    · rw [if_pos hz1] at h
      have HK1 := Aside0.mk (chk A1 c1 l1)
      obtain ⟨q, hq⟩ : ∃ q, q = checkL l1 := ⟨_, rfl⟩
      rw [← hq] at HK1 hz1 h
      clear hq
      injection h with h
      injection h with h1 h2
      subst h1 h2
      have hz2 : (q != 0) = true := by simpa using hz1
      clear hz1
      go_enter Tryd.func21, Tryd.ntmps21
      go_wp2_with fail
      refine wp_loop_rounds 3 ?_
      rw [rounds_succ]
      go_wp2_with fail
      refine (HK0.out _ (Kd.C_alloc HR0.out _) hc0).mono ?_
      rintro e w1 ⟨rfl, hb⟩
      have P1 := Aside0.mk (blk_below (blk_new w (.cells #[.slice A0 l0.length c0, .slice A1 l1.length c1] 27)) hb)
      have B1 := Aside0.mk (below_step B0.out hb)
      clear hb
      have hc1' : w1.cell? ⟨w.heap.size, 1, none⟩ = some (.slice A1 l1.length c1) := (blk_cell P1.out 1).trans rfl
      go_wp2_with fail
      rw [rounds_succ]
      go_wp2_with fail
      refine (HK1.out _ (Kd.C_below HR1.out B1.out) hc1).mono ?_
      rintro e w2 ⟨rfl, hb⟩
      have B2 := Aside0.mk (below_step B1.out hb)
      clear hb hc1'
      go_wp2_with fail
      go_ret2
      exact ⟨rfl, B2.out⟩
  · rw [if_pos hz0] at h
    have HK0 := Aside0.mk (chk A0 c0 l0)
    obtain ⟨q, hq⟩ : ∃ q, q = checkL l0 := ⟨_, rfl⟩
    rw [← hq] at HK0 hz0 h
    clear hq
    injection h with h
    injection h with h1 h2
    subst h1 h2
    have hz2 : (q != 0) = true := by simpa using hz0
    clear hz0
    go_enter Tryd.func21, Tryd.ntmps21
    go_wp2_with fail
    refine wp_loop_rounds 3 ?_
    rw [rounds_succ]
    go_wp2_with fail
    refine (HK0.out _ (Kd.C_alloc HR0.out _) hc0).mono ?_
    rintro e w1 ⟨rfl, hb⟩
    have P1 := Aside0.mk (blk_below (blk_new w (.cells #[.slice A0 l0.length c0, .slice A1 l1.length c1] 27)) hb)
    have B1 := Aside0.mk (below_step B0.out hb)
    clear hb
    go_wp2_with fail
    go_ret2
    exact ⟨rfl, B1.out⟩
end Go.Proofs.YtdodfelbejkbiaaDoor.K
