/- keys.Check's answer in plain words; keys.Encode: its contract. -/
import Derived.Test.YtdodfelbejkbiaaDoorPut
import Derived.Test.YtdodfelbejkbiaaDoorKx3
import Derived.Test.YtdodfelbejkbiaaDoorEsc
import Derived.Test.YtdodfelbejkbiaaDoorHab
namespace Go.Proofs.YtdodfelbejkbiaaDoor.K
open Go Go.RowKit Go.Shelf Go.Proofs.YtdodfelbejkbiaaDoorW.PrintWords Go.Proofs.YtdodfelbejkbiaaDoorW.PrintLast Go.Proofs.YtdodfelbejkbiaaDoorW.PrintMore

/-- a part that holds what it does not use -/
def badP (p : S44) : Bool := (p.f0 && !p.f2.toList.isEmpty) || (!p.f0 && p.f1 != 0)
def checkL (l : List S44) : Int := if 8 < l.length then 3 else if l.any badP then 1 else 0
theorem wrap_next (n : Int) (h0 : 0 ≤ n) (h : n ≤ 140737488351232) : wrap64 (n + 1) = n + 1 := by unfold wrap64; omega
theorem rd_at (l : List S44) (n : Nat) (h : n < l.length) : rd_T44 l (n : Int) = l[n] := by simp [rd_T44, List.getD_eq_getElem?_getD, h]
theorem bare_is (p : S44) : ∃ a b c, keys_Part_bare.f p.f0 p.f1 p.f2 = some (a, b, c) ∧ (!(p.f0 == a) || (!(p.f1 == b) || (!(p.f2.toList == c.toList)))) = badP p := by
  obtain ⟨f, n, t⟩ := p
  unfold keys_Part_bare.f badP
  have e0 : (⟨#[]⟩ : ByteArray).toList = [] := by decide +kernel
  cases f with
  | true => exact ⟨true, n, ⟨#[]⟩, rfl, by rw [e0]; cases t.toList <;> simp⟩
  | false => exact ⟨false, 0, t, rfl, by simp [bne]⟩
theorem check_l0 (l : List S44) (hl : l.length ≤ 8) : ∀ (d k n : Nat), n + d = l.length → d < k → keys_Check.l0 k l (l.length : Int) (n : Int) = some (if (l.drop n).any badP then 1 else 0) := by
  intro d
  induction d with
  | zero =>
    intro k n hn hk
    obtain ⟨k, rfl⟩ : ∃ m, k = m + 1 := ⟨k - 1, by omega⟩
    simp only [keys_Check.l0]
    rw [if_neg (by omega), List.drop_of_length_le (by omega)]
    rfl
  | succ d ih =>
    intro k n hn hk
    obtain ⟨k, rfl⟩ : ∃ m, k = m + 1 := ⟨k - 1, by omega⟩
    obtain ⟨a, b, c, hb, hbad⟩ := bare_is l[n]
    simp only [keys_Check.l0]
    rw [if_pos (by omega), if_pos (by omega), if_pos (by omega), rd_at l n (by omega), hb]
    simp only [Option.bind_some]
    rw [hbad, wrap_next _ (by omega) (by omega), show ((n : Int) + 1) = ((n + 1 : Nat) : Int) by omega, ih k (n + 1) (by omega) (by omega)]
    rw [List.drop_eq_getElem_cons (show n < l.length by omega), List.any_cons]
    cases badP l[n] <;> simp
theorem check_is (l : List S44) (k : Nat) (hk : 9 < k) : keys_Check.f k l = some (checkL l) := by
  unfold keys_Check.f checkL
  by_cases h : 8 < l.length
  · rw [if_pos (by omega), if_pos h]
  · rw [if_neg (by omega), if_neg h]
    have := check_l0 l (by omega) l.length k 0 (by omega) (by omega)
    exact this
/-- a number as it is written: the sign turned -/
def mOf (n : Int) : Nat := (Go.bits .xor .u64 (IntKind.u64.wrap n) 9223372036854775808).toNat
theorem mOf_is (n : Int) : Go.bits .xor .u64 (IntKind.u64.wrap n) 9223372036854775808 = (mOf n : Int) := by
  unfold mOf
  have h : IntKind.u64.wrap n = (((n % 18446744073709551616).toNat : Nat) : Int) := by rw [IntKind.wrap_u64]; omega
  rw [h]
  have e := bits_xor_u64_nat (n % 18446744073709551616).toNat 9223372036854775808 (by omega) (by decide)
  have e2 : ((9223372036854775808 : Nat) : Int) = 9223372036854775808 := rfl
  rw [e2] at e
  rw [e]
  rfl
def encPart (p : S44) : List UInt8 := if p.f0 = true then 17 :: octets (mOf p.f1) 8 else 34 :: (esc p.f2.data.toList ++ [0, 1])
def encL : List S44 → List UInt8
  | [] => []
  | p :: l => encPart p ++ encL l
theorem encL_snoc (l : List S44) (p : S44) : encL (l ++ [p]) = encL l ++ encPart p := by
  induction l with
  | nil => simp [encL]
  | cons q l ih => simp [encL, ih]
def keys_Encode.f (l : List S44) : Option (ByteArray × Int) :=
  if checkL l = 0 then (if l.all (fun p => decide (p.f2.size ≤ 2097152)) then some (⟨(encL l).toArray⟩, 0) else none) else some (⟨#[]⟩, checkL l)
theorem put_part (p : S44) (v : Value) (l : List UInt8) (B : Nat) (w : World) (hown : Aside0 (OwnB B v l w)) (hB : B ≤ w.heap.size) (hB0 : 0 < B) (hl : l.length ≤ 70368744177664) (hm : Aside0 (HasMax w)) (ht : p.f2.size ≤ 2097152) :
    Calls Tryd.prog 23 #[.agg #[.bool p.f0, .int .i64 p.f1, .string p.f2], v] w (PutPost B (l ++ encPart p) w) := by
  obtain ⟨f, n, t⟩ := p
  cases f with
  | true =>
    have e : encPart ⟨true, n, t⟩ = 17 :: octets (mOf n) 8 := rfl
    rw [e]
    exact put_num n t v l B (mOf n) w hown hB hl (mOf_is n)
  | false =>
    have e : encPart ⟨false, n, t⟩ = 34 :: (esc t.data.toList ++ [0, 1]) := rfl
    rw [e]
    have ht' : t.size ≤ 2097152 := ht
    have h1 := Lib.countB_mul_le ⟨#[0]⟩ (by decide) t.size t (Nat.le_refl _)
    have h2 : (⟨#[0]⟩ : ByteArray).size = 1 := rfl
    have h3 := (escD_length t.data.toList).1
    rw [size_list] at h3
    refine put_text n t v l B w hown hB hB0 hl hm (by omega) ⟨by rw [h2] at h1; omega⟩ ⟨?_⟩
    have e2 : esc t.data.toList = escD t.data.toList := esc_is _
    rw [e2]
    omega
theorem encPart_length (p : S44) (h : p.f2.size ≤ 2097152) : (encPart p).length ≤ 4194307 := by
  obtain ⟨f, n, t⟩ := p
  have ht' : t.size ≤ 2097152 := h
  have h3 := (escD_length t.data.toList).1
  rw [size_list] at h3
  have e2 : esc t.data.toList = escD t.data.toList := esc_is _
  unfold encPart
  cases f with
  | true => rw [if_pos rfl]; simp [octets]
  | false => rw [if_neg (fun h => by cases h), e2]; simp; omega
theorem encL_length : ∀ (l : List S44), (∀ p ∈ l, p.f2.size ≤ 2097152) → (encL l).length ≤ 4194307 * l.length
  | [], _ => by simp [encL]
  | p :: l, h => by
    have h1 := encPart_length p (h p (by simp))
    have h2 := encL_length l (fun q hq => h q (by simp [hq]))
    rw [encL, List.length_append, List.length_cons]
    omega
theorem conv_bytes {w : World} {B : Nat} {v : Value} {l : List UInt8} (h : OwnB B v l w) : (convert 51 9 v).run Tryd.prog w = .ok (.string ⟨l.toArray⟩) w := by
  rcases h.2 with ⟨rfl, hn⟩ | ⟨g, cap, cur, rfl, _⟩
  · rw [run_convert_bytes_nil w 51 5 Tryd.underlying51 Tryd.underlying5 0 0 9 Tryd.underlying9]
    rw [Lib.byteCells_length] at hn
    obtain rfl : l = [] := List.eq_nil_of_length_eq_zero hn
    rfl
  · have k := run_convert_bytes_arg (P := Tryd.prog) w 51 5 Tryd.underlying51 Tryd.underlying5 g 0 (Lib.byteCells l).length cap (l.map fun b => (b.toNat : Int)) (by rw [Lib.byteCells_length]; simp) (fun i hi => by
      rw [Nat.zero_add, World.ownsRow.cellAt h i (by omega)]
      rw [Lib.byteCells_length] at hi
      simp [Lib.byteCells, List.getD_eq_getElem?_getD, hi]) 9 Tryd.underlying9
    rw [strOf_bytes] at k
    exact k
set_option maxHeartbeats 400000 in
set_option maxRecDepth 100000 in
theorem keys_Encode.calls (A0 : Option Addr) (c0 : Nat) (l0 : List S44) (r1 : ByteArray) (r2 : Int) (w : World) (hr0 : Kd.C k44 w A0 l0.length l0) (hc0 : l0.length ≤ c0) (h : keys_Encode.f l0 = some (r1, r2)) (hm : HasMax w) :
    Calls Tryd.prog 12 #[.slice A0 l0.length c0] w fun e w' => e = .returned (.tuple #[.string r1, .int .i64 r2]) ∧ Below w.heap.size w w' := by
  have HM := Aside0.mk hm
  have h0 : 0 < w.heap.size := by obtain ⟨m, hm⟩ := hm; exact World.block_lt_of_cell? w _ hm
  have HR0 := Aside0.mk hr0
  have hchk := Aside0.mk (fun W hW => keys_Check.calls 10 A0 c0 l0 (checkL l0) W hW hc0 (check_is l0 10 (by decide)))
  clear hm hr0
  unfold keys_Encode.f at h
  by_cases hz : checkL l0 = 0
  · rw [if_pos hz] at h
    have h8 : l0.length ≤ 8 := by
      rcases Nat.lt_or_ge 8 l0.length with h8 | h8
      · unfold checkL at hz; rw [if_pos h8] at hz; cases hz
      · exact h8
    by_cases hall : l0.all (fun p => decide (p.f2.size ≤ 2097152)) = true
    · rw [if_pos hall] at h
      have hsz := Aside0.mk (fun p (hp : p ∈ l0) => of_decide_eq_true (List.all_eq_true.1 hall p hp))
      clear hall
      injection h with h
      injection h with h1 h2
      subst h2
      have H1 := Aside0.mk h1
      clear h1
      rw [hz] at hchk
      clear hz
      go_enter Tryd.func12, Tryd.ntmps12
      go_wp2_with fail
      refine (hchk.out _ HR0.out).mono ?_
      rintro e w1 ⟨rfl, hb⟩
      have B1 := Aside0.mk hb
      clear hb
      go_wp2_with fail
      go_loopw [5, 15] (fun v5 v15 wr => ∃ n : Nat, n ≤ l0.length ∧ v15 = .int .i64 n ∧ (∃ ao cv N, v5 = .slice ao N cv) ∧ Aside0 (OwnB w.heap.size v5 (encL (l0.take n)) wr) ∧ Aside0 (Below w.heap.size w wr)) (fun _ v _ => l0.length - (intOf v).toNat)
      case atStart => exact ⟨0, Nat.zero_le _, rfl, ⟨none, 0, 0, rfl⟩, ⟨World.ownsRow_nil _ _ _ _⟩, B1⟩
      case round =>
        clear B1
        obtain ⟨n, hn, rfl, ⟨ao, cv, N, rfl⟩, hO, hB⟩ := hrel
        by_cases hlt : n < l0.length
        · obtain ⟨ad, e, hx0, hx1, hx2⟩ := at_T44 HR0.out (n : Int) (by omega) (by omega)
          cases e
          replace hx0 := (hB.out.cell (World.block_lt_of_cell? w _ hx0)).trans hx0
          replace hx1 := (hB.out.cell (World.block_lt_of_cell? w _ hx1)).trans hx1
          replace hx2 := (hB.out.cell (World.block_lt_of_cell? w _ hx2)).trans hx2
          rw [rd_at l0 n hlt] at hx0 hx1 hx2
          simp only [Int.toNat_natCast] at hx0 hx1 hx2
          have hp := hsz.out l0[n] (List.getElem_mem hlt)
          have htk : l0.take (n + 1) = l0.take n ++ [l0[n]] := List.take_succ_eq_append_getElem hlt
          have HT := Aside0.mk (show encL (l0.take (n + 1)) = encL (l0.take n) ++ encPart l0[n] by rw [htk, encL_snoc])
          have hlen : (encL (l0.take n)).length ≤ 70368744177664 := by
            have h1 := encL_length (l0.take n) (fun p hp => hsz.out p (List.mem_of_mem_take hp))
            rw [List.length_take] at h1
            omega
          clear htk
          obtain ⟨p, hpp⟩ : ∃ p, p = l0[n] := ⟨_, rfl⟩
          rw [← hpp] at hx0 hx1 hx2 hp HT
          clear hpp
          have p0 : (0 : Int) ≤ (n : Int) := by omega
          have hbw : w.heap.size ≤ wr.heap.size := hB.out.size
          go_wp2_with fail
          refine (put_part p (.slice ao N cv) (encL (l0.take n)) w.heap.size _ (Aside0.mk (own_alloc hO.out _)) (by rw [World.size_alloc]; omega) h0 hlen (Aside0.mk (HM.out.below (below_alloc hB.out _) h0)) hp).mono ?_
          rintro e w3 ⟨v3, rfl, ho3, hb3⟩
          have HO3 := Aside0.mk (show OwnB w.heap.size v3 (encL (l0.take (n + 1))) w3 from by rw [HT.out]; exact ho3)
          have HB3 := Aside0.mk ((below_alloc hB.out (.cells #[.bool p.f0, .int .i64 p.f1, .string p.f2] 44)).trans hb3)
          obtain ⟨ao3, cv3, rfl⟩ := ownB_slice ho3
          clear ho3 hb3
          go_wp2_with fail
          go_roundw
          case rel => exact ⟨n + 1, by omega, by go_num, ⟨ao3, cv3, _, rfl⟩, HO3, HB3⟩
          case measure => simp [intOf]; omega
        · obtain rfl : n = l0.length := by omega
          have hcv := conv_bytes hO.out
          rw [List.take_of_length_le (Nat.le_refl _), H1.out] at hcv
          go_wp2_with fail
          go_ret2
          exact ⟨rfl, hB.out⟩
    · rw [if_neg hall] at h; cases h
  · rw [if_neg hz] at h
    injection h with h
    injection h with h1 h2
    subst h1
    obtain ⟨q, hq⟩ : ∃ q, q = checkL l0 := ⟨_, rfl⟩
    rw [← hq] at hchk hz h2
    subst h2
    clear hq
    have hz1 : (q != 0) = true := by simpa using hz
    go_enter Tryd.func12, Tryd.ntmps12
    go_wp2_with fail
    refine (hchk.out _ HR0.out).mono ?_
    rintro e w1 ⟨rfl, hb⟩
    go_wp2_with fail
    go_ret2
    exact ⟨rfl, hb⟩
end Go.Proofs.YtdodfelbejkbiaaDoor.K
