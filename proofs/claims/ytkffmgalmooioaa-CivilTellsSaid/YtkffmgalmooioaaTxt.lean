/- The text of a moment, octet by octet; texts are ordered as their numbers are. -/
import Derived.Test.YtkffmgalmooioaaText
namespace Go.Proofs.Ytkffmgalmooioaa.Txt
open Go Go.RowKit Go.Proofs.Ytkffmgalmooioaa.Civ Go.Proofs.YtkffmgalmooioaaW.PrintWords

/-- all k digits of n, zeros too -/
def putA : Nat → List Int → Int → Int → List Int
  | 0, cs, _, _ => cs
  | k + 1, cs, e, n => putA k (cs.set e.toNat (rd cs e + n % 10)) (e - 1) (n / 10)
theorem putA_zero : ∀ (k : Nat) (cs : List Int) (e : Int), putA k cs e 0 = cs
  | 0, _, _ => rfl
  | k + 1, cs, e => by
    unfold putA
    have h : cs.set e.toNat (rd cs e + 0 % 10) = cs := by
      have z : rd cs e + 0 % 10 = cs.getD e.toNat 0 := by unfold rd; simp
      rw [z]
      by_cases c : e.toNat < cs.length
      · rw [List.getD_eq_getElem?_getD, List.getElem?_eq_getElem c, Option.getD_some, List.set_getElem_self]
      · exact List.set_eq_of_length_le (by omega)
    rw [h]
    exact putA_zero k cs (e - 1)
theorem putF_putA : ∀ (k : Nat) (cs : List Int) (e n : Int), 0 ≤ n → putF k cs e n = putA k cs e n
  | 0, _, _, _, _ => rfl
  | k + 1, cs, e, n, hn => by
    unfold putF
    split
    · unfold putA
      exact putF_putA k _ _ _ (by omega)
    · obtain rfl : n = 0 := by omega
      exact (putA_zero (k + 1) cs e).symm
/-- two digits -/
def two (n : Int) : List Int := [48 + n / 10 % 10, 48 + n % 10]
def four (n : Int) : List Int := [48 + n / 10 / 10 / 10 % 10, 48 + n / 10 / 10 % 10, 48 + n / 10 % 10, 48 + n % 10]
theorem txtL_is (y m d h i s : Int) (hy : 0 ≤ y) (hm : 0 ≤ m) (hd : 0 ≤ d) (hh : 0 ≤ h) (hi : 0 ≤ i) (hs : 0 ≤ s) :
    txtL y m d h i s = four y ++ 45 :: (two m ++ 45 :: (two d ++ 32 :: (two h ++ 58 :: (two i ++ 58 :: two s)))) := by
  unfold txtL
  rw [putF_putA _ _ _ _ hy, putF_putA _ _ _ _ hm, putF_putA _ _ _ _ hd, putF_putA _ _ _ _ hh, putF_putA _ _ _ _ hi, putF_putA _ _ _ _ hs]
  rfl
/-- the lesser of two lists of numbers -/
def lexI : List Int → List Int → Bool
  | _, [] => false
  | [], _ :: _ => true
  | a :: l, b :: m => decide (a < b) || (a == b && lexI l m)
def Oc (l : List Int) : Prop := ∀ x ∈ l, 0 ≤ x ∧ x ≤ 255
def byt (n : Int) : UInt8 := UInt8.ofNat n.toNat
theorem byt_nat {a : Int} (h : 0 ≤ a ∧ a ≤ 255) : (byt a).toNat = a.toNat := by
  unfold byt
  rw [UInt8.toNat_ofNat']
  omega
theorem byt_lt {a b : Int} (ha : 0 ≤ a ∧ a ≤ 255) (hb : 0 ≤ b ∧ b ≤ 255) : decide (byt a < byt b) = decide (a < b) := by
  rw [decide_eq_decide, UInt8.lt_iff_toNat_lt, byt_nat ha, byt_nat hb]; omega
theorem byt_eq {a b : Int} (ha : 0 ≤ a ∧ a ≤ 255) (hb : 0 ≤ b ∧ b ≤ 255) : (byt a == byt b) = (a == b) := by
  rw [Bool.eq_iff_iff, beq_iff_eq, beq_iff_eq, ← UInt8.toNat_inj, byt_nat ha, byt_nat hb]; omega
theorem less_lex : ∀ (l m : List Int), Oc l → Oc m → Op.bytesLess (l.map byt) (m.map byt) = lexI l m
  | l, [], _, _ => by cases l <;> rfl
  | [], _ :: _, _, _ => rfl
  | a :: l, b :: m, hl, hm => by
    show (decide (byt a < byt b) || (byt a == byt b && Op.bytesLess (l.map byt) (m.map byt))) = lexI (a :: l) (b :: m)
    rw [byt_lt (hl a (by simp)) (hm b (by simp)), byt_eq (hl a (by simp)) (hm b (by simp)), less_lex l m (fun x hx => hl x (by simp [hx])) (fun x hx => hm x (by simp [hx]))]
    rfl
theorem lex_self : ∀ l, lexI l l = false
  | [] => rfl
  | a :: l => by simp [lexI, lex_self l]
theorem lex_same (x : Int) (l m : List Int) : lexI (x :: l) (x :: m) = lexI l m := by simp [lexI]
theorem lex_lt {a b : Int} (h : a < b) (l m : List Int) : lexI (a :: l) (b :: m) = true := by simp [lexI, h]
theorem two_lt {n p : Int} (h0 : 0 ≤ n) (h : n < p) (h1 : p < 100) (l m : List Int) : lexI (two n ++ l) (two p ++ m) = true := by
  unfold two
  by_cases c : n / 10 % 10 < p / 10 % 10
  · exact lex_lt (by omega) _ _
  · rw [show n / 10 % 10 = p / 10 % 10 by omega]
    show lexI (_ :: (_ :: l)) (_ :: (_ :: m)) = true
    rw [lex_same]
    exact lex_lt (by omega) _ _
theorem two_same (n : Int) (l m : List Int) : lexI (two n ++ l) (two n ++ m) = lexI l m := by
  show lexI (_ :: (_ :: l)) (_ :: (_ :: m)) = _
  rw [lex_same, lex_same]
theorem four_lt {n p : Int} (h0 : 0 ≤ n) (h : n < p) (h1 : p < 10000) (l m : List Int) : lexI (four n ++ l) (four p ++ m) = true := by
  unfold four
  show lexI (_ :: (_ :: (_ :: (_ :: l)))) (_ :: (_ :: (_ :: (_ :: m)))) = true
  by_cases c : n / 10 / 10 / 10 % 10 < p / 10 / 10 / 10 % 10
  · exact lex_lt (by omega) _ _
  rw [show n / 10 / 10 / 10 % 10 = p / 10 / 10 / 10 % 10 by omega, lex_same]
  by_cases c2 : n / 10 / 10 % 10 < p / 10 / 10 % 10
  · exact lex_lt (by omega) _ _
  rw [show n / 10 / 10 % 10 = p / 10 / 10 % 10 by omega, lex_same]
  by_cases c3 : n / 10 % 10 < p / 10 % 10
  · exact lex_lt (by omega) _ _
  rw [show n / 10 % 10 = p / 10 % 10 by omega, lex_same]
  exact lex_lt (by omega) _ _
theorem four_same (n : Int) (l m : List Int) : lexI (four n ++ l) (four n ++ m) = lexI l m := by
  show lexI (_ :: (_ :: (_ :: (_ :: l)))) (_ :: (_ :: (_ :: (_ :: m)))) = _
  rw [lex_same, lex_same, lex_same, lex_same]
theorem two_oc (n : Int) : Oc (two n) := by
  intro x hx
  simp only [two, List.mem_cons, List.mem_nil_iff, or_false] at hx
  rcases hx with rfl | rfl <;> omega
theorem four_oc (n : Int) : Oc (four n) := by
  intro x hx
  simp only [four, List.mem_cons, List.mem_nil_iff, or_false] at hx
  rcases hx with rfl | rfl | rfl | rfl <;> omega
theorem oc_app {l m : List Int} (h : Oc l) (k : Oc m) : Oc (l ++ m) := fun x hx => (List.mem_append.1 hx).elim (h x) (k x)
theorem oc_cons {a : Int} {m : List Int} (h : 0 ≤ a ∧ a ≤ 255) (k : Oc m) : Oc (a :: m) := fun x hx => by
  rcases List.mem_cons.1 hx with rfl | hx
  · exact h
  · exact k x hx
theorem txt_oc (y m d h i s : Int) : Oc (four y ++ 45 :: (two m ++ 45 :: (two d ++ 32 :: (two h ++ 58 :: (two i ++ 58 :: two s))))) :=
  oc_app (four_oc y) (oc_cons (by decide) (oc_app (two_oc m) (oc_cons (by decide) (oc_app (two_oc d) (oc_cons (by decide) (oc_app (two_oc h) (oc_cons (by decide) (oc_app (two_oc i) (oc_cons (by decide) (two_oc s))))))))))
theorem str_list (l : List Int) : (strOfNums l).toList = l.map byt := by rw [ByteArray.toList_eq]; rfl
theorem bytesLess_asym : ∀ (l m : List UInt8), Op.bytesLess l m = true → Op.bytesLess m l = false
  | _, [], h => by cases ‹List UInt8› <;> cases h
  | [], _ :: _, _ => rfl
  | a :: l, b :: m, h => by
    have h' : (decide (a < b) || (a == b && Op.bytesLess l m)) = true := h
    show (decide (b < a) || (b == a && Op.bytesLess m l)) = false
    rw [Bool.or_eq_true, decide_eq_true_eq, Bool.and_eq_true, beq_iff_eq] at h'
    rw [Bool.or_eq_false_iff, decide_eq_false_iff_not, Bool.and_eq_false_iff]
    rcases h' with h1 | ⟨rfl, h2⟩
    · rw [UInt8.lt_iff_toNat_lt] at h1
      refine ⟨by rw [UInt8.lt_iff_toNat_lt]; omega, .inl ?_⟩
      rw [beq_eq_false_iff_ne]
      intro e
      rw [e] at h1
      exact Nat.lt_irrefl _ h1
    · exact ⟨by rw [UInt8.lt_iff_toNat_lt]; omega, .inr (bytesLess_asym l m h2)⟩
end Go.Proofs.Ytkffmgalmooioaa.Txt
