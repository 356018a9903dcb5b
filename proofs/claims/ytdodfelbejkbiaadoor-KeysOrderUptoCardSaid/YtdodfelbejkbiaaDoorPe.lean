/- Plain: two lists of parts compared: the program's way and the page's are one; the laws of comparing, telling, owning. -/
import Derived.Test.YtdodfelbejkbiaaDoorPd
namespace Go.Proofs.YtdodfelbejkbiaaDoor.K
open Go Go.RowKit Go.Shelf Go.Proofs.YtdodfelbejkbiaaDoorW.PrintWords Go.Proofs.YtdodfelbejkbiaaDoorW.PrintLast Go.Proofs.YtdodfelbejkbiaaDoorW.PrintMore

theorem good_num {p : S44} (h : badP p = false) (hf : p.f0 = true) : p.f2.toList = [] := by
  unfold badP at h
  rw [hf] at h
  cases hq : p.f2.toList with
  | nil => rfl
  | cons a b => rw [hq] at h; simp at h
theorem good_text {p : S44} (h : badP p = false) (hf : p.f0 = false) : p.f1 = 0 := by
  unfold badP at h
  rw [hf] at h
  simpa using h
theorem one_is (k : Nat) (p q : S44) (hp : badP p = false) (hq : badP q = false) : ticklerref02_one.f (k + 3) p.f0 p.f1 p.f2 q.f0 q.f1 q.f2 = some (ordP p q) := by
  have e1 : ∀ (k : Nat) (b1 : Bool) (n1 : Int) (t1 : ByteArray) (b2 : Bool) (n2 : Int) (t2 : ByteArray), ticklerref02_one.j1 (k + 1) true b1 n1 t1 b2 n2 t2 = some (-1) := by
    intros; rw [ticklerref02_one.j1, if_pos rfl]
  have e2 : ∀ (k : Nat) (b1 : Bool) (n1 : Int) (t1 : ByteArray) (b2 : Bool) (n2 : Int) (t2 : ByteArray), ticklerref02_one.j1 (k + 1) false b1 n1 t1 b2 n2 t2 = some (if (b1 == b2 && (n1 == n2 && (t1.toList == t2.toList))) = true then 0 else 1) := by
    intros; rw [ticklerref02_one.j1, if_neg (by decide)]; split <;> rfl
  unfold ticklerref02_one.f ordP
  cases hpf : p.f0 with
  | true =>
    have tp := good_num hp hpf
    rw [if_pos rfl]
    cases hqf : q.f0 with
    | true =>
      have tq := good_num hq hqf
      rw [ticklerref02_one.j0, if_neg (by decide), if_pos rfl, if_pos rfl, if_neg (show ¬ (true != true) = true by decide)]
      unfold cmpInt cmpStr
      by_cases hlt : p.f1 < q.f1
      · rw [if_pos hlt, decide_eq_true hlt, e1, if_pos hlt, if_neg (by decide)]
      · rw [if_neg hlt, e2, if_neg hlt, tp, tq]
        by_cases hgt : q.f1 < p.f1
        · have hne : (p.f1 == q.f1) = false := by rw [beq_eq_false_iff_ne]; omega
          rw [if_pos hgt, hne, if_neg (by decide)]; rfl
        · have heq : p.f1 = q.f1 := by omega
          rw [if_neg hgt, heq]; simp; rfl
    | false =>
      rw [ticklerref02_one.j0, if_pos (by rfl), Bool.not_false, e1, if_pos (by decide), if_pos rfl]
  | false =>
    have np := good_text hp hpf
    rw [if_neg (by decide)]
    cases hqf : q.f0 with
    | true =>
      rw [ticklerref02_one.j0, if_neg (by decide), if_neg (by decide), if_pos rfl, e2]
      rfl
    | false =>
      have nq := good_text hq hqf
      rw [ticklerref02_one.j0, if_neg (by decide), if_neg (by decide), if_neg (by decide), if_neg (show ¬ (false != false) = true by decide), np, nq]
      have hc : cmpInt 0 0 = 0 := by decide
      rw [hc, if_pos rfl]
      unfold cmpStr
      by_cases hlt : Op.bytesLess p.f2.toList q.f2.toList = true
      · rw [hlt, e1, if_pos rfl]
      · have hlf : Op.bytesLess p.f2.toList q.f2.toList = false := by simpa using hlt
        rw [hlf, e2, if_neg (show ¬ (false = true) by decide)]
        by_cases hgt : Op.bytesLess q.f2.toList p.f2.toList = true
        · rw [if_pos hgt, less_ne hgt, if_neg (by simp)]
        · have hgf : Op.bytesLess q.f2.toList p.f2.toList = false := by simpa using hgt
          rw [if_neg hgt, less_eq hlf hgf]
          rfl
theorem check_good {l : List S44} (h : checkL l = 0) : ∀ p ∈ l, badP p = false := by
  intro p hp
  have h8 := check_eight h
  unfold checkL at h
  rw [if_neg (by omega)] at h
  cases hb : badP p with
  | false => rfl
  | true =>
    have : l.any badP = true := List.any_eq_true.2 ⟨p, hp, hb⟩
    rw [this] at h
    simp at h
theorem rcompare_l0 (a b : List S52) (ha : a.length ≤ 8) (hb : b.length ≤ 8) (ga : ∀ p ∈ a.map to44, badP p = false) (gb : ∀ p ∈ b.map to44, badP p = false) : ∀ (d k n : Nat), n + d = a.length → n ≤ b.length → 2 * d + 6 ≤ k →
    ticklerref02_Compare.l0 k a b (n : Int) = some (cmpL ((a.map to44).drop n) ((b.map to44).drop n), 0) := by
  intro d
  have la : (a.map to44).length = a.length := List.length_map _
  have lb : (b.map to44).length = b.length := List.length_map _
  induction d with
  | zero =>
    intro k n hn hnb hk
    obtain ⟨k, rfl⟩ : ∃ m, k = m + 1 + 1 := ⟨k - 2, by omega⟩
    simp only [ticklerref02_Compare.l0]
    rw [if_neg (by omega)]
    simp only [ticklerref02_Compare.j1]
    rw [if_neg (by decide), List.drop_of_length_le (show (a.map to44).length ≤ n by omega)]
    by_cases hlt : n < b.length
    · rw [if_pos (by omega), List.drop_eq_getElem_cons (show n < (b.map to44).length by omega)]; rfl
    · rw [if_neg (by omega), if_neg (by omega), List.drop_of_length_le (show (b.map to44).length ≤ n by omega)]; rfl
  | succ d ih =>
    intro k n hn hnb hk
    obtain ⟨k, rfl⟩ : ∃ m, k = m + 3 + 1 + 1 := ⟨k - 5, by omega⟩
    simp only [ticklerref02_Compare.l0]
    rw [if_pos (by omega)]
    simp only [ticklerref02_Compare.j1]
    rw [List.drop_eq_getElem_cons (show n < (a.map to44).length by omega), List.getElem_map]
    by_cases hlt : n < b.length
    · rw [decide_eq_true (show (n : Int) < (b.length : Int) by omega), if_pos rfl, if_pos (by omega), if_pos (by omega), if_pos (by omega), rd52 a n (by omega), rd52 b n hlt]
      have h := one_is k (to44 a[n]) (to44 b[n]) (ga _ (List.mem_map.2 ⟨a[n], List.getElem_mem _, rfl⟩)) (gb _ (List.mem_map.2 ⟨b[n], List.getElem_mem _, rfl⟩))
      have h' : ticklerref02_one.f (k + 3) a[n].f0 a[n].f1 a[n].f2 b[n].f0 b[n].f1 b[n].f2 = some (ordP (to44 a[n]) (to44 b[n])) := h
      rw [h']
      simp only [Option.bind_some]
      rw [List.drop_eq_getElem_cons (show n < (b.map to44).length by omega), List.getElem_map, cmpL, w_one (by omega)]
      by_cases hz : ordP (to44 a[n]) (to44 b[n]) = 0
      · rw [if_pos hz, if_pos hz]
        exact ih (k + 3) (n + 1) (by omega) (by omega) (by omega)
      · rw [if_neg hz, if_neg hz]
    · rw [decide_eq_false (show ¬ (n : Int) < (b.length : Int) by omega), if_neg (by decide), if_neg (by omega), if_pos (by omega), List.drop_of_length_le (show (b.map to44).length ≤ n by omega)]
      rfl
theorem compare_same (a b : List S52) (k : Nat) (hk : 100 ≤ k) : ∃ r, keys_Compare.f (a.map to44) (b.map to44) = some r ∧ ticklerref02_Compare.f k a b = some r := by
  unfold keys_Compare.f ticklerref02_Compare.f
  rw [rcheck_is a k (by omega), rcheck_is b k (by omega)]
  simp only [Option.bind_some]
  by_cases ha : checkL (a.map to44) = 0
  · rw [if_neg (by simpa using ha), if_pos ha]
    by_cases hb : checkL (b.map to44) = 0
    · rw [if_neg (by simpa using hb), if_pos hb]
      have ha8 := check_eight ha
      have hb8 := check_eight hb
      rw [List.length_map] at ha8 hb8
      have h := rcompare_l0 a b ha8 hb8 (check_good ha) (check_good hb) a.length k 0 (by omega) (Nat.zero_le _) (by omega)
      exact ⟨_, rfl, h⟩
    · rw [if_pos hb, if_neg hb]
      exact ⟨_, rfl, rfl⟩
  · rw [if_pos ha, if_neg ha]
    exact ⟨_, rfl, rfl⟩
theorem alive_true : ticklerlaw02_alive.f = some true := by decide +kernel
theorem law_compares (a b : List S52) (ha : a.length < 4398046511104) (hb : b.length < 4398046511104) : ticklerlaw02_KeysCompares.f (a.length + b.length + 100) a b = some true := by
  unfold ticklerlaw02_KeysCompares.f
  obtain ⟨r, h1, h2⟩ := compare_same a b (a.length + b.length + 100) (by omega)
  rw [of_is a ha _ (by omega), of_is b hb _ (by omega)]
  simp only [Option.bind_some]
  rw [h1, h2, same_of a (by omega) _ (by omega), same_of b (by omega) _ (by omega), alive_true]
  simp only [Option.bind_some, ticklerlaw02_num.f, if_true]
end Go.Proofs.YtdodfelbejkbiaaDoor.K
