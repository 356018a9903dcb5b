/- A []Part argument, opened to its list. -/
import Derived.Test.YtdodfelbejkbiaaDoorPe
import Derived.Deep.Slices
import Derived.Deep.Fields
import Derived.ChangeSame
namespace Go.Proofs.YtdodfelbejkbiaaDoor.Arg
open Go.ChangeShapes Go.WideShapes Go.Deep
section
variable {H : Type} {enc : TypeId × Value → H} {P : Program} {w : World} {base : Nat} {spare : Nat → Bool} {held : Bool}
theorem open_slice_fields {t e : TypeId} {fs : Array Field} {fuel : Nat} {cs : List Value} {x : DataW H × List MemPlace} (ht : P.underlying t = some (.slice e)) (he : P.underlying e = some (.struct fs))
    (hone : oneCellFields P fs = true) (hC : P.cellsOf e = fs.size) (h : DataW.trod enc P w base spare held fuel t cs = some x) :
    (cs = [.slice none 0 0] ∧ x = (.nil, [])) ∨
    ∃ (a : Addr) (len cap m : Nat) (D : Nat → DataW H) (Pl : Nat → List MemPlace), cs = [.slice (some a) len cap] ∧ base ≤ a.block ∧ len ≤ cap ∧ cap ≤ maxLen ∧ m = (if spare a.block then cap else len) ∧
      x = (.slice ((List.range len).map D) ((List.range (m - len)).map fun j => D (len + j)), MemPlace.row a (m * fs.size) ++ (List.range m).flatMap Pl) ∧
      ∀ i, i < m → ∃ (ys : List (DataW H × List MemPlace)) (n : Nat), D i = .agg (ys.map (·.1)) ∧ Pl i = ys.flatMap (·.2) ∧ ys.length = fs.size ∧
        ∀ (j : Nat) (f : Field), fs[j]? = some f → ∃ (v : Value) (y : DataW H × List MemPlace), w.cell? (a.add (i * fs.size + j)) = some v ∧ ys[j]? = some y ∧ DataW.trod enc P w base spare held n f.type [v] = some y := by
  rcases open_slice ht h with h0 | ⟨a, len, cap, m, n, D, Pl, hcs, hb, hl, hm, hmm, hx, hi⟩
  · exact .inl h0
  · refine .inr ⟨a, len, cap, m, D, Pl, hcs, hb, hl, hm, hmm, by rw [hC] at hx; exact hx, fun i him => ?_⟩
    obtain ⟨cs', hc, ht'⟩ := hi i him
    rw [hC] at hc
    obtain ⟨ys, n', hn', hy, hlen, hyl, hf⟩ := DataW.trod_struct he ht'
    obtain ⟨_, hcl, hat⟩ := World.cells?_some hc
    simp only [Prod.mk.injEq] at hy
    refine ⟨ys, n', hy.1, hy.2, hyl, fun j f hj => ?_⟩
    obtain ⟨ho, hk⟩ := hone_of hone j f hj
    have hjl : j < fs.size := (Array.getElem?_eq_some_iff.1 hj).1
    have hcell := hat j hjl
    have hv : cs'[j]? = some (cs'[j]'(by omega)) := List.getElem?_eq_getElem (by omega)
    have h1 := hf j f hj
    rw [ho, hk] at h1
    have hone' : (cs'.drop j).take 1 = [cs'[j]'(by omega)] := by
      rw [List.drop_eq_getElem_cons (by omega)]
      rfl
    rw [hone'] at h1
    have hys : ys[j]? = some (ys[j]'(by omega)) := List.getElem?_eq_getElem (by omega)
    refine ⟨_, _, ?_, hys, h1.trans hys⟩
    rw [← Go.Deep.add_add, hcell, hv]
end
open K Go.Proofs.YtdodfelbejkbiaaDoorW.PrintWords
def partD {H : Type} (p : S52) : DataW H := .agg [.lit (.bool p.f0), .lit (.int .i64 p.f1), .lit (.string p.f2.data.toList)]
theorem i64_bd {n : Int} (h : (Lit.int .i64 n).wf = true) : I64 n := by
  have hm : IntKind.i64.min = -9223372036854775808 := rfl
  have hM : IntKind.i64.max = 9223372036854775807 := rfl
  simp [Lit.wf, hm, hM] at h
  exact ⟨by omega, by omega⟩
set_option maxRecDepth 100000 in
/-- the argument's list, as the contracts read it -/
theorem open_parts {H : Type} {enc : TypeId × Value → H} {w : World} {r : Reach} {b0 : Nat} {v : Value} {d : DataW H} {ps : List MemPlace} {spare : Nat → Bool} {held : Bool} {base : Nat}
    (hv : Value.okWide Tryd.prog w r b0 26 v) (h : DataW.Trod enc Tryd.prog w base spare held 26 v d ps) :
    ∃ (A : Option Addr) (l : List S52) (c : Nat) (sp : List (DataW H)), v = .slice A l.length c ∧ Kd.C k52 w A l.length l ∧ l.length ≤ c ∧ ((l = [] ∧ d = .nil) ∨ d = .slice (l.map partD) sp) ∧ ∀ p ∈ l, I64 p.f1 ∧ p.f2.size ≤ maxLen := by
  obtain ⟨A, len, cap, rfl⟩ := okWide_slice Tryd.underlying26 hv
  obtain ⟨fuel, hf⟩ := h
  rcases open_slice_fields Tryd.underlying26 Tryd.underlying52 (by kernel_rfl) (by kernel_rfl) hf with ⟨h0, hx⟩ | ⟨a, len', cap', m, D, Pl, hcs, _, hl, hm, hmm, hx, hi⟩
  · simp [Value.cells] at h0
    obtain ⟨rfl, rfl, rfl⟩ := h0
    simp only [Prod.mk.injEq] at hx
    refine ⟨none, [], 0, [], rfl, ⟨rfl, by decide, fun hh => absurd hh (by decide)⟩, Nat.le_refl _, .inl ⟨rfl, hx.1⟩, fun p hp => absurd hp (by simp)⟩
  · simp [Value.cells] at hcs
    obtain ⟨rfl, rfl, rfl⟩ := hcs
    simp only [Prod.mk.injEq] at hx
    have hlm : len ≤ m := by rw [hmm]; split <;> omega
    have each : ∀ i : Fin len, ∃ p : S52, D i = partD p ∧ (I64 p.f1 ∧ p.f2.size ≤ maxLen) ∧ w.cell? (a.add (i.1 * 3 + 0)) = some (.bool p.f0) ∧ w.cell? (a.add (i.1 * 3 + 1)) = some (.int .i64 p.f1) ∧ w.cell? (a.add (i.1 * 3 + 2)) = some (.string p.f2) := by
      intro i
      obtain ⟨ys, n, hD, hPl, hlen, hfs⟩ := hi i.1 (by have := i.2; omega)
      obtain ⟨v0, y0, c0, e0, t0⟩ := hfs 0 _ rfl
      obtain ⟨v1, y1, c1, e1, t1⟩ := hfs 1 _ rfl
      obtain ⟨v2, y2, c2, e2, t2⟩ := hfs 2 _ rfl
      obtain ⟨b, q0, z0⟩ := DataW.trod_bool Tryd.underlying4 t0
      obtain ⟨x, q1, z1, w1⟩ := DataW.trod_int Tryd.underlying3 t1
      obtain ⟨s, q2, z2, w2⟩ := DataW.trod_string Tryd.underlying9 t2
      simp only [List.cons.injEq, and_true] at q0 q1 q2
      subst q0 q1 q2 z0 z1 z2
      refine ⟨⟨b, x, s⟩, ?_, ⟨i64_bd w1, w2⟩, c0, c1, c2⟩
      rw [hD]
      match ys, hlen, e0, e1, e2 with
      | [_, _, _], _, e0, e1, e2 =>
        simp at e0 e1 e2
        rw [e0, e1, e2]
        rfl
    obtain ⟨f, hfn⟩ := Classical.axiomOfChoice each
    refine ⟨some a, List.ofFn f, cap, (List.range (m - len)).map fun j => D (len + j), by rw [List.length_ofFn], ⟨by rw [List.length_ofFn], ?_, fun _ => ⟨a, rfl, fun j p hj => ?_⟩⟩, by rw [List.length_ofFn]; exact hl, .inr ?_, fun p hp => ?_⟩
    · rw [List.length_ofFn]
      have hx : maxLen ≤ 9223372036854775807 := by decide
      omega
    · obtain ⟨hjl, rfl⟩ := List.getElem?_eq_some_iff.1 hj
      rw [List.length_ofFn] at hjl
      rw [List.getElem_ofFn]
      obtain ⟨_, _, c0, c1, c2⟩ := hfn ⟨j, hjl⟩
      refine ⟨_, rfl, k52_mk w _, fun i u hu => ?_⟩
      match i, hu with
      | 0, hu => simp only [List.getElem?_cons_zero, Option.some.injEq] at hu; subst hu; exact c0
      | 1, hu => simp at hu; subst hu; exact c1
      | 2, hu => simp at hu; subst hu; exact c2
    · rw [hx.1]
      congr 1
      apply List.ext_getElem
      · simp
      · intro i h1 h2
        simp at h1
        simp [(hfn ⟨i, h1⟩).1]
    · obtain ⟨i, rfl⟩ := List.mem_ofFn.1 hp
      exact (hfn i).2.1
end Go.Proofs.YtdodfelbejkbiaaDoor.Arg
