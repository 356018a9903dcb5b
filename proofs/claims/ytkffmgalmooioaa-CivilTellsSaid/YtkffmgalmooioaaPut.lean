/- The closure that writes a number's digits into a text from a place down: its contract. -/
import Derived.Test.YtkffmgalmooioaaCivx4
import Derived.Lib.SmallJoins
import Derived.Lib.SlBytesConst
namespace Go.Proofs.Ytkffmgalmooioaa.Civ
open Go.RowKit Go.Proofs.YtkffmgalmooioaaW.PrintWords Go.Proofs.YtkffmgalmooioaaW.PrintLast Go.Proofs.YtkffmgalmooioaaW.PrintMore

/-- the digits of n, added to what stands at e, e - 1, .. -/
def putF : Nat → List Int → Int → Int → List Int
  | 0, cs, _, _ => cs
  | k + 1, cs, e, n => if n > 0 then putF k (cs.set e.toNat (rd cs e + n % 10)) (e - 1) (n / 10) else cs
theorem putF_length : ∀ (k : Nat) (cs : List Int) (e n : Int), (putF k cs e n).length = cs.length
  | 0, _, _, _ => rfl
  | k + 1, cs, e, n => by
    unfold putF
    split
    · rw [putF_length k]; simp
    · rfl
theorem putF_bd (B : Int) : ∀ (k : Nat) (cs : List Int) (e n : Int), 0 ≤ n → (k : Int) ≤ e + 1 → (∀ j : Nat, 0 ≤ cs.getD j 0 ∧ cs.getD j 0 ≤ B + 9) → (∀ j : Nat, (j : Int) ≤ e → cs.getD j 0 ≤ B) →
    ∀ j : Nat, 0 ≤ (putF k cs e n).getD j 0 ∧ (putF k cs e n).getD j 0 ≤ B + 9
  | 0, _, _, _, _, _, h, _ => h
  | k + 1, cs, e, n, hn, hk, h, hB => by
    unfold putF
    split
    · refine putF_bd B k _ _ _ (by omega) (by omega) (fun j => ?_) (fun j hj => ?_)
      · by_cases c : e.toNat = j
        · subst c
          by_cases c2 : e.toNat < cs.length
          · rw [List.getD_eq_getElem?_getD, List.getElem?_set_self c2]
            have h1 := hB e.toNat (by omega)
            have h2 := (h e.toNat).1
            show 0 ≤ rd cs e + n % 10 ∧ rd cs e + n % 10 ≤ B + 9
            unfold rd
            omega
          · rw [List.set_eq_of_length_le (by omega)]; exact h _
        · rw [List.getD_eq_getElem?_getD, List.getElem?_set_ne c, ← List.getD_eq_getElem?_getD]; exact h j
      · rw [List.getD_eq_getElem?_getD, List.getElem?_set_ne (by omega), ← List.getD_eq_getElem?_getD]; exact hB j (by omega)
    · exact h
/-- the world's block g holds these octets -/
def Oct (w : World) (g : Nat) (fr : Nat × Nat) (cs : List Int) : Prop := w.heap[g]? = some (.cells (nums .u8 cs).toArray 5 fr)
theorem Oct.cell {w : World} {g : Nat} {fr : Nat × Nat} {cs : List Int} (h : Oct w g fr cs) (j : Nat) (hj : j < cs.length) : w.cell? ⟨g, j, none⟩ = some (.int .u8 (cs.getD j 0)) := by
  rw [Go.Joins.cell_of_block h j]
  simp [nums, List.getD_eq_getElem?_getD, hj]
theorem Oct.frozen {w : World} {g : Nat} {fr : Nat × Nat} {cs : List Int} (h : Oct w g fr cs) (j : Nat) (hj : j < fr.1) : w.frozen? ⟨g, j, none⟩ = false := by
  unfold Oct at h
  simp [World.frozen?, h]
  omega
theorem Oct.store {w : World} {g : Nat} {fr : Nat × Nat} {cs : List Int} (h : Oct w g fr cs) (j : Nat) (x : Int) : Oct (w.setCell ⟨g, j, none⟩ (.int .u8 x)) g fr (cs.set j x) := by
  unfold Oct at *
  rw [Go.Joins.block_setCell h]
  simp [nums, List.map_set]
theorem grown_set {w wr : World} {g : Nat} (h : w.grownBy wr (some g)) (j : Nat) (v : Value) : w.grownBy (wr.setCell ⟨g, j, none⟩ v) (some g) := by
  have hs : (wr.setCell ⟨g, j, none⟩ v).heap.size = wr.heap.size := by simp
  refine ⟨?_, ?_, ?_, by rw [hs]; exact h.size, fun k hk hne => ?_⟩
  · exact h.os
  · exact h.tape
  · exact h.output
  · have hk' : k ≠ g := fun e => hne (by rw [e])
    rw [← h.block k hk hne]
    exact Below.heap_setCell wr ⟨g, j, none⟩ v k hk'
set_option maxHeartbeats 400000 in
set_option maxRecDepth 100000 in
theorem put_any (k : Nat) (cs : List Int) (e n : Int) (w : World) (g bv : Nat) (fr : Nat × Nat) (hl : cs.length = 19) (hfr : 19 ≤ fr.1) (hg : Aside0 (Oct w g fr cs)) (hbv : Aside0 (w.cell? ⟨bv, 0, none⟩ = some (.slice (some ⟨g, 0, none⟩) 19 19))) (hne : Aside0 (bv ≠ g))
    (n0 : 0 ≤ n) (n1 : n < 10000) (nk : Aside0 (n.toNat < 10 ^ k)) (ek : (k : Int) ≤ e + 1) (e1 : e ≤ 18) (hz : Aside0 (∀ j : Nat, (j : Int) ≤ e → 0 ≤ cs.getD j 0 ∧ cs.getD j 0 ≤ 200)) :
    Calls Try.prog 26 #[.int .i64 e, .int .i64 n, .pointer (some ⟨bv, 0, none⟩)] w fun r w' => r = .returned (.tuple #[]) ∧ w.grownBy w' (some g) ∧ Oct w' g fr (putF k cs e n) := by
  have HF : Aside0 (putF k cs e n = putF k cs e n) := ⟨rfl⟩
  generalize hfin : putF k cs e n = fin at HF ⊢
  have HL := Aside0.mk hl
  have HFR := Aside0.mk hfr
  clear hl hfr
  have HFIN := Aside0.mk hfin
  clear hfin HF
  go_enter Try.func26, Try.ntmps26
  go_wp2
  go_loopw [0, 1] (fun v0 v1 wr => ∃ (kk : Nat) (e n : Int) (cs : List Int), v0 = .int .i64 e ∧ v1 = .int .i64 n ∧ 0 ≤ n ∧ n < 10000 ∧ Aside0 (n.toNat < 10 ^ kk) ∧ (kk : Int) ≤ e + 1 ∧ e ≤ 18 ∧ Aside0 (cs.length = 19) ∧
      Aside0 (∀ j : Nat, (j : Int) ≤ e → 0 ≤ cs.getD j 0 ∧ cs.getD j 0 ≤ 200) ∧ Aside0 (putF kk cs e n = fin) ∧ Aside0 (Oct wr g fr cs) ∧ Aside0 (w.grownBy wr (some g))) (fun _ v1 _ => (intOf v1).toNat)
  case atStart => exact ⟨k, e, n, cs, rfl, rfl, n0, n1, nk, ek, e1, HL, hz, HFIN, hg, ⟨⟨rfl, rfl, rfl, Nat.le_refl _, fun _ _ _ => rfl⟩⟩⟩
  case round =>
    clear hz nk n0 n1 ek e1 HFIN hg
    obtain ⟨kk, e, n, cs, rfl, rfl, n0, n1, nk, ek, e1, hl, hz, hfin, hg, hgr⟩ := hrel
    have hcv : wr.cell? ⟨bv, 0, none⟩ = some (.slice (some ⟨g, 0, none⟩) 19 19) := hgr.out.cell hbv.out (by intro h; exact hne.out (by cases h; rfl))
    by_cases hn : n > 0
    · obtain ⟨kk, rfl⟩ : ∃ j, kk = j + 1 := by
        cases kk with
        | zero => exact absurd nk.out (by simp; omega)
        | succ j => exact ⟨j, rfl⟩
      have e0 : 0 ≤ e := by omega
      have hx := hz.out e.toNat (by omega)
      have hcell : wr.cell? ⟨g, e.toNat, none⟩ = some (.int .u8 (cs.getD e.toNat 0)) := hg.out.cell e.toNat (by rw [hl.out]; omega)
      have hfz : wr.frozen? ⟨g, e.toNat, none⟩ = false := hg.out.frozen e.toNat (by have := HFR.out; omega)
      have hx0 := hx.1
      have hx1 := hx.2
      clear hx
      generalize hxe : cs.getD e.toNat 0 = x at *
      have HXE := Aside0.mk hxe
      clear hxe
      go_wp2
      refine ⟨⟨kk, e - 1, n / 10, cs.set e.toNat (x + n % 10), rfl, rfl, by omega, by omega, ⟨?_⟩, by omega, by omega, ⟨by rw [List.length_set]; exact hl.out⟩, ⟨fun j hj => ?_⟩, ⟨?_⟩, ⟨hg.out.store _ _⟩, ⟨grown_set hgr.out _ _⟩⟩, ?_⟩
      · have h := nk.out
        rw [Nat.pow_succ] at h
        omega
      · rw [List.getD_eq_getElem?_getD, List.getElem?_set_ne (by omega), ← List.getD_eq_getElem?_getD]
        exact hz.out j (by omega)
      · have h := hfin.out
        unfold putF at h
        rw [if_pos hn] at h
        rw [← h, ← HXE.out]
        rfl
      · simp [intOf]; omega
    · go_wp2
      go_end0
      refine ⟨rfl, hgr.out, ?_⟩
      have h := hfin.out
      have e : putF kk cs e n = cs := by
        cases kk with
        | zero => rfl
        | succ j => unfold putF; rw [if_neg (by omega)]
      rw [← h, e]
      exact hg.out
end Go.Proofs.Ytkffmgalmooioaa.Civ
