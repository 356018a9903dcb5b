/- The iterator of strings.SplitSeq at a separator of one octet: its contract: each piece comes, in order. -/
import Derived.RangeFuncNested
import Derived.RangeFuncBound
import Derived.RangeFuncCalls
import Derived.RangeFuncLeaves
import Derived.RangeFuncRecord
import Derived.Shelf.Abstract
import Derived.Shelf.RegionOpen
import Derived.WalkKit
import Derived.OwnWalkIn
import Derived.TacticsInMore
import Derived.LoopNIn
import Derived.LoopIn
import Derived.Test.YtkffmgalmooioaaDoorShelf
namespace Go.Proofs.YtkffmgalmooioaaDoor.Sp
open Go Go.RowKit Go.Shelf
attribute [local go_sem] Oper.semAt_some

/-- the pieces of a text between octets c -/
def splitB (c : UInt8) : Nat → ByteArray → List ByteArray
  | 0, t => [t]
  | f + 1, t => if Lib.indexByte t.data.toList c < 0 then [t] else t.extract 0 (Lib.indexByte t.data.toList c).toNat :: splitB c f (t.extract ((Lib.indexByte t.data.toList c).toNat + 1) t.size)

/-- the boxes of the iterator lie as they lay -/
def Keeps (bs bsep bsv : Nat) (W W' : World) : Prop := W'.heap[bs]? = W.heap[bs]? ∧ W'.heap[bsep]? = W.heap[bsep]? ∧ W'.heap[bsv]? = W.heap[bsv]?
/-- the iterator's boxes: what is left, the separator, no octet kept -/
structure Box (W : World) (bs bsep bsv : Nat) (c : UInt8) (t : ByteArray) : Prop where
  s : W.cell? ⟨bs, 0, none⟩ = some (.string t)
  sf : W.frozen? ⟨bs, 0, none⟩ = false
  sep : W.cell? ⟨bsep, 0, none⟩ = some (.string ⟨#[c]⟩)
  sv : W.cell? ⟨bsv, 0, none⟩ = some (.int .i64 0)
theorem Box.keeps {W W' : World} {bs bsep bsv : Nat} {c : UInt8} {t : ByteArray} (h : Box W bs bsep bsv c t) (k : Keeps bs bsep bsv W W') : Box W' bs bsep bsv c t :=
  ⟨(World.cell?_of_block k.1).trans h.s, (World.frozen?_of_block k.1).trans h.sf, (World.cell?_of_block k.2.1).trans h.sep, (World.cell?_of_block k.2.2).trans h.sv⟩
theorem index_bounds (l : List UInt8) (c : UInt8) : -1 ≤ Lib.indexByte l c ∧ Lib.indexByte l c < l.length := by
  induction l with
  | nil => simp [Lib.indexByte]
  | cons b l ih =>
    unfold Lib.indexByte
    split
    · simp
    · split
      · simp only [List.length_cons]; omega
      · simp only [List.length_cons]; omega
theorem data_length (s : ByteArray) : s.data.toList.length = s.size := by rw [Array.length_toList]; rfl
theorem split_last (c : UInt8) (f : Nat) (t : ByteArray) (h : Lib.indexByte t.data.toList c < 0) : splitB c f t = [t] := by
  cases f with
  | zero => rfl
  | succ f => unfold splitB; rw [if_pos h]
theorem split_more (c : UInt8) (f : Nat) (t : ByteArray) (hf : t.size ≤ f) (h : ¬ Lib.indexByte t.data.toList c < 0) : ∃ f', f = f' + 1 ∧ splitB c f t = t.extract 0 (Lib.indexByte t.data.toList c).toNat :: splitB c f' (t.extract ((Lib.indexByte t.data.toList c).toNat + 1) t.size) := by
  have hb := (index_bounds t.data.toList c).2
  rw [data_length] at hb
  cases f with
  | zero => omega
  | succ f => exact ⟨f, rfl, by rw [splitB.eq_def]; simp only []; rw [if_neg h]⟩
/-- how much is left, read off the world -/
def left (bs : Nat) (W : World) : Nat := match W.cell? ⟨bs, 0, none⟩ with | some (.string t) => t.size | _ => 0
theorem left_of {W : World} {bs bsep bsv : Nat} {c : UInt8} {t : ByteArray} (h : Box W bs bsep bsv c t) : left bs W = t.size := by unfold left; rw [h.s]
theorem Box.stored {W : World} {bs bsep bsv : Nat} {c : UInt8} {t : ByteArray} (h : Box W bs bsep bsv c t) (hne : bs ≠ bsep) (hne2 : bs ≠ bsv) (u : ByteArray) : Box (W.setCell ⟨bs, 0, none⟩ (.string u)) bs bsep bsv c u where
  s := World.cell?_setCell_same' _ _ _ (by rw [h.s]; rfl)
  sf := by rw [World.frozen?_setCell]; exact h.sf
  sep := (World.cell?_of_block (a := ⟨bsep, 0, none⟩) (Below.heap_setCell W ⟨bs, 0, none⟩ _ bsep (Ne.symm hne))).trans h.sep
  sv := (World.cell?_of_block (a := ⟨bsv, 0, none⟩) (Below.heap_setCell W ⟨bs, 0, none⟩ _ bsv (Ne.symm hne2))).trans h.sv
set_option maxRecDepth 100000 in
set_option maxHeartbeats 1000000 in
theorem split58 (n l bs bsep bsv : Nat) (c : UInt8) (s : ByteArray) (hs : s.size ≤ 1000000) (hne : bs ≠ bsep) (hne2 : bs ≠ bsv) (J : List ByteArray → World → Prop)
    (hJ : ∀ pre W v, J pre W → J pre (W.setCell ⟨bs, 0, none⟩ v))
    (hY : ∀ pre x W1, J pre W1 → pre ++ [x] <+: splitB c s.size s → YieldAt Fence.wide (n - 1) Tryd.prog l #[.string x] W1 fun e W' => e = .returned (.bool true) ∧ J (pre ++ [x]) W' ∧ Keeps bs bsep bsv W1 W')
    (W : World) (hb : Box W bs bsep bsv c s) (h0 : J [] W) :
    CallsIn Fence.wide n Tryd.prog 58 #[.func (.yield l) #[] #[], .pointer (some ⟨bsep, 0, none⟩), .pointer (some ⟨bs, 0, none⟩), .pointer (some ⟨bsv, 0, none⟩)] W fun e W' => (∃ v, e = .returned v) ∧ J (splitB c s.size s) W' := by
  refine callsIn_of_wp Tryd.func58 rfl trivial ?_ rfl
  simp only [Tryd.ntmps58, List.size_toArray, List.length_cons, List.length_nil, Nat.reduceAdd, Nat.reduceSub, Array.replicate_succ, Array.replicate_zero, List.push_toArray, List.append_toArray, List.nil_append, List.cons_append]
  have hc1 := hb.sep
  gi_wp2
  clear hc1
  gi_loopw [7] (fun _ wr => ∃ (pre : List ByteArray) (t : ByteArray) (f : Nat), pre ++ splitB c f t = splitB c s.size s ∧ t.size ≤ f ∧ t.size ≤ 1000000 ∧ Box wr bs bsep bsv c t ∧ J pre wr) (fun _ wr => left bs wr)
  case atStart => exact ⟨[], s, s.size, rfl, Nat.le_refl _, hs, hb, h0⟩
  case round =>
    obtain ⟨pre, t, f, hp, hf, ht, hx, hj⟩ := hrel
    have hc1 := hx.sep
    have hc2 := hx.s
    have hc3 := hx.sv
    have hf2 := hx.sf
    obtain ⟨ib0, ib1⟩ := index_bounds t.data.toList c
    have HX : Hid (Box wr bs bsep bsv c t) := hx
    by_cases hi : Lib.indexByte t.data.toList c < 0
    · have HF : Hid (splitB c f t = [t]) := split_last c f t hi
      have HP : Hid (pre ++ splitB c f t = splitB c s.size s) := hp
      clear hp
      gi_wp2_with fail
      refine ⟨trivial, fun h => (by cases h), (callsIn_wide.2 (Tryd.strings_Index_one t c _)).mono ?_⟩
      rintro e w' ⟨rfl, rfl⟩
      generalize Lib.indexByte t.data.toList c = ix at *
      obtain ⟨fn, tmps, assign, body, hy, hR⟩ := hY pre t w' hj (by rw [← HP.out, HF.out]; exact List.prefix_refl _)
      gi_wp2_with fail
      refine ⟨fun h => (by cases h), hR.mono ?_⟩
      rintro e W3 ⟨rfl, hJ3, hk3⟩
      gi_wp2
      go_end0
      exact ⟨⟨_, rfl⟩, by rw [← HP.out, HF.out]; exact hJ3⟩
    · have hp2 := split_more c f t hf hi
      have HP : Hid (pre ++ splitB c f t = splitB c s.size s) := hp
      clear hp
      gi_wp2_with fail
      refine ⟨trivial, fun h => (by cases h), (callsIn_wide.2 (Tryd.strings_Index_one t c _)).mono ?_⟩
      rintro e w' ⟨rfl, rfl⟩
      rw [data_length] at ib1
      generalize Lib.indexByte t.data.toList c = ix at *
      obtain ⟨i, rfl⟩ := Int.eq_ofNat_of_zero_le (show 0 ≤ ix by omega)
      rw [Int.toNat_natCast] at hp2
      have hit : i < t.size := by omega
      have HP2 : Hid (∃ f', f = f' + 1 ∧ splitB c f t = t.extract 0 i :: splitB c f' (t.extract (i + 1) t.size)) := hp2
      clear hp2 ib0 ib1 hi
      obtain ⟨fn, tmps, assign, body, hy, hR⟩ := hY pre (t.extract 0 i) w' hj (by
        obtain ⟨f', _, h2⟩ := HP2.out
        rw [← HP.out, h2]
        exact ⟨splitB c f' (t.extract (i + 1) t.size), by simp⟩)
      gi_wp2_with fail
      refine ⟨fun h => (by cases h), hR.mono ?_⟩
      rintro e W3 ⟨rfl, hJ3, hk3⟩
      have hx3 := Box.keeps HX.out hk3
      have hd1 := hx3.sep
      have hd2 := hx3.s
      have hd3 := hx3.sv
      have hdf := hx3.sf
      gi_wp2_with fail
      obtain ⟨f', hf', h2⟩ := HP2.out
      have hsz : (t.extract (i + 1) t.size).size = t.size - (i + 1) := by rw [ByteArray.size_extract]; omega
      refine ⟨⟨pre ++ [t.extract 0 i], t.extract (i + 1) t.size, f', ?_, by omega, by omega, hx3.stored hne hne2 _, hJ _ _ _ hJ3⟩, ?_⟩
      · rw [← HP.out, h2]; simp
      · rw [left_of (hx3.stored hne hne2 (t.extract (i + 1) t.size)), left_of HX.out, hsz]; omega
end Go.Proofs.YtkffmgalmooioaaDoor.Sp
