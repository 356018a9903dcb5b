/- A cron field at a text whose items are good: its contract. -/
import Derived.Test.YtkffmgalmooioaaDoorRange
import Derived.Test.YtkffmgalmooioaaDoorItem
namespace Go.Proofs.YtkffmgalmooioaaDoor.Sp
open Go Go.RowKit Go.Shelf
open Go.Proofs.YtkffmgalmooioaaDoorW.PrintWords (blk_below blk_put blk_alloc blk_new blk_cell blk_frozen blk_lt below_step below_set below_alloc)
attribute [local go_sem] Oper.semAt_some

set_option maxHeartbeats 400000 in
theorem splitSeq50 (s sep : ByteArray) (w : World) :
    Calls Tryd.prog 50 #[.string s, .string sep, .int .i64 0] w fun e w' => e = .returned (.func (.func 58) #[] #[.pointer (some ⟨w.heap.size + 1, 0, none⟩), .pointer (some ⟨w.heap.size, 0, none⟩), .pointer (some ⟨w.heap.size + 1 + 1, 0, none⟩)]) ∧
      (((w.alloc (.cells #[.string s] 9)).alloc (.cells #[.string sep] 9)).alloc (.cells #[.int .i64 0] 3)) = w' := by
  have hmf : ∀ (fn : Fn) (first cap : Array Value) (w : World), (Instr.makeFunc fn first cap).run Tryd.prog w = .ok (.func fn first cap) w := fun _ _ _ _ => rfl
  go_enter Tryd.func50, Tryd.ntmps50
  go_wp2_with fail
  go_ret
  exact ⟨rfl, rfl⟩
set_option maxHeartbeats 400000 in
theorem splitSeq44 (s sep : ByteArray) (w : World) :
    Calls Tryd.prog 44 #[.string s, .string sep] w fun e w' => e = .returned (.func (.func 58) #[] #[.pointer (some ⟨w.heap.size + 1, 0, none⟩), .pointer (some ⟨w.heap.size, 0, none⟩), .pointer (some ⟨w.heap.size + 1 + 1, 0, none⟩)]) ∧
      (((w.alloc (.cells #[.string s] 9)).alloc (.cells #[.string sep] 9)).alloc (.cells #[.int .i64 0] 3)) = w' := by
  go_enter Tryd.func44, Tryd.ntmps44
  go_wp2_with fail
  refine (splitSeq50 s sep _).mono ?_
  rintro e w' ⟨rfl, rfl⟩
  go_wp2_with fail
  go_ret
  exact ⟨rfl, rfl⟩
/-- all the sets of items together -/
def orAll (val : ByteArray → Nat) : List ByteArray → Nat
  | [] => 0
  | x :: l => val x ||| orAll val l
theorem orAll_snoc (val : ByteArray → Nat) (l : List ByteArray) (x : ByteArray) : orAll val (l ++ [x]) = orAll val l ||| val x := by
  induction l with
  | nil => simp [orAll]
  | cons y l ih => simp only [List.cons_append, orAll, ih, Nat.or_assoc]
theorem orAll_lt (val : ByteArray → Nat) : ∀ (l : List ByteArray), (∀ x ∈ l, val x < 18446744073709551616) → orAll val l < 18446744073709551616
  | [], _ => by unfold orAll; decide
  | x :: l, h => by
    have a := orAll_lt val l (fun y hy => h y (by simp [hy]))
    have b := h x (by simp)
    show val x ||| orAll val l < 2 ^ 64
    exact Nat.or_lt_two_pow b a
/-- what an item answers -/
def IsItem (lo hi : Int) (x : ByteArray) (v : Nat) : Prop := v < 18446744073709551616 ∧ ∀ w, Calls Tryd.prog 45 #[.agg #[.int .i64 lo, .int .i64 hi], .string x] w fun e w' => e = .returned (.tuple #[.int .u64 v, .bool true]) ∧ Below w.heap.size w w'
theorem six_facts (w : World) (o0 o1 o2 o3 o4 o5 : Obj) (W : World) (hW : ((((((w.alloc o0).alloc o1).alloc o2).alloc o3).alloc o4).alloc o5) = W) :
    W.heap.size = w.heap.size + 6 ∧ W.heap[w.heap.size]? = some o0 ∧ W.heap[w.heap.size + 1]? = some o1 ∧ W.heap[w.heap.size + 1 + 1]? = some o2 ∧ W.heap[w.heap.size + 1 + 1 + 1]? = some o3 ∧ W.heap[w.heap.size + 1 + 1 + 1 + 1]? = some o4 ∧ W.heap[w.heap.size + 1 + 1 + 1 + 1 + 1]? = some o5 ∧ Below w.heap.size w W := by
  subst hW
  have n1 := blk_new (w.alloc o0) o1
  have n2 := blk_new ((w.alloc o0).alloc o1) o2
  have n3 := blk_new (((w.alloc o0).alloc o1).alloc o2) o3
  have n4 := blk_new ((((w.alloc o0).alloc o1).alloc o2).alloc o3) o4
  have n5 := blk_new (((((w.alloc o0).alloc o1).alloc o2).alloc o3).alloc o4) o5
  simp only [World.size_alloc] at n1 n2 n3 n4 n5 ⊢
  exact ⟨trivial, blk_alloc (blk_alloc (blk_alloc (blk_alloc (blk_alloc (blk_new w o0) _) _) _) _) _, blk_alloc (blk_alloc (blk_alloc (blk_alloc n1 _) _) _) _, blk_alloc (blk_alloc (blk_alloc n2 _) _) _, blk_alloc (blk_alloc n3 _) _, blk_alloc n4 _, n5,
    below_alloc (below_alloc (below_alloc (below_alloc (below_alloc (below_alloc (Below.refl _ _) _) _) _) _) _) _⟩
theorem boxed {W : World} {a b d : Nat} {s : ByteArray} {c : UInt8} (ha : W.heap[a]? = some (.cells #[.string s] 9)) (hb : W.heap[b]? = some (.cells #[.string ⟨#[c]⟩] 9)) (hd : W.heap[d]? = some (.cells #[.int .i64 0] 3)) : Box W a b d c s :=
  ⟨(blk_cell ha 0).trans rfl, blk_frozen ha 0, (blk_cell hb 0).trans rfl, (blk_cell hd 0).trans rfl⟩
/-- between two rounds: the scope, the set so far, the answer not yet given -/
structure FieldI (w : World) (lo hi : Int) (val : ByteArray → Nat) (pre : List ByteArray) (W : World) : Prop where
  a : W.heap[w.heap.size]? = some (.cells #[.int .i64 lo, .int .i64 hi] 64)
  b : W.heap[w.heap.size + 1]? = some (.cells #[.int .u64 (orAll val pre)] 22)
  c : W.heap[w.heap.size + 1 + 1]? = some (.cells #[.bool false] 4)
  d : Below w.heap.size w W
  z : w.heap.size + 6 ≤ W.heap.size
theorem FieldI.set {w : World} {lo hi : Int} {val : ByteArray → Nat} {pre : List ByteArray} {W : World} (h : FieldI w lo hi val pre W) (v : Value) : FieldI w lo hi val pre (W.setCell ⟨w.heap.size + 1 + 1 + 1, 0, none⟩ v) :=
  ⟨(Below.heap_setCell W _ v _ (by show _ ≠ _; simp only []; omega)).trans h.a, (Below.heap_setCell W _ v _ (by show _ ≠ _; simp only []; omega)).trans h.b, (Below.heap_setCell W _ v _ (by show _ ≠ _; simp only []; omega)).trans h.c, h.d.setCell (by show _ ≤ _; simp only []; omega) v, by rw [World.size_setCell]; exact h.z⟩
theorem FieldI.put {w : World} {lo hi : Int} {val : ByteArray → Nat} {pre : List ByteArray} {W : World} (h : FieldI w lo hi val pre W) {l : Nat} (o : Obj) (hl : w.heap.size + 6 ≤ l) : FieldI w lo hi val pre (W.putObj l o) :=
  ⟨(World.putObj_heap_other (by omega)).trans h.a, (World.putObj_heap_other (by omega)).trans h.b, (World.putObj_heap_other (by omega)).trans h.c, h.d.grown (grownBy_putObj' W l o) h.d.size (fun k e => by cases e; omega), by rw [World.putObj_size]; exact h.z⟩
set_option maxRecDepth 100000 in
set_option maxHeartbeats 1000000 in
theorem field_calls (lo hi : Int) (s : ByteArray) (val : ByteArray → Nat) (w : World) (hs : s.size ≤ 1000000) (hit : Hid (∀ x ∈ splitB 44 s.size s, IsItem lo hi x (val x))) :
    Calls Tryd.prog 29 #[.agg #[.int .i64 lo, .int .i64 hi], .string s] w fun e w' => e = .returned (.tuple #[.int .u64 (orAll val (splitB 44 s.size s)), .bool true]) ∧ Below w.heap.size w w' := by
  refine (callsIn_wide (n := 3)).1 ?_
  refine callsIn_of_wp_marks Tryd.func29 rfl trivial ?_ rfl
  simp only [Tryd.ntmps29, List.size_toArray, List.length_cons, List.length_nil, Nat.reduceAdd, Nat.reduceSub, Array.replicate_succ, Array.replicate_zero, List.push_toArray, List.append_toArray, List.nil_append, List.cons_append]
  gi_wp2_with fail
  refine ⟨trivial, (callsIn_wide.2 (splitSeq44 s _ _)).mono ?_⟩
  rintro e w1 ⟨rfl, rfl⟩
  gi_wp2_with fail
  have hF := six_facts w (.cells #[.int .i64 lo, .int .i64 hi] 64) (.cells #[.int .u64 0] 22) (.cells #[.bool false] 4) (.cells #[.string s] 9) (.cells #[.string ⟨#[44]⟩] 9) (.cells #[.int .i64 0] 3)
  generalize ((((((w.alloc (.cells #[.int .i64 lo, .int .i64 hi] 64)).alloc (.cells #[.int .u64 0] 22)).alloc (.cells #[.bool false] 4)).alloc (.cells #[.string s] 9)).alloc (.cells #[.string ⟨#[44]⟩] 9)).alloc (.cells #[.int .i64 0] 3)) = w0 at hF ⊢
  obtain ⟨hsz, e0, e1, e2, e3, e4, e5, hbel⟩ := hF w0 rfl
  have HSZ : Hid (w0.heap.size = w.heap.size + 6) := hsz
  refine range_all (w.heap.size + 1 + 1 + 1) (by omega) rfl (by decide) (gf := 58) (lb := #[.pointer (some ⟨w.heap.size + 1 + 1 + 1 + 1, 0, none⟩), .pointer (some ⟨w.heap.size + 1 + 1 + 1, 0, none⟩), .pointer (some ⟨w.heap.size + 1 + 1 + 1 + 1 + 1, 0, none⟩)]) rfl trivial (enters_of Tryd.func58 (by kernel_rfl) rfl)
    (fun x : ByteArray => #[.string x]) (Keeps (w.heap.size + 1 + 1 + 1) (w.heap.size + 1 + 1 + 1 + 1) (w.heap.size + 1 + 1 + 1 + 1 + 1)) (fun W => Box W (w.heap.size + 1 + 1 + 1) (w.heap.size + 1 + 1 + 1 + 1) (w.heap.size + 1 + 1 + 1 + 1 + 1) 44 s) (splitB 44 s.size s) (fun _ => rfl)
    (fun l J W hJ hY hP hJ0 => split58 2 l _ _ _ 44 s hs (by omega) (by omega) J hJ hY W hP hJ0)
    (fun h k => ⟨k.1.trans h.1, k.2.1.trans h.2.1, k.2.2.trans h.2.2⟩)
    (fun W l o' hl => ⟨World.putObj_heap_other (by omega), World.putObj_heap_other (by omega), World.putObj_heap_other (by omega)⟩)
    (fun o o' => boxed (blk_alloc (blk_alloc e3 o) o') (blk_alloc (blk_alloc e4 o) o') (blk_alloc (blk_alloc e5 o) o'))
    (fun pre W => FieldI w lo hi val pre W)
    (fun pre W v h => h.set v) (fun pre W l o h hl => h.put o (by omega)) (fun o o' => ⟨blk_alloc (blk_alloc e0 o) o', blk_alloc (blk_alloc e1 o) o', blk_alloc (blk_alloc e2 o) o', (hbel.alloc (by omega) o).alloc (by simp; omega) o', by simp; omega⟩)
    (fun x => { tmps := #[.agg #[.int .i64 lo, .int .i64 hi], .string s, .pointer (some ⟨w.heap.size, 0, none⟩), undef, .pointer (some ⟨w.heap.size + 1, 0, none⟩), .pointer (some ⟨w.heap.size + 1 + 1, 0, none⟩), .string x, undef, undef, .string s,
      .func (.func 58) #[] #[.pointer (some ⟨w.heap.size + 1 + 1 + 1 + 1, 0, none⟩), .pointer (some ⟨w.heap.size + 1 + 1 + 1, 0, none⟩), .pointer (some ⟨w.heap.size + 1 + 1 + 1 + 1 + 1, 0, none⟩)],
      .string x, undef, undef, undef, undef, undef, undef, undef, undef, undef, undef, undef, undef], defers := [] }) ?assign ?body ?done
  case assign =>
    intro l x W K hK
    gi_wp2
    exact hK
  case body =>
    rintro l pre x W hI hpre
    have hx := hit.out x (by obtain ⟨r, hr⟩ := hpre; rw [← hr]; simp)
    have fb : W.frozen? ⟨w.heap.size + 1, 0, none⟩ = false := blk_frozen hI.b 0
    have cb : W.cell? ⟨w.heap.size + 1, 0, none⟩ = some (.int .u64 (orAll val pre)) := (blk_cell hI.b 0).trans rfl
    have ca0 : W.cell? ⟨w.heap.size, 0, none⟩ = some (.int .i64 lo) := (blk_cell hI.a 0).trans rfl
    have ca1 : W.cell? ⟨w.heap.size, 0 + 1, none⟩ = some (.int .i64 hi) := (blk_cell hI.a 1).trans rfl
    gi_wp2_with fail
    refine ⟨trivial, (CallsIn.inRound l (callsIn_wide.2 (hx.2 W))).mono ?_⟩
    rintro e W' ⟨rfl, hW'⟩
    have hz := hI.z
    have k1 : W'.heap[w.heap.size]? = W.heap[w.heap.size]? := hW'.block _ (by omega)
    have k2 : W'.heap[w.heap.size + 1]? = W.heap[w.heap.size + 1]? := hW'.block _ (by omega)
    have k3 : W'.heap[w.heap.size + 1 + 1]? = W.heap[w.heap.size + 1 + 1]? := hW'.block _ (by omega)
    have k4 : W'.heap[w.heap.size + 1 + 1 + 1]? = W.heap[w.heap.size + 1 + 1 + 1]? := hW'.block _ (by omega)
    have k5 : W'.heap[w.heap.size + 1 + 1 + 1 + 1]? = W.heap[w.heap.size + 1 + 1 + 1 + 1]? := hW'.block _ (by omega)
    have k6 : W'.heap[w.heap.size + 1 + 1 + 1 + 1 + 1]? = W.heap[w.heap.size + 1 + 1 + 1 + 1 + 1]? := hW'.block _ (by omega)
    have fb' : W'.frozen? ⟨w.heap.size + 1, 0, none⟩ = false := blk_frozen (k2.trans hI.b) 0
    have cb' : W'.cell? ⟨w.heap.size + 1, 0, none⟩ = some (.int .u64 (orAll val pre)) := (blk_cell (k2.trans hI.b) 0).trans rfl
    gi_wp2_with fail
    have hor := bits_or_u64_nat (orAll val pre) (val x) (orAll_lt val pre (fun y hy => (hit.out y (by obtain ⟨r, hr⟩ := hpre; rw [← hr]; simp [hy])).1)) hx.1
    have hsize := hW'.size
    refine ⟨KeepsFrom.trans ⟨hsize, fun k o hk ho _ => (hW'.block k (Array.getElem?_eq_some_iff.1 ho).1).trans ho⟩ ((KeepsOthers.setCell _ _ _).from _), ⟨?_, ?_, ?_⟩, ⟨?_, ?_, ?_, ?_, ?_⟩⟩
    · rw [Below.heap_setCell _ _ _ _ (by show _ ≠ _; simp only []; omega)]; exact k4
    · rw [Below.heap_setCell _ _ _ _ (by show _ ≠ _; simp only []; omega)]; exact k5
    · rw [Below.heap_setCell _ _ _ _ (by show _ ≠ _; simp only []; omega)]; exact k6
    · rw [Below.heap_setCell _ _ _ _ (by show _ ≠ _; simp only []; omega)]; exact k1.trans hI.a
    · rw [orAll_snoc]; exact blk_put (k2.trans hI.b) 0 _ (by rw [hor]; rfl)
    · rw [Below.heap_setCell _ _ _ _ (by show _ ≠ _; simp only []; omega)]; exact k3.trans hI.c
    · exact hI.d.trans ((hW'.mono (by omega)).setCell (by show _ ≤ _; simp only []; omega) _)
    · rw [World.size_setCell]; omega
  case done =>
    rintro D W hD hI hK
    have fb : W.frozen? ⟨w.heap.size + 1, 0, none⟩ = false := blk_frozen hI.b 0
    have cb : W.cell? ⟨w.heap.size + 1, 0, none⟩ = some (.int .u64 (orAll val (splitB 44 s.size s))) := (blk_cell hI.b 0).trans rfl
    have cc : W.cell? ⟨w.heap.size + 1 + 1, 0, none⟩ = some (.bool false) := (blk_cell hI.c 0).trans rfl
    have fc : W.frozen? ⟨w.heap.size + 1 + 1, 0, none⟩ = false := blk_frozen hI.c 0
    gi_wp2_with fail
    obtain ⟨W2, hW2⟩ : ∃ W2, W2 = ((W.setCell ⟨w.heap.size + 1, 0, none⟩ (.int .u64 (orAll val (splitB 44 s.size s)))).setCell ⟨w.heap.size + 1 + 1, 0, none⟩ (.bool true)) := ⟨_, rfl⟩
    have b2 : W2.heap[w.heap.size + 1]? = some (.cells #[.int .u64 (orAll val (splitB 44 s.size s))] 22) := by
      rw [hW2, Below.heap_setCell _ _ _ _ (by show _ ≠ _; simp only []; omega), blk_put hI.b 0 _ rfl]; rfl
    have c2 : W2.heap[w.heap.size + 1 + 1]? = some (.cells #[.bool true] 4) := by
      rw [hW2]; exact blk_put ((Below.heap_setCell _ _ _ _ (by show _ ≠ _; simp only []; omega)).trans hI.c) 0 _ rfl
    have d2 : Below w.heap.size w W2 := by rw [hW2]; exact (hI.d.setCell (by show _ ≤ _; simp only []; omega) _).setCell (by show _ ≤ _; simp only []; omega) _
    have hK' : W2.heap[D]? = some (.deferred (some [])) := by
      rw [hW2, Below.heap_setCell _ _ _ _ (by show _ ≠ _; simp only []; omega), Below.heap_setCell _ _ _ _ (by show _ ≠ _; simp only []; omega)]; exact hK
    rw [← hW2]
    refine ⟨by simp, .inl ⟨_, _, rfl, run_takeDeferred hK', ?_⟩⟩
    have b3 : (W2.putObj D (.deferred none)).cell? ⟨w.heap.size + 1, 0, none⟩ = some (.int .u64 (orAll val (splitB 44 s.size s))) := (blk_cell ((World.putObj_heap_other (by omega)).trans b2) 0).trans rfl
    have c3 : (W2.putObj D (.deferred none)).cell? ⟨w.heap.size + 1 + 1, 0, none⟩ = some (.bool true) := (blk_cell ((World.putObj_heap_other (by omega)).trans c2) 0).trans rfl
    refine ⟨_, ?_, rfl, d2.trans (belowK_b (w := w) (Nat.le_refl _) _ D _ _ (by omega) hK' rfl rfl)⟩
    simp [results, Tryd.f29, go_sem, b3, c3]
end Go.Proofs.YtkffmgalmooioaaDoor.Sp
