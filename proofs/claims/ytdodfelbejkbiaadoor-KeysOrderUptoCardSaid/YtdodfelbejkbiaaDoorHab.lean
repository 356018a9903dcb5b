/- keys.Above: its contract, beside a Lean function with the same answers. -/
import Derived.Test.YtdodfelbejkbiaaDoorKx0
import Derived.WalkLawsBesides
import Derived.WalkSpells
import Derived.Outline
namespace Go.Proofs.YtdodfelbejkbiaaDoor.K
open Go Go.RowKit Go.Proofs.YtdodfelbejkbiaaDoorW.PrintWords Go.Proofs.YtdodfelbejkbiaaDoorW.PrintLast Go.Proofs.YtdodfelbejkbiaaDoorW.PrintMore

/-- the least text above all that begin so, looked for from place n down -/
def aboveGo (l : List UInt8) : Nat → Option (List UInt8)
  | 0 => none
  | n + 1 => if l.getD n 0 = 255 then aboveGo l n else some (l.take n ++ [l.getD n 0 + 1])
def keys_Above.f (a0 : ByteArray) : Option (ByteArray × Bool) := if a0.size ≤ 140737488351232 then some (match aboveGo a0.data.toList a0.size with | some x => (⟨x.toArray⟩, true) | none => (⟨#[]⟩, false)) else none
theorem take_set_last (l : List UInt8) (m : Nat) (h : m < l.length) (v : UInt8) : (l.take (m + 1)).set m v = l.take m ++ [v] := by
  rw [List.take_succ_eq_append_getElem h, List.set_append_right _ _ (by simp; omega)]
  simp [Nat.min_eq_left (Nat.le_of_lt h)]
theorem strOf_bytes (l : List UInt8) : strOfNums (l.map fun b => (b.toNat : Int)) = ⟨l.toArray⟩ := by
  simp [strOfNums, Function.comp_def]
theorem extract_list (s : ByteArray) (m : Nat) : (s.extract 0 m).data.toList = s.data.toList.take m := by
  obtain ⟨⟨l⟩⟩ := s
  rw [ByteArray.extract_mk]
  simp
theorem get_list (s : ByteArray) (m : Nat) (h : m < s.size) : s.data.toList.getD m 0 = s[m] := by
  obtain ⟨⟨l⟩⟩ := s
  have hl : m < l.length := h
  simp [List.getD, hl]
  rfl
theorem bytes_frozen (W : World) (e : TypeId) (T : ByteArray) (j : Nat) (hj : j < T.size) : (Lib.bytesWorld W e T).frozen? ⟨W.heap.size, j, none⟩ = false := by
  have hsz : j < (Lib.bytesCells W e T).size := by
    have hl : T.data.toList.length = T.size := by rw [Array.length_toList]; rfl
    simp [Lib.bytesCells]
    omega
  simp only [World.frozen?, Lib.bytesWorld_at_new]
  simp
  omega
/-- the store and the text of what then lies there -/
theorem above_text (s : ByteArray) (m : Nat) (w : World) (hm : m < s.size) (hv : s[m] ≠ 255) (c : Nat) :
    (convert 51 9 (.slice (some ⟨w.heap.size, 0, none⟩) (m + 1) c)).run Tryd.prog ((Lib.bytesWorld w 5 (s.extract 0 (m + 1))).setCell ⟨w.heap.size, m, none⟩ (.int .u8 ((s[m].toNat : Int) + 1))) =
      .ok (.string ⟨(s.data.toList.take m ++ [s.data.toList.getD m 0 + 1]).toArray⟩) ((Lib.bytesWorld w 5 (s.extract 0 (m + 1))).setCell ⟨w.heap.size, m, none⟩ (.int .u8 ((s[m].toNat : Int) + 1))) := by
  have hlen : s.data.toList.length = s.size := by rw [Array.length_toList]; rfl
  have hT : (s.extract 0 (m + 1)).data.toList = s.data.toList.take (m + 1) := extract_list s (m + 1)
  have hTs : (s.extract 0 (m + 1)).size = m + 1 := by
    have : (s.extract 0 (m + 1)).size = (s.extract 0 (m + 1)).data.toList.length := by rw [Array.length_toList]; rfl
    rw [this, hT, List.length_take]
    omega
  have hb : (s.data.toList.getD m 0 + 1).toNat = s[m].toNat + 1 := by
    rw [get_list s m hm, UInt8.toNat_add]
    have : s[m].toNat ≠ 255 := fun e => hv (UInt8.toNat_inj.1 e)
    have h2 := s[m].toNat_lt
    have : (1 : UInt8).toNat = 1 := rfl
    omega
  have h := run_convert_bytes_arg (P := Tryd.prog) ((Lib.bytesWorld w 5 (s.extract 0 (m + 1))).setCell ⟨w.heap.size, m, none⟩ (.int .u8 ((s[m].toNat : Int) + 1))) 51 5 Tryd.underlying51 Tryd.underlying5 w.heap.size 0 (m + 1) c ((s.data.toList.take m ++ [s.data.toList.getD m 0 + 1]).map fun b => (b.toNat : Int)) (by simp; omega) (fun i hi => by
    rw [Nat.zero_add]
    by_cases e : i = m
    · subst e
      rw [World.cell?_setCell_same' _ _ _ (by rw [Lib.bytesWorld_cell w 5 _ i (by omega)]; rfl)]
      rw [List.getD_eq_getElem?_getD, List.getElem?_map, List.getElem?_append_right (by simp; omega)]
      rw [show i - (List.take i s.data.toList).length = 0 by rw [List.length_take]; omega]
      show _ = some (Value.int _ (((s.data.toList.getD i 0 + 1).toNat : Nat) : Int))
      rw [hb]
      rfl
    · rw [World.cell?_setCell_other _ _ _ _ (by simp), Lib.bytesWorld_cell w 5 _ i (by omega), hT]
      rw [List.getD_eq_getElem?_getD, List.getD_eq_getElem?_getD, List.getElem?_map, List.getElem?_append_left (by simp; omega), List.getElem?_take, List.getElem?_take, if_pos (by omega), if_pos (by omega)]
      cases s.data.toList[i]? <;> rfl) 9 Tryd.underlying9
  rw [strOf_bytes] at h
  exact h
set_option maxHeartbeats 400000 in
set_option maxRecDepth 100000 in
theorem keys_Above.calls (s : ByteArray) (r : ByteArray) (b : Bool) (w : World) (h : keys_Above.f s = some (r, b)) :
    Calls Tryd.prog 10 #[.string s] w fun e w' => e = .returned (.tuple #[.string r, .bool b]) ∧ Below w.heap.size w w' := by
  obtain ⟨hs, h⟩ : s.size ≤ 140737488351232 ∧ some (match aboveGo s.data.toList s.size with | some x => ((⟨x.toArray⟩ : ByteArray), true) | none => (⟨#[]⟩, false)) = some (r, b) := by
    unfold keys_Above.f at h
    by_cases hs : s.size ≤ 140737488351232
    · rw [if_pos hs] at h; exact ⟨hs, h⟩
    · rw [if_neg hs] at h; cases h
  have HH := Aside0.mk (Option.some.inj h)
  clear h
  have cv := fun (t : ByteArray) W => print_bytes (P := Tryd.prog) 9 51 5 Tryd.underlying9 Tryd.underlying51 Tryd.underlying5 t W
  go_enter Tryd.func10, Tryd.ntmps10
  go_wp2_with fail
  go_loop [4] (fun v => ∃ n : Nat, n ≤ s.size ∧ v = .int .i64 n ∧ Aside0 (aboveGo s.data.toList s.size = aboveGo s.data.toList n)) (fun v => (intOf v).toNat)
  case atStart => exact ⟨s.size, Nat.le_refl _, rfl, ⟨rfl⟩⟩
  case round =>
    obtain ⟨n, hn, rfl, hA⟩ := hrel
    cases n with
    | zero =>
      have hr : (⟨#[]⟩, false) = (r, b) := by have := HH.out; rw [hA.out] at this; exact this
      injection hr with hr1 hr2
      subst hr1 hr2
      go_wp2_with fail
      go_ret2
      exact ⟨rfl, Below.refl _ _⟩
    | succ m =>
      have hm : m < s.size := by omega
      by_cases hv : s[m] = 255
      · have hv1 : (((s[m]).toNat : Int) != 255) = false := by rw [hv]; rfl
        have HA := Aside0.mk (show aboveGo s.data.toList s.size = aboveGo s.data.toList m by rw [hA.out, aboveGo, if_pos (by rw [get_list s m hm]; exact hv)])
        clear hv
        go_wp2_with fail
        go_round
        case rel => exact ⟨m, by omega, by go_num, HA⟩
        case measure => simp [intOf]
      · have hv1 : (((s[m]).toNat : Int) != 255) = true := by
          have : (s[m]).toNat ≠ 255 := fun e => hv (UInt8.toNat_inj.1 e)
          simp; omega
        have hr : (⟨(s.data.toList.take m ++ [s.data.toList.getD m 0 + 1]).toArray⟩, true) = (r, b) := by
          have := HH.out
          rw [hA.out, aboveGo, if_neg (by rw [get_list s m hm]; exact hv)] at this
          exact this
        injection hr with hr1 hr2
        have hct := above_text s m w hm hv
        rw [hr1] at hct
        subst hr2
        clear hr1
        have hTs : m < (s.extract 0 (m + 1)).size := by rw [ByteArray.size_extract]; omega
        have hc : (Lib.bytesWorld w 5 (s.extract 0 (m + 1))).cell? ⟨w.heap.size, m, none⟩ = some (.int .u8 (s[m].toNat : Int)) := by
          rw [Lib.bytesWorld_cell w 5 _ m hTs, extract_list, List.getD_eq_getElem?_getD, List.getElem?_take, if_pos (by omega), ← List.getD_eq_getElem?_getD, get_list s m hm]
        have hf := bytes_frozen w 5 (s.extract 0 (m + 1)) m hTs
        have hlt := s[m].toNat_lt
        have hne : s[m].toNat ≠ 255 := fun e => hv (UInt8.toNat_inj.1 e)
        have hw8 : IntKind.u8.wrap ((s[m].toNat : Int) + 1) = (s[m].toNat : Int) + 1 := by rw [IntKind.wrap_u8]; omega
        have HBel := Aside0.mk (show Below w.heap.size w ((Lib.bytesWorld w 5 (s.extract 0 (m + 1))).setCell ⟨w.heap.size, m, none⟩ (.int .u8 ((s[m].toNat : Int) + 1))) from below_set (bytes_below (Below.refl _ _) (Nat.le_refl _) 5 _) (Nat.le_refl _))
        clear hTs hne hlt hv
        go_wp2_with fail
        go_ret2
        exact ⟨rfl, HBel.out⟩
end Go.Proofs.YtdodfelbejkbiaaDoor.K
