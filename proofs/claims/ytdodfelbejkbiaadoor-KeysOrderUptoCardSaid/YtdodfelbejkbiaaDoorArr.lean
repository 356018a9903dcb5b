/- Arguments: their sizes and their bulk. -/
import Derived.Test.YtdodfelbejkbiaaDoorArg
import Derived.Test.YtdodfelbejkbiaaDoorPf
import Derived.Test.YtdodfelbejkbiaaDoorRows
import Derived.SizedLaws
namespace Go.Proofs.YtdodfelbejkbiaaDoor.Arg
open Go.ChangeShapes Go.WideShapes Go.Deep K
theorem bytes52 : Tryd.prog.bytesOf 52 = 32 := by kernel_rfl
theorem sized_parts {H : Type} {ts : List TypeId} {ds : List (DataW H)} (h : (DataW.weightsEach Tryd.prog ts ds).all (· ≤ reachBytes) = true) {j : Nat} {d : DataW H} {l : List S52} {sp : List (DataW H)} (ht : ts[j]? = some 26) (hd : ds[j]? = some d)
    (hl : (l = [] ∧ d = .nil) ∨ d = .slice (l.map partD) sp) : l.length < 4398046511104 := by
  rcases hl with ⟨rfl, _⟩ | rfl
  · decide
  · have := sized_slice h ht hd Tryd.underlying26
    rw [bytes52, List.length_map] at this
    have hr : reachBytes < 140737488355328 := by decide
    have := Nat.le_trans (Nat.mul_le_mul_right 32 (Nat.le_add_right l.length sp.length)) this
    omega
theorem sized_text {H : Type} {ts : List TypeId} {ds : List (DataW H)} (h : (DataW.weightsEach Tryd.prog ts ds).all (· ≤ reachBytes) = true) {j : Nat} {t : TypeId} {s : ByteArray} (ht : ts[j]? = some t) (hd : ds[j]? = some (.lit (.string s.data.toList))) : s.size ≤ 140737488351232 := by
  have := sized_string h ht hd
  have hr : reachBytes = 140737488351232 := by decide
  have hz : s.data.toList.length = s.size := by simp
  omega
theorem bulk_part {H : Type} (p : S52) : Rows.uptoBulk (H := H) (partD p) = p.f2.size + 4 := by
  unfold partD
  have hz : p.f2.data.toList.length = p.f2.size := by simp
  simp only [Rows.uptoBulk, Rows.uptoBulkAll]
  omega
theorem bulk_parts {H : Type} {d : DataW H} {l : List S52} {sp : List (DataW H)} (hl : (l = [] ∧ d = .nil) ∨ d = .slice (l.map partD) sp) : bulkL l ≤ Rows.uptoBulk d := by
  rcases hl with ⟨rfl, _⟩ | rfl
  · simp [bulkL]
  · have h : ∀ l : List S52, Rows.uptoBulkAll (H := H) (l.map partD) = bulkL l := by
      intro l
      induction l with
      | nil => simp [bulkL, Rows.uptoBulkAll]
      | cons p l ih =>
        rw [List.map_cons]
        have h1 : Rows.uptoBulkAll (H := H) (partD p :: l.map partD) = Rows.uptoBulk (H := H) (partD p) + Rows.uptoBulkAll (H := H) (l.map partD) := by rw [Rows.uptoBulkAll]
        rw [h1, ih, bulk_part, bulkL]
    simp only [Rows.uptoBulk, h]
    omega
theorem bulk_text {H : Type} (s : ByteArray) : s.size ≤ Rows.uptoBulk (DataW.lit (H := H) (.string s.data.toList)) := by
  simp [Rows.uptoBulk]
theorem bulk_one {H : Type} {d : DataW H} (h : Rows.uptoSmall H [d] = true) : Rows.uptoBulk d ≤ 1048576 := by
  have h := of_decide_eq_true h
  simp only [Rows.uptoBulkAll] at h
  omega
theorem bulk_two {H : Type} {d e : DataW H} (h : Rows.uptoSmall H [d, e] = true) : Rows.uptoBulk d + Rows.uptoBulk e ≤ 1048576 := by
  have h := of_decide_eq_true h
  simp only [Rows.uptoBulkAll] at h
  omega
end Go.Proofs.YtdodfelbejkbiaaDoor.Arg
