/- Plain: the bulk of a row of parts. -/
import Derived.Test.YtdodfelbejkbiaaDoorPe
namespace Go.Proofs.YtdodfelbejkbiaaDoor.K
open Go Go.RowKit
/-- texts and four more each -/
def bulkL : List S52 → Nat
  | [] => 0
  | p :: l => p.f2.size + 4 + bulkL l
theorem bulk_length : ∀ l : List S52, l.length * 4 ≤ bulkL l
  | [] => by simp [bulkL]
  | p :: l => by have := bulk_length l; simp only [bulkL, List.length_cons]; omega
theorem bulk_each : ∀ {l : List S52} {p : S52}, p ∈ l → p.f2.size + 4 ≤ bulkL l
  | [], _, h => by cases h
  | q :: l, p, h => by
    rcases List.mem_cons.1 h with rfl | h
    · simp only [bulkL]; omega
    · have := bulk_each h; simp only [bulkL]; omega
theorem small_of {l : List S52} (hb : bulkL l ≤ 1048576) : ∀ p ∈ l, p.f2.size ≤ 2097152 := fun p hp => by
  have := bulk_each hp
  omega
end Go.Proofs.YtdodfelbejkbiaaDoor.K
