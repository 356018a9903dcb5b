/-
  DERIVED. GIVEN WITH THE SEED: THE CARDS: each row of YtdodfelbejkbiaaDoorRows.lean that lists a variable, with what it lists TIED to the program's text (the seventh form; the later family's looks); each row that meets fmt, with fmt's text TOLD by the authors' own Lean function (tested against real Go, not proved from fmt's source: count such statements apart). THE CARD IS WHAT COUNTS. Prove the row's statement (the work); the ties are given (YtdodfelbejkbiaaDoorTie.lean); close each card by the builder's one call (the guide's Derived/Test/ToyasCard.lean, 'card_holds'). Laid BY PROGRAM, IN A SANDBOX (cutbox-door.mjs). By AI agents, Wed Nov 11 2026. No macro, syntax, notation, axiom, sorry.
-/
import Derived.Test.YtdodfelbejkbiaaDoorRows
import GoSem.ClaimSeven
namespace Go.Proofs.YtdodfelbejkbiaaDoor
namespace Rows

/-- THE TIED CARD OF 'ticklerlaw02.KeysAbove'. -/
def keysAboveCard : Claim7 := { stood := { row := keysAboveRow, standIns := [], harness := (true, "b884c9631108914c27f0cb116a3410c4f1436632c2a08031f70dcdd346ec4095"), looks := false }, kinds := [], alts := [], laidByText := true, laidKinds := [.data, .pinned], laidTests := true, laidLooks := .later }
def KeysAboveCardSaid : Prop := Claim7.holds Tryd.pinned (.plain (OpenSpec.ofChange keysAboveSpec)) keysAboveCard

/-- THE TIED CARD OF 'ticklerlaw02.KeysTells'. -/
def keysTellsCard : Claim7 := { stood := { row := keysTellsRow, standIns := [], harness := (true, "b884c9631108914c27f0cb116a3410c4f1436632c2a08031f70dcdd346ec4095"), looks := false }, kinds := [], alts := [], laidByText := true, laidKinds := [.data, .pinned], laidTests := true, laidLooks := .later }
def KeysTellsCardSaid : Prop := Claim7.holds Tryd.pinned (.plain (OpenSpec.ofChange keysTellsSpec)) keysTellsCard

/-- THE TIED CARD OF 'ticklerlaw02.KeysBack'. -/
def keysBackCard : Claim7 := { stood := { row := keysBackRow, standIns := [], harness := (true, "b884c9631108914c27f0cb116a3410c4f1436632c2a08031f70dcdd346ec4095"), looks := false }, kinds := [], alts := [], laidByText := true, laidKinds := [.data, .pinned], laidTests := true, laidLooks := .later }
def KeysBackCardSaid : Prop := Claim7.holds Tryd.pinned (.plain (OpenSpec.ofChange keysBackSpec)) keysBackCard

/-- THE TIED CARD OF 'ticklerlaw02.KeysOwn'. -/
def keysOwnCard : Claim7 := { stood := { row := keysOwnRow, standIns := [], harness := (true, "b884c9631108914c27f0cb116a3410c4f1436632c2a08031f70dcdd346ec4095"), looks := false }, kinds := [], alts := [], laidByText := true, laidKinds := [.data, .pinned], laidTests := true, laidLooks := .later }
def KeysOwnCardSaid : Prop := Claim7.holds Tryd.pinned (.plain (OpenSpec.ofChange keysOwnSpec)) keysOwnCard

/-- THE TIED CARD OF 'ticklerlaw02.KeysCompares'. -/
def keysComparesCard : Claim7 := { stood := { row := keysComparesRow, standIns := [], harness := (true, "b884c9631108914c27f0cb116a3410c4f1436632c2a08031f70dcdd346ec4095"), looks := false }, kinds := [], alts := [], laidByText := true, laidKinds := [.data, .pinned], laidTests := true, laidLooks := .later }
def KeysComparesCardSaid : Prop := Claim7.holds Tryd.pinned (.plain (OpenSpec.ofChange keysComparesSpec)) keysComparesCard

/-- THE TIED CARD OF 'ticklerlaw02.KeysOrder'. -/
def keysOrderCard : Claim7 := { stood := { row := keysOrderRow, standIns := [], harness := (true, "b884c9631108914c27f0cb116a3410c4f1436632c2a08031f70dcdd346ec4095"), looks := false }, kinds := [], alts := [], laidByText := true, laidKinds := [.data, .pinned], laidTests := true, laidLooks := .later }
def KeysOrderCardSaid : Prop := Claim7.holds Tryd.pinned (.plain (OpenSpec.ofChange keysOrderSpec)) keysOrderCard

/-- THE SECOND FORM's CARD OF 'ticklerlaw02.KeysAbove'. -/
def keysAboveUptoCard : Claim7 := { stood := { row := keysAboveUptoRow, standIns := [], harness := (true, "b884c9631108914c27f0cb116a3410c4f1436632c2a08031f70dcdd346ec4095"), looks := false }, kinds := [], alts := [], laidByText := true, laidKinds := [.data, .pinned], laidTests := true, laidLooks := .later }
def KeysAboveUptoCardSaid : Prop := Claim7.holds Tryd.pinned (.plain (OpenSpec.upto keysAboveSpec)) keysAboveUptoCard

/-- THE SECOND FORM's CARD OF 'ticklerlaw02.KeysTells'. -/
def keysTellsUptoCard : Claim7 := { stood := { row := keysTellsUptoRow, standIns := [], harness := (true, "b884c9631108914c27f0cb116a3410c4f1436632c2a08031f70dcdd346ec4095"), looks := false }, kinds := [], alts := [], laidByText := true, laidKinds := [.data, .pinned], laidTests := true, laidLooks := .later }
def KeysTellsUptoCardSaid : Prop := Claim7.holds Tryd.pinned (.plain (OpenSpec.upto keysTellsSpec)) keysTellsUptoCard

/-- THE SECOND FORM's CARD OF 'ticklerlaw02.KeysBack'. -/
def keysBackUptoCard : Claim7 := { stood := { row := keysBackUptoRow, standIns := [], harness := (true, "b884c9631108914c27f0cb116a3410c4f1436632c2a08031f70dcdd346ec4095"), looks := false }, kinds := [], alts := [], laidByText := true, laidKinds := [.data, .pinned], laidTests := true, laidLooks := .later }
def KeysBackUptoCardSaid : Prop := Claim7.holds Tryd.pinned (.plain (OpenSpec.upto keysBackSpec)) keysBackUptoCard

/-- THE SECOND FORM's CARD OF 'ticklerlaw02.KeysOwn'. -/
def keysOwnUptoCard : Claim7 := { stood := { row := keysOwnUptoRow, standIns := [], harness := (true, "b884c9631108914c27f0cb116a3410c4f1436632c2a08031f70dcdd346ec4095"), looks := false }, kinds := [], alts := [], laidByText := true, laidKinds := [.data, .pinned], laidTests := true, laidLooks := .later }
def KeysOwnUptoCardSaid : Prop := Claim7.holds Tryd.pinned (.plain (OpenSpec.upto keysOwnSpec)) keysOwnUptoCard

/-- THE SECOND FORM's CARD OF 'ticklerlaw02.KeysCompares'. -/
def keysComparesUptoCard : Claim7 := { stood := { row := keysComparesUptoRow, standIns := [], harness := (true, "b884c9631108914c27f0cb116a3410c4f1436632c2a08031f70dcdd346ec4095"), looks := false }, kinds := [], alts := [], laidByText := true, laidKinds := [.data, .pinned], laidTests := true, laidLooks := .later }
def KeysComparesUptoCardSaid : Prop := Claim7.holds Tryd.pinned (.plain (OpenSpec.upto keysComparesSpec)) keysComparesUptoCard

/-- THE SECOND FORM's CARD OF 'ticklerlaw02.KeysOrder'. -/
def keysOrderUptoCard : Claim7 := { stood := { row := keysOrderUptoRow, standIns := [], harness := (true, "b884c9631108914c27f0cb116a3410c4f1436632c2a08031f70dcdd346ec4095"), looks := false }, kinds := [], alts := [], laidByText := true, laidKinds := [.data, .pinned], laidTests := true, laidLooks := .later }
def KeysOrderUptoCardSaid : Prop := Claim7.holds Tryd.pinned (.plain (OpenSpec.upto keysOrderSpec)) keysOrderUptoCard
end Rows
end Go.Proofs.YtdodfelbejkbiaaDoor
