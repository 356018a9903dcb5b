/-
  DERIVED. GIVEN WITH THE SEED: THE CARDS: each row of YtkffmgalmooioaaDoorRows.lean that lists a variable, with what it lists TIED to the program's text (the seventh form; the later family's looks); each row that meets fmt, with fmt's text TOLD by the authors' own Lean function (tested against real Go, not proved from fmt's source: count such statements apart). THE CARD IS WHAT COUNTS. Prove the row's statement (the work); the ties are given (YtkffmgalmooioaaDoorTie.lean); close each card by the builder's one call (the guide's Derived/Test/ToyasCard.lean, 'card_holds'). Laid BY PROGRAM, IN A SANDBOX (cutbox-door.mjs). By AI agents, Wed Nov 11 2026. No macro, syntax, notation, axiom, sorry.
-/
import Derived.Test.YtkffmgalmooioaaDoorRows
import GoSem.ClaimSeven
namespace Go.Proofs.YtkffmgalmooioaaDoor
namespace Rows

/-- THE TIED CARD OF 'ticklerlaw17.CronLeast'. -/
def cronLeastCard : Claim7 := { stood := { row := cronLeastRow, standIns := [], harness := (true, "11cc77639090c7fff0bd0ff030a8b9007ef2fbf7137b2e294ab8f502c1de17e4"), looks := false }, kinds := [], alts := [], laidByText := true, laidKinds := [.data, .data, .pinned], laidTests := true, laidLooks := .later }
def CronLeastCardSaid : Prop := Claim7.holds Tryd.pinned (.plain (OpenSpec.ofChange cronLeastSpec)) cronLeastCard

/-- THE TIED CARD OF 'ticklerlaw17.CronBack'. -/
def cronBackCard : Claim7 := { stood := { row := cronBackRow, standIns := [], harness := (true, "11cc77639090c7fff0bd0ff030a8b9007ef2fbf7137b2e294ab8f502c1de17e4"), looks := false }, kinds := [], alts := [], laidByText := true, laidKinds := [.data, .data, .pinned], laidTests := true, laidLooks := .later }
def CronBackCardSaid : Prop := Claim7.holds Tryd.pinned (.plain (OpenSpec.ofChange cronBackSpec)) cronBackCard

/-- THE TIED CARD OF 'ticklerlaw17.CronNext'. -/
def cronNextCard : Claim7 := { stood := { row := cronNextRow, standIns := [], harness := (true, "11cc77639090c7fff0bd0ff030a8b9007ef2fbf7137b2e294ab8f502c1de17e4"), looks := false }, kinds := [], alts := [], laidByText := true, laidKinds := [.data, .data, .pinned], laidTests := true, laidLooks := .later }
def CronNextCardSaid : Prop := Claim7.holds Tryd.pinned (.plain (OpenSpec.ofChange cronNextSpec)) cronNextCard

/-- THE TIED CARD OF 'ticklerlaw17.CronSteps'. -/
def cronStepsCard : Claim7 := { stood := { row := cronStepsRow, standIns := [], harness := (true, "11cc77639090c7fff0bd0ff030a8b9007ef2fbf7137b2e294ab8f502c1de17e4"), looks := false }, kinds := [], alts := [], laidByText := true, laidKinds := [.data, .data, .pinned], laidTests := true, laidLooks := .later }
def CronStepsCardSaid : Prop := Claim7.holds Tryd.pinned (.plain (OpenSpec.ofChange cronStepsSpec)) cronStepsCard

/-- THE TIED CARD OF 'ticklerlaw17.CronComes'. -/
def cronComesCard : Claim7 := { stood := { row := cronComesRow, standIns := [], harness := (true, "11cc77639090c7fff0bd0ff030a8b9007ef2fbf7137b2e294ab8f502c1de17e4"), looks := false }, kinds := [], alts := [], laidByText := true, laidKinds := [.data, .data, .pinned], laidTests := true, laidLooks := .later }
def CronComesCardSaid : Prop := Claim7.holds Tryd.pinned (.plain (OpenSpec.ofChange cronComesSpec)) cronComesCard

/-- THE SECOND FORM's CARD OF 'ticklerlaw17.CronLeast'. -/
def cronLeastUptoCard : Claim7 := { stood := { row := cronLeastUptoRow, standIns := [], harness := (true, "11cc77639090c7fff0bd0ff030a8b9007ef2fbf7137b2e294ab8f502c1de17e4"), looks := false }, kinds := [], alts := [], laidByText := true, laidKinds := [.data, .data, .pinned], laidTests := true, laidLooks := .later }
def CronLeastUptoCardSaid : Prop := Claim7.holds Tryd.pinned (.plain (OpenSpec.upto cronLeastSpec)) cronLeastUptoCard

/-- THE SECOND FORM's CARD OF 'ticklerlaw17.CronBack'. -/
def cronBackUptoCard : Claim7 := { stood := { row := cronBackUptoRow, standIns := [], harness := (true, "11cc77639090c7fff0bd0ff030a8b9007ef2fbf7137b2e294ab8f502c1de17e4"), looks := false }, kinds := [], alts := [], laidByText := true, laidKinds := [.data, .data, .pinned], laidTests := true, laidLooks := .later }
def CronBackUptoCardSaid : Prop := Claim7.holds Tryd.pinned (.plain (OpenSpec.upto cronBackSpec)) cronBackUptoCard

/-- THE SECOND FORM's CARD OF 'ticklerlaw17.CronNext'. -/
def cronNextUptoCard : Claim7 := { stood := { row := cronNextUptoRow, standIns := [], harness := (true, "11cc77639090c7fff0bd0ff030a8b9007ef2fbf7137b2e294ab8f502c1de17e4"), looks := false }, kinds := [], alts := [], laidByText := true, laidKinds := [.data, .data, .pinned], laidTests := true, laidLooks := .later }
def CronNextUptoCardSaid : Prop := Claim7.holds Tryd.pinned (.plain (OpenSpec.upto cronNextSpec)) cronNextUptoCard

/-- THE SECOND FORM's CARD OF 'ticklerlaw17.CronSteps'. -/
def cronStepsUptoCard : Claim7 := { stood := { row := cronStepsUptoRow, standIns := [], harness := (true, "11cc77639090c7fff0bd0ff030a8b9007ef2fbf7137b2e294ab8f502c1de17e4"), looks := false }, kinds := [], alts := [], laidByText := true, laidKinds := [.data, .data, .pinned], laidTests := true, laidLooks := .later }
def CronStepsUptoCardSaid : Prop := Claim7.holds Tryd.pinned (.plain (OpenSpec.upto cronStepsSpec)) cronStepsUptoCard

/-- THE SECOND FORM's CARD OF 'ticklerlaw17.CronComes'. -/
def cronComesUptoCard : Claim7 := { stood := { row := cronComesUptoRow, standIns := [], harness := (true, "11cc77639090c7fff0bd0ff030a8b9007ef2fbf7137b2e294ab8f502c1de17e4"), looks := false }, kinds := [], alts := [], laidByText := true, laidKinds := [.data, .data, .pinned], laidTests := true, laidLooks := .later }
def CronComesUptoCardSaid : Prop := Claim7.holds Tryd.pinned (.plain (OpenSpec.upto cronComesSpec)) cronComesUptoCard
end Rows
end Go.Proofs.YtkffmgalmooioaaDoor
