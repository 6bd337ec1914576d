/-
  DERIVED. GIVEN WITH THE SEED: THE CARDS: each row of YtdmmllcjgjmbbaaGreatDoorRows.lean that lists a variable, with what it lists TIED to the program's text (the seventh form; the later family's looks); each row that meets fmt, with fmt's text TOLD by the authors' own Lean function (tested against real Go, not proved from fmt's source: count such statements apart). THE CARD IS WHAT COUNTS. Prove the row's statement (the work); the ties are given (YtdmmllcjgjmbbaaGreatDoorTie.lean); close each card by the builder's one call (the guide's Derived/Test/ToyasCard.lean, 'card_holds'). Laid BY PROGRAM, IN A SANDBOX (cutbox-door.mjs). By AI agents, Wed Nov 11 2026. No macro, syntax, notation, axiom, sorry.
-/
import Derived.Test.YtdmmllcjgjmbbaaGreatDoorRows
import GoSem.ClaimSeven
namespace Go.Proofs.YtdmmllcjgjmbbaaGreatDoor
namespace Rows

/-- THE TIED CARD OF 'gimletlaw07.ModuleChecks'. -/
def moduleChecksCard : Claim7 := { stood := { row := moduleChecksRow, standIns := [], harness := (true, "4f3050421742c99c10d7f790fddadc5e9af5586d0401bd56c46e2e42c2a5b8c2"), looks := false }, kinds := [], alts := [], laidByText := true, laidKinds := [.data, .listed, .data, .pinned], laidTests := true, laidLooks := .later }
def ModuleChecksCardSaid : Prop := Claim7.holds Tryz.pinned (.plain (OpenSpec.ofChange moduleChecksSpec)) moduleChecksCard

/-- THE TIED CARD OF 'gimletlaw11.ValidTells'. -/
def validTellsCard : Claim7 := { stood := { row := validTellsRow, standIns := [], harness := (true, "4f3050421742c99c10d7f790fddadc5e9af5586d0401bd56c46e2e42c2a5b8c2"), looks := false }, kinds := [], alts := [], laidByText := true, laidKinds := [.data, .listed, .data, .pinned], laidTests := true, laidLooks := .later }
def ValidTellsCardSaid : Prop := Claim7.holds Tryz.pinned (.plain (OpenSpec.ofChange validTellsSpec)) validTellsCard

/-- THE TIED CARD OF 'gimletlaw11.ValidLess'. -/
def validLessCard : Claim7 := { stood := { row := validLessRow, standIns := [], harness := (true, "4f3050421742c99c10d7f790fddadc5e9af5586d0401bd56c46e2e42c2a5b8c2"), looks := false }, kinds := [], alts := [], laidByText := true, laidKinds := [.data, .listed, .data, .pinned], laidTests := true, laidLooks := .later }
def ValidLessCardSaid : Prop := Claim7.holds Tryz.pinned (.plain (OpenSpec.ofChange validLessSpec)) validLessCard

/-- THE SECOND FORM's CARD OF 'gimletlaw07.ModuleChecks'. -/
def moduleChecksUptoCard : Claim7 := { stood := { row := moduleChecksUptoRow, standIns := [], harness := (true, "4f3050421742c99c10d7f790fddadc5e9af5586d0401bd56c46e2e42c2a5b8c2"), looks := false }, kinds := [], alts := [], laidByText := true, laidKinds := [.data, .listed, .data, .pinned], laidTests := true, laidLooks := .later }
def ModuleChecksUptoCardSaid : Prop := Claim7.holds Tryz.pinned (.plain (OpenSpec.upto moduleChecksSpec)) moduleChecksUptoCard

/-- THE SECOND FORM's CARD OF 'gimletlaw11.ValidTells'. -/
def validTellsUptoCard : Claim7 := { stood := { row := validTellsUptoRow, standIns := [], harness := (true, "4f3050421742c99c10d7f790fddadc5e9af5586d0401bd56c46e2e42c2a5b8c2"), looks := false }, kinds := [], alts := [], laidByText := true, laidKinds := [.data, .listed, .data, .pinned], laidTests := true, laidLooks := .later }
def ValidTellsUptoCardSaid : Prop := Claim7.holds Tryz.pinned (.plain (OpenSpec.upto validTellsSpec)) validTellsUptoCard

/-- THE SECOND FORM's CARD OF 'gimletlaw11.ValidLess'. -/
def validLessUptoCard : Claim7 := { stood := { row := validLessUptoRow, standIns := [], harness := (true, "4f3050421742c99c10d7f790fddadc5e9af5586d0401bd56c46e2e42c2a5b8c2"), looks := false }, kinds := [], alts := [], laidByText := true, laidKinds := [.data, .listed, .data, .pinned], laidTests := true, laidLooks := .later }
def ValidLessUptoCardSaid : Prop := Claim7.holds Tryz.pinned (.plain (OpenSpec.upto validLessSpec)) validLessUptoCard
end Rows
end Go.Proofs.YtdmmllcjgjmbbaaGreatDoor
