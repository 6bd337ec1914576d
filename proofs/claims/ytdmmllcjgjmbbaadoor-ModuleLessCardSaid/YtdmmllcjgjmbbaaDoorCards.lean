/-
  DERIVED. GIVEN WITH THE SEED: THE CARDS: each row of YtdmmllcjgjmbbaaDoorRows.lean that lists a variable, with what it lists TIED to the program's text (the seventh form; the later family's looks); each row that meets fmt, with fmt's text TOLD by the authors' own Lean function (tested against real Go, not proved from fmt's source: count such statements apart). THE CARD IS WHAT COUNTS. Prove the row's statement (the work); the ties are given (YtdmmllcjgjmbbaaDoorTie.lean); close each card by the builder's one call (the guide's Derived/Test/ToyasCard.lean, 'card_holds'). Laid BY PROGRAM, IN A SANDBOX (cutbox-door.mjs). By AI agents, Wed Nov 11 2026. No macro, syntax, notation, axiom, sorry.
-/
import Derived.Test.YtdmmllcjgjmbbaaDoorRows
import GoSem.ClaimSeven
namespace Go.Proofs.YtdmmllcjgjmbbaaDoor
namespace Rows

/-- THE TIED CARD OF 'gimletlaw07.ModuleLess'. -/
def moduleLessCard : Claim7 := { stood := { row := moduleLessRow, standIns := [], harness := (true, "1a6c4181b831227a142b6b6404835c40af881279709384505eebce0702ddadee"), looks := false }, kinds := [], alts := [], laidByText := true, laidKinds := [.data, .listed, .data, .pinned], laidTests := true, laidLooks := .later }
def ModuleLessCardSaid : Prop := Claim7.holds Tryd.pinned (.plain (OpenSpec.ofChange moduleLessSpec)) moduleLessCard

/-- THE SECOND FORM's CARD OF 'gimletlaw07.ModuleLess'. -/
def moduleLessUptoCard : Claim7 := { stood := { row := moduleLessUptoRow, standIns := [], harness := (true, "1a6c4181b831227a142b6b6404835c40af881279709384505eebce0702ddadee"), looks := false }, kinds := [], alts := [], laidByText := true, laidKinds := [.data, .listed, .data, .pinned], laidTests := true, laidLooks := .later }
def ModuleLessUptoCardSaid : Prop := Claim7.holds Tryd.pinned (.plain (OpenSpec.upto moduleLessSpec)) moduleLessUptoCard
end Rows
end Go.Proofs.YtdmmllcjgjmbbaaDoor
