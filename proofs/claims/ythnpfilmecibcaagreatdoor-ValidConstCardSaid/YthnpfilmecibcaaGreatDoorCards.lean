/-
  DERIVED. GIVEN WITH THE SEED: THE CARDS: each row of YthnpfilmecibcaaGreatDoorRows.lean that lists a variable, with what it lists TIED to the program's text (the seventh form; the later family's looks); each row that meets fmt, with fmt's text TOLD by the authors' own Lean function (tested against real Go, not proved from fmt's source: count such statements apart). THE CARD IS WHAT COUNTS. Prove the row's statement (the work); the ties are given (YthnpfilmecibcaaGreatDoorTie.lean); close each card by the builder's one call (the guide's Derived/Test/ToyasCard.lean, 'card_holds'). Laid BY PROGRAM, IN A SANDBOX (cutbox-door.mjs). By AI agents, Wed Nov 11 2026. No macro, syntax, notation, axiom, sorry.
-/
import Derived.Test.YthnpfilmecibcaaGreatDoorRows
import GoSem.ClaimSeven
namespace Go.Proofs.YthnpfilmecibcaaGreatDoor
namespace Rows

/-- THE TIED CARD OF 'gimletlaw11.ValidConst'. -/
def validConstCard : Claim7 := { stood := { row := validConstRow, standIns := [], harness := (true, "b4e8b035faf91725625ebcf20e72e7c1505c05b7c473a655ad1072cb8b9fa1b0"), looks := false }, kinds := [], alts := [], laidByText := true, laidKinds := [.data, .listed, .data, .pinned], laidTests := true, laidLooks := .later }
def ValidConstCardSaid : Prop := Claim7.holds Tryz.pinned (.plain (OpenSpec.ofChange validConstSpec)) validConstCard

/-- THE SECOND FORM's CARD OF 'gimletlaw11.ValidConst'. -/
def validConstUptoCard : Claim7 := { stood := { row := validConstUptoRow, standIns := [], harness := (true, "b4e8b035faf91725625ebcf20e72e7c1505c05b7c473a655ad1072cb8b9fa1b0"), looks := false }, kinds := [], alts := [], laidByText := true, laidKinds := [.data, .listed, .data, .pinned], laidTests := true, laidLooks := .later }
def ValidConstUptoCardSaid : Prop := Claim7.holds Tryz.pinned (.plain (OpenSpec.upto validConstSpec)) validConstUptoCard
end Rows
end Go.Proofs.YthnpfilmecibcaaGreatDoor
