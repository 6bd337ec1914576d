/-
  DERIVED. GIVEN WITH THE SEED: THE CARDS: each row of YtgbphddecpjlhaaGreatDoorRows.lean that lists a variable, with what it lists TIED to the program's text (the seventh form; the later family's looks); each row that meets fmt, with fmt's text TOLD by the authors' own Lean function (tested against real Go, not proved from fmt's source: count such statements apart). THE CARD IS WHAT COUNTS. Prove the row's statement (the work); the ties are given (YtgbphddecpjlhaaGreatDoorTie.lean); close each card by the builder's one call (the guide's Derived/Test/ToyasCard.lean, 'card_holds'). Laid BY PROGRAM, IN A SANDBOX (cutbox-door.mjs). By AI agents, Wed Nov 11 2026. No macro, syntax, notation, axiom, sorry.
-/
import Derived.Test.YtgbphddecpjlhaaGreatDoorRows
import GoSem.ClaimSeven
namespace Go.Proofs.YtgbphddecpjlhaaGreatDoor
namespace Rows

/-- THE TIED CARD OF 'gimletlaw11.ValidBodies'. -/
def validBodiesCard : Claim7 := { stood := { row := validBodiesRow, standIns := [], harness := (true, "fef2a563b44da45ddf741503f11c39136f5d7e767f3ff9f9ca932d133a49ee36"), looks := false }, kinds := [], alts := [], laidByText := true, laidKinds := [.data, .listed, .data, .pinned], laidTests := true, laidLooks := .later }
def ValidBodiesCardSaid : Prop := Claim7.holds Tryz.pinned (.plain (OpenSpec.ofChange validBodiesSpec)) validBodiesCard

/-- THE TIED CARD OF 'gimletlaw11.ValidDead'. -/
def validDeadCard : Claim7 := { stood := { row := validDeadRow, standIns := [], harness := (true, "fef2a563b44da45ddf741503f11c39136f5d7e767f3ff9f9ca932d133a49ee36"), looks := false }, kinds := [], alts := [], laidByText := true, laidKinds := [.data, .listed, .data, .pinned], laidTests := true, laidLooks := .later }
def ValidDeadCardSaid : Prop := Claim7.holds Tryz.pinned (.plain (OpenSpec.ofChange validDeadSpec)) validDeadCard

/-- THE TIED CARD OF 'gimletlaw11.ValidParts'. -/
def validPartsCard : Claim7 := { stood := { row := validPartsRow, standIns := [], harness := (true, "fef2a563b44da45ddf741503f11c39136f5d7e767f3ff9f9ca932d133a49ee36"), looks := false }, kinds := [], alts := [], laidByText := true, laidKinds := [.data, .listed, .data, .pinned], laidTests := true, laidLooks := .later }
def ValidPartsCardSaid : Prop := Claim7.holds Tryz.pinned (.plain (OpenSpec.ofChange validPartsSpec)) validPartsCard

/-- THE SECOND FORM's CARD OF 'gimletlaw11.ValidBodies'. -/
def validBodiesUptoCard : Claim7 := { stood := { row := validBodiesUptoRow, standIns := [], harness := (true, "fef2a563b44da45ddf741503f11c39136f5d7e767f3ff9f9ca932d133a49ee36"), looks := false }, kinds := [], alts := [], laidByText := true, laidKinds := [.data, .listed, .data, .pinned], laidTests := true, laidLooks := .later }
def ValidBodiesUptoCardSaid : Prop := Claim7.holds Tryz.pinned (.plain (OpenSpec.upto validBodiesSpec)) validBodiesUptoCard

/-- THE SECOND FORM's CARD OF 'gimletlaw11.ValidDead'. -/
def validDeadUptoCard : Claim7 := { stood := { row := validDeadUptoRow, standIns := [], harness := (true, "fef2a563b44da45ddf741503f11c39136f5d7e767f3ff9f9ca932d133a49ee36"), looks := false }, kinds := [], alts := [], laidByText := true, laidKinds := [.data, .listed, .data, .pinned], laidTests := true, laidLooks := .later }
def ValidDeadUptoCardSaid : Prop := Claim7.holds Tryz.pinned (.plain (OpenSpec.upto validDeadSpec)) validDeadUptoCard

/-- THE SECOND FORM's CARD OF 'gimletlaw11.ValidParts'. -/
def validPartsUptoCard : Claim7 := { stood := { row := validPartsUptoRow, standIns := [], harness := (true, "fef2a563b44da45ddf741503f11c39136f5d7e767f3ff9f9ca932d133a49ee36"), looks := false }, kinds := [], alts := [], laidByText := true, laidKinds := [.data, .listed, .data, .pinned], laidTests := true, laidLooks := .later }
def ValidPartsUptoCardSaid : Prop := Claim7.holds Tryz.pinned (.plain (OpenSpec.upto validPartsSpec)) validPartsUptoCard
end Rows
end Go.Proofs.YtgbphddecpjlhaaGreatDoor
