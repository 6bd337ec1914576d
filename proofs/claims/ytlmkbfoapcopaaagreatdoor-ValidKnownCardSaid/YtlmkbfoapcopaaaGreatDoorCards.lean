/-
  DERIVED. GIVEN WITH THE SEED: THE CARDS: each row of YtlmkbfoapcopaaaGreatDoorRows.lean that lists a variable, with what it lists TIED to the program's text (the seventh form; the later family's looks); each row that meets fmt, with fmt's text TOLD by the authors' own Lean function (tested against real Go, not proved from fmt's source: count such statements apart). THE CARD IS WHAT COUNTS. Prove the row's statement (the work); the ties are given (YtlmkbfoapcopaaaGreatDoorTie.lean); close each card by the builder's one call (the guide's Derived/Test/ToyasCard.lean, 'card_holds'). Laid BY PROGRAM, IN A SANDBOX (cutbox-door.mjs). By AI agents, Wed Nov 11 2026. No macro, syntax, notation, axiom, sorry.
-/
import Derived.Test.YtlmkbfoapcopaaaGreatDoorRows
import GoSem.ClaimSeven
namespace Go.Proofs.YtlmkbfoapcopaaaGreatDoor
namespace Rows

/-- THE TIED CARD OF 'gimletlaw11.ValidTells'. -/
def validTellsCard : Claim7 := { stood := { row := validTellsRow, standIns := [], harness := (true, "d438c76caacda3ebc022bbbc5529cf060746c851a6cfe977800333d108e3f543"), looks := false }, kinds := [], alts := [], laidByText := true, laidKinds := [.data, .listed, .data, .pinned], laidTests := true, laidLooks := .later }
def ValidTellsCardSaid : Prop := Claim7.holds Tryz.pinned (.plain (OpenSpec.ofChange validTellsSpec)) validTellsCard

/-- THE TIED CARD OF 'gimletlaw11.ValidBodies'. -/
def validBodiesCard : Claim7 := { stood := { row := validBodiesRow, standIns := [], harness := (true, "d438c76caacda3ebc022bbbc5529cf060746c851a6cfe977800333d108e3f543"), looks := false }, kinds := [], alts := [], laidByText := true, laidKinds := [.data, .listed, .data, .pinned], laidTests := true, laidLooks := .later }
def ValidBodiesCardSaid : Prop := Claim7.holds Tryz.pinned (.plain (OpenSpec.ofChange validBodiesSpec)) validBodiesCard

/-- THE TIED CARD OF 'gimletlaw11.ValidConst'. -/
def validConstCard : Claim7 := { stood := { row := validConstRow, standIns := [], harness := (true, "d438c76caacda3ebc022bbbc5529cf060746c851a6cfe977800333d108e3f543"), looks := false }, kinds := [], alts := [], laidByText := true, laidKinds := [.data, .listed, .data, .pinned], laidTests := true, laidLooks := .later }
def ValidConstCardSaid : Prop := Claim7.holds Tryz.pinned (.plain (OpenSpec.ofChange validConstSpec)) validConstCard

/-- THE TIED CARD OF 'gimletlaw11.ValidLess'. -/
def validLessCard : Claim7 := { stood := { row := validLessRow, standIns := [], harness := (true, "d438c76caacda3ebc022bbbc5529cf060746c851a6cfe977800333d108e3f543"), looks := false }, kinds := [], alts := [], laidByText := true, laidKinds := [.data, .listed, .data, .pinned], laidTests := true, laidLooks := .later }
def ValidLessCardSaid : Prop := Claim7.holds Tryz.pinned (.plain (OpenSpec.ofChange validLessSpec)) validLessCard

/-- THE TIED CARD OF 'gimletlaw11.ValidDead'. -/
def validDeadCard : Claim7 := { stood := { row := validDeadRow, standIns := [], harness := (true, "d438c76caacda3ebc022bbbc5529cf060746c851a6cfe977800333d108e3f543"), looks := false }, kinds := [], alts := [], laidByText := true, laidKinds := [.data, .listed, .data, .pinned], laidTests := true, laidLooks := .later }
def ValidDeadCardSaid : Prop := Claim7.holds Tryz.pinned (.plain (OpenSpec.ofChange validDeadSpec)) validDeadCard

/-- THE TIED CARD OF 'gimletlaw11.ValidKnown'. -/
def validKnownCard : Claim7 := { stood := { row := validKnownRow, standIns := [], harness := (true, "d438c76caacda3ebc022bbbc5529cf060746c851a6cfe977800333d108e3f543"), looks := false }, kinds := [], alts := [], laidByText := true, laidKinds := [.data, .listed, .data, .pinned], laidTests := true, laidLooks := .later }
def ValidKnownCardSaid : Prop := Claim7.holds Tryz.pinned (.plain (OpenSpec.ofChange validKnownSpec)) validKnownCard

/-- THE TIED CARD OF 'gimletlaw11.ValidParts'. -/
def validPartsCard : Claim7 := { stood := { row := validPartsRow, standIns := [], harness := (true, "d438c76caacda3ebc022bbbc5529cf060746c851a6cfe977800333d108e3f543"), looks := false }, kinds := [], alts := [], laidByText := true, laidKinds := [.data, .listed, .data, .pinned], laidTests := true, laidLooks := .later }
def ValidPartsCardSaid : Prop := Claim7.holds Tryz.pinned (.plain (OpenSpec.ofChange validPartsSpec)) validPartsCard

/-- THE SECOND FORM's CARD OF 'gimletlaw11.ValidTells'. -/
def validTellsUptoCard : Claim7 := { stood := { row := validTellsUptoRow, standIns := [], harness := (true, "d438c76caacda3ebc022bbbc5529cf060746c851a6cfe977800333d108e3f543"), looks := false }, kinds := [], alts := [], laidByText := true, laidKinds := [.data, .listed, .data, .pinned], laidTests := true, laidLooks := .later }
def ValidTellsUptoCardSaid : Prop := Claim7.holds Tryz.pinned (.plain (OpenSpec.upto validTellsSpec)) validTellsUptoCard

/-- THE SECOND FORM's CARD OF 'gimletlaw11.ValidBodies'. -/
def validBodiesUptoCard : Claim7 := { stood := { row := validBodiesUptoRow, standIns := [], harness := (true, "d438c76caacda3ebc022bbbc5529cf060746c851a6cfe977800333d108e3f543"), looks := false }, kinds := [], alts := [], laidByText := true, laidKinds := [.data, .listed, .data, .pinned], laidTests := true, laidLooks := .later }
def ValidBodiesUptoCardSaid : Prop := Claim7.holds Tryz.pinned (.plain (OpenSpec.upto validBodiesSpec)) validBodiesUptoCard

/-- THE SECOND FORM's CARD OF 'gimletlaw11.ValidConst'. -/
def validConstUptoCard : Claim7 := { stood := { row := validConstUptoRow, standIns := [], harness := (true, "d438c76caacda3ebc022bbbc5529cf060746c851a6cfe977800333d108e3f543"), looks := false }, kinds := [], alts := [], laidByText := true, laidKinds := [.data, .listed, .data, .pinned], laidTests := true, laidLooks := .later }
def ValidConstUptoCardSaid : Prop := Claim7.holds Tryz.pinned (.plain (OpenSpec.upto validConstSpec)) validConstUptoCard

/-- THE SECOND FORM's CARD OF 'gimletlaw11.ValidLess'. -/
def validLessUptoCard : Claim7 := { stood := { row := validLessUptoRow, standIns := [], harness := (true, "d438c76caacda3ebc022bbbc5529cf060746c851a6cfe977800333d108e3f543"), looks := false }, kinds := [], alts := [], laidByText := true, laidKinds := [.data, .listed, .data, .pinned], laidTests := true, laidLooks := .later }
def ValidLessUptoCardSaid : Prop := Claim7.holds Tryz.pinned (.plain (OpenSpec.upto validLessSpec)) validLessUptoCard

/-- THE SECOND FORM's CARD OF 'gimletlaw11.ValidDead'. -/
def validDeadUptoCard : Claim7 := { stood := { row := validDeadUptoRow, standIns := [], harness := (true, "d438c76caacda3ebc022bbbc5529cf060746c851a6cfe977800333d108e3f543"), looks := false }, kinds := [], alts := [], laidByText := true, laidKinds := [.data, .listed, .data, .pinned], laidTests := true, laidLooks := .later }
def ValidDeadUptoCardSaid : Prop := Claim7.holds Tryz.pinned (.plain (OpenSpec.upto validDeadSpec)) validDeadUptoCard

/-- THE SECOND FORM's CARD OF 'gimletlaw11.ValidKnown'. -/
def validKnownUptoCard : Claim7 := { stood := { row := validKnownUptoRow, standIns := [], harness := (true, "d438c76caacda3ebc022bbbc5529cf060746c851a6cfe977800333d108e3f543"), looks := false }, kinds := [], alts := [], laidByText := true, laidKinds := [.data, .listed, .data, .pinned], laidTests := true, laidLooks := .later }
def ValidKnownUptoCardSaid : Prop := Claim7.holds Tryz.pinned (.plain (OpenSpec.upto validKnownSpec)) validKnownUptoCard

/-- THE SECOND FORM's CARD OF 'gimletlaw11.ValidParts'. -/
def validPartsUptoCard : Claim7 := { stood := { row := validPartsUptoRow, standIns := [], harness := (true, "d438c76caacda3ebc022bbbc5529cf060746c851a6cfe977800333d108e3f543"), looks := false }, kinds := [], alts := [], laidByText := true, laidKinds := [.data, .listed, .data, .pinned], laidTests := true, laidLooks := .later }
def ValidPartsUptoCardSaid : Prop := Claim7.holds Tryz.pinned (.plain (OpenSpec.upto validPartsSpec)) validPartsUptoCard
end Rows
end Go.Proofs.YtlmkbfoapcopaaaGreatDoor
