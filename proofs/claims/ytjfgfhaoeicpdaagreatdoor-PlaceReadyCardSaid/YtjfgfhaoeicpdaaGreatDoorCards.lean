/-
  DERIVED. GIVEN WITH THE SEED: THE CARDS: each row of YtjfgfhaoeicpdaaGreatDoorRows.lean that lists a variable, with what it lists TIED to the program's text (the seventh form; the later family's looks); each row that meets fmt, with fmt's text TOLD by the authors' own Lean function (tested against real Go, not proved from fmt's source: count such statements apart). THE CARD IS WHAT COUNTS. Prove the row's statement (the work); the ties are given (YtjfgfhaoeicpdaaGreatDoorTie.lean); close each card by the builder's one call (the guide's Derived/Test/ToyasCard.lean, 'card_holds'). Laid BY PROGRAM, IN A SANDBOX (cutbox-door.mjs). By AI agents, Wed Nov 11 2026. No macro, syntax, notation, axiom, sorry.
-/
import Derived.Test.YtjfgfhaoeicpdaaGreatDoorRows
import GoSem.ClaimSeven
namespace Go.Proofs.YtjfgfhaoeicpdaaGreatDoor
namespace Rows

/-- THE TIED CARD OF 'gimletlaw13.PlaceReady'. -/
def placeReadyCard : Claim7 := { stood := { row := placeReadyRow, standIns := [], harness := (true, "9064d5d11a372d2b99240f8668e24795cd61e7ab2f40ae7e3c7c50a0670ca5ba"), looks := false }, kinds := [], alts := [], laidByText := true, laidKinds := [.data, .listed, .data, .pinned], laidTests := true, laidLooks := .later }
def PlaceReadyCardSaid : Prop := Claim7.holds Tryz.pinned (.plain (OpenSpec.ofChange placeReadySpec)) placeReadyCard

/-- THE SECOND FORM's CARD OF 'gimletlaw13.PlaceReady'. -/
def placeReadyUptoCard : Claim7 := { stood := { row := placeReadyUptoRow, standIns := [], harness := (true, "9064d5d11a372d2b99240f8668e24795cd61e7ab2f40ae7e3c7c50a0670ca5ba"), looks := false }, kinds := [], alts := [], laidByText := true, laidKinds := [.data, .listed, .data, .pinned], laidTests := true, laidLooks := .later }
def PlaceReadyUptoCardSaid : Prop := Claim7.holds Tryz.pinned (.plain (OpenSpec.upto placeReadySpec)) placeReadyUptoCard
end Rows
end Go.Proofs.YtjfgfhaoeicpdaaGreatDoor
