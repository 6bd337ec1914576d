/-
  DERIVED. GIVEN WITH THE SEED: THE CARDS: each row of YtapjgcmnabppbaaDoorRows.lean that lists a variable, with what it lists TIED to the program's text (the seventh form; the later family's looks); each row that meets fmt, with fmt's text TOLD by the authors' own Lean function (tested against real Go, not proved from fmt's source: count such statements apart). THE CARD IS WHAT COUNTS. Prove the row's statement (the work); the ties are given (YtapjgcmnabppbaaDoorTie.lean); close each card by the builder's one call (the guide's Derived/Test/ToyasCard.lean, 'card_holds'). Laid BY PROGRAM, IN A SANDBOX (cutbox-door.mjs). By AI agents, Wed Nov 11 2026. No macro, syntax, notation, axiom, sorry.
-/
import Derived.Test.YtapjgcmnabppbaaDoorRows
import GoSem.ClaimSeven
namespace Go.Proofs.YtapjgcmnabppbaaDoor
namespace Rows

/-- THE TIED CARD OF 'gimletlaw09.DecodeKnown'. -/
def decodeKnownCard : Claim7 := { stood := { row := decodeKnownRow, standIns := [], harness := (true, "9e4d3d85d457041afb0d722a72c4f057a26d3f16c8bcfd25b48ea61fb2ce7697"), looks := true }, kinds := [], alts := [], laidByText := true, laidKinds := [.data, .listed, .data, .pinned], laidTests := true, laidLooks := .later }
def DecodeKnownCardSaid : Prop := Claim7.holds Tryd.pinned (.plain (OpenSpec.ofChange decodeKnownSpec)) decodeKnownCard

/-- THE SECOND FORM's CARD OF 'gimletlaw09.DecodeKnown'. -/
def decodeKnownUptoCard : Claim7 := { stood := { row := decodeKnownUptoRow, standIns := [], harness := (true, "9e4d3d85d457041afb0d722a72c4f057a26d3f16c8bcfd25b48ea61fb2ce7697"), looks := true }, kinds := [], alts := [], laidByText := true, laidKinds := [.data, .listed, .data, .pinned], laidTests := true, laidLooks := .later }
def DecodeKnownUptoCardSaid : Prop := Claim7.holds Tryd.pinned (.plain (OpenSpec.upto decodeKnownSpec)) decodeKnownUptoCard
end Rows
end Go.Proofs.YtapjgcmnabppbaaDoor
