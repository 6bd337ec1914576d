/-
  DERIVED. GIVEN WITH THE SEED: THE CARDS: each row of YtljekfaoabigkaaDoorRows.lean that lists a variable, with what it lists TIED to the program's text (the seventh form; the later family's looks); each row that meets fmt, with fmt's text TOLD by the authors' own Lean function (tested against real Go, not proved from fmt's source: count such statements apart). THE CARD IS WHAT COUNTS. Prove the row's statement (the work); the ties are given (YtljekfaoabigkaaDoorTie.lean); close each card by the builder's one call (the guide's Derived/Test/ToyasCard.lean, 'card_holds'). Laid BY PROGRAM, IN A SANDBOX (cutbox-door.mjs). By AI agents, Wed Nov 11 2026. No macro, syntax, notation, axiom, sorry.
-/
import Derived.Test.YtljekfaoabigkaaDoorRows
import GoSem.ClaimSeven
namespace Go.Proofs.YtljekfaoabigkaaDoor
namespace Rows

/-- THE TIED CARD OF 'gimletlaw08.EncodeKnown'. -/
def encodeKnownCard : Claim7 := { stood := { row := encodeKnownRow, standIns := [], harness := (true, "e514e13b8ded0e9ff6024502b1cad37e2a955164b687d580ce933f920d961e8e"), looks := false }, kinds := [], alts := [], laidByText := true, laidKinds := [.data, .listed, .data, .pinned], laidTests := true, laidLooks := .later }
def EncodeKnownCardSaid : Prop := Claim7.holds Tryd.pinned (.plain (OpenSpec.ofChange encodeKnownSpec)) encodeKnownCard

/-- THE SECOND FORM's CARD OF 'gimletlaw08.EncodeKnown'. -/
def encodeKnownUptoCard : Claim7 := { stood := { row := encodeKnownUptoRow, standIns := [], harness := (true, "e514e13b8ded0e9ff6024502b1cad37e2a955164b687d580ce933f920d961e8e"), looks := false }, kinds := [], alts := [], laidByText := true, laidKinds := [.data, .listed, .data, .pinned], laidTests := true, laidLooks := .later }
def EncodeKnownUptoCardSaid : Prop := Claim7.holds Tryd.pinned (.plain (OpenSpec.upto encodeKnownSpec)) encodeKnownUptoCard
end Rows
end Go.Proofs.YtljekfaoabigkaaDoor
