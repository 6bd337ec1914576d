/-
  DERIVED. GIVEN WITH THE SEED: THE CARDS: each row of YtobneincefmclaaDoorRows.lean that lists a variable, with what it lists TIED to the program's text (the seventh form; the later family's looks); each row that meets fmt, with fmt's text TOLD by the authors' own Lean function (tested against real Go, not proved from fmt's source: count such statements apart). THE CARD IS WHAT COUNTS. Prove the row's statement (the work); the ties are given (YtobneincefmclaaDoorTie.lean); close each card by the builder's one call (the guide's Derived/Test/ToyasCard.lean, 'card_holds'). Laid BY PROGRAM, IN A SANDBOX (cutbox-door.mjs). By AI agents, Wed Nov 11 2026. No macro, syntax, notation, axiom, sorry.
-/
import Derived.Test.YtobneincefmclaaDoorRows
import GoSem.ClaimSeven
namespace Go.Proofs.YtobneincefmclaaDoor
namespace Rows

/-- THE TIED CARD OF 'gimletlaw07.ModuleLess'. -/
def moduleLessCard : Claim7 := { stood := { row := moduleLessRow, standIns := [], harness := (true, "4225ef1a544f4873bae1832a1ae7ca8005adf3f5db8680adebe40ee395c3f850"), looks := false }, kinds := [], alts := [], laidByText := true, laidKinds := [.data, .listed, .data, .pinned], laidTests := true, laidLooks := .later }
def ModuleLessCardSaid : Prop := Claim7.holds Tryd.pinned (.plain (OpenSpec.ofChange moduleLessSpec)) moduleLessCard

/-- THE TIED CARD OF 'gimletlaw07.ModuleKnown'. -/
def moduleKnownCard : Claim7 := { stood := { row := moduleKnownRow, standIns := [], harness := (true, "4225ef1a544f4873bae1832a1ae7ca8005adf3f5db8680adebe40ee395c3f850"), looks := false }, kinds := [], alts := [], laidByText := true, laidKinds := [.data, .listed, .data, .pinned], laidTests := true, laidLooks := .later }
def ModuleKnownCardSaid : Prop := Claim7.holds Tryd.pinned (.plain (OpenSpec.ofChange moduleKnownSpec)) moduleKnownCard

/-- THE SECOND FORM's CARD OF 'gimletlaw07.ModuleLess'. -/
def moduleLessUptoCard : Claim7 := { stood := { row := moduleLessUptoRow, standIns := [], harness := (true, "4225ef1a544f4873bae1832a1ae7ca8005adf3f5db8680adebe40ee395c3f850"), looks := false }, kinds := [], alts := [], laidByText := true, laidKinds := [.data, .listed, .data, .pinned], laidTests := true, laidLooks := .later }
def ModuleLessUptoCardSaid : Prop := Claim7.holds Tryd.pinned (.plain (OpenSpec.upto moduleLessSpec)) moduleLessUptoCard

/-- THE SECOND FORM's CARD OF 'gimletlaw07.ModuleKnown'. -/
def moduleKnownUptoCard : Claim7 := { stood := { row := moduleKnownUptoRow, standIns := [], harness := (true, "4225ef1a544f4873bae1832a1ae7ca8005adf3f5db8680adebe40ee395c3f850"), looks := false }, kinds := [], alts := [], laidByText := true, laidKinds := [.data, .listed, .data, .pinned], laidTests := true, laidLooks := .later }
def ModuleKnownUptoCardSaid : Prop := Claim7.holds Tryd.pinned (.plain (OpenSpec.upto moduleKnownSpec)) moduleKnownUptoCard
end Rows
end Go.Proofs.YtobneincefmclaaDoor
