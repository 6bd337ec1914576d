/-
  DERIVED. GIVEN WITH THE SEED: THE CARDS: each row of YtjjloibfhgofcaaDoorRows.lean that lists a variable, with what it lists TIED to the program's text (the seventh form; the later family's looks); each row that meets fmt, with fmt's text TOLD by the authors' own Lean function (tested against real Go, not proved from fmt's source: count such statements apart). THE CARD IS WHAT COUNTS. Prove the row's statement (the work); the ties are given (YtjjloibfhgofcaaDoorTie.lean); close each card by the builder's one call (the guide's Derived/Test/ToyasCard.lean, 'card_holds'). Laid BY PROGRAM, IN A SANDBOX (cutbox-door.mjs). By AI agents, Wed Nov 11 2026. No macro, syntax, notation, axiom, sorry.
-/
import Derived.Test.YtjjloibfhgofcaaDoorRows
import GoSem.ClaimSeven
namespace Go.Proofs.YtjjloibfhgofcaaDoor
namespace Rows

/-- THE TIED CARD OF 'gimletlaw07.ModuleLess'. -/
def moduleLessCard : Claim7 := { stood := { row := moduleLessRow, standIns := [], harness := (true, "9bb68ae5df47d3730434cc7ba33c40415447c8b1a68c4b55551686023f24421e"), looks := false }, kinds := [], alts := [], laidByText := true, laidKinds := [.data, .listed, .data, .pinned], laidTests := true, laidLooks := .later }
def ModuleLessCardSaid : Prop := Claim7.holds Tryd.pinned (.plain (OpenSpec.ofChange moduleLessSpec)) moduleLessCard

/-- THE TIED CARD OF 'gimletlaw05.InstrMany'. -/
def instrManyCard : Claim7 := { stood := { row := instrManyRow, standIns := [], harness := (true, "9bb68ae5df47d3730434cc7ba33c40415447c8b1a68c4b55551686023f24421e"), looks := false }, kinds := [], alts := [], laidByText := true, laidKinds := [.data, .data, .data, .listed, .data], laidTests := true, laidLooks := .later }
def InstrManyCardSaid : Prop := Claim7.holds Tryd.pinned (.plain (OpenSpec.ofChange instrManySpec)) instrManyCard

/-- THE TIED CARD OF 'gimletlaw05.InstrParts'. -/
def instrPartsCard : Claim7 := { stood := { row := instrPartsRow, standIns := [], harness := (true, "9bb68ae5df47d3730434cc7ba33c40415447c8b1a68c4b55551686023f24421e"), looks := false }, kinds := [], alts := [], laidByText := true, laidKinds := [.data, .data, .data, .listed, .data], laidTests := true, laidLooks := .later }
def InstrPartsCardSaid : Prop := Claim7.holds Tryd.pinned (.plain (OpenSpec.ofChange instrPartsSpec)) instrPartsCard

/-- THE SECOND FORM's CARD OF 'gimletlaw07.ModuleLess'. -/
def moduleLessUptoCard : Claim7 := { stood := { row := moduleLessUptoRow, standIns := [], harness := (true, "9bb68ae5df47d3730434cc7ba33c40415447c8b1a68c4b55551686023f24421e"), looks := false }, kinds := [], alts := [], laidByText := true, laidKinds := [.data, .listed, .data, .pinned], laidTests := true, laidLooks := .later }
def ModuleLessUptoCardSaid : Prop := Claim7.holds Tryd.pinned (.plain (OpenSpec.upto moduleLessSpec)) moduleLessUptoCard

/-- THE SECOND FORM's CARD OF 'gimletlaw05.InstrMany'. -/
def instrManyUptoCard : Claim7 := { stood := { row := instrManyUptoRow, standIns := [], harness := (true, "9bb68ae5df47d3730434cc7ba33c40415447c8b1a68c4b55551686023f24421e"), looks := false }, kinds := [], alts := [], laidByText := true, laidKinds := [.data, .data, .data, .listed, .data], laidTests := true, laidLooks := .later }
def InstrManyUptoCardSaid : Prop := Claim7.holds Tryd.pinned (.plain (OpenSpec.upto instrManySpec)) instrManyUptoCard

/-- THE SECOND FORM's CARD OF 'gimletlaw05.InstrParts'. -/
def instrPartsUptoCard : Claim7 := { stood := { row := instrPartsUptoRow, standIns := [], harness := (true, "9bb68ae5df47d3730434cc7ba33c40415447c8b1a68c4b55551686023f24421e"), looks := false }, kinds := [], alts := [], laidByText := true, laidKinds := [.data, .data, .data, .listed, .data], laidTests := true, laidLooks := .later }
def InstrPartsUptoCardSaid : Prop := Claim7.holds Tryd.pinned (.plain (OpenSpec.upto instrPartsSpec)) instrPartsUptoCard
end Rows
end Go.Proofs.YtjjloibfhgofcaaDoor
