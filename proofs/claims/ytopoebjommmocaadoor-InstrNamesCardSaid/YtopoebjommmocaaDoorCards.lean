/-
  DERIVED. GIVEN WITH THE SEED: THE CARDS: each row of YtopoebjommmocaaDoorRows.lean that lists a variable, with what it lists TIED to the program's text (the seventh form; the later family's looks); each row that meets fmt, with fmt's text TOLD by the authors' own Lean function (tested against real Go, not proved from fmt's source: count such statements apart). THE CARD IS WHAT COUNTS. Prove the row's statement (the work); the ties are given (YtopoebjommmocaaDoorTie.lean); close each card by the builder's one call (the guide's Derived/Test/ToyasCard.lean, 'card_holds'). Laid BY PROGRAM, IN A SANDBOX (cutbox-door.mjs). By AI agents, Wed Nov 11 2026. No macro, syntax, notation, axiom, sorry.
-/
import Derived.Test.YtopoebjommmocaaDoorRows
import GoSem.ClaimSeven
namespace Go.Proofs.YtopoebjommmocaaDoor
namespace Rows

/-- THE TIED CARD OF 'gimletlaw05.InstrNames'. -/
def instrNamesCard : Claim7 := { stood := { row := instrNamesRow, standIns := [], harness := (true, "351dfa68780b7197d36f2da64187f0ece21fe981c29bca0159505a2ab49b0e23"), looks := false }, kinds := [], alts := [], laidByText := true, laidKinds := [.data, .data, .data, .listed, .data], laidTests := true, laidLooks := .later }
def InstrNamesCardSaid : Prop := Claim7.holds Tryd.pinned (.plain (OpenSpec.ofChange instrNamesSpec)) instrNamesCard

/-- THE TIED CARD OF 'gimletlaw05.InstrMany'. -/
def instrManyCard : Claim7 := { stood := { row := instrManyRow, standIns := [], harness := (true, "351dfa68780b7197d36f2da64187f0ece21fe981c29bca0159505a2ab49b0e23"), looks := false }, kinds := [], alts := [], laidByText := true, laidKinds := [.data, .data, .data, .listed, .data], laidTests := true, laidLooks := .later }
def InstrManyCardSaid : Prop := Claim7.holds Tryd.pinned (.plain (OpenSpec.ofChange instrManySpec)) instrManyCard

/-- THE TIED CARD OF 'gimletlaw05.InstrParts'. -/
def instrPartsCard : Claim7 := { stood := { row := instrPartsRow, standIns := [], harness := (true, "351dfa68780b7197d36f2da64187f0ece21fe981c29bca0159505a2ab49b0e23"), looks := false }, kinds := [], alts := [], laidByText := true, laidKinds := [.data, .data, .data, .listed, .data], laidTests := true, laidLooks := .later }
def InstrPartsCardSaid : Prop := Claim7.holds Tryd.pinned (.plain (OpenSpec.ofChange instrPartsSpec)) instrPartsCard

/-- THE TIED CARD OF 'gimletlaw05.InstrKnown'. -/
def instrKnownCard : Claim7 := { stood := { row := instrKnownRow, standIns := [], harness := (true, "351dfa68780b7197d36f2da64187f0ece21fe981c29bca0159505a2ab49b0e23"), looks := false }, kinds := [], alts := [], laidByText := true, laidKinds := [.data, .data, .data, .listed, .data], laidTests := true, laidLooks := .later }
def InstrKnownCardSaid : Prop := Claim7.holds Tryd.pinned (.plain (OpenSpec.ofChange instrKnownSpec)) instrKnownCard

/-- THE SECOND FORM's CARD OF 'gimletlaw05.InstrNames'. -/
def instrNamesUptoCard : Claim7 := { stood := { row := instrNamesUptoRow, standIns := [], harness := (true, "351dfa68780b7197d36f2da64187f0ece21fe981c29bca0159505a2ab49b0e23"), looks := false }, kinds := [], alts := [], laidByText := true, laidKinds := [.data, .data, .data, .listed, .data], laidTests := true, laidLooks := .later }
def InstrNamesUptoCardSaid : Prop := Claim7.holds Tryd.pinned (.plain (OpenSpec.upto instrNamesSpec)) instrNamesUptoCard

/-- THE SECOND FORM's CARD OF 'gimletlaw05.InstrMany'. -/
def instrManyUptoCard : Claim7 := { stood := { row := instrManyUptoRow, standIns := [], harness := (true, "351dfa68780b7197d36f2da64187f0ece21fe981c29bca0159505a2ab49b0e23"), looks := false }, kinds := [], alts := [], laidByText := true, laidKinds := [.data, .data, .data, .listed, .data], laidTests := true, laidLooks := .later }
def InstrManyUptoCardSaid : Prop := Claim7.holds Tryd.pinned (.plain (OpenSpec.upto instrManySpec)) instrManyUptoCard

/-- THE SECOND FORM's CARD OF 'gimletlaw05.InstrParts'. -/
def instrPartsUptoCard : Claim7 := { stood := { row := instrPartsUptoRow, standIns := [], harness := (true, "351dfa68780b7197d36f2da64187f0ece21fe981c29bca0159505a2ab49b0e23"), looks := false }, kinds := [], alts := [], laidByText := true, laidKinds := [.data, .data, .data, .listed, .data], laidTests := true, laidLooks := .later }
def InstrPartsUptoCardSaid : Prop := Claim7.holds Tryd.pinned (.plain (OpenSpec.upto instrPartsSpec)) instrPartsUptoCard

/-- THE SECOND FORM's CARD OF 'gimletlaw05.InstrKnown'. -/
def instrKnownUptoCard : Claim7 := { stood := { row := instrKnownUptoRow, standIns := [], harness := (true, "351dfa68780b7197d36f2da64187f0ece21fe981c29bca0159505a2ab49b0e23"), looks := false }, kinds := [], alts := [], laidByText := true, laidKinds := [.data, .data, .data, .listed, .data], laidTests := true, laidLooks := .later }
def InstrKnownUptoCardSaid : Prop := Claim7.holds Tryd.pinned (.plain (OpenSpec.upto instrKnownSpec)) instrKnownUptoCard
end Rows
end Go.Proofs.YtopoebjommmocaaDoor
