/-
  DERIVED. GIVEN WITH THE SEED: THE CARDS: each row of YtihdpbplbncogaaDoorRows.lean that lists a variable, with what it lists TIED to the program's text (the seventh form; the later family's looks); each row that meets fmt, with fmt's text TOLD by the authors' own Lean function (tested against real Go, not proved from fmt's source: count such statements apart). THE CARD IS WHAT COUNTS. Prove the row's statement (the work); the ties are given (YtihdpbplbncogaaDoorTie.lean); close each card by the builder's one call (the guide's Derived/Test/ToyasCard.lean, 'card_holds'). Laid BY PROGRAM, IN A SANDBOX (cutbox-door.mjs). By AI agents, Wed Nov 11 2026. No macro, syntax, notation, axiom, sorry.
-/
import Derived.Test.YtihdpbplbncogaaDoorRows
import GoSem.ClaimSeven
namespace Go.Proofs.YtihdpbplbncogaaDoor
namespace Rows

/-- THE TIED CARD OF 'gimletlaw06.BodyDeep'. -/
def bodyDeepCard : Claim7 := { stood := { row := bodyDeepRow, standIns := [], harness := (true, "49e6909bccc127543fb5883e25012a10eab74a2e9e37e8d7ab78f5088c0205f7"), looks := false }, kinds := [], alts := [], laidByText := true, laidKinds := [.listed, .data], laidTests := true, laidLooks := .later }
def BodyDeepCardSaid : Prop := Claim7.holds Tryd.pinned (.plain (OpenSpec.ofChange bodyDeepSpec)) bodyDeepCard

/-- THE TIED CARD OF 'gimletlaw06.BodyCut'. -/
def bodyCutCard : Claim7 := { stood := { row := bodyCutRow, standIns := [], harness := (true, "49e6909bccc127543fb5883e25012a10eab74a2e9e37e8d7ab78f5088c0205f7"), looks := false }, kinds := [], alts := [], laidByText := true, laidKinds := [.listed, .data], laidTests := true, laidLooks := .later }
def BodyCutCardSaid : Prop := Claim7.holds Tryd.pinned (.plain (OpenSpec.ofChange bodyCutSpec)) bodyCutCard

/-- THE TIED CARD OF 'gimletlaw06.BodyPuts'. -/
def bodyPutsCard : Claim7 := { stood := { row := bodyPutsRow, standIns := [], harness := (true, "49e6909bccc127543fb5883e25012a10eab74a2e9e37e8d7ab78f5088c0205f7"), looks := false }, kinds := [], alts := [], laidByText := true, laidKinds := [.listed, .data], laidTests := true, laidLooks := .later }
def BodyPutsCardSaid : Prop := Claim7.holds Tryd.pinned (.plain (OpenSpec.ofChange bodyPutsSpec)) bodyPutsCard

/-- THE TIED CARD OF 'gimletlaw06.BodyGets'. -/
def bodyGetsCard : Claim7 := { stood := { row := bodyGetsRow, standIns := [], harness := (true, "49e6909bccc127543fb5883e25012a10eab74a2e9e37e8d7ab78f5088c0205f7"), looks := false }, kinds := [], alts := [], laidByText := true, laidKinds := [.listed, .data], laidTests := true, laidLooks := .later }
def BodyGetsCardSaid : Prop := Claim7.holds Tryd.pinned (.plain (OpenSpec.ofChange bodyGetsSpec)) bodyGetsCard

/-- THE TIED CARD OF 'gimletlaw06.BodyBack'. -/
def bodyBackCard : Claim7 := { stood := { row := bodyBackRow, standIns := [], harness := (true, "49e6909bccc127543fb5883e25012a10eab74a2e9e37e8d7ab78f5088c0205f7"), looks := false }, kinds := [], alts := [], laidByText := true, laidKinds := [.listed, .data], laidTests := true, laidLooks := .later }
def BodyBackCardSaid : Prop := Claim7.holds Tryd.pinned (.plain (OpenSpec.ofChange bodyBackSpec)) bodyBackCard

/-- THE TIED CARD OF 'gimletlaw06.BodyKnown'. -/
def bodyKnownCard : Claim7 := { stood := { row := bodyKnownRow, standIns := [], harness := (true, "49e6909bccc127543fb5883e25012a10eab74a2e9e37e8d7ab78f5088c0205f7"), looks := false }, kinds := [], alts := [], laidByText := true, laidKinds := [.listed, .data], laidTests := true, laidLooks := .later }
def BodyKnownCardSaid : Prop := Claim7.holds Tryd.pinned (.plain (OpenSpec.ofChange bodyKnownSpec)) bodyKnownCard

/-- THE SECOND FORM's CARD OF 'gimletlaw06.BodyDeep'. -/
def bodyDeepUptoCard : Claim7 := { stood := { row := bodyDeepUptoRow, standIns := [], harness := (true, "49e6909bccc127543fb5883e25012a10eab74a2e9e37e8d7ab78f5088c0205f7"), looks := false }, kinds := [], alts := [], laidByText := true, laidKinds := [.listed, .data], laidTests := true, laidLooks := .later }
def BodyDeepUptoCardSaid : Prop := Claim7.holds Tryd.pinned (.plain (OpenSpec.upto bodyDeepSpec)) bodyDeepUptoCard

/-- THE SECOND FORM's CARD OF 'gimletlaw06.BodyCut'. -/
def bodyCutUptoCard : Claim7 := { stood := { row := bodyCutUptoRow, standIns := [], harness := (true, "49e6909bccc127543fb5883e25012a10eab74a2e9e37e8d7ab78f5088c0205f7"), looks := false }, kinds := [], alts := [], laidByText := true, laidKinds := [.listed, .data], laidTests := true, laidLooks := .later }
def BodyCutUptoCardSaid : Prop := Claim7.holds Tryd.pinned (.plain (OpenSpec.upto bodyCutSpec)) bodyCutUptoCard

/-- THE SECOND FORM's CARD OF 'gimletlaw06.BodyPuts'. -/
def bodyPutsUptoCard : Claim7 := { stood := { row := bodyPutsUptoRow, standIns := [], harness := (true, "49e6909bccc127543fb5883e25012a10eab74a2e9e37e8d7ab78f5088c0205f7"), looks := false }, kinds := [], alts := [], laidByText := true, laidKinds := [.listed, .data], laidTests := true, laidLooks := .later }
def BodyPutsUptoCardSaid : Prop := Claim7.holds Tryd.pinned (.plain (OpenSpec.upto bodyPutsSpec)) bodyPutsUptoCard

/-- THE SECOND FORM's CARD OF 'gimletlaw06.BodyGets'. -/
def bodyGetsUptoCard : Claim7 := { stood := { row := bodyGetsUptoRow, standIns := [], harness := (true, "49e6909bccc127543fb5883e25012a10eab74a2e9e37e8d7ab78f5088c0205f7"), looks := false }, kinds := [], alts := [], laidByText := true, laidKinds := [.listed, .data], laidTests := true, laidLooks := .later }
def BodyGetsUptoCardSaid : Prop := Claim7.holds Tryd.pinned (.plain (OpenSpec.upto bodyGetsSpec)) bodyGetsUptoCard

/-- THE SECOND FORM's CARD OF 'gimletlaw06.BodyBack'. -/
def bodyBackUptoCard : Claim7 := { stood := { row := bodyBackUptoRow, standIns := [], harness := (true, "49e6909bccc127543fb5883e25012a10eab74a2e9e37e8d7ab78f5088c0205f7"), looks := false }, kinds := [], alts := [], laidByText := true, laidKinds := [.listed, .data], laidTests := true, laidLooks := .later }
def BodyBackUptoCardSaid : Prop := Claim7.holds Tryd.pinned (.plain (OpenSpec.upto bodyBackSpec)) bodyBackUptoCard

/-- THE SECOND FORM's CARD OF 'gimletlaw06.BodyKnown'. -/
def bodyKnownUptoCard : Claim7 := { stood := { row := bodyKnownUptoRow, standIns := [], harness := (true, "49e6909bccc127543fb5883e25012a10eab74a2e9e37e8d7ab78f5088c0205f7"), looks := false }, kinds := [], alts := [], laidByText := true, laidKinds := [.listed, .data], laidTests := true, laidLooks := .later }
def BodyKnownUptoCardSaid : Prop := Claim7.holds Tryd.pinned (.plain (OpenSpec.upto bodyKnownSpec)) bodyKnownUptoCard
end Rows
end Go.Proofs.YtihdpbplbncogaaDoor
