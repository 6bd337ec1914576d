/-
  DERIVED. GIVEN WITH THE SEED: THE CARDS: each row of YtddfgnmjecogdaaDoorRows.lean that lists a variable, with what it lists TIED to the program's text (the seventh form; the later family's looks); each row that meets fmt, with fmt's text TOLD by the authors' own Lean function (tested against real Go, not proved from fmt's source: count such statements apart). THE CARD IS WHAT COUNTS. Prove the row's statement (the work); the ties are given (YtddfgnmjecogdaaDoorTie.lean); close each card by the builder's one call (the guide's Derived/Test/ToyasCard.lean, 'card_holds'). Laid BY PROGRAM, IN A SANDBOX (cutbox-door.mjs). By AI agents, Wed Nov 11 2026. No macro, syntax, notation, axiom, sorry.
-/
import Derived.Test.YtddfgnmjecogdaaDoorRows
import GoSem.ClaimSeven
namespace Go.Proofs.YtddfgnmjecogdaaDoor
namespace Rows

/-- THE TIED CARD OF 'gimletlaw06.BodyDeep'. -/
def bodyDeepCard : Claim7 := { stood := { row := bodyDeepRow, standIns := [], harness := (true, "0672f546286034622a5ab43466df19916eb727b58bd9e683523a2df1c5bdf549"), looks := false }, kinds := [], alts := [], laidByText := true, laidKinds := [.listed, .data], laidTests := true, laidLooks := .later }
def BodyDeepCardSaid : Prop := Claim7.holds Tryd.pinned (.plain (OpenSpec.ofChange bodyDeepSpec)) bodyDeepCard

/-- THE TIED CARD OF 'gimletlaw06.BodyCut'. -/
def bodyCutCard : Claim7 := { stood := { row := bodyCutRow, standIns := [], harness := (true, "0672f546286034622a5ab43466df19916eb727b58bd9e683523a2df1c5bdf549"), looks := false }, kinds := [], alts := [], laidByText := true, laidKinds := [.listed, .data], laidTests := true, laidLooks := .later }
def BodyCutCardSaid : Prop := Claim7.holds Tryd.pinned (.plain (OpenSpec.ofChange bodyCutSpec)) bodyCutCard

/-- THE TIED CARD OF 'gimletlaw06.BodyPuts'. -/
def bodyPutsCard : Claim7 := { stood := { row := bodyPutsRow, standIns := [], harness := (true, "0672f546286034622a5ab43466df19916eb727b58bd9e683523a2df1c5bdf549"), looks := false }, kinds := [], alts := [], laidByText := true, laidKinds := [.listed, .data], laidTests := true, laidLooks := .later }
def BodyPutsCardSaid : Prop := Claim7.holds Tryd.pinned (.plain (OpenSpec.ofChange bodyPutsSpec)) bodyPutsCard

/-- THE TIED CARD OF 'gimletlaw06.BodyGets'. -/
def bodyGetsCard : Claim7 := { stood := { row := bodyGetsRow, standIns := [], harness := (true, "0672f546286034622a5ab43466df19916eb727b58bd9e683523a2df1c5bdf549"), looks := false }, kinds := [], alts := [], laidByText := true, laidKinds := [.listed, .data], laidTests := true, laidLooks := .later }
def BodyGetsCardSaid : Prop := Claim7.holds Tryd.pinned (.plain (OpenSpec.ofChange bodyGetsSpec)) bodyGetsCard

/-- THE TIED CARD OF 'gimletlaw06.BodyBack'. -/
def bodyBackCard : Claim7 := { stood := { row := bodyBackRow, standIns := [], harness := (true, "0672f546286034622a5ab43466df19916eb727b58bd9e683523a2df1c5bdf549"), looks := false }, kinds := [], alts := [], laidByText := true, laidKinds := [.listed, .data], laidTests := true, laidLooks := .later }
def BodyBackCardSaid : Prop := Claim7.holds Tryd.pinned (.plain (OpenSpec.ofChange bodyBackSpec)) bodyBackCard

/-- THE SECOND FORM's CARD OF 'gimletlaw06.BodyDeep'. -/
def bodyDeepUptoCard : Claim7 := { stood := { row := bodyDeepUptoRow, standIns := [], harness := (true, "0672f546286034622a5ab43466df19916eb727b58bd9e683523a2df1c5bdf549"), looks := false }, kinds := [], alts := [], laidByText := true, laidKinds := [.listed, .data], laidTests := true, laidLooks := .later }
def BodyDeepUptoCardSaid : Prop := Claim7.holds Tryd.pinned (.plain (OpenSpec.upto bodyDeepSpec)) bodyDeepUptoCard

/-- THE SECOND FORM's CARD OF 'gimletlaw06.BodyCut'. -/
def bodyCutUptoCard : Claim7 := { stood := { row := bodyCutUptoRow, standIns := [], harness := (true, "0672f546286034622a5ab43466df19916eb727b58bd9e683523a2df1c5bdf549"), looks := false }, kinds := [], alts := [], laidByText := true, laidKinds := [.listed, .data], laidTests := true, laidLooks := .later }
def BodyCutUptoCardSaid : Prop := Claim7.holds Tryd.pinned (.plain (OpenSpec.upto bodyCutSpec)) bodyCutUptoCard

/-- THE SECOND FORM's CARD OF 'gimletlaw06.BodyPuts'. -/
def bodyPutsUptoCard : Claim7 := { stood := { row := bodyPutsUptoRow, standIns := [], harness := (true, "0672f546286034622a5ab43466df19916eb727b58bd9e683523a2df1c5bdf549"), looks := false }, kinds := [], alts := [], laidByText := true, laidKinds := [.listed, .data], laidTests := true, laidLooks := .later }
def BodyPutsUptoCardSaid : Prop := Claim7.holds Tryd.pinned (.plain (OpenSpec.upto bodyPutsSpec)) bodyPutsUptoCard

/-- THE SECOND FORM's CARD OF 'gimletlaw06.BodyGets'. -/
def bodyGetsUptoCard : Claim7 := { stood := { row := bodyGetsUptoRow, standIns := [], harness := (true, "0672f546286034622a5ab43466df19916eb727b58bd9e683523a2df1c5bdf549"), looks := false }, kinds := [], alts := [], laidByText := true, laidKinds := [.listed, .data], laidTests := true, laidLooks := .later }
def BodyGetsUptoCardSaid : Prop := Claim7.holds Tryd.pinned (.plain (OpenSpec.upto bodyGetsSpec)) bodyGetsUptoCard

/-- THE SECOND FORM's CARD OF 'gimletlaw06.BodyBack'. -/
def bodyBackUptoCard : Claim7 := { stood := { row := bodyBackUptoRow, standIns := [], harness := (true, "0672f546286034622a5ab43466df19916eb727b58bd9e683523a2df1c5bdf549"), looks := false }, kinds := [], alts := [], laidByText := true, laidKinds := [.listed, .data], laidTests := true, laidLooks := .later }
def BodyBackUptoCardSaid : Prop := Claim7.holds Tryd.pinned (.plain (OpenSpec.upto bodyBackSpec)) bodyBackUptoCard
end Rows
end Go.Proofs.YtddfgnmjecogdaaDoor
