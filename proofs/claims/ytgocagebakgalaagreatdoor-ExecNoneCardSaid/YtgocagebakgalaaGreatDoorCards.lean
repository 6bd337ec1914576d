/-
  DERIVED. GIVEN WITH THE SEED: THE CARDS: each row of YtgocagebakgalaaGreatDoorRows.lean that lists a variable, with what it lists TIED to the program's text (the seventh form; the later family's looks); each row that meets fmt, with fmt's text TOLD by the authors' own Lean function (tested against real Go, not proved from fmt's source: count such statements apart). THE CARD IS WHAT COUNTS. Prove the row's statement (the work); the ties are given (YtgocagebakgalaaGreatDoorTie.lean); close each card by the builder's one call (the guide's Derived/Test/ToyasCard.lean, 'card_holds'). Laid BY PROGRAM, IN A SANDBOX (cutbox-door.mjs). By AI agents, Wed Nov 11 2026. No macro, syntax, notation, axiom, sorry.
-/
import Derived.Test.YtgocagebakgalaaGreatDoorRows
import GoSem.ClaimSeven
namespace Go.Proofs.YtgocagebakgalaaGreatDoor
namespace Rows

/-- THE TIED CARD OF 'gimletlaw14.ExecBodies'. -/
def execBodiesCard : Claim7 := { stood := { row := execBodiesRow, standIns := [], harness := (true, "4c2b18896f4df4a1743e333e6e7a12346bf333ca9d1ce0b83722300ea4c70493"), looks := false }, kinds := [], alts := [], laidByText := true, laidKinds := [.data, .data, .listed, .data, .pinned], laidTests := true, laidLooks := .later }
def ExecBodiesCardSaid : Prop := Claim7.holds Tryz.pinned (.plain (OpenSpec.ofChange execBodiesSpec)) execBodiesCard

/-- THE TIED CARD OF 'gimletlaw14.ExecSteps'. -/
def execStepsCard : Claim7 := { stood := { row := execStepsRow, standIns := [], harness := (true, "4c2b18896f4df4a1743e333e6e7a12346bf333ca9d1ce0b83722300ea4c70493"), looks := false }, kinds := [], alts := [], laidByText := true, laidKinds := [.data, .data, .listed, .data, .pinned], laidTests := true, laidLooks := .later }
def ExecStepsCardSaid : Prop := Claim7.holds Tryz.pinned (.plain (OpenSpec.ofChange execStepsSpec)) execStepsCard

/-- THE TIED CARD OF 'gimletlaw14.ExecReckons'. -/
def execReckonsCard : Claim7 := { stood := { row := execReckonsRow, standIns := [], harness := (true, "4c2b18896f4df4a1743e333e6e7a12346bf333ca9d1ce0b83722300ea4c70493"), looks := false }, kinds := [], alts := [], laidByText := true, laidKinds := [.data, .data, .listed, .data, .pinned], laidTests := true, laidLooks := .later }
def ExecReckonsCardSaid : Prop := Claim7.holds Tryz.pinned (.plain (OpenSpec.ofChange execReckonsSpec)) execReckonsCard

/-- THE TIED CARD OF 'gimletlaw14.ExecDeep'. -/
def execDeepCard : Claim7 := { stood := { row := execDeepRow, standIns := [], harness := (true, "4c2b18896f4df4a1743e333e6e7a12346bf333ca9d1ce0b83722300ea4c70493"), looks := false }, kinds := [], alts := [], laidByText := true, laidKinds := [.data, .data, .listed, .data, .pinned], laidTests := true, laidLooks := .later }
def ExecDeepCardSaid : Prop := Claim7.holds Tryz.pinned (.plain (OpenSpec.ofChange execDeepSpec)) execDeepCard

/-- THE TIED CARD OF 'gimletlaw14.ExecKnown'. -/
def execKnownCard : Claim7 := { stood := { row := execKnownRow, standIns := [], harness := (true, "4c2b18896f4df4a1743e333e6e7a12346bf333ca9d1ce0b83722300ea4c70493"), looks := false }, kinds := [], alts := [], laidByText := true, laidKinds := [.data, .data, .listed, .data, .pinned], laidTests := true, laidLooks := .later }
def ExecKnownCardSaid : Prop := Claim7.holds Tryz.pinned (.plain (OpenSpec.ofChange execKnownSpec)) execKnownCard

/-- THE TIED CARD OF 'gimletlaw14.ExecNone'. -/
def execNoneCard : Claim7 := { stood := { row := execNoneRow, standIns := [], harness := (true, "4c2b18896f4df4a1743e333e6e7a12346bf333ca9d1ce0b83722300ea4c70493"), looks := false }, kinds := [], alts := [], laidByText := true, laidKinds := [.data, .data, .listed, .data, .pinned], laidTests := true, laidLooks := .later }
def ExecNoneCardSaid : Prop := Claim7.holds Tryz.pinned (.plain (OpenSpec.ofChange execNoneSpec)) execNoneCard

/-- THE SECOND FORM's CARD OF 'gimletlaw14.ExecBodies'. -/
def execBodiesUptoCard : Claim7 := { stood := { row := execBodiesUptoRow, standIns := [], harness := (true, "4c2b18896f4df4a1743e333e6e7a12346bf333ca9d1ce0b83722300ea4c70493"), looks := false }, kinds := [], alts := [], laidByText := true, laidKinds := [.data, .data, .listed, .data, .pinned], laidTests := true, laidLooks := .later }
def ExecBodiesUptoCardSaid : Prop := Claim7.holds Tryz.pinned (.plain (OpenSpec.upto execBodiesSpec)) execBodiesUptoCard

/-- THE SECOND FORM's CARD OF 'gimletlaw14.ExecSteps'. -/
def execStepsUptoCard : Claim7 := { stood := { row := execStepsUptoRow, standIns := [], harness := (true, "4c2b18896f4df4a1743e333e6e7a12346bf333ca9d1ce0b83722300ea4c70493"), looks := false }, kinds := [], alts := [], laidByText := true, laidKinds := [.data, .data, .listed, .data, .pinned], laidTests := true, laidLooks := .later }
def ExecStepsUptoCardSaid : Prop := Claim7.holds Tryz.pinned (.plain (OpenSpec.upto execStepsSpec)) execStepsUptoCard

/-- THE SECOND FORM's CARD OF 'gimletlaw14.ExecReckons'. -/
def execReckonsUptoCard : Claim7 := { stood := { row := execReckonsUptoRow, standIns := [], harness := (true, "4c2b18896f4df4a1743e333e6e7a12346bf333ca9d1ce0b83722300ea4c70493"), looks := false }, kinds := [], alts := [], laidByText := true, laidKinds := [.data, .data, .listed, .data, .pinned], laidTests := true, laidLooks := .later }
def ExecReckonsUptoCardSaid : Prop := Claim7.holds Tryz.pinned (.plain (OpenSpec.upto execReckonsSpec)) execReckonsUptoCard

/-- THE SECOND FORM's CARD OF 'gimletlaw14.ExecDeep'. -/
def execDeepUptoCard : Claim7 := { stood := { row := execDeepUptoRow, standIns := [], harness := (true, "4c2b18896f4df4a1743e333e6e7a12346bf333ca9d1ce0b83722300ea4c70493"), looks := false }, kinds := [], alts := [], laidByText := true, laidKinds := [.data, .data, .listed, .data, .pinned], laidTests := true, laidLooks := .later }
def ExecDeepUptoCardSaid : Prop := Claim7.holds Tryz.pinned (.plain (OpenSpec.upto execDeepSpec)) execDeepUptoCard

/-- THE SECOND FORM's CARD OF 'gimletlaw14.ExecKnown'. -/
def execKnownUptoCard : Claim7 := { stood := { row := execKnownUptoRow, standIns := [], harness := (true, "4c2b18896f4df4a1743e333e6e7a12346bf333ca9d1ce0b83722300ea4c70493"), looks := false }, kinds := [], alts := [], laidByText := true, laidKinds := [.data, .data, .listed, .data, .pinned], laidTests := true, laidLooks := .later }
def ExecKnownUptoCardSaid : Prop := Claim7.holds Tryz.pinned (.plain (OpenSpec.upto execKnownSpec)) execKnownUptoCard

/-- THE SECOND FORM's CARD OF 'gimletlaw14.ExecNone'. -/
def execNoneUptoCard : Claim7 := { stood := { row := execNoneUptoRow, standIns := [], harness := (true, "4c2b18896f4df4a1743e333e6e7a12346bf333ca9d1ce0b83722300ea4c70493"), looks := false }, kinds := [], alts := [], laidByText := true, laidKinds := [.data, .data, .listed, .data, .pinned], laidTests := true, laidLooks := .later }
def ExecNoneUptoCardSaid : Prop := Claim7.holds Tryz.pinned (.plain (OpenSpec.upto execNoneSpec)) execNoneUptoCard
end Rows
end Go.Proofs.YtgocagebakgalaaGreatDoor
