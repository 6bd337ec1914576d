/-
  DERIVED. GIVEN WITH THE SEED: THE CARDS: each row of YtiphaojaolcidaaDoorRows.lean that lists a variable, with what it lists TIED to the program's text (the seventh form; the later family's looks); each row that meets fmt, with fmt's text TOLD by the authors' own Lean function (tested against real Go, not proved from fmt's source: count such statements apart). THE CARD IS WHAT COUNTS. Prove the row's statement (the work); the ties are given (YtiphaojaolcidaaDoorTie.lean); close each card by the builder's one call (the guide's Derived/Test/ToyasCard.lean, 'card_holds'). Laid BY PROGRAM, IN A SANDBOX (cutbox-door.mjs). By AI agents, Wed Nov 11 2026. No macro, syntax, notation, axiom, sorry.
-/
import Derived.Test.YtiphaojaolcidaaDoorRows
import GoSem.ClaimSeven
namespace Go.Proofs.YtiphaojaolcidaaDoor
namespace Rows

/-- THE TIED CARD OF 'gimletlaw28.LowMany'. -/
def lowManyCard : Claim7 := { stood := { row := lowManyRow, standIns := [], harness := (true, "e6a9cf91c1d5e359570add53d5cbbc541b8cee3d00ecd64e825d6563ed28e0ef"), looks := false }, kinds := [], alts := [], laidByText := true, laidKinds := [.data], laidTests := true, laidLooks := .later }
def LowManyCardSaid : Prop := Claim7.holds Tryd.pinned (.plain (OpenSpec.ofChange lowManySpec)) lowManyCard

/-- THE TIED CARD OF 'gimletlaw28.LowSums'. -/
def lowSumsCard : Claim7 := { stood := { row := lowSumsRow, standIns := [], harness := (true, "e6a9cf91c1d5e359570add53d5cbbc541b8cee3d00ecd64e825d6563ed28e0ef"), looks := false }, kinds := [], alts := [], laidByText := true, laidKinds := [.data], laidTests := true, laidLooks := .later }
def LowSumsCardSaid : Prop := Claim7.holds Tryd.pinned (.plain (OpenSpec.ofChange lowSumsSpec)) lowSumsCard

/-- THE SECOND FORM's CARD OF 'gimletlaw28.LowMany'. -/
def lowManyUptoCard : Claim7 := { stood := { row := lowManyUptoRow, standIns := [], harness := (true, "e6a9cf91c1d5e359570add53d5cbbc541b8cee3d00ecd64e825d6563ed28e0ef"), looks := false }, kinds := [], alts := [], laidByText := true, laidKinds := [.data], laidTests := true, laidLooks := .later }
def LowManyUptoCardSaid : Prop := Claim7.holds Tryd.pinned (.plain (OpenSpec.upto lowManySpec)) lowManyUptoCard

/-- THE SECOND FORM's CARD OF 'gimletlaw28.LowSums'. -/
def lowSumsUptoCard : Claim7 := { stood := { row := lowSumsUptoRow, standIns := [], harness := (true, "e6a9cf91c1d5e359570add53d5cbbc541b8cee3d00ecd64e825d6563ed28e0ef"), looks := false }, kinds := [], alts := [], laidByText := true, laidKinds := [.data], laidTests := true, laidLooks := .later }
def LowSumsUptoCardSaid : Prop := Claim7.holds Tryd.pinned (.plain (OpenSpec.upto lowSumsSpec)) lowSumsUptoCard
end Rows
end Go.Proofs.YtiphaojaolcidaaDoor
