/-
  DERIVED. GIVEN WITH THE SEED: THE CARDS: each row of YtnjchjoadgknhaaDoorRows.lean that lists a variable, with what it lists TIED to the program's text (the seventh form; the later family's looks); each row that meets fmt, with fmt's text TOLD by the authors' own Lean function (tested against real Go, not proved from fmt's source: count such statements apart). THE CARD IS WHAT COUNTS. Prove the row's statement (the work); the ties are given (YtnjchjoadgknhaaDoorTie.lean); close each card by the builder's one call (the guide's Derived/Test/ToyasCard.lean, 'card_holds'). Laid BY PROGRAM, IN A SANDBOX (cutbox-door.mjs). By AI agents, Wed Nov 11 2026. No macro, syntax, notation, axiom, sorry.
-/
import Derived.Test.YtnjchjoadgknhaaDoorRows
import GoSem.ClaimSeven
namespace Go.Proofs.YtnjchjoadgknhaaDoor
namespace Rows

/-- THE TIED CARD OF 'gimletlaw28.LowMany'. -/
def lowManyCard : Claim7 := { stood := { row := lowManyRow, standIns := [], harness := (true, "f2a47f28b5ba5e1edc48b0b811eac47435af8a1dc00d15c5fdafdea4e0165122"), looks := false }, kinds := [], alts := [], laidByText := true, laidKinds := [.data], laidTests := true, laidLooks := .later }
def LowManyCardSaid : Prop := Claim7.holds Tryd.pinned (.plain (OpenSpec.ofChange lowManySpec)) lowManyCard

/-- THE TIED CARD OF 'gimletlaw28.LowMore'. -/
def lowMoreCard : Claim7 := { stood := { row := lowMoreRow, standIns := [], harness := (true, "f2a47f28b5ba5e1edc48b0b811eac47435af8a1dc00d15c5fdafdea4e0165122"), looks := false }, kinds := [], alts := [], laidByText := true, laidKinds := [.data], laidTests := true, laidLooks := .later }
def LowMoreCardSaid : Prop := Claim7.holds Tryd.pinned (.plain (OpenSpec.ofChange lowMoreSpec)) lowMoreCard

/-- THE TIED CARD OF 'gimletlaw28.LowKnown'. -/
def lowKnownCard : Claim7 := { stood := { row := lowKnownRow, standIns := [], harness := (true, "f2a47f28b5ba5e1edc48b0b811eac47435af8a1dc00d15c5fdafdea4e0165122"), looks := false }, kinds := [], alts := [], laidByText := true, laidKinds := [.data], laidTests := true, laidLooks := .later }
def LowKnownCardSaid : Prop := Claim7.holds Tryd.pinned (.plain (OpenSpec.ofChange lowKnownSpec)) lowKnownCard

/-- THE TIED CARD OF 'gimletlaw28.LowSums'. -/
def lowSumsCard : Claim7 := { stood := { row := lowSumsRow, standIns := [], harness := (true, "f2a47f28b5ba5e1edc48b0b811eac47435af8a1dc00d15c5fdafdea4e0165122"), looks := false }, kinds := [], alts := [], laidByText := true, laidKinds := [.data], laidTests := true, laidLooks := .later }
def LowSumsCardSaid : Prop := Claim7.holds Tryd.pinned (.plain (OpenSpec.ofChange lowSumsSpec)) lowSumsCard

/-- THE SECOND FORM's CARD OF 'gimletlaw28.LowMany'. -/
def lowManyUptoCard : Claim7 := { stood := { row := lowManyUptoRow, standIns := [], harness := (true, "f2a47f28b5ba5e1edc48b0b811eac47435af8a1dc00d15c5fdafdea4e0165122"), looks := false }, kinds := [], alts := [], laidByText := true, laidKinds := [.data], laidTests := true, laidLooks := .later }
def LowManyUptoCardSaid : Prop := Claim7.holds Tryd.pinned (.plain (OpenSpec.upto lowManySpec)) lowManyUptoCard

/-- THE SECOND FORM's CARD OF 'gimletlaw28.LowMore'. -/
def lowMoreUptoCard : Claim7 := { stood := { row := lowMoreUptoRow, standIns := [], harness := (true, "f2a47f28b5ba5e1edc48b0b811eac47435af8a1dc00d15c5fdafdea4e0165122"), looks := false }, kinds := [], alts := [], laidByText := true, laidKinds := [.data], laidTests := true, laidLooks := .later }
def LowMoreUptoCardSaid : Prop := Claim7.holds Tryd.pinned (.plain (OpenSpec.upto lowMoreSpec)) lowMoreUptoCard

/-- THE SECOND FORM's CARD OF 'gimletlaw28.LowKnown'. -/
def lowKnownUptoCard : Claim7 := { stood := { row := lowKnownUptoRow, standIns := [], harness := (true, "f2a47f28b5ba5e1edc48b0b811eac47435af8a1dc00d15c5fdafdea4e0165122"), looks := false }, kinds := [], alts := [], laidByText := true, laidKinds := [.data], laidTests := true, laidLooks := .later }
def LowKnownUptoCardSaid : Prop := Claim7.holds Tryd.pinned (.plain (OpenSpec.upto lowKnownSpec)) lowKnownUptoCard

/-- THE SECOND FORM's CARD OF 'gimletlaw28.LowSums'. -/
def lowSumsUptoCard : Claim7 := { stood := { row := lowSumsUptoRow, standIns := [], harness := (true, "f2a47f28b5ba5e1edc48b0b811eac47435af8a1dc00d15c5fdafdea4e0165122"), looks := false }, kinds := [], alts := [], laidByText := true, laidKinds := [.data], laidTests := true, laidLooks := .later }
def LowSumsUptoCardSaid : Prop := Claim7.holds Tryd.pinned (.plain (OpenSpec.upto lowSumsSpec)) lowSumsUptoCard
end Rows
end Go.Proofs.YtnjchjoadgknhaaDoor
