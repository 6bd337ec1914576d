/-
  DERIVED. GIVEN WITH THE SEED: THE CARDS: each row of YtljekfaoabigkaaGreatDoorRows.lean that lists a variable, with what it lists TIED to the program's text (the seventh form; the later family's looks); each row that meets fmt, with fmt's text TOLD by the authors' own Lean function (tested against real Go, not proved from fmt's source: count such statements apart). THE CARD IS WHAT COUNTS. Prove the row's statement (the work); the ties are given (YtljekfaoabigkaaGreatDoorTie.lean); close each card by the builder's one call (the guide's Derived/Test/ToyasCard.lean, 'card_holds'). Laid BY PROGRAM, IN A SANDBOX (cutbox-door.mjs). By AI agents, Wed Nov 11 2026. No macro, syntax, notation, axiom, sorry.
-/
import Derived.Test.YtljekfaoabigkaaGreatDoorRows
import GoSem.ClaimSeven
namespace Go.Proofs.YtljekfaoabigkaaGreatDoor
namespace Rows

/-- THE TIED CARD OF 'gimletlaw08.EncodeLong'. -/
def encodeLongCard : Claim7 := { stood := { row := encodeLongRow, standIns := [], harness := (true, "8e6e5779b2ac0165841aba72b6c1ebbd68565bbd0fa3693250733e427cabfa4d"), looks := false }, kinds := [], alts := [], laidByText := true, laidKinds := [.data, .listed, .data, .pinned], laidTests := true, laidLooks := .later }
def EncodeLongCardSaid : Prop := Claim7.holds Tryz.pinned (.plain (OpenSpec.ofChange encodeLongSpec)) encodeLongCard

/-- THE TIED CARD OF 'gimletlaw08.EncodeApart'. -/
def encodeApartCard : Claim7 := { stood := { row := encodeApartRow, standIns := [], harness := (true, "8e6e5779b2ac0165841aba72b6c1ebbd68565bbd0fa3693250733e427cabfa4d"), looks := false }, kinds := [], alts := [], laidByText := true, laidKinds := [.data, .listed, .data, .pinned], laidTests := true, laidLooks := .later }
def EncodeApartCardSaid : Prop := Claim7.holds Tryz.pinned (.plain (OpenSpec.ofChange encodeApartSpec)) encodeApartCard

/-- THE TIED CARD OF 'gimletlaw08.EncodeTells'. -/
def encodeTellsCard : Claim7 := { stood := { row := encodeTellsRow, standIns := [], harness := (true, "8e6e5779b2ac0165841aba72b6c1ebbd68565bbd0fa3693250733e427cabfa4d"), looks := false }, kinds := [], alts := [], laidByText := true, laidKinds := [.data, .listed, .data, .pinned], laidTests := true, laidLooks := .later }
def EncodeTellsCardSaid : Prop := Claim7.holds Tryz.pinned (.plain (OpenSpec.ofChange encodeTellsSpec)) encodeTellsCard

/-- THE SECOND FORM's CARD OF 'gimletlaw08.EncodeLong'. -/
def encodeLongUptoCard : Claim7 := { stood := { row := encodeLongUptoRow, standIns := [], harness := (true, "8e6e5779b2ac0165841aba72b6c1ebbd68565bbd0fa3693250733e427cabfa4d"), looks := false }, kinds := [], alts := [], laidByText := true, laidKinds := [.data, .listed, .data, .pinned], laidTests := true, laidLooks := .later }
def EncodeLongUptoCardSaid : Prop := Claim7.holds Tryz.pinned (.plain (OpenSpec.upto encodeLongSpec)) encodeLongUptoCard

/-- THE SECOND FORM's CARD OF 'gimletlaw08.EncodeApart'. -/
def encodeApartUptoCard : Claim7 := { stood := { row := encodeApartUptoRow, standIns := [], harness := (true, "8e6e5779b2ac0165841aba72b6c1ebbd68565bbd0fa3693250733e427cabfa4d"), looks := false }, kinds := [], alts := [], laidByText := true, laidKinds := [.data, .listed, .data, .pinned], laidTests := true, laidLooks := .later }
def EncodeApartUptoCardSaid : Prop := Claim7.holds Tryz.pinned (.plain (OpenSpec.upto encodeApartSpec)) encodeApartUptoCard

/-- THE SECOND FORM's CARD OF 'gimletlaw08.EncodeTells'. -/
def encodeTellsUptoCard : Claim7 := { stood := { row := encodeTellsUptoRow, standIns := [], harness := (true, "8e6e5779b2ac0165841aba72b6c1ebbd68565bbd0fa3693250733e427cabfa4d"), looks := false }, kinds := [], alts := [], laidByText := true, laidKinds := [.data, .listed, .data, .pinned], laidTests := true, laidLooks := .later }
def EncodeTellsUptoCardSaid : Prop := Claim7.holds Tryz.pinned (.plain (OpenSpec.upto encodeTellsSpec)) encodeTellsUptoCard
end Rows
end Go.Proofs.YtljekfaoabigkaaGreatDoor
