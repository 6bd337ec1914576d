/-
  DERIVED. GIVEN WITH THE SEED: THE CARDS: each row of YtelifcbpgfhakaaGreatDoorRows.lean that lists a variable, with what it lists TIED to the program's text (the seventh form; the later family's looks); each row that meets fmt, with fmt's text TOLD by the authors' own Lean function (tested against real Go, not proved from fmt's source: count such statements apart). THE CARD IS WHAT COUNTS. Prove the row's statement (the work); the ties are given (YtelifcbpgfhakaaGreatDoorTie.lean); close each card by the builder's one call (the guide's Derived/Test/ToyasCard.lean, 'card_holds'). Laid BY PROGRAM, IN A SANDBOX (cutbox-door.mjs). By AI agents, Wed Nov 11 2026. No macro, syntax, notation, axiom, sorry.
-/
import Derived.Test.YtelifcbpgfhakaaGreatDoorRows
import GoSem.ClaimSeven
namespace Go.Proofs.YtelifcbpgfhakaaGreatDoor
namespace Rows

/-- THE TIED CARD OF 'gimletlaw13.PlaceKnown'. -/
def placeKnownCard : Claim7 := { stood := { row := placeKnownRow, standIns := [], harness := (true, "8474ec99143191c32ecc64c2a3bcea20c89eaf338620ed368b73002dfff12796"), looks := false }, kinds := [], alts := [], laidByText := true, laidKinds := [.data, .listed, .data, .pinned], laidTests := true, laidLooks := .later }
def PlaceKnownCardSaid : Prop := Claim7.holds Tryz.pinned (.plain (OpenSpec.ofChange placeKnownSpec)) placeKnownCard

/-- THE TIED CARD OF 'gimletlaw13.PlaceReady'. -/
def placeReadyCard : Claim7 := { stood := { row := placeReadyRow, standIns := [], harness := (true, "8474ec99143191c32ecc64c2a3bcea20c89eaf338620ed368b73002dfff12796"), looks := false }, kinds := [], alts := [], laidByText := true, laidKinds := [.data, .listed, .data, .pinned], laidTests := true, laidLooks := .later }
def PlaceReadyCardSaid : Prop := Claim7.holds Tryz.pinned (.plain (OpenSpec.ofChange placeReadySpec)) placeReadyCard

/-- THE TIED CARD OF 'gimletlaw13.PlaceNone'. -/
def placeNoneCard : Claim7 := { stood := { row := placeNoneRow, standIns := [], harness := (true, "8474ec99143191c32ecc64c2a3bcea20c89eaf338620ed368b73002dfff12796"), looks := false }, kinds := [], alts := [], laidByText := true, laidKinds := [.data, .listed, .data, .pinned], laidTests := true, laidLooks := .later }
def PlaceNoneCardSaid : Prop := Claim7.holds Tryz.pinned (.plain (OpenSpec.ofChange placeNoneSpec)) placeNoneCard

/-- THE TIED CARD OF 'gimletlaw13.PlaceApart'. -/
def placeApartCard : Claim7 := { stood := { row := placeApartRow, standIns := [], harness := (true, "8474ec99143191c32ecc64c2a3bcea20c89eaf338620ed368b73002dfff12796"), looks := false }, kinds := [], alts := [], laidByText := true, laidKinds := [.data, .listed, .data, .pinned], laidTests := true, laidLooks := .later }
def PlaceApartCardSaid : Prop := Claim7.holds Tryz.pinned (.plain (OpenSpec.ofChange placeApartSpec)) placeApartCard

/-- THE TIED CARD OF 'gimletlaw13.PlaceScript'. -/
def placeScriptCard : Claim7 := { stood := { row := placeScriptRow, standIns := [], harness := (true, "8474ec99143191c32ecc64c2a3bcea20c89eaf338620ed368b73002dfff12796"), looks := false }, kinds := [], alts := [], laidByText := true, laidKinds := [.data, .listed, .data, .pinned], laidTests := true, laidLooks := .later }
def PlaceScriptCardSaid : Prop := Claim7.holds Tryz.pinned (.plain (OpenSpec.ofChange placeScriptSpec)) placeScriptCard

/-- THE SECOND FORM's CARD OF 'gimletlaw13.PlaceKnown'. -/
def placeKnownUptoCard : Claim7 := { stood := { row := placeKnownUptoRow, standIns := [], harness := (true, "8474ec99143191c32ecc64c2a3bcea20c89eaf338620ed368b73002dfff12796"), looks := false }, kinds := [], alts := [], laidByText := true, laidKinds := [.data, .listed, .data, .pinned], laidTests := true, laidLooks := .later }
def PlaceKnownUptoCardSaid : Prop := Claim7.holds Tryz.pinned (.plain (OpenSpec.upto placeKnownSpec)) placeKnownUptoCard

/-- THE SECOND FORM's CARD OF 'gimletlaw13.PlaceReady'. -/
def placeReadyUptoCard : Claim7 := { stood := { row := placeReadyUptoRow, standIns := [], harness := (true, "8474ec99143191c32ecc64c2a3bcea20c89eaf338620ed368b73002dfff12796"), looks := false }, kinds := [], alts := [], laidByText := true, laidKinds := [.data, .listed, .data, .pinned], laidTests := true, laidLooks := .later }
def PlaceReadyUptoCardSaid : Prop := Claim7.holds Tryz.pinned (.plain (OpenSpec.upto placeReadySpec)) placeReadyUptoCard

/-- THE SECOND FORM's CARD OF 'gimletlaw13.PlaceNone'. -/
def placeNoneUptoCard : Claim7 := { stood := { row := placeNoneUptoRow, standIns := [], harness := (true, "8474ec99143191c32ecc64c2a3bcea20c89eaf338620ed368b73002dfff12796"), looks := false }, kinds := [], alts := [], laidByText := true, laidKinds := [.data, .listed, .data, .pinned], laidTests := true, laidLooks := .later }
def PlaceNoneUptoCardSaid : Prop := Claim7.holds Tryz.pinned (.plain (OpenSpec.upto placeNoneSpec)) placeNoneUptoCard

/-- THE SECOND FORM's CARD OF 'gimletlaw13.PlaceApart'. -/
def placeApartUptoCard : Claim7 := { stood := { row := placeApartUptoRow, standIns := [], harness := (true, "8474ec99143191c32ecc64c2a3bcea20c89eaf338620ed368b73002dfff12796"), looks := false }, kinds := [], alts := [], laidByText := true, laidKinds := [.data, .listed, .data, .pinned], laidTests := true, laidLooks := .later }
def PlaceApartUptoCardSaid : Prop := Claim7.holds Tryz.pinned (.plain (OpenSpec.upto placeApartSpec)) placeApartUptoCard

/-- THE SECOND FORM's CARD OF 'gimletlaw13.PlaceScript'. -/
def placeScriptUptoCard : Claim7 := { stood := { row := placeScriptUptoRow, standIns := [], harness := (true, "8474ec99143191c32ecc64c2a3bcea20c89eaf338620ed368b73002dfff12796"), looks := false }, kinds := [], alts := [], laidByText := true, laidKinds := [.data, .listed, .data, .pinned], laidTests := true, laidLooks := .later }
def PlaceScriptUptoCardSaid : Prop := Claim7.holds Tryz.pinned (.plain (OpenSpec.upto placeScriptSpec)) placeScriptUptoCard
end Rows
end Go.Proofs.YtelifcbpgfhakaaGreatDoor
