/-
  DERIVED. GIVEN WITH THE SEED: THE CARDS: each row of YtmebkjdknhknbaaGreatDoorRows.lean that lists a variable, with what it lists TIED to the program's text (the seventh form; the later family's looks); each row that meets fmt, with fmt's text TOLD by the authors' own Lean function (tested against real Go, not proved from fmt's source: count such statements apart). THE CARD IS WHAT COUNTS. Prove the row's statement (the work); the ties are given (YtmebkjdknhknbaaGreatDoorTie.lean); close each card by the builder's one call (the guide's Derived/Test/ToyasCard.lean, 'card_holds'). Laid BY PROGRAM, IN A SANDBOX (cutbox-door.mjs). By AI agents, Wed Nov 11 2026. No macro, syntax, notation, axiom, sorry.
-/
import Derived.Test.YtmebkjdknhknbaaGreatDoorRows
import GoSem.ClaimSeven
namespace Go.Proofs.YtmebkjdknhknbaaGreatDoor
namespace Rows

/-- THE TIED CARD OF 'chapmanlaw16.LensGetPut'. -/
def lensGetPutCard : Claim7 := { stood := { row := lensGetPutRow, standIns := [], harness := (true, "6b3c751486bec1722b782c9c6c2bc9f9ad8c3e787ff05c9d2b73541f3a6367a2"), looks := true }, kinds := [], alts := [], laidByText := true, laidKinds := [.data, .data, .data, .data, .sentinel, .sentinel, .data, .funcs, .data, .pinned], laidTests := true, laidLooks := .later }
def LensGetPutCardSaid : Prop := Claim7.holds Tryz.pinned (.plain (OpenSpec.ofChange lensGetPutSpec)) lensGetPutCard

/-- THE TIED CARD OF 'chapmanlaw16.LensFrame'. -/
def lensFrameCard : Claim7 := { stood := { row := lensFrameRow, standIns := [], harness := (true, "6b3c751486bec1722b782c9c6c2bc9f9ad8c3e787ff05c9d2b73541f3a6367a2"), looks := true }, kinds := [], alts := [], laidByText := true, laidKinds := [.data, .data, .data, .data, .sentinel, .sentinel, .data, .funcs, .data, .pinned], laidTests := true, laidLooks := .later }
def LensFrameCardSaid : Prop := Claim7.holds Tryz.pinned (.plain (OpenSpec.ofChange lensFrameSpec)) lensFrameCard

/-- THE TIED CARD OF 'chapmanlaw16.LensPlaces'. -/
def lensPlacesCard : Claim7 := { stood := { row := lensPlacesRow, standIns := [], harness := (true, "6b3c751486bec1722b782c9c6c2bc9f9ad8c3e787ff05c9d2b73541f3a6367a2"), looks := true }, kinds := [], alts := [], laidByText := true, laidKinds := [.data, .data, .data, .data, .sentinel, .sentinel, .data, .funcs, .data, .pinned], laidTests := true, laidLooks := .later }
def LensPlacesCardSaid : Prop := Claim7.holds Tryz.pinned (.plain (OpenSpec.ofChange lensPlacesSpec)) lensPlacesCard

/-- THE TIED CARD OF 'chapmanlaw16.LensPutGet'. -/
def lensPutGetCard : Claim7 := { stood := { row := lensPutGetRow, standIns := [], harness := (true, "6b3c751486bec1722b782c9c6c2bc9f9ad8c3e787ff05c9d2b73541f3a6367a2"), looks := true }, kinds := [], alts := [], laidByText := true, laidKinds := [.data, .data, .data, .data, .sentinel, .sentinel, .data, .funcs, .data, .pinned], laidTests := true, laidLooks := .later }
def LensPutGetCardSaid : Prop := Claim7.holds Tryz.pinned (.plain (OpenSpec.ofChange lensPutGetSpec)) lensPutGetCard

/-- THE TIED CARD OF 'chapmanlaw16.LensParts'. -/
def lensPartsCard : Claim7 := { stood := { row := lensPartsRow, standIns := [], harness := (true, "6b3c751486bec1722b782c9c6c2bc9f9ad8c3e787ff05c9d2b73541f3a6367a2"), looks := true }, kinds := [], alts := [], laidByText := true, laidKinds := [.data, .data, .data, .data, .sentinel, .sentinel, .data, .funcs, .data, .pinned], laidTests := true, laidLooks := .later }
def LensPartsCardSaid : Prop := Claim7.holds Tryz.pinned (.plain (OpenSpec.ofChange lensPartsSpec)) lensPartsCard

/-- THE TIED CARD OF 'chapmanlaw16.LensTypes'. -/
def lensTypesCard : Claim7 := { stood := { row := lensTypesRow, standIns := [], harness := (true, "6b3c751486bec1722b782c9c6c2bc9f9ad8c3e787ff05c9d2b73541f3a6367a2"), looks := true }, kinds := [], alts := [], laidByText := true, laidKinds := [.data, .data, .data, .data, .sentinel, .sentinel, .data, .funcs, .data, .pinned], laidTests := true, laidLooks := .later }
def LensTypesCardSaid : Prop := Claim7.holds Tryz.pinned (.plain (OpenSpec.ofChange lensTypesSpec)) lensTypesCard

/-- THE SECOND FORM's CARD OF 'chapmanlaw16.LensGetPut'. -/
def lensGetPutUptoCard : Claim7 := { stood := { row := lensGetPutUptoRow, standIns := [], harness := (true, "6b3c751486bec1722b782c9c6c2bc9f9ad8c3e787ff05c9d2b73541f3a6367a2"), looks := true }, kinds := [], alts := [], laidByText := true, laidKinds := [.data, .data, .data, .data, .sentinel, .sentinel, .data, .funcs, .data, .pinned], laidTests := true, laidLooks := .later }
def LensGetPutUptoCardSaid : Prop := Claim7.holds Tryz.pinned (.plain (OpenSpec.upto lensGetPutSpec)) lensGetPutUptoCard

/-- THE SECOND FORM's CARD OF 'chapmanlaw16.LensFrame'. -/
def lensFrameUptoCard : Claim7 := { stood := { row := lensFrameUptoRow, standIns := [], harness := (true, "6b3c751486bec1722b782c9c6c2bc9f9ad8c3e787ff05c9d2b73541f3a6367a2"), looks := true }, kinds := [], alts := [], laidByText := true, laidKinds := [.data, .data, .data, .data, .sentinel, .sentinel, .data, .funcs, .data, .pinned], laidTests := true, laidLooks := .later }
def LensFrameUptoCardSaid : Prop := Claim7.holds Tryz.pinned (.plain (OpenSpec.upto lensFrameSpec)) lensFrameUptoCard

/-- THE SECOND FORM's CARD OF 'chapmanlaw16.LensPlaces'. -/
def lensPlacesUptoCard : Claim7 := { stood := { row := lensPlacesUptoRow, standIns := [], harness := (true, "6b3c751486bec1722b782c9c6c2bc9f9ad8c3e787ff05c9d2b73541f3a6367a2"), looks := true }, kinds := [], alts := [], laidByText := true, laidKinds := [.data, .data, .data, .data, .sentinel, .sentinel, .data, .funcs, .data, .pinned], laidTests := true, laidLooks := .later }
def LensPlacesUptoCardSaid : Prop := Claim7.holds Tryz.pinned (.plain (OpenSpec.upto lensPlacesSpec)) lensPlacesUptoCard

/-- THE SECOND FORM's CARD OF 'chapmanlaw16.LensPutGet'. -/
def lensPutGetUptoCard : Claim7 := { stood := { row := lensPutGetUptoRow, standIns := [], harness := (true, "6b3c751486bec1722b782c9c6c2bc9f9ad8c3e787ff05c9d2b73541f3a6367a2"), looks := true }, kinds := [], alts := [], laidByText := true, laidKinds := [.data, .data, .data, .data, .sentinel, .sentinel, .data, .funcs, .data, .pinned], laidTests := true, laidLooks := .later }
def LensPutGetUptoCardSaid : Prop := Claim7.holds Tryz.pinned (.plain (OpenSpec.upto lensPutGetSpec)) lensPutGetUptoCard

/-- THE SECOND FORM's CARD OF 'chapmanlaw16.LensParts'. -/
def lensPartsUptoCard : Claim7 := { stood := { row := lensPartsUptoRow, standIns := [], harness := (true, "6b3c751486bec1722b782c9c6c2bc9f9ad8c3e787ff05c9d2b73541f3a6367a2"), looks := true }, kinds := [], alts := [], laidByText := true, laidKinds := [.data, .data, .data, .data, .sentinel, .sentinel, .data, .funcs, .data, .pinned], laidTests := true, laidLooks := .later }
def LensPartsUptoCardSaid : Prop := Claim7.holds Tryz.pinned (.plain (OpenSpec.upto lensPartsSpec)) lensPartsUptoCard

/-- THE SECOND FORM's CARD OF 'chapmanlaw16.LensTypes'. -/
def lensTypesUptoCard : Claim7 := { stood := { row := lensTypesUptoRow, standIns := [], harness := (true, "6b3c751486bec1722b782c9c6c2bc9f9ad8c3e787ff05c9d2b73541f3a6367a2"), looks := true }, kinds := [], alts := [], laidByText := true, laidKinds := [.data, .data, .data, .data, .sentinel, .sentinel, .data, .funcs, .data, .pinned], laidTests := true, laidLooks := .later }
def LensTypesUptoCardSaid : Prop := Claim7.holds Tryz.pinned (.plain (OpenSpec.upto lensTypesSpec)) lensTypesUptoCard
end Rows
end Go.Proofs.YtmebkjdknhknbaaGreatDoor
