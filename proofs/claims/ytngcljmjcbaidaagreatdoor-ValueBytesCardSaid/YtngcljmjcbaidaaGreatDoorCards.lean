/-
  DERIVED. GIVEN WITH THE SEED: THE CARDS: each row of YtngcljmjcbaidaaGreatDoorRows.lean that lists a variable, with what it lists TIED to the program's text (the seventh form; the later family's looks); each row that meets fmt, with fmt's text TOLD by the authors' own Lean function (tested against real Go, not proved from fmt's source: count such statements apart). THE CARD IS WHAT COUNTS. Prove the row's statement (the work); the ties are given (YtngcljmjcbaidaaGreatDoorTie.lean); close each card by the builder's one call (the guide's Derived/Test/ToyasCard.lean, 'card_holds'). Laid BY PROGRAM, IN A SANDBOX (cutbox-door.mjs). By AI agents, Wed Nov 11 2026. No macro, syntax, notation, axiom, sorry.
-/
import Derived.Test.YtngcljmjcbaidaaGreatDoorRows
import GoSem.ClaimSeven
namespace Go.Proofs.YtngcljmjcbaidaaGreatDoor
namespace Rows

/-- THE TIED CARD OF 'chapmanlaw06.ValueOrders'. -/
def valueOrdersCard : Claim7 := { stood := { row := valueOrdersRow, standIns := [], harness := (true, "00c9bd836ac6f95a46cf5e3bc63fca94903cc1eeab682841aa30486941a8305a"), looks := true }, kinds := [], alts := [], laidByText := true, laidKinds := [.data, .data, .data, .data, .sentinel, .sentinel, .funcs, .data, .pinned], laidTests := true, laidLooks := .later }
def ValueOrdersCardSaid : Prop := Claim7.holds Tryz.pinned (.plain (OpenSpec.ofChange valueOrdersSpec)) valueOrdersCard

/-- THE TIED CARD OF 'chapmanlaw06.ValueTypes'. -/
def valueTypesCard : Claim7 := { stood := { row := valueTypesRow, standIns := [], harness := (true, "00c9bd836ac6f95a46cf5e3bc63fca94903cc1eeab682841aa30486941a8305a"), looks := true }, kinds := [], alts := [], laidByText := true, laidKinds := [.data, .data, .data, .data, .sentinel, .sentinel, .funcs, .data, .pinned], laidTests := true, laidLooks := .later }
def ValueTypesCardSaid : Prop := Claim7.holds Tryz.pinned (.plain (OpenSpec.ofChange valueTypesSpec)) valueTypesCard

/-- THE TIED CARD OF 'chapmanlaw06.ValueTexts'. -/
def valueTextsCard : Claim7 := { stood := { row := valueTextsRow, standIns := [], harness := (true, "00c9bd836ac6f95a46cf5e3bc63fca94903cc1eeab682841aa30486941a8305a"), looks := true }, kinds := [], alts := [], laidByText := true, laidKinds := [.data, .data, .data, .data, .sentinel, .sentinel, .funcs, .data, .pinned], laidTests := true, laidLooks := .later }
def ValueTextsCardSaid : Prop := Claim7.holds Tryz.pinned (.plain (OpenSpec.ofChange valueTextsSpec)) valueTextsCard

/-- THE TIED CARD OF 'chapmanlaw06.ValueMatchesReference'. -/
def valueMatchesReferenceCard : Claim7 := { stood := { row := valueMatchesReferenceRow, standIns := [], harness := (true, "00c9bd836ac6f95a46cf5e3bc63fca94903cc1eeab682841aa30486941a8305a"), looks := true }, kinds := [], alts := [], laidByText := true, laidKinds := [.data, .data, .data, .data, .sentinel, .sentinel, .funcs, .data, .pinned], laidTests := true, laidLooks := .later }
def ValueMatchesReferenceCardSaid : Prop := Claim7.holds Tryz.pinned (.plain (OpenSpec.ofChange valueMatchesReferenceSpec)) valueMatchesReferenceCard

/-- THE TIED CARD OF 'chapmanlaw06.ValueBytes'. -/
def valueBytesCard : Claim7 := { stood := { row := valueBytesRow, standIns := [], harness := (true, "00c9bd836ac6f95a46cf5e3bc63fca94903cc1eeab682841aa30486941a8305a"), looks := true }, kinds := [], alts := [], laidByText := true, laidKinds := [.data, .data, .data, .data, .sentinel, .sentinel, .funcs, .data, .pinned], laidTests := true, laidLooks := .later }
def ValueBytesCardSaid : Prop := Claim7.holds Tryz.pinned (.plain (OpenSpec.ofChange valueBytesSpec)) valueBytesCard

/-- THE TIED CARD OF 'chapmanlaw06.ValuePrefixes'. -/
def valuePrefixesCard : Claim7 := { stood := { row := valuePrefixesRow, standIns := [], harness := (true, "00c9bd836ac6f95a46cf5e3bc63fca94903cc1eeab682841aa30486941a8305a"), looks := true }, kinds := [], alts := [], laidByText := true, laidKinds := [.data, .data, .data, .data, .sentinel, .sentinel, .funcs, .data, .pinned], laidTests := true, laidLooks := .later }
def ValuePrefixesCardSaid : Prop := Claim7.holds Tryz.pinned (.plain (OpenSpec.ofChange valuePrefixesSpec)) valuePrefixesCard

/-- THE SECOND FORM's CARD OF 'chapmanlaw06.ValueOrders'. -/
def valueOrdersUptoCard : Claim7 := { stood := { row := valueOrdersUptoRow, standIns := [], harness := (true, "00c9bd836ac6f95a46cf5e3bc63fca94903cc1eeab682841aa30486941a8305a"), looks := true }, kinds := [], alts := [], laidByText := true, laidKinds := [.data, .data, .data, .data, .sentinel, .sentinel, .funcs, .data, .pinned], laidTests := true, laidLooks := .later }
def ValueOrdersUptoCardSaid : Prop := Claim7.holds Tryz.pinned (.plain (OpenSpec.upto valueOrdersSpec)) valueOrdersUptoCard

/-- THE SECOND FORM's CARD OF 'chapmanlaw06.ValueTypes'. -/
def valueTypesUptoCard : Claim7 := { stood := { row := valueTypesUptoRow, standIns := [], harness := (true, "00c9bd836ac6f95a46cf5e3bc63fca94903cc1eeab682841aa30486941a8305a"), looks := true }, kinds := [], alts := [], laidByText := true, laidKinds := [.data, .data, .data, .data, .sentinel, .sentinel, .funcs, .data, .pinned], laidTests := true, laidLooks := .later }
def ValueTypesUptoCardSaid : Prop := Claim7.holds Tryz.pinned (.plain (OpenSpec.upto valueTypesSpec)) valueTypesUptoCard

/-- THE SECOND FORM's CARD OF 'chapmanlaw06.ValueTexts'. -/
def valueTextsUptoCard : Claim7 := { stood := { row := valueTextsUptoRow, standIns := [], harness := (true, "00c9bd836ac6f95a46cf5e3bc63fca94903cc1eeab682841aa30486941a8305a"), looks := true }, kinds := [], alts := [], laidByText := true, laidKinds := [.data, .data, .data, .data, .sentinel, .sentinel, .funcs, .data, .pinned], laidTests := true, laidLooks := .later }
def ValueTextsUptoCardSaid : Prop := Claim7.holds Tryz.pinned (.plain (OpenSpec.upto valueTextsSpec)) valueTextsUptoCard

/-- THE SECOND FORM's CARD OF 'chapmanlaw06.ValueMatchesReference'. -/
def valueMatchesReferenceUptoCard : Claim7 := { stood := { row := valueMatchesReferenceUptoRow, standIns := [], harness := (true, "00c9bd836ac6f95a46cf5e3bc63fca94903cc1eeab682841aa30486941a8305a"), looks := true }, kinds := [], alts := [], laidByText := true, laidKinds := [.data, .data, .data, .data, .sentinel, .sentinel, .funcs, .data, .pinned], laidTests := true, laidLooks := .later }
def ValueMatchesReferenceUptoCardSaid : Prop := Claim7.holds Tryz.pinned (.plain (OpenSpec.upto valueMatchesReferenceSpec)) valueMatchesReferenceUptoCard

/-- THE SECOND FORM's CARD OF 'chapmanlaw06.ValueBytes'. -/
def valueBytesUptoCard : Claim7 := { stood := { row := valueBytesUptoRow, standIns := [], harness := (true, "00c9bd836ac6f95a46cf5e3bc63fca94903cc1eeab682841aa30486941a8305a"), looks := true }, kinds := [], alts := [], laidByText := true, laidKinds := [.data, .data, .data, .data, .sentinel, .sentinel, .funcs, .data, .pinned], laidTests := true, laidLooks := .later }
def ValueBytesUptoCardSaid : Prop := Claim7.holds Tryz.pinned (.plain (OpenSpec.upto valueBytesSpec)) valueBytesUptoCard

/-- THE SECOND FORM's CARD OF 'chapmanlaw06.ValuePrefixes'. -/
def valuePrefixesUptoCard : Claim7 := { stood := { row := valuePrefixesUptoRow, standIns := [], harness := (true, "00c9bd836ac6f95a46cf5e3bc63fca94903cc1eeab682841aa30486941a8305a"), looks := true }, kinds := [], alts := [], laidByText := true, laidKinds := [.data, .data, .data, .data, .sentinel, .sentinel, .funcs, .data, .pinned], laidTests := true, laidLooks := .later }
def ValuePrefixesUptoCardSaid : Prop := Claim7.holds Tryz.pinned (.plain (OpenSpec.upto valuePrefixesSpec)) valuePrefixesUptoCard
end Rows
end Go.Proofs.YtngcljmjcbaidaaGreatDoor
