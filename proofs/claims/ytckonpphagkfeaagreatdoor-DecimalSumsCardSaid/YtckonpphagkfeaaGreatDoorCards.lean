/-
  DERIVED. GIVEN WITH THE SEED: THE CARDS: each row of YtckonpphagkfeaaGreatDoorRows.lean that lists a variable, with what it lists TIED to the program's text (the seventh form; the later family's looks); each row that meets fmt, with fmt's text TOLD by the authors' own Lean function (tested against real Go, not proved from fmt's source: count such statements apart). THE CARD IS WHAT COUNTS. Prove the row's statement (the work); the ties are given (YtckonpphagkfeaaGreatDoorTie.lean); close each card by the builder's one call (the guide's Derived/Test/ToyasCard.lean, 'card_holds'). Laid BY PROGRAM, IN A SANDBOX (cutbox-door.mjs). By AI agents, Wed Nov 11 2026. No macro, syntax, notation, axiom, sorry.
-/
import Derived.Test.YtckonpphagkfeaaGreatDoorRows
import GoSem.ClaimSeven
namespace Go.Proofs.YtckonpphagkfeaaGreatDoor
namespace Rows

/-- THE TIED CARD OF 'chapmanlaw02.DecimalMatchesReference'. -/
def decimalMatchesReferenceCard : Claim7 := { stood := { row := decimalMatchesReferenceRow, standIns := [], harness := (true, "d663ed80ee0afef2bf96b74009d958f26bf55b723a3c0e4c91d836a44b87b95f"), looks := true }, kinds := [], alts := [], laidByText := true, laidKinds := [.data, .data, .data, .data, .sentinel, .sentinel, .data, .pinned], laidTests := true, laidLooks := .later }
def DecimalMatchesReferenceCardSaid : Prop := Claim7.holds Tryz.pinned (.plain (OpenSpec.ofChange decimalMatchesReferenceSpec)) decimalMatchesReferenceCard

/-- THE TIED CARD OF 'chapmanlaw02.DecimalTexts'. -/
def decimalTextsCard : Claim7 := { stood := { row := decimalTextsRow, standIns := [], harness := (true, "d663ed80ee0afef2bf96b74009d958f26bf55b723a3c0e4c91d836a44b87b95f"), looks := true }, kinds := [], alts := [], laidByText := true, laidKinds := [.data, .data, .data, .data, .sentinel, .sentinel, .data, .pinned], laidTests := true, laidLooks := .later }
def DecimalTextsCardSaid : Prop := Claim7.holds Tryz.pinned (.plain (OpenSpec.ofChange decimalTextsSpec)) decimalTextsCard

/-- THE TIED CARD OF 'chapmanlaw02.DecimalSums'. -/
def decimalSumsCard : Claim7 := { stood := { row := decimalSumsRow, standIns := [], harness := (true, "d663ed80ee0afef2bf96b74009d958f26bf55b723a3c0e4c91d836a44b87b95f"), looks := true }, kinds := [], alts := [], laidByText := true, laidKinds := [.data, .data, .data, .data, .sentinel, .sentinel, .data, .pinned], laidTests := true, laidLooks := .later }
def DecimalSumsCardSaid : Prop := Claim7.holds Tryz.pinned (.plain (OpenSpec.ofChange decimalSumsSpec)) decimalSumsCard

/-- THE TIED CARD OF 'chapmanlaw02.DecimalProducts'. -/
def decimalProductsCard : Claim7 := { stood := { row := decimalProductsRow, standIns := [], harness := (true, "d663ed80ee0afef2bf96b74009d958f26bf55b723a3c0e4c91d836a44b87b95f"), looks := true }, kinds := [], alts := [], laidByText := true, laidKinds := [.data, .data, .data, .data, .sentinel, .sentinel, .data, .pinned], laidTests := true, laidLooks := .later }
def DecimalProductsCardSaid : Prop := Claim7.holds Tryz.pinned (.plain (OpenSpec.ofChange decimalProductsSpec)) decimalProductsCard

/-- THE TIED CARD OF 'chapmanlaw02.DecimalQuotients'. -/
def decimalQuotientsCard : Claim7 := { stood := { row := decimalQuotientsRow, standIns := [], harness := (true, "d663ed80ee0afef2bf96b74009d958f26bf55b723a3c0e4c91d836a44b87b95f"), looks := true }, kinds := [], alts := [], laidByText := true, laidKinds := [.data, .data, .data, .data, .sentinel, .sentinel, .data, .pinned], laidTests := true, laidLooks := .later }
def DecimalQuotientsCardSaid : Prop := Claim7.holds Tryz.pinned (.plain (OpenSpec.ofChange decimalQuotientsSpec)) decimalQuotientsCard

/-- THE TIED CARD OF 'chapmanlaw02.DecimalTruncates'. -/
def decimalTruncatesCard : Claim7 := { stood := { row := decimalTruncatesRow, standIns := [], harness := (true, "d663ed80ee0afef2bf96b74009d958f26bf55b723a3c0e4c91d836a44b87b95f"), looks := true }, kinds := [], alts := [], laidByText := true, laidKinds := [.data, .data, .data, .data, .sentinel, .sentinel, .data, .pinned], laidTests := true, laidLooks := .later }
def DecimalTruncatesCardSaid : Prop := Claim7.holds Tryz.pinned (.plain (OpenSpec.ofChange decimalTruncatesSpec)) decimalTruncatesCard

/-- THE SECOND FORM's CARD OF 'chapmanlaw02.DecimalMatchesReference'. -/
def decimalMatchesReferenceUptoCard : Claim7 := { stood := { row := decimalMatchesReferenceUptoRow, standIns := [], harness := (true, "d663ed80ee0afef2bf96b74009d958f26bf55b723a3c0e4c91d836a44b87b95f"), looks := true }, kinds := [], alts := [], laidByText := true, laidKinds := [.data, .data, .data, .data, .sentinel, .sentinel, .data, .pinned], laidTests := true, laidLooks := .later }
def DecimalMatchesReferenceUptoCardSaid : Prop := Claim7.holds Tryz.pinned (.plain (OpenSpec.upto decimalMatchesReferenceSpec)) decimalMatchesReferenceUptoCard

/-- THE SECOND FORM's CARD OF 'chapmanlaw02.DecimalTexts'. -/
def decimalTextsUptoCard : Claim7 := { stood := { row := decimalTextsUptoRow, standIns := [], harness := (true, "d663ed80ee0afef2bf96b74009d958f26bf55b723a3c0e4c91d836a44b87b95f"), looks := true }, kinds := [], alts := [], laidByText := true, laidKinds := [.data, .data, .data, .data, .sentinel, .sentinel, .data, .pinned], laidTests := true, laidLooks := .later }
def DecimalTextsUptoCardSaid : Prop := Claim7.holds Tryz.pinned (.plain (OpenSpec.upto decimalTextsSpec)) decimalTextsUptoCard

/-- THE SECOND FORM's CARD OF 'chapmanlaw02.DecimalSums'. -/
def decimalSumsUptoCard : Claim7 := { stood := { row := decimalSumsUptoRow, standIns := [], harness := (true, "d663ed80ee0afef2bf96b74009d958f26bf55b723a3c0e4c91d836a44b87b95f"), looks := true }, kinds := [], alts := [], laidByText := true, laidKinds := [.data, .data, .data, .data, .sentinel, .sentinel, .data, .pinned], laidTests := true, laidLooks := .later }
def DecimalSumsUptoCardSaid : Prop := Claim7.holds Tryz.pinned (.plain (OpenSpec.upto decimalSumsSpec)) decimalSumsUptoCard

/-- THE SECOND FORM's CARD OF 'chapmanlaw02.DecimalProducts'. -/
def decimalProductsUptoCard : Claim7 := { stood := { row := decimalProductsUptoRow, standIns := [], harness := (true, "d663ed80ee0afef2bf96b74009d958f26bf55b723a3c0e4c91d836a44b87b95f"), looks := true }, kinds := [], alts := [], laidByText := true, laidKinds := [.data, .data, .data, .data, .sentinel, .sentinel, .data, .pinned], laidTests := true, laidLooks := .later }
def DecimalProductsUptoCardSaid : Prop := Claim7.holds Tryz.pinned (.plain (OpenSpec.upto decimalProductsSpec)) decimalProductsUptoCard

/-- THE SECOND FORM's CARD OF 'chapmanlaw02.DecimalQuotients'. -/
def decimalQuotientsUptoCard : Claim7 := { stood := { row := decimalQuotientsUptoRow, standIns := [], harness := (true, "d663ed80ee0afef2bf96b74009d958f26bf55b723a3c0e4c91d836a44b87b95f"), looks := true }, kinds := [], alts := [], laidByText := true, laidKinds := [.data, .data, .data, .data, .sentinel, .sentinel, .data, .pinned], laidTests := true, laidLooks := .later }
def DecimalQuotientsUptoCardSaid : Prop := Claim7.holds Tryz.pinned (.plain (OpenSpec.upto decimalQuotientsSpec)) decimalQuotientsUptoCard

/-- THE SECOND FORM's CARD OF 'chapmanlaw02.DecimalTruncates'. -/
def decimalTruncatesUptoCard : Claim7 := { stood := { row := decimalTruncatesUptoRow, standIns := [], harness := (true, "d663ed80ee0afef2bf96b74009d958f26bf55b723a3c0e4c91d836a44b87b95f"), looks := true }, kinds := [], alts := [], laidByText := true, laidKinds := [.data, .data, .data, .data, .sentinel, .sentinel, .data, .pinned], laidTests := true, laidLooks := .later }
def DecimalTruncatesUptoCardSaid : Prop := Claim7.holds Tryz.pinned (.plain (OpenSpec.upto decimalTruncatesSpec)) decimalTruncatesUptoCard
end Rows
end Go.Proofs.YtckonpphagkfeaaGreatDoor
