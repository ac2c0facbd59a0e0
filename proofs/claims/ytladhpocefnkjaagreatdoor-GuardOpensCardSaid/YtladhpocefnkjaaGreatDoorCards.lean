/-
  DERIVED. GIVEN WITH THE SEED: THE CARDS: each row of YtladhpocefnkjaaGreatDoorRows.lean that lists a variable, with what it lists TIED to the program's text (the seventh form; the later family's looks); each row that meets fmt, with fmt's text TOLD by the authors' own Lean function (tested against real Go, not proved from fmt's source: count such statements apart). THE CARD IS WHAT COUNTS. Prove the row's statement (the work); the ties are given (YtladhpocefnkjaaGreatDoorTie.lean); close each card by the builder's one call (the guide's Derived/Test/ToyasCard.lean, 'card_holds'). Laid BY PROGRAM, IN A SANDBOX (cutbox-door.mjs). By AI agents, Wed Nov 11 2026. No macro, syntax, notation, axiom, sorry.
-/
import Derived.Test.YtladhpocefnkjaaGreatDoorRows
import GoSem.ClaimSeven
namespace Go.Proofs.YtladhpocefnkjaaGreatDoor
namespace Rows

/-- THE TIED CARD OF 'ringworklaw29.GuardOpens'. -/
def guardOpensCard : Claim7 := { stood := { row := guardOpensRow, standIns := [], harness := (true, "1805bb797b903d72dbdc997402713668b0631029fc41aa3d2ed55b3c3ccd500f"), looks := true }, kinds := [], alts := [], laidByText := true, laidKinds := [.data, .data, .data, .sentinel, .sentinel], laidTests := true, laidLooks := .later }
def GuardOpensCardSaid : Prop := Claim7.holds Tryz.pinned (.plain (OpenSpec.ofChange guardOpensSpec)) guardOpensCard

/-- THE TIED CARD OF 'ringworklaw29.GuardValid'. -/
def guardValidCard : Claim7 := { stood := { row := guardValidRow, standIns := [], harness := (true, "1805bb797b903d72dbdc997402713668b0631029fc41aa3d2ed55b3c3ccd500f"), looks := true }, kinds := [], alts := [], laidByText := true, laidKinds := [.data, .data, .data, .sentinel, .sentinel], laidTests := true, laidLooks := .later }
def GuardValidCardSaid : Prop := Claim7.holds Tryz.pinned (.plain (OpenSpec.ofChange guardValidSpec)) guardValidCard

/-- THE TIED CARD OF 'ringworklaw29.GuardTells'. -/
def guardTellsCard : Claim7 := { stood := { row := guardTellsRow, standIns := [], harness := (true, "1805bb797b903d72dbdc997402713668b0631029fc41aa3d2ed55b3c3ccd500f"), looks := true }, kinds := [], alts := [], laidByText := true, laidKinds := [.data, .data, .data, .sentinel, .sentinel], laidTests := true, laidLooks := .later }
def GuardTellsCardSaid : Prop := Claim7.holds Tryz.pinned (.plain (OpenSpec.ofChange guardTellsSpec)) guardTellsCard

/-- THE TIED CARD OF 'ringworklaw29.GuardPlays'. -/
def guardPlaysCard : Claim7 := { stood := { row := guardPlaysRow, standIns := [], harness := (true, "1805bb797b903d72dbdc997402713668b0631029fc41aa3d2ed55b3c3ccd500f"), looks := true }, kinds := [], alts := [], laidByText := true, laidKinds := [.data, .data, .data, .sentinel, .sentinel], laidTests := true, laidLooks := .later }
def GuardPlaysCardSaid : Prop := Claim7.holds Tryz.pinned (.plain (OpenSpec.ofChange guardPlaysSpec)) guardPlaysCard

/-- THE TIED CARD OF 'ringworklaw29.GuardTexts'. -/
def guardTextsCard : Claim7 := { stood := { row := guardTextsRow, standIns := [], harness := (true, "1805bb797b903d72dbdc997402713668b0631029fc41aa3d2ed55b3c3ccd500f"), looks := true }, kinds := [], alts := [], laidByText := true, laidKinds := [.data, .data, .data, .data, .sentinel, .sentinel, .pinned], laidTests := true, laidLooks := .later }
def GuardTextsCardSaid : Prop := Claim7.holds Tryz.pinned (.plain (OpenSpec.ofChange guardTextsSpec)) guardTextsCard

/-- THE SECOND FORM's CARD OF 'ringworklaw29.GuardOpens'. -/
def guardOpensUptoCard : Claim7 := { stood := { row := guardOpensUptoRow, standIns := [], harness := (true, "1805bb797b903d72dbdc997402713668b0631029fc41aa3d2ed55b3c3ccd500f"), looks := true }, kinds := [], alts := [], laidByText := true, laidKinds := [.data, .data, .data, .sentinel, .sentinel], laidTests := true, laidLooks := .later }
def GuardOpensUptoCardSaid : Prop := Claim7.holds Tryz.pinned (.plain (OpenSpec.upto guardOpensSpec)) guardOpensUptoCard

/-- THE SECOND FORM's CARD OF 'ringworklaw29.GuardValid'. -/
def guardValidUptoCard : Claim7 := { stood := { row := guardValidUptoRow, standIns := [], harness := (true, "1805bb797b903d72dbdc997402713668b0631029fc41aa3d2ed55b3c3ccd500f"), looks := true }, kinds := [], alts := [], laidByText := true, laidKinds := [.data, .data, .data, .sentinel, .sentinel], laidTests := true, laidLooks := .later }
def GuardValidUptoCardSaid : Prop := Claim7.holds Tryz.pinned (.plain (OpenSpec.upto guardValidSpec)) guardValidUptoCard

/-- THE SECOND FORM's CARD OF 'ringworklaw29.GuardTells'. -/
def guardTellsUptoCard : Claim7 := { stood := { row := guardTellsUptoRow, standIns := [], harness := (true, "1805bb797b903d72dbdc997402713668b0631029fc41aa3d2ed55b3c3ccd500f"), looks := true }, kinds := [], alts := [], laidByText := true, laidKinds := [.data, .data, .data, .sentinel, .sentinel], laidTests := true, laidLooks := .later }
def GuardTellsUptoCardSaid : Prop := Claim7.holds Tryz.pinned (.plain (OpenSpec.upto guardTellsSpec)) guardTellsUptoCard

/-- THE SECOND FORM's CARD OF 'ringworklaw29.GuardPlays'. -/
def guardPlaysUptoCard : Claim7 := { stood := { row := guardPlaysUptoRow, standIns := [], harness := (true, "1805bb797b903d72dbdc997402713668b0631029fc41aa3d2ed55b3c3ccd500f"), looks := true }, kinds := [], alts := [], laidByText := true, laidKinds := [.data, .data, .data, .sentinel, .sentinel], laidTests := true, laidLooks := .later }
def GuardPlaysUptoCardSaid : Prop := Claim7.holds Tryz.pinned (.plain (OpenSpec.upto guardPlaysSpec)) guardPlaysUptoCard

/-- THE SECOND FORM's CARD OF 'ringworklaw29.GuardTexts'. -/
def guardTextsUptoCard : Claim7 := { stood := { row := guardTextsUptoRow, standIns := [], harness := (true, "1805bb797b903d72dbdc997402713668b0631029fc41aa3d2ed55b3c3ccd500f"), looks := true }, kinds := [], alts := [], laidByText := true, laidKinds := [.data, .data, .data, .data, .sentinel, .sentinel, .pinned], laidTests := true, laidLooks := .later }
def GuardTextsUptoCardSaid : Prop := Claim7.holds Tryz.pinned (.plain (OpenSpec.upto guardTextsSpec)) guardTextsUptoCard
end Rows
end Go.Proofs.YtladhpocefnkjaaGreatDoor
