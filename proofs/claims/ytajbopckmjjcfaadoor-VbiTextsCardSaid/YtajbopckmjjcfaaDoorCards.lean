/-
  DERIVED. GIVEN WITH THE SEED: THE CARDS: each row of YtajbopckmjjcfaaDoorRows.lean that lists a variable, with what it lists TIED to the program's text (the seventh form; the later family's looks); each row that meets fmt, with fmt's text TOLD by the authors' own Lean function (tested against real Go, not proved from fmt's source: count such statements apart). THE CARD IS WHAT COUNTS. Prove the row's statement (the work); the ties are given (YtajbopckmjjcfaaDoorTie.lean); close each card by the builder's one call (the guide's Derived/Test/ToyasCard.lean, 'card_holds'). Laid BY PROGRAM, IN A SANDBOX (cutbox-door.mjs). By AI agents, Wed Nov 11 2026. No macro, syntax, notation, axiom, sorry.
-/
import Derived.Test.YtajbopckmjjcfaaDoorRows
import GoSem.ClaimSeven
namespace Go.Proofs.YtajbopckmjjcfaaDoor
namespace Rows

/-- THE TIED CARD OF 'fairwaylaw2.VbiTexts'. -/
def vbiTextsCard : Claim7 := { stood := { row := vbiTextsRow, standIns := [], harness := (true, "64d85b81adcaca2f9aadafeb7fe9643fc98236d8e21d08475f9b0f248ec53e77"), looks := false }, kinds := [], alts := [], laidByText := true, laidKinds := [.data, .pinned], laidTests := true, laidLooks := .later }
def VbiTextsCardSaid : Prop := Claim7.holds Tryd.pinned (.plain (OpenSpec.ofChange vbiTextsSpec)) vbiTextsCard

/-- THE TIED CARD OF 'fairwaylaw2.VbiBins'. -/
def vbiBinsCard : Claim7 := { stood := { row := vbiBinsRow, standIns := [], harness := (true, "64d85b81adcaca2f9aadafeb7fe9643fc98236d8e21d08475f9b0f248ec53e77"), looks := false }, kinds := [], alts := [], laidByText := true, laidKinds := [.data, .pinned], laidTests := true, laidLooks := .later }
def VbiBinsCardSaid : Prop := Claim7.holds Tryd.pinned (.plain (OpenSpec.ofChange vbiBinsSpec)) vbiBinsCard

/-- THE SECOND FORM's CARD OF 'fairwaylaw2.VbiTexts'. -/
def vbiTextsUptoCard : Claim7 := { stood := { row := vbiTextsUptoRow, standIns := [], harness := (true, "64d85b81adcaca2f9aadafeb7fe9643fc98236d8e21d08475f9b0f248ec53e77"), looks := false }, kinds := [], alts := [], laidByText := true, laidKinds := [.data, .pinned], laidTests := true, laidLooks := .later }
def VbiTextsUptoCardSaid : Prop := Claim7.holds Tryd.pinned (.plain (OpenSpec.upto vbiTextsSpec)) vbiTextsUptoCard

/-- THE SECOND FORM's CARD OF 'fairwaylaw2.VbiBins'. -/
def vbiBinsUptoCard : Claim7 := { stood := { row := vbiBinsUptoRow, standIns := [], harness := (true, "64d85b81adcaca2f9aadafeb7fe9643fc98236d8e21d08475f9b0f248ec53e77"), looks := false }, kinds := [], alts := [], laidByText := true, laidKinds := [.data, .pinned], laidTests := true, laidLooks := .later }
def VbiBinsUptoCardSaid : Prop := Claim7.holds Tryd.pinned (.plain (OpenSpec.upto vbiBinsSpec)) vbiBinsUptoCard
end Rows
end Go.Proofs.YtajbopckmjjcfaaDoor
