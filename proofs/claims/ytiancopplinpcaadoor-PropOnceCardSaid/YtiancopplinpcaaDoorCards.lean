/-
  DERIVED. GIVEN WITH THE SEED: THE CARDS: each row of YtiancopplinpcaaDoorRows.lean that lists a variable, with what it lists TIED to the program's text (the seventh form; the later family's looks); each row that meets fmt, with fmt's text TOLD by the authors' own Lean function (tested against real Go, not proved from fmt's source: count such statements apart). THE CARD IS WHAT COUNTS. Prove the row's statement (the work); the ties are given (YtiancopplinpcaaDoorTie.lean); close each card by the builder's one call (the guide's Derived/Test/ToyasCard.lean, 'card_holds'). Laid BY PROGRAM, IN A SANDBOX (cutbox-door.mjs). By AI agents, Wed Nov 11 2026. No macro, syntax, notation, axiom, sorry.
-/
import Derived.Test.YtiancopplinpcaaDoorRows
import GoSem.ClaimSeven
namespace Go.Proofs.YtiancopplinpcaaDoor
namespace Rows

/-- THE TIED CARD OF 'fairwaylaw4.PropKinds'. -/
def propKindsCard : Claim7 := { stood := { row := propKindsRow, standIns := [], harness := (true, "fca6f341dbf8acde850c56b1dd8a0b3fb1b8f8c18409f7ddda5a2ea752b102d1"), looks := true }, kinds := [], alts := [], laidByText := true, laidKinds := [.data, .pinned], laidTests := true, laidLooks := .later }
def PropKindsCardSaid : Prop := Claim7.holds Tryd.pinned (.plain (OpenSpec.ofChange propKindsSpec)) propKindsCard

/-- THE TIED CARD OF 'fairwaylaw4.PropBytes'. -/
def propBytesCard : Claim7 := { stood := { row := propBytesRow, standIns := [], harness := (true, "fca6f341dbf8acde850c56b1dd8a0b3fb1b8f8c18409f7ddda5a2ea752b102d1"), looks := true }, kinds := [], alts := [], laidByText := true, laidKinds := [.data, .pinned], laidTests := true, laidLooks := .later }
def PropBytesCardSaid : Prop := Claim7.holds Tryd.pinned (.plain (OpenSpec.ofChange propBytesSpec)) propBytesCard

/-- THE TIED CARD OF 'fairwaylaw4.PropOnce'. -/
def propOnceCard : Claim7 := { stood := { row := propOnceRow, standIns := [], harness := (true, "fca6f341dbf8acde850c56b1dd8a0b3fb1b8f8c18409f7ddda5a2ea752b102d1"), looks := true }, kinds := [], alts := [], laidByText := true, laidKinds := [.data, .pinned], laidTests := true, laidLooks := .later }
def PropOnceCardSaid : Prop := Claim7.holds Tryd.pinned (.plain (OpenSpec.ofChange propOnceSpec)) propOnceCard

/-- THE TIED CARD OF 'fairwaylaw4.PropTakes'. -/
def propTakesCard : Claim7 := { stood := { row := propTakesRow, standIns := [], harness := (true, "fca6f341dbf8acde850c56b1dd8a0b3fb1b8f8c18409f7ddda5a2ea752b102d1"), looks := true }, kinds := [], alts := [], laidByText := true, laidKinds := [.data, .pinned], laidTests := true, laidLooks := .later }
def PropTakesCardSaid : Prop := Claim7.holds Tryd.pinned (.plain (OpenSpec.ofChange propTakesSpec)) propTakesCard

/-- THE TIED CARD OF 'fairwaylaw4.PropBack'. -/
def propBackCard : Claim7 := { stood := { row := propBackRow, standIns := [], harness := (true, "fca6f341dbf8acde850c56b1dd8a0b3fb1b8f8c18409f7ddda5a2ea752b102d1"), looks := true }, kinds := [], alts := [], laidByText := true, laidKinds := [.data, .pinned], laidTests := true, laidLooks := .later }
def PropBackCardSaid : Prop := Claim7.holds Tryd.pinned (.plain (OpenSpec.ofChange propBackSpec)) propBackCard

/-- THE TIED CARD OF 'fairwaylaw4.PropNumbers'. -/
def propNumbersCard : Claim7 := { stood := { row := propNumbersRow, standIns := [], harness := (true, "fca6f341dbf8acde850c56b1dd8a0b3fb1b8f8c18409f7ddda5a2ea752b102d1"), looks := true }, kinds := [], alts := [], laidByText := true, laidKinds := [.data, .pinned], laidTests := true, laidLooks := .later }
def PropNumbersCardSaid : Prop := Claim7.holds Tryd.pinned (.plain (OpenSpec.ofChange propNumbersSpec)) propNumbersCard

/-- THE TIED CARD OF 'fairwaylaw4.PropTexts'. -/
def propTextsCard : Claim7 := { stood := { row := propTextsRow, standIns := [], harness := (true, "fca6f341dbf8acde850c56b1dd8a0b3fb1b8f8c18409f7ddda5a2ea752b102d1"), looks := true }, kinds := [], alts := [], laidByText := true, laidKinds := [.data, .pinned], laidTests := true, laidLooks := .later }
def PropTextsCardSaid : Prop := Claim7.holds Tryd.pinned (.plain (OpenSpec.ofChange propTextsSpec)) propTextsCard

/-- THE TIED CARD OF 'fairwaylaw4.PropPairs'. -/
def propPairsCard : Claim7 := { stood := { row := propPairsRow, standIns := [], harness := (true, "fca6f341dbf8acde850c56b1dd8a0b3fb1b8f8c18409f7ddda5a2ea752b102d1"), looks := true }, kinds := [], alts := [], laidByText := true, laidKinds := [.data, .pinned], laidTests := true, laidLooks := .later }
def PropPairsCardSaid : Prop := Claim7.holds Tryd.pinned (.plain (OpenSpec.ofChange propPairsSpec)) propPairsCard

/-- THE SECOND FORM's CARD OF 'fairwaylaw4.PropKinds'. -/
def propKindsUptoCard : Claim7 := { stood := { row := propKindsUptoRow, standIns := [], harness := (true, "fca6f341dbf8acde850c56b1dd8a0b3fb1b8f8c18409f7ddda5a2ea752b102d1"), looks := true }, kinds := [], alts := [], laidByText := true, laidKinds := [.data, .pinned], laidTests := true, laidLooks := .later }
def PropKindsUptoCardSaid : Prop := Claim7.holds Tryd.pinned (.plain (OpenSpec.upto propKindsSpec)) propKindsUptoCard

/-- THE SECOND FORM's CARD OF 'fairwaylaw4.PropBytes'. -/
def propBytesUptoCard : Claim7 := { stood := { row := propBytesUptoRow, standIns := [], harness := (true, "fca6f341dbf8acde850c56b1dd8a0b3fb1b8f8c18409f7ddda5a2ea752b102d1"), looks := true }, kinds := [], alts := [], laidByText := true, laidKinds := [.data, .pinned], laidTests := true, laidLooks := .later }
def PropBytesUptoCardSaid : Prop := Claim7.holds Tryd.pinned (.plain (OpenSpec.upto propBytesSpec)) propBytesUptoCard

/-- THE SECOND FORM's CARD OF 'fairwaylaw4.PropOnce'. -/
def propOnceUptoCard : Claim7 := { stood := { row := propOnceUptoRow, standIns := [], harness := (true, "fca6f341dbf8acde850c56b1dd8a0b3fb1b8f8c18409f7ddda5a2ea752b102d1"), looks := true }, kinds := [], alts := [], laidByText := true, laidKinds := [.data, .pinned], laidTests := true, laidLooks := .later }
def PropOnceUptoCardSaid : Prop := Claim7.holds Tryd.pinned (.plain (OpenSpec.upto propOnceSpec)) propOnceUptoCard

/-- THE SECOND FORM's CARD OF 'fairwaylaw4.PropTakes'. -/
def propTakesUptoCard : Claim7 := { stood := { row := propTakesUptoRow, standIns := [], harness := (true, "fca6f341dbf8acde850c56b1dd8a0b3fb1b8f8c18409f7ddda5a2ea752b102d1"), looks := true }, kinds := [], alts := [], laidByText := true, laidKinds := [.data, .pinned], laidTests := true, laidLooks := .later }
def PropTakesUptoCardSaid : Prop := Claim7.holds Tryd.pinned (.plain (OpenSpec.upto propTakesSpec)) propTakesUptoCard

/-- THE SECOND FORM's CARD OF 'fairwaylaw4.PropBack'. -/
def propBackUptoCard : Claim7 := { stood := { row := propBackUptoRow, standIns := [], harness := (true, "fca6f341dbf8acde850c56b1dd8a0b3fb1b8f8c18409f7ddda5a2ea752b102d1"), looks := true }, kinds := [], alts := [], laidByText := true, laidKinds := [.data, .pinned], laidTests := true, laidLooks := .later }
def PropBackUptoCardSaid : Prop := Claim7.holds Tryd.pinned (.plain (OpenSpec.upto propBackSpec)) propBackUptoCard

/-- THE SECOND FORM's CARD OF 'fairwaylaw4.PropNumbers'. -/
def propNumbersUptoCard : Claim7 := { stood := { row := propNumbersUptoRow, standIns := [], harness := (true, "fca6f341dbf8acde850c56b1dd8a0b3fb1b8f8c18409f7ddda5a2ea752b102d1"), looks := true }, kinds := [], alts := [], laidByText := true, laidKinds := [.data, .pinned], laidTests := true, laidLooks := .later }
def PropNumbersUptoCardSaid : Prop := Claim7.holds Tryd.pinned (.plain (OpenSpec.upto propNumbersSpec)) propNumbersUptoCard

/-- THE SECOND FORM's CARD OF 'fairwaylaw4.PropTexts'. -/
def propTextsUptoCard : Claim7 := { stood := { row := propTextsUptoRow, standIns := [], harness := (true, "fca6f341dbf8acde850c56b1dd8a0b3fb1b8f8c18409f7ddda5a2ea752b102d1"), looks := true }, kinds := [], alts := [], laidByText := true, laidKinds := [.data, .pinned], laidTests := true, laidLooks := .later }
def PropTextsUptoCardSaid : Prop := Claim7.holds Tryd.pinned (.plain (OpenSpec.upto propTextsSpec)) propTextsUptoCard

/-- THE SECOND FORM's CARD OF 'fairwaylaw4.PropPairs'. -/
def propPairsUptoCard : Claim7 := { stood := { row := propPairsUptoRow, standIns := [], harness := (true, "fca6f341dbf8acde850c56b1dd8a0b3fb1b8f8c18409f7ddda5a2ea752b102d1"), looks := true }, kinds := [], alts := [], laidByText := true, laidKinds := [.data, .pinned], laidTests := true, laidLooks := .later }
def PropPairsUptoCardSaid : Prop := Claim7.holds Tryd.pinned (.plain (OpenSpec.upto propPairsSpec)) propPairsUptoCard
end Rows
end Go.Proofs.YtiancopplinpcaaDoor
