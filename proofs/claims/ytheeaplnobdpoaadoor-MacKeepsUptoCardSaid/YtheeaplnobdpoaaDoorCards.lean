/-
  DERIVED. GIVEN WITH THE SEED: THE CARDS: each row of YtheeaplnobdpoaaDoorRows.lean that lists a variable, with what it lists TIED to the program's text (the seventh form; the later family's looks); each row that meets fmt, with fmt's text TOLD by the authors' own Lean function (tested against real Go, not proved from fmt's source: count such statements apart). THE CARD IS WHAT COUNTS. Prove the row's statement (the work); the ties are given (YtheeaplnobdpoaaDoorTie.lean); close each card by the builder's one call (the guide's Derived/Test/ToyasCard.lean, 'card_holds'). Laid BY PROGRAM, IN A SANDBOX (cutbox-door.mjs). By AI agents, Wed Nov 11 2026. No macro, syntax, notation, axiom, sorry.
-/
import Derived.Test.YtheeaplnobdpoaaDoorRows
import GoSem.ClaimSeven
namespace Go.Proofs.YtheeaplnobdpoaaDoor
namespace Rows

/-- THE TIED CARD OF 'wardenlaw03.MacPieces'. -/
def macPiecesCard : Claim7 := { stood := { row := macPiecesRow, standIns := [], harness := (true, "e8ae2b28078757ba83351ce5774f7b0cbf89a2ebd8202d462b1dc8e87e476e71"), looks := true }, kinds := [], alts := [], laidByText := true, laidKinds := [.data], laidTests := true, laidLooks := .later }
def MacPiecesCardSaid : Prop := Claim7.holds Tryd.pinned (.plain (OpenSpec.ofChange macPiecesSpec)) macPiecesCard

/-- THE TIED CARD OF 'wardenlaw03.MacKeys'. -/
def macKeysCard : Claim7 := { stood := { row := macKeysRow, standIns := [], harness := (true, "e8ae2b28078757ba83351ce5774f7b0cbf89a2ebd8202d462b1dc8e87e476e71"), looks := true }, kinds := [], alts := [], laidByText := true, laidKinds := [.data], laidTests := true, laidLooks := .later }
def MacKeysCardSaid : Prop := Claim7.holds Tryd.pinned (.plain (OpenSpec.ofChange macKeysSpec)) macKeysCard

/-- THE TIED CARD OF 'wardenlaw03.MacKeeps'. -/
def macKeepsCard : Claim7 := { stood := { row := macKeepsRow, standIns := [], harness := (true, "e8ae2b28078757ba83351ce5774f7b0cbf89a2ebd8202d462b1dc8e87e476e71"), looks := true }, kinds := [], alts := [], laidByText := true, laidKinds := [.data], laidTests := true, laidLooks := .later }
def MacKeepsCardSaid : Prop := Claim7.holds Tryd.pinned (.plain (OpenSpec.ofChange macKeepsSpec)) macKeepsCard

/-- THE TIED CARD OF 'wardenlaw03.MacAll'. -/
def macAllCard : Claim7 := { stood := { row := macAllRow, standIns := [], harness := (true, "e8ae2b28078757ba83351ce5774f7b0cbf89a2ebd8202d462b1dc8e87e476e71"), looks := true }, kinds := [], alts := [], laidByText := true, laidKinds := [.data, .data], laidTests := true, laidLooks := .later }
def MacAllCardSaid : Prop := Claim7.holds Tryd.pinned (.plain (OpenSpec.ofChange macAllSpec)) macAllCard

/-- THE TIED CARD OF 'wardenlaw15.MeasureWords'. -/
def measureWordsCard : Claim7 := { stood := { row := measureWordsRow, standIns := [], harness := (true, "e8ae2b28078757ba83351ce5774f7b0cbf89a2ebd8202d462b1dc8e87e476e71"), looks := true }, kinds := [], alts := [], laidByText := true, laidKinds := [.data], laidTests := true, laidLooks := .later }
def MeasureWordsCardSaid : Prop := Claim7.holds Tryd.pinned (.plain (OpenSpec.ofChange measureWordsSpec)) measureWordsCard

/-- THE TIED CARD OF 'wardenlaw15.MeasurePieces'. -/
def measurePiecesCard : Claim7 := { stood := { row := measurePiecesRow, standIns := [], harness := (true, "e8ae2b28078757ba83351ce5774f7b0cbf89a2ebd8202d462b1dc8e87e476e71"), looks := true }, kinds := [], alts := [], laidByText := true, laidKinds := [.data], laidTests := true, laidLooks := .later }
def MeasurePiecesCardSaid : Prop := Claim7.holds Tryd.pinned (.plain (OpenSpec.ofChange measurePiecesSpec)) measurePiecesCard

/-- THE TIED CARD OF 'wardenlaw15.MeasureOne'. -/
def measureOneCard : Claim7 := { stood := { row := measureOneRow, standIns := [], harness := (true, "e8ae2b28078757ba83351ce5774f7b0cbf89a2ebd8202d462b1dc8e87e476e71"), looks := true }, kinds := [], alts := [], laidByText := true, laidKinds := [.data], laidTests := true, laidLooks := .later }
def MeasureOneCardSaid : Prop := Claim7.holds Tryd.pinned (.plain (OpenSpec.ofChange measureOneSpec)) measureOneCard

/-- THE TIED CARD OF 'wardenlaw15.MeasureAll'. -/
def measureAllCard : Claim7 := { stood := { row := measureAllRow, standIns := [], harness := (true, "e8ae2b28078757ba83351ce5774f7b0cbf89a2ebd8202d462b1dc8e87e476e71"), looks := true }, kinds := [], alts := [], laidByText := true, laidKinds := [.data, .data], laidTests := true, laidLooks := .later }
def MeasureAllCardSaid : Prop := Claim7.holds Tryd.pinned (.plain (OpenSpec.ofChange measureAllSpec)) measureAllCard

/-- THE TIED CARD OF 'wardenlaw15.MeasureKeeps'. -/
def measureKeepsCard : Claim7 := { stood := { row := measureKeepsRow, standIns := [], harness := (true, "e8ae2b28078757ba83351ce5774f7b0cbf89a2ebd8202d462b1dc8e87e476e71"), looks := true }, kinds := [], alts := [], laidByText := true, laidKinds := [.data], laidTests := true, laidLooks := .later }
def MeasureKeepsCardSaid : Prop := Claim7.holds Tryd.pinned (.plain (OpenSpec.ofChange measureKeepsSpec)) measureKeepsCard

/-- THE SECOND FORM's CARD OF 'wardenlaw03.MacPieces'. -/
def macPiecesUptoCard : Claim7 := { stood := { row := macPiecesUptoRow, standIns := [], harness := (true, "e8ae2b28078757ba83351ce5774f7b0cbf89a2ebd8202d462b1dc8e87e476e71"), looks := true }, kinds := [], alts := [], laidByText := true, laidKinds := [.data], laidTests := true, laidLooks := .later }
def MacPiecesUptoCardSaid : Prop := Claim7.holds Tryd.pinned (.plain (OpenSpec.upto macPiecesSpec)) macPiecesUptoCard

/-- THE SECOND FORM's CARD OF 'wardenlaw03.MacKeys'. -/
def macKeysUptoCard : Claim7 := { stood := { row := macKeysUptoRow, standIns := [], harness := (true, "e8ae2b28078757ba83351ce5774f7b0cbf89a2ebd8202d462b1dc8e87e476e71"), looks := true }, kinds := [], alts := [], laidByText := true, laidKinds := [.data], laidTests := true, laidLooks := .later }
def MacKeysUptoCardSaid : Prop := Claim7.holds Tryd.pinned (.plain (OpenSpec.upto macKeysSpec)) macKeysUptoCard

/-- THE SECOND FORM's CARD OF 'wardenlaw03.MacKeeps'. -/
def macKeepsUptoCard : Claim7 := { stood := { row := macKeepsUptoRow, standIns := [], harness := (true, "e8ae2b28078757ba83351ce5774f7b0cbf89a2ebd8202d462b1dc8e87e476e71"), looks := true }, kinds := [], alts := [], laidByText := true, laidKinds := [.data], laidTests := true, laidLooks := .later }
def MacKeepsUptoCardSaid : Prop := Claim7.holds Tryd.pinned (.plain (OpenSpec.upto macKeepsSpec)) macKeepsUptoCard

/-- THE SECOND FORM's CARD OF 'wardenlaw03.MacAll'. -/
def macAllUptoCard : Claim7 := { stood := { row := macAllUptoRow, standIns := [], harness := (true, "e8ae2b28078757ba83351ce5774f7b0cbf89a2ebd8202d462b1dc8e87e476e71"), looks := true }, kinds := [], alts := [], laidByText := true, laidKinds := [.data, .data], laidTests := true, laidLooks := .later }
def MacAllUptoCardSaid : Prop := Claim7.holds Tryd.pinned (.plain (OpenSpec.upto macAllSpec)) macAllUptoCard

/-- THE SECOND FORM's CARD OF 'wardenlaw15.MeasureWords'. -/
def measureWordsUptoCard : Claim7 := { stood := { row := measureWordsUptoRow, standIns := [], harness := (true, "e8ae2b28078757ba83351ce5774f7b0cbf89a2ebd8202d462b1dc8e87e476e71"), looks := true }, kinds := [], alts := [], laidByText := true, laidKinds := [.data], laidTests := true, laidLooks := .later }
def MeasureWordsUptoCardSaid : Prop := Claim7.holds Tryd.pinned (.plain (OpenSpec.upto measureWordsSpec)) measureWordsUptoCard

/-- THE SECOND FORM's CARD OF 'wardenlaw15.MeasurePieces'. -/
def measurePiecesUptoCard : Claim7 := { stood := { row := measurePiecesUptoRow, standIns := [], harness := (true, "e8ae2b28078757ba83351ce5774f7b0cbf89a2ebd8202d462b1dc8e87e476e71"), looks := true }, kinds := [], alts := [], laidByText := true, laidKinds := [.data], laidTests := true, laidLooks := .later }
def MeasurePiecesUptoCardSaid : Prop := Claim7.holds Tryd.pinned (.plain (OpenSpec.upto measurePiecesSpec)) measurePiecesUptoCard

/-- THE SECOND FORM's CARD OF 'wardenlaw15.MeasureOne'. -/
def measureOneUptoCard : Claim7 := { stood := { row := measureOneUptoRow, standIns := [], harness := (true, "e8ae2b28078757ba83351ce5774f7b0cbf89a2ebd8202d462b1dc8e87e476e71"), looks := true }, kinds := [], alts := [], laidByText := true, laidKinds := [.data], laidTests := true, laidLooks := .later }
def MeasureOneUptoCardSaid : Prop := Claim7.holds Tryd.pinned (.plain (OpenSpec.upto measureOneSpec)) measureOneUptoCard

/-- THE SECOND FORM's CARD OF 'wardenlaw15.MeasureAll'. -/
def measureAllUptoCard : Claim7 := { stood := { row := measureAllUptoRow, standIns := [], harness := (true, "e8ae2b28078757ba83351ce5774f7b0cbf89a2ebd8202d462b1dc8e87e476e71"), looks := true }, kinds := [], alts := [], laidByText := true, laidKinds := [.data, .data], laidTests := true, laidLooks := .later }
def MeasureAllUptoCardSaid : Prop := Claim7.holds Tryd.pinned (.plain (OpenSpec.upto measureAllSpec)) measureAllUptoCard

/-- THE SECOND FORM's CARD OF 'wardenlaw15.MeasureKeeps'. -/
def measureKeepsUptoCard : Claim7 := { stood := { row := measureKeepsUptoRow, standIns := [], harness := (true, "e8ae2b28078757ba83351ce5774f7b0cbf89a2ebd8202d462b1dc8e87e476e71"), looks := true }, kinds := [], alts := [], laidByText := true, laidKinds := [.data], laidTests := true, laidLooks := .later }
def MeasureKeepsUptoCardSaid : Prop := Claim7.holds Tryd.pinned (.plain (OpenSpec.upto measureKeepsSpec)) measureKeepsUptoCard
end Rows
end Go.Proofs.YtheeaplnobdpoaaDoor
