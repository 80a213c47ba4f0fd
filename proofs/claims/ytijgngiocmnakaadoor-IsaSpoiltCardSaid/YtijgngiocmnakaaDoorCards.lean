/-
  DERIVED. GIVEN WITH THE SEED: THE CARDS: each row of YtijgngiocmnakaaDoorRows.lean that lists a variable, with what it lists TIED to the program's text (the seventh form; the later family's looks); each row that meets fmt, with fmt's text TOLD by the authors' own Lean function (tested against real Go, not proved from fmt's source: count such statements apart). THE CARD IS WHAT COUNTS. Prove the row's statement (the work); the ties are given (YtijgngiocmnakaaDoorTie.lean); close each card by the builder's one call (the guide's Derived/Test/ToyasCard.lean, 'card_holds'). Laid BY PROGRAM, IN A SANDBOX (cutbox-door.mjs). By AI agents, Wed Nov 11 2026. No macro, syntax, notation, axiom, sorry.
-/
import Derived.Test.YtijgngiocmnakaaDoorRows
import GoSem.ClaimSeven
namespace Go.Proofs.YtijgngiocmnakaaDoor
namespace Rows

/-- THE TIED CARD OF 'wardenlaw05.IsaNames'. -/
def isaNamesCard : Claim7 := { stood := { row := isaNamesRow, standIns := [], harness := (true, "f8d8b6d8be61a25f83ae37d63a8ce5e6ec9b238d47da546bc80b6df29c3d76a1"), looks := false }, kinds := [], alts := [], laidByText := true, laidKinds := [.data, .data, .data, .data, .data], laidTests := true, laidLooks := .later }
def IsaNamesCardSaid : Prop := Claim7.holds Tryd.pinned (.plain (OpenSpec.ofChange isaNamesSpec)) isaNamesCard

/-- THE TIED CARD OF 'wardenlaw05.IsaCodes'. -/
def isaCodesCard : Claim7 := { stood := { row := isaCodesRow, standIns := [], harness := (true, "f8d8b6d8be61a25f83ae37d63a8ce5e6ec9b238d47da546bc80b6df29c3d76a1"), looks := false }, kinds := [], alts := [], laidByText := true, laidKinds := [.data, .data], laidTests := true, laidLooks := .later }
def IsaCodesCardSaid : Prop := Claim7.holds Tryd.pinned (.plain (OpenSpec.ofChange isaCodesSpec)) isaCodesCard

/-- THE TIED CARD OF 'wardenlaw05.IsaBack'. -/
def isaBackCard : Claim7 := { stood := { row := isaBackRow, standIns := [], harness := (true, "f8d8b6d8be61a25f83ae37d63a8ce5e6ec9b238d47da546bc80b6df29c3d76a1"), looks := false }, kinds := [], alts := [], laidByText := true, laidKinds := [.data], laidTests := true, laidLooks := .later }
def IsaBackCardSaid : Prop := Claim7.holds Tryd.pinned (.plain (OpenSpec.ofChange isaBackSpec)) isaBackCard

/-- THE TIED CARD OF 'wardenlaw05.IsaPlaces'. -/
def isaPlacesCard : Claim7 := { stood := { row := isaPlacesRow, standIns := [], harness := (true, "f8d8b6d8be61a25f83ae37d63a8ce5e6ec9b238d47da546bc80b6df29c3d76a1"), looks := false }, kinds := [], alts := [], laidByText := true, laidKinds := [.data], laidTests := true, laidLooks := .later }
def IsaPlacesCardSaid : Prop := Claim7.holds Tryd.pinned (.plain (OpenSpec.ofChange isaPlacesSpec)) isaPlacesCard

/-- THE TIED CARD OF 'wardenlaw05.IsaSpoilt'. -/
def isaSpoiltCard : Claim7 := { stood := { row := isaSpoiltRow, standIns := [], harness := (true, "f8d8b6d8be61a25f83ae37d63a8ce5e6ec9b238d47da546bc80b6df29c3d76a1"), looks := false }, kinds := [], alts := [], laidByText := true, laidKinds := [.data], laidTests := true, laidLooks := .later }
def IsaSpoiltCardSaid : Prop := Claim7.holds Tryd.pinned (.plain (OpenSpec.ofChange isaSpoiltSpec)) isaSpoiltCard

/-- THE SECOND FORM's CARD OF 'wardenlaw05.IsaNames'. -/
def isaNamesUptoCard : Claim7 := { stood := { row := isaNamesUptoRow, standIns := [], harness := (true, "f8d8b6d8be61a25f83ae37d63a8ce5e6ec9b238d47da546bc80b6df29c3d76a1"), looks := false }, kinds := [], alts := [], laidByText := true, laidKinds := [.data, .data, .data, .data, .data], laidTests := true, laidLooks := .later }
def IsaNamesUptoCardSaid : Prop := Claim7.holds Tryd.pinned (.plain (OpenSpec.upto isaNamesSpec)) isaNamesUptoCard

/-- THE SECOND FORM's CARD OF 'wardenlaw05.IsaCodes'. -/
def isaCodesUptoCard : Claim7 := { stood := { row := isaCodesUptoRow, standIns := [], harness := (true, "f8d8b6d8be61a25f83ae37d63a8ce5e6ec9b238d47da546bc80b6df29c3d76a1"), looks := false }, kinds := [], alts := [], laidByText := true, laidKinds := [.data, .data], laidTests := true, laidLooks := .later }
def IsaCodesUptoCardSaid : Prop := Claim7.holds Tryd.pinned (.plain (OpenSpec.upto isaCodesSpec)) isaCodesUptoCard

/-- THE SECOND FORM's CARD OF 'wardenlaw05.IsaBack'. -/
def isaBackUptoCard : Claim7 := { stood := { row := isaBackUptoRow, standIns := [], harness := (true, "f8d8b6d8be61a25f83ae37d63a8ce5e6ec9b238d47da546bc80b6df29c3d76a1"), looks := false }, kinds := [], alts := [], laidByText := true, laidKinds := [.data], laidTests := true, laidLooks := .later }
def IsaBackUptoCardSaid : Prop := Claim7.holds Tryd.pinned (.plain (OpenSpec.upto isaBackSpec)) isaBackUptoCard

/-- THE SECOND FORM's CARD OF 'wardenlaw05.IsaPlaces'. -/
def isaPlacesUptoCard : Claim7 := { stood := { row := isaPlacesUptoRow, standIns := [], harness := (true, "f8d8b6d8be61a25f83ae37d63a8ce5e6ec9b238d47da546bc80b6df29c3d76a1"), looks := false }, kinds := [], alts := [], laidByText := true, laidKinds := [.data], laidTests := true, laidLooks := .later }
def IsaPlacesUptoCardSaid : Prop := Claim7.holds Tryd.pinned (.plain (OpenSpec.upto isaPlacesSpec)) isaPlacesUptoCard

/-- THE SECOND FORM's CARD OF 'wardenlaw05.IsaSpoilt'. -/
def isaSpoiltUptoCard : Claim7 := { stood := { row := isaSpoiltUptoRow, standIns := [], harness := (true, "f8d8b6d8be61a25f83ae37d63a8ce5e6ec9b238d47da546bc80b6df29c3d76a1"), looks := false }, kinds := [], alts := [], laidByText := true, laidKinds := [.data], laidTests := true, laidLooks := .later }
def IsaSpoiltUptoCardSaid : Prop := Claim7.holds Tryd.pinned (.plain (OpenSpec.upto isaSpoiltSpec)) isaSpoiltUptoCard
end Rows
end Go.Proofs.YtijgngiocmnakaaDoor
