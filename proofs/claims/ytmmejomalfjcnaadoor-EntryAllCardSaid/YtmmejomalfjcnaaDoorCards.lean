/-
  DERIVED. GIVEN WITH THE SEED: THE CARDS: each row of YtmmejomalfjcnaaDoorRows.lean that lists a variable, with what it lists TIED to the program's text (the seventh form; the later family's looks); each row that meets fmt, with fmt's text TOLD by the authors' own Lean function (tested against real Go, not proved from fmt's source: count such statements apart). THE CARD IS WHAT COUNTS. Prove the row's statement (the work); the ties are given (YtmmejomalfjcnaaDoorTie.lean); close each card by the builder's one call (the guide's Derived/Test/ToyasCard.lean, 'card_holds'). Laid BY PROGRAM, IN A SANDBOX (cutbox-door.mjs). By AI agents, Wed Nov 11 2026. No macro, syntax, notation, axiom, sorry.
-/
import Derived.Test.YtmmejomalfjcnaaDoorRows
import GoSem.ClaimSeven
namespace Go.Proofs.YtmmejomalfjcnaaDoor
namespace Rows

/-- THE TIED CARD OF 'wardenlaw11.EntryAll'. -/
def entryAllCard : Claim7 := { stood := { row := entryAllRow, standIns := [], harness := (true, "1501bf674923f6fa3dd31097ae93d4f3e03020219ecf5b50125601aa8ddc40f8"), looks := false }, kinds := [], alts := [], laidByText := true, laidKinds := [.data, .data], laidTests := true, laidLooks := .later }
def EntryAllCardSaid : Prop := Claim7.holds Tryd.pinned (.plain (OpenSpec.ofChange entryAllSpec)) entryAllCard

/-- THE SECOND FORM's CARD OF 'wardenlaw11.EntryAll'. -/
def entryAllUptoCard : Claim7 := { stood := { row := entryAllUptoRow, standIns := [], harness := (true, "1501bf674923f6fa3dd31097ae93d4f3e03020219ecf5b50125601aa8ddc40f8"), looks := false }, kinds := [], alts := [], laidByText := true, laidKinds := [.data, .data], laidTests := true, laidLooks := .later }
def EntryAllUptoCardSaid : Prop := Claim7.holds Tryd.pinned (.plain (OpenSpec.upto entryAllSpec)) entryAllUptoCard
end Rows
end Go.Proofs.YtmmejomalfjcnaaDoor
