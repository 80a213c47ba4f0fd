/-
  No cell of these rows narrows 'for every input' (looked for: loops, veiled, ifaces, maps, wideKeys, modest, calm, conditions, laid).
  DERIVED. THE GIVEN ROWS OF THIS SEAT. 11 by the template 'for every input the law returns true; each argument reads behind the call as it read before'; 0 by the template 'total and deterministic' (their statements: YtmmejomalfjcnaaTotals.lean).
  GIVEN WITH THE SEED: the statements are not yours to turn. If you find one false, say at which input.
  Laid BY PROGRAM, IN A SANDBOX (cutbox-rows.mjs): the forced cells as the released guide's own fill.sh prints them over the translation b4a042ebe75a3430… (all of the seat's roots in one cut). By AI agents, Wed Nov 11 2026. No macro, syntax, notation, axiom, sorry.
-/
import Derived.Test.YtmmejomalfjcnaaChecked
import GoSem.Claim
import GoSem.ClaimJoined
import GoSem.ClaimMapViews
import Derived.JoinedTies
import Derived.KernelRfl
namespace Go.Proofs.Ytmmejomalfjcnaa
/- THE CELL 'sum', in the pinned program and in every row, IS THE sha256 OF THE DUMP (.gsa) THAT YtmmejomalfjcnaaProg.lean LOADS. Nothing in Lean hashes anything: it is a label: what it is worth is what the hold of that sum in a sandbox is worth. -/
noncomputable def Try.pinned : Pinned := { name := "ytmmejomalfjcnaa", sum := "b4a042ebe75a34309c1c3be89703e32c0c40e97f6c601933f32238ddf94fbe31", checked := Try.checked }
namespace Rows
def none {H : Type} : Left H := { results := [], args := [] }

/-- 'wardenlaw03.MacSame': WHATEVER THE INPUT: true; the input reads as it did. -/
def macSameSpec : ChangeSpec := { name := "macSame", fn := fun _ => fun
  | [d1, d2, d3] => { results := [.lit (.bool true)], args := [d1, d2, d3] }
  | _ => none }
def macSameRow : OpenClaim := { program := "ytmmejomalfjcnaa", sum := "b4a042ebe75a34309c1c3be89703e32c0c40e97f6c601933f32238ddf94fbe31", func := "warden/wardenlaw03.MacSame", spec := "macSame", apart := false }
def MacSameSaid : Prop := macSameRow.holds Try.pinned (OpenSpec.ofChange macSameSpec)

/-- ITS FALSE NEIGHBOUR: 'it returns false'. Refute it at one input. -/
def macSameWrong : ChangeSpec := { name := "macSame", fn := fun _ => fun
  | [d1, d2, d3] => { results := [.lit (.bool false)], args := [d1, d2, d3] }
  | _ => none }
def MacSameWrongFalsely : Prop := macSameRow.holds Try.pinned (OpenSpec.ofChange macSameWrong)

/-- 'wardenlaw14.SpaceWords': WHATEVER THE INPUT: true; the input reads as it did. -/
def spaceWordsSpec : ChangeSpec := { name := "spaceWords", fn := fun _ => fun
  | [d1, d2, d3] => { results := [.lit (.bool true)], args := [d1, d2, d3] }
  | _ => none }
def spaceWordsRow : OpenClaim := { program := "ytmmejomalfjcnaa", sum := "b4a042ebe75a34309c1c3be89703e32c0c40e97f6c601933f32238ddf94fbe31", func := "warden/wardenlaw14.SpaceWords", spec := "spaceWords", apart := false }
def SpaceWordsSaid : Prop := spaceWordsRow.holds Try.pinned (OpenSpec.ofChange spaceWordsSpec)

/-- ITS FALSE NEIGHBOUR: 'it returns false'. Refute it at one input. -/
def spaceWordsWrong : ChangeSpec := { name := "spaceWords", fn := fun _ => fun
  | [d1, d2, d3] => { results := [.lit (.bool false)], args := [d1, d2, d3] }
  | _ => none }
def SpaceWordsWrongFalsely : Prop := spaceWordsRow.holds Try.pinned (OpenSpec.ofChange spaceWordsWrong)

/-- 'wardenlaw08.RegsHolds': WHATEVER THE INPUT: true; the input reads as it did. -/
def regsHoldsSpec : ChangeSpec := { name := "regsHolds", fn := fun _ => fun
  | [d1, d2, d3] => { results := [.lit (.bool true)], args := [d1, d2, d3] }
  | _ => none }
def regsHoldsRow : OpenClaim := { program := "ytmmejomalfjcnaa", sum := "b4a042ebe75a34309c1c3be89703e32c0c40e97f6c601933f32238ddf94fbe31", func := "warden/wardenlaw08.RegsHolds", spec := "regsHolds", unfollowed := true, recurses := true, apart := false }
def RegsHoldsSaid : Prop := regsHoldsRow.holds Try.pinned (OpenSpec.ofChange regsHoldsSpec)

/-- ITS FALSE NEIGHBOUR: 'it returns false'. Refute it at one input. -/
def regsHoldsWrong : ChangeSpec := { name := "regsHolds", fn := fun _ => fun
  | [d1, d2, d3] => { results := [.lit (.bool false)], args := [d1, d2, d3] }
  | _ => none }
def RegsHoldsWrongFalsely : Prop := regsHoldsRow.holds Try.pinned (OpenSpec.ofChange regsHoldsWrong)

/-- 'wardenlaw11.EntryForms': WHATEVER THE INPUT: true; the input reads as it did. -/
def entryFormsSpec : ChangeSpec := { name := "entryForms", fn := fun _ => fun
  | [d1, d2] => { results := [.lit (.bool true)], args := [d1, d2] }
  | _ => none }
def entryFormsRow : OpenClaim := { program := "ytmmejomalfjcnaa", sum := "b4a042ebe75a34309c1c3be89703e32c0c40e97f6c601933f32238ddf94fbe31", func := "warden/wardenlaw11.EntryForms", spec := "entryForms", apart := false }
def EntryFormsSaid : Prop := entryFormsRow.holds Try.pinned (OpenSpec.ofChange entryFormsSpec)

/-- ITS FALSE NEIGHBOUR: 'it returns false'. Refute it at one input. -/
def entryFormsWrong : ChangeSpec := { name := "entryForms", fn := fun _ => fun
  | [d1, d2] => { results := [.lit (.bool false)], args := [d1, d2] }
  | _ => none }
def EntryFormsWrongFalsely : Prop := entryFormsRow.holds Try.pinned (OpenSpec.ofChange entryFormsWrong)

/-- 'wardenlaw08.RegsLast': WHATEVER THE INPUT: true; the input reads as it did. -/
def regsLastSpec : ChangeSpec := { name := "regsLast", fn := fun _ => fun
  | [d1, d2] => { results := [.lit (.bool true)], args := [d1, d2] }
  | _ => none }
def regsLastRow : OpenClaim := { program := "ytmmejomalfjcnaa", sum := "b4a042ebe75a34309c1c3be89703e32c0c40e97f6c601933f32238ddf94fbe31", func := "warden/wardenlaw08.RegsLast", spec := "regsLast", unfollowed := true, recurses := true, apart := false }
def RegsLastSaid : Prop := regsLastRow.holds Try.pinned (OpenSpec.ofChange regsLastSpec)

/-- ITS FALSE NEIGHBOUR: 'it returns false'. Refute it at one input. -/
def regsLastWrong : ChangeSpec := { name := "regsLast", fn := fun _ => fun
  | [d1, d2] => { results := [.lit (.bool false)], args := [d1, d2] }
  | _ => none }
def RegsLastWrongFalsely : Prop := regsLastRow.holds Try.pinned (OpenSpec.ofChange regsLastWrong)

/-- 'wardenlaw11.EntryBack': WHATEVER THE INPUT: true; the input reads as it did. -/
def entryBackSpec : ChangeSpec := { name := "entryBack", fn := fun _ => fun
  | [d1, d2] => { results := [.lit (.bool true)], args := [d1, d2] }
  | _ => none }
def entryBackRow : OpenClaim := { program := "ytmmejomalfjcnaa", sum := "b4a042ebe75a34309c1c3be89703e32c0c40e97f6c601933f32238ddf94fbe31", func := "warden/wardenlaw11.EntryBack", spec := "entryBack", apart := false }
def EntryBackSaid : Prop := entryBackRow.holds Try.pinned (OpenSpec.ofChange entryBackSpec)

/-- ITS FALSE NEIGHBOUR: 'it returns false'. Refute it at one input. -/
def entryBackWrong : ChangeSpec := { name := "entryBack", fn := fun _ => fun
  | [d1, d2] => { results := [.lit (.bool false)], args := [d1, d2] }
  | _ => none }
def EntryBackWrongFalsely : Prop := entryBackRow.holds Try.pinned (OpenSpec.ofChange entryBackWrong)

/-- 'wardenlaw09.WalkCodes': WHATEVER THE INPUT: true; the input reads as it did. -/
def walkCodesSpec : ChangeSpec := { name := "walkCodes", fn := fun _ => fun
  | [d] => { results := [.lit (.bool true)], args := [d] }
  | _ => none }
def walkCodesRow : OpenClaim := { program := "ytmmejomalfjcnaa", sum := "b4a042ebe75a34309c1c3be89703e32c0c40e97f6c601933f32238ddf94fbe31", func := "warden/wardenlaw09.WalkCodes", spec := "walkCodes", unfollowed := true, recurses := true, apart := false }
def WalkCodesSaid : Prop := walkCodesRow.holds Try.pinned (OpenSpec.ofChange walkCodesSpec)

/-- ITS FALSE NEIGHBOUR: 'it returns false'. Refute it at one input. -/
def walkCodesWrong : ChangeSpec := { name := "walkCodes", fn := fun _ => fun
  | [d] => { results := [.lit (.bool false)], args := [d] }
  | _ => none }
def WalkCodesWrongFalsely : Prop := walkCodesRow.holds Try.pinned (OpenSpec.ofChange walkCodesWrong)

/-- 'wardenlaw09.WalkBack': WHATEVER THE INPUT: true; the input reads as it did. -/
def walkBackSpec : ChangeSpec := { name := "walkBack", fn := fun _ => fun
  | [d1, d2, d3, d4] => { results := [.lit (.bool true)], args := [d1, d2, d3, d4] }
  | _ => none }
def walkBackRow : OpenClaim := { program := "ytmmejomalfjcnaa", sum := "b4a042ebe75a34309c1c3be89703e32c0c40e97f6c601933f32238ddf94fbe31", func := "warden/wardenlaw09.WalkBack", spec := "walkBack", unfollowed := true, recurses := true, apart := false }
def WalkBackSaid : Prop := walkBackRow.holds Try.pinned (OpenSpec.ofChange walkBackSpec)

/-- ITS FALSE NEIGHBOUR: 'it returns false'. Refute it at one input. -/
def walkBackWrong : ChangeSpec := { name := "walkBack", fn := fun _ => fun
  | [d1, d2, d3, d4] => { results := [.lit (.bool false)], args := [d1, d2, d3, d4] }
  | _ => none }
def WalkBackWrongFalsely : Prop := walkBackRow.holds Try.pinned (OpenSpec.ofChange walkBackWrong)

/-- 'wardenlaw11.EntryNames': WHATEVER THE INPUT: true; the input reads as it did. -/
def entryNamesSpec : ChangeSpec := { name := "entryNames", fn := fun _ => fun
  | [d1, d2] => { results := [.lit (.bool true)], args := [d1, d2] }
  | _ => none }
def entryNamesRow : OpenClaim := { program := "ytmmejomalfjcnaa", sum := "b4a042ebe75a34309c1c3be89703e32c0c40e97f6c601933f32238ddf94fbe31", func := "warden/wardenlaw11.EntryNames", spec := "entryNames", apart := false }
def EntryNamesSaid : Prop := entryNamesRow.holds Try.pinned (OpenSpec.ofChange entryNamesSpec)

/-- ITS FALSE NEIGHBOUR: 'it returns false'. Refute it at one input. -/
def entryNamesWrong : ChangeSpec := { name := "entryNames", fn := fun _ => fun
  | [d1, d2] => { results := [.lit (.bool false)], args := [d1, d2] }
  | _ => none }
def EntryNamesWrongFalsely : Prop := entryNamesRow.holds Try.pinned (OpenSpec.ofChange entryNamesWrong)

/-- 'wardenlaw08.RegsBack': WHATEVER THE INPUT: true; the input reads as it did. -/
def regsBackSpec : ChangeSpec := { name := "regsBack", fn := fun _ => fun
  | [d1, d2] => { results := [.lit (.bool true)], args := [d1, d2] }
  | _ => none }
def regsBackRow : OpenClaim := { program := "ytmmejomalfjcnaa", sum := "b4a042ebe75a34309c1c3be89703e32c0c40e97f6c601933f32238ddf94fbe31", func := "warden/wardenlaw08.RegsBack", spec := "regsBack", unfollowed := true, recurses := true, apart := false }
def RegsBackSaid : Prop := regsBackRow.holds Try.pinned (OpenSpec.ofChange regsBackSpec)

/-- ITS FALSE NEIGHBOUR: 'it returns false'. Refute it at one input. -/
def regsBackWrong : ChangeSpec := { name := "regsBack", fn := fun _ => fun
  | [d1, d2] => { results := [.lit (.bool false)], args := [d1, d2] }
  | _ => none }
def RegsBackWrongFalsely : Prop := regsBackRow.holds Try.pinned (OpenSpec.ofChange regsBackWrong)

/-- 'wardenlaw08.RegsAll': WHATEVER THE INPUT: true; the input reads as it did. -/
def regsAllSpec : ChangeSpec := { name := "regsAll", fn := fun _ => fun
  | [d] => { results := [.lit (.bool true)], args := [d] }
  | _ => none }
def regsAllRow : OpenClaim := { program := "ytmmejomalfjcnaa", sum := "b4a042ebe75a34309c1c3be89703e32c0c40e97f6c601933f32238ddf94fbe31", func := "warden/wardenlaw08.RegsAll", spec := "regsAll", unfollowed := true, recurses := true, apart := false }
def RegsAllSaid : Prop := regsAllRow.holds Try.pinned (OpenSpec.ofChange regsAllSpec)

/-- ITS FALSE NEIGHBOUR: 'it returns false'. Refute it at one input. -/
def regsAllWrong : ChangeSpec := { name := "regsAll", fn := fun _ => fun
  | [d] => { results := [.lit (.bool false)], args := [d] }
  | _ => none }
def RegsAllWrongFalsely : Prop := regsAllRow.holds Try.pinned (OpenSpec.ofChange regsAllWrong)

/- THE SECOND FORM. 'bulk': how many values and letters a reading holds, each counted each time it is reached (what is shared counts as often as it is met; a slice's spare places count too). A statement '..UptoSaid' is the law's where the arguments, and the package variables that the reading takes, are together of bulk at most 1048576: NARROWER than '..Said'. Prove '..Said' where nothing that the law and all that it calls make is longer than what came in: it says more and counts as full. Else prove '..UptoSaid'. A law counts once. -/
mutual
def uptoBulk {H : Type} : DataW H → Nat
  | .lit (.string bytes) => bytes.length + 1
  | .lit _ => 1
  | .nil => 1
  | .ptr d => uptoBulk d + 1
  | .slice elems spare => uptoBulkAll elems + uptoBulkAll spare + 1
  | .agg parts => uptoBulkAll parts + 1
  | .iface _ d => uptoBulk d + 1
  | .map entries => uptoBulkEntries entries + 1
  | .held _ => 1
def uptoBulkAll {H : Type} : List (DataW H) → Nat
  | [] => 0
  | d :: r => uptoBulk d + uptoBulkAll r
def uptoBulkEntries {H : Type} : List (Lit × DataW H) → Nat
  | [] => 0
  | x :: r => uptoBulkEntry x + uptoBulkEntries r
def uptoBulkEntry {H : Type} : Lit × DataW H → Nat
  | (.string bytes, d) => bytes.length + uptoBulk d + 1
  | (_, d) => uptoBulk d + 1
 end
def uptoSmall : (H : Type) → List (DataW H) → Bool := fun _ ds => decide (uptoBulkAll ds ≤ 1048576)
def OpenSpec.upto (s : _root_.Go.ChangeSpec) : _root_.Go.OpenSpec := { _root_.Go.OpenSpec.ofChange s with cond := some uptoSmall }

/-- 'wardenlaw03.MacSame', WHERE WHAT IT READS IS OF BULK AT MOST 1048576: true; the input reads as it did. -/
def macSameUptoRow : OpenClaim := { program := "ytmmejomalfjcnaa", sum := "b4a042ebe75a34309c1c3be89703e32c0c40e97f6c601933f32238ddf94fbe31", func := "warden/wardenlaw03.MacSame", spec := "macSame", apart := false, narrowed := true }
def MacSameUptoSaid : Prop := macSameUptoRow.holds Try.pinned (OpenSpec.upto macSameSpec)

/-- 'wardenlaw14.SpaceWords', WHERE WHAT IT READS IS OF BULK AT MOST 1048576: true; the input reads as it did. -/
def spaceWordsUptoRow : OpenClaim := { program := "ytmmejomalfjcnaa", sum := "b4a042ebe75a34309c1c3be89703e32c0c40e97f6c601933f32238ddf94fbe31", func := "warden/wardenlaw14.SpaceWords", spec := "spaceWords", apart := false, narrowed := true }
def SpaceWordsUptoSaid : Prop := spaceWordsUptoRow.holds Try.pinned (OpenSpec.upto spaceWordsSpec)

/-- 'wardenlaw08.RegsHolds', WHERE WHAT IT READS IS OF BULK AT MOST 1048576: true; the input reads as it did. -/
def regsHoldsUptoRow : OpenClaim := { program := "ytmmejomalfjcnaa", sum := "b4a042ebe75a34309c1c3be89703e32c0c40e97f6c601933f32238ddf94fbe31", func := "warden/wardenlaw08.RegsHolds", spec := "regsHolds", unfollowed := true, recurses := true, apart := false, narrowed := true }
def RegsHoldsUptoSaid : Prop := regsHoldsUptoRow.holds Try.pinned (OpenSpec.upto regsHoldsSpec)

/-- 'wardenlaw11.EntryForms', WHERE WHAT IT READS IS OF BULK AT MOST 1048576: true; the input reads as it did. -/
def entryFormsUptoRow : OpenClaim := { program := "ytmmejomalfjcnaa", sum := "b4a042ebe75a34309c1c3be89703e32c0c40e97f6c601933f32238ddf94fbe31", func := "warden/wardenlaw11.EntryForms", spec := "entryForms", apart := false, narrowed := true }
def EntryFormsUptoSaid : Prop := entryFormsUptoRow.holds Try.pinned (OpenSpec.upto entryFormsSpec)

/-- 'wardenlaw08.RegsLast', WHERE WHAT IT READS IS OF BULK AT MOST 1048576: true; the input reads as it did. -/
def regsLastUptoRow : OpenClaim := { program := "ytmmejomalfjcnaa", sum := "b4a042ebe75a34309c1c3be89703e32c0c40e97f6c601933f32238ddf94fbe31", func := "warden/wardenlaw08.RegsLast", spec := "regsLast", unfollowed := true, recurses := true, apart := false, narrowed := true }
def RegsLastUptoSaid : Prop := regsLastUptoRow.holds Try.pinned (OpenSpec.upto regsLastSpec)

/-- 'wardenlaw11.EntryBack', WHERE WHAT IT READS IS OF BULK AT MOST 1048576: true; the input reads as it did. -/
def entryBackUptoRow : OpenClaim := { program := "ytmmejomalfjcnaa", sum := "b4a042ebe75a34309c1c3be89703e32c0c40e97f6c601933f32238ddf94fbe31", func := "warden/wardenlaw11.EntryBack", spec := "entryBack", apart := false, narrowed := true }
def EntryBackUptoSaid : Prop := entryBackUptoRow.holds Try.pinned (OpenSpec.upto entryBackSpec)

/-- 'wardenlaw09.WalkCodes', WHERE WHAT IT READS IS OF BULK AT MOST 1048576: true; the input reads as it did. -/
def walkCodesUptoRow : OpenClaim := { program := "ytmmejomalfjcnaa", sum := "b4a042ebe75a34309c1c3be89703e32c0c40e97f6c601933f32238ddf94fbe31", func := "warden/wardenlaw09.WalkCodes", spec := "walkCodes", unfollowed := true, recurses := true, apart := false, narrowed := true }
def WalkCodesUptoSaid : Prop := walkCodesUptoRow.holds Try.pinned (OpenSpec.upto walkCodesSpec)

/-- 'wardenlaw09.WalkBack', WHERE WHAT IT READS IS OF BULK AT MOST 1048576: true; the input reads as it did. -/
def walkBackUptoRow : OpenClaim := { program := "ytmmejomalfjcnaa", sum := "b4a042ebe75a34309c1c3be89703e32c0c40e97f6c601933f32238ddf94fbe31", func := "warden/wardenlaw09.WalkBack", spec := "walkBack", unfollowed := true, recurses := true, apart := false, narrowed := true }
def WalkBackUptoSaid : Prop := walkBackUptoRow.holds Try.pinned (OpenSpec.upto walkBackSpec)

/-- 'wardenlaw11.EntryNames', WHERE WHAT IT READS IS OF BULK AT MOST 1048576: true; the input reads as it did. -/
def entryNamesUptoRow : OpenClaim := { program := "ytmmejomalfjcnaa", sum := "b4a042ebe75a34309c1c3be89703e32c0c40e97f6c601933f32238ddf94fbe31", func := "warden/wardenlaw11.EntryNames", spec := "entryNames", apart := false, narrowed := true }
def EntryNamesUptoSaid : Prop := entryNamesUptoRow.holds Try.pinned (OpenSpec.upto entryNamesSpec)

/-- 'wardenlaw08.RegsBack', WHERE WHAT IT READS IS OF BULK AT MOST 1048576: true; the input reads as it did. -/
def regsBackUptoRow : OpenClaim := { program := "ytmmejomalfjcnaa", sum := "b4a042ebe75a34309c1c3be89703e32c0c40e97f6c601933f32238ddf94fbe31", func := "warden/wardenlaw08.RegsBack", spec := "regsBack", unfollowed := true, recurses := true, apart := false, narrowed := true }
def RegsBackUptoSaid : Prop := regsBackUptoRow.holds Try.pinned (OpenSpec.upto regsBackSpec)

/-- 'wardenlaw08.RegsAll', WHERE WHAT IT READS IS OF BULK AT MOST 1048576: true; the input reads as it did. -/
def regsAllUptoRow : OpenClaim := { program := "ytmmejomalfjcnaa", sum := "b4a042ebe75a34309c1c3be89703e32c0c40e97f6c601933f32238ddf94fbe31", func := "warden/wardenlaw08.RegsAll", spec := "regsAll", unfollowed := true, recurses := true, apart := false, narrowed := true }
def RegsAllUptoSaid : Prop := regsAllUptoRow.holds Try.pinned (OpenSpec.upto regsAllSpec)

end Rows
end Go.Proofs.Ytmmejomalfjcnaa
