/-
  No cell of these rows narrows 'for every input' (looked for: loops, veiled, ifaces, maps, wideKeys, modest, calm, conditions, laid).
  DERIVED. THE GIVEN ROWS OF THIS SEAT. 11 by the template 'for every input the law returns true; each argument reads behind the call as it read before'; 0 by the template 'total and deterministic' (their statements: YtlndkfcnfhkbkaaTotals.lean).
  GIVEN WITH THE SEED: the statements are not yours to turn. If you find one false, say at which input.
  Laid BY PROGRAM, IN A SANDBOX (cutbox-rows.mjs): the forced cells as the released guide's own fill.sh prints them over the translation c46155d70b0e8687… (all of the seat's roots in one cut). By AI agents, Wed Nov 11 2026. No macro, syntax, notation, axiom, sorry.
-/
import Derived.Test.YtlndkfcnfhkbkaaChecked
import GoSem.Claim
import GoSem.ClaimJoined
import GoSem.ClaimMapViews
import Derived.JoinedTies
import Derived.KernelRfl
namespace Go.Proofs.Ytlndkfcnfhkbkaa
/- THE CELL 'sum', in the pinned program and in every row, IS THE sha256 OF THE DUMP (.gsa) THAT YtlndkfcnfhkbkaaProg.lean LOADS. Nothing in Lean hashes anything: it is a label: what it is worth is what the hold of that sum in a sandbox is worth. -/
noncomputable def Try.pinned : Pinned := { name := "ytlndkfcnfhkbkaa", sum := "c46155d70b0e8687701cf2350ed9349d7deaa999b6d039a743647da79ef9a442", checked := Try.checked }
namespace Rows
def none {H : Type} : Left H := { results := [], args := [] }

/-- 'wardenlaw09.WalkKeeps': WHATEVER THE INPUT: true; the input reads as it did. -/
def walkKeepsSpec : ChangeSpec := { name := "walkKeeps", fn := fun _ => fun
  | [d1, d2] => { results := [.lit (.bool true)], args := [d1, d2] }
  | _ => none }
def walkKeepsRow : OpenClaim := { program := "ytlndkfcnfhkbkaa", sum := "c46155d70b0e8687701cf2350ed9349d7deaa999b6d039a743647da79ef9a442", func := "warden/wardenlaw09.WalkKeeps", spec := "walkKeeps", unfollowed := true, recurses := true, apart := false }
def WalkKeepsSaid : Prop := walkKeepsRow.holds Try.pinned (OpenSpec.ofChange walkKeepsSpec)

/-- ITS FALSE NEIGHBOUR: 'it returns false'. Refute it at one input. -/
def walkKeepsWrong : ChangeSpec := { name := "walkKeeps", fn := fun _ => fun
  | [d1, d2] => { results := [.lit (.bool false)], args := [d1, d2] }
  | _ => none }
def WalkKeepsWrongFalsely : Prop := walkKeepsRow.holds Try.pinned (OpenSpec.ofChange walkKeepsWrong)

/-- 'wardenlaw09.WalkList': WHATEVER THE INPUT: true; the input reads as it did. -/
def walkListSpec : ChangeSpec := { name := "walkList", fn := fun _ => fun
  | [d1, d2, d3] => { results := [.lit (.bool true)], args := [d1, d2, d3] }
  | _ => none }
def walkListRow : OpenClaim := { program := "ytlndkfcnfhkbkaa", sum := "c46155d70b0e8687701cf2350ed9349d7deaa999b6d039a743647da79ef9a442", func := "warden/wardenlaw09.WalkList", spec := "walkList", unfollowed := true, recurses := true, apart := false }
def WalkListSaid : Prop := walkListRow.holds Try.pinned (OpenSpec.ofChange walkListSpec)

/-- ITS FALSE NEIGHBOUR: 'it returns false'. Refute it at one input. -/
def walkListWrong : ChangeSpec := { name := "walkList", fn := fun _ => fun
  | [d1, d2, d3] => { results := [.lit (.bool false)], args := [d1, d2, d3] }
  | _ => none }
def WalkListWrongFalsely : Prop := walkListRow.holds Try.pinned (OpenSpec.ofChange walkListWrong)

/-- 'wardenlaw09.WalkLocal': WHATEVER THE INPUT: true; the input reads as it did. -/
def walkLocalSpec : ChangeSpec := { name := "walkLocal", fn := fun _ => fun
  | [d1, d2, d3] => { results := [.lit (.bool true)], args := [d1, d2, d3] }
  | _ => none }
def walkLocalRow : OpenClaim := { program := "ytlndkfcnfhkbkaa", sum := "c46155d70b0e8687701cf2350ed9349d7deaa999b6d039a743647da79ef9a442", func := "warden/wardenlaw09.WalkLocal", spec := "walkLocal", unfollowed := true, recurses := true, apart := false }
def WalkLocalSaid : Prop := walkLocalRow.holds Try.pinned (OpenSpec.ofChange walkLocalSpec)

/-- ITS FALSE NEIGHBOUR: 'it returns false'. Refute it at one input. -/
def walkLocalWrong : ChangeSpec := { name := "walkLocal", fn := fun _ => fun
  | [d1, d2, d3] => { results := [.lit (.bool false)], args := [d1, d2, d3] }
  | _ => none }
def WalkLocalWrongFalsely : Prop := walkLocalRow.holds Try.pinned (OpenSpec.ofChange walkLocalWrong)

/-- 'wardenlaw09.WalkAll': WHATEVER THE INPUT: true; the input reads as it did. -/
def walkAllSpec : ChangeSpec := { name := "walkAll", fn := fun _ => fun
  | [d1, d2] => { results := [.lit (.bool true)], args := [d1, d2] }
  | _ => none }
def walkAllRow : OpenClaim := { program := "ytlndkfcnfhkbkaa", sum := "c46155d70b0e8687701cf2350ed9349d7deaa999b6d039a743647da79ef9a442", func := "warden/wardenlaw09.WalkAll", spec := "walkAll", unfollowed := true, recurses := true, apart := false }
def WalkAllSaid : Prop := walkAllRow.holds Try.pinned (OpenSpec.ofChange walkAllSpec)

/-- ITS FALSE NEIGHBOUR: 'it returns false'. Refute it at one input. -/
def walkAllWrong : ChangeSpec := { name := "walkAll", fn := fun _ => fun
  | [d1, d2] => { results := [.lit (.bool false)], args := [d1, d2] }
  | _ => none }
def WalkAllWrongFalsely : Prop := walkAllRow.holds Try.pinned (OpenSpec.ofChange walkAllWrong)

/-- 'wardenlaw12.PagedbCounts': WHATEVER THE INPUT: true; the input reads as it did. -/
def pagedbCountsSpec : ChangeSpec := { name := "pagedbCounts", fn := fun _ => fun
  | [d] => { results := [.lit (.bool true)], args := [d] }
  | _ => none }
def pagedbCountsRow : OpenClaim := { program := "ytlndkfcnfhkbkaa", sum := "c46155d70b0e8687701cf2350ed9349d7deaa999b6d039a743647da79ef9a442", func := "warden/wardenlaw12.PagedbCounts", spec := "pagedbCounts", unfollowed := true, recurses := true, apart := false }
def PagedbCountsSaid : Prop := pagedbCountsRow.holds Try.pinned (OpenSpec.ofChange pagedbCountsSpec)

/-- ITS FALSE NEIGHBOUR: 'it returns false'. Refute it at one input. -/
def pagedbCountsWrong : ChangeSpec := { name := "pagedbCounts", fn := fun _ => fun
  | [d] => { results := [.lit (.bool false)], args := [d] }
  | _ => none }
def PagedbCountsWrongFalsely : Prop := pagedbCountsRow.holds Try.pinned (OpenSpec.ofChange pagedbCountsWrong)

/-- 'wardenlaw12.PagedbKeeps': WHATEVER THE INPUT: true; the input reads as it did. -/
def pagedbKeepsSpec : ChangeSpec := { name := "pagedbKeeps", fn := fun _ => fun
  | [d1, d2] => { results := [.lit (.bool true)], args := [d1, d2] }
  | _ => none }
def pagedbKeepsRow : OpenClaim := { program := "ytlndkfcnfhkbkaa", sum := "c46155d70b0e8687701cf2350ed9349d7deaa999b6d039a743647da79ef9a442", func := "warden/wardenlaw12.PagedbKeeps", spec := "pagedbKeeps", unfollowed := true, recurses := true, apart := false }
def PagedbKeepsSaid : Prop := pagedbKeepsRow.holds Try.pinned (OpenSpec.ofChange pagedbKeepsSpec)

/-- ITS FALSE NEIGHBOUR: 'it returns false'. Refute it at one input. -/
def pagedbKeepsWrong : ChangeSpec := { name := "pagedbKeeps", fn := fun _ => fun
  | [d1, d2] => { results := [.lit (.bool false)], args := [d1, d2] }
  | _ => none }
def PagedbKeepsWrongFalsely : Prop := pagedbKeepsRow.holds Try.pinned (OpenSpec.ofChange pagedbKeepsWrong)

/-- 'wardenlaw12.PagedbBack': WHATEVER THE INPUT: true; the input reads as it did. -/
def pagedbBackSpec : ChangeSpec := { name := "pagedbBack", fn := fun _ => fun
  | [d1, d2] => { results := [.lit (.bool true)], args := [d1, d2] }
  | _ => none }
def pagedbBackRow : OpenClaim := { program := "ytlndkfcnfhkbkaa", sum := "c46155d70b0e8687701cf2350ed9349d7deaa999b6d039a743647da79ef9a442", func := "warden/wardenlaw12.PagedbBack", spec := "pagedbBack", unfollowed := true, recurses := true, apart := false }
def PagedbBackSaid : Prop := pagedbBackRow.holds Try.pinned (OpenSpec.ofChange pagedbBackSpec)

/-- ITS FALSE NEIGHBOUR: 'it returns false'. Refute it at one input. -/
def pagedbBackWrong : ChangeSpec := { name := "pagedbBack", fn := fun _ => fun
  | [d1, d2] => { results := [.lit (.bool false)], args := [d1, d2] }
  | _ => none }
def PagedbBackWrongFalsely : Prop := pagedbBackRow.holds Try.pinned (OpenSpec.ofChange pagedbBackWrong)

/-- 'wardenlaw12.PagedbAll': WHATEVER THE INPUT: true; the input reads as it did. -/
def pagedbAllSpec : ChangeSpec := { name := "pagedbAll", fn := fun _ => fun
  | [d1, d2] => { results := [.lit (.bool true)], args := [d1, d2] }
  | _ => none }
def pagedbAllRow : OpenClaim := { program := "ytlndkfcnfhkbkaa", sum := "c46155d70b0e8687701cf2350ed9349d7deaa999b6d039a743647da79ef9a442", func := "warden/wardenlaw12.PagedbAll", spec := "pagedbAll", unfollowed := true, recurses := true, apart := false }
def PagedbAllSaid : Prop := pagedbAllRow.holds Try.pinned (OpenSpec.ofChange pagedbAllSpec)

/-- ITS FALSE NEIGHBOUR: 'it returns false'. Refute it at one input. -/
def pagedbAllWrong : ChangeSpec := { name := "pagedbAll", fn := fun _ => fun
  | [d1, d2] => { results := [.lit (.bool false)], args := [d1, d2] }
  | _ => none }
def PagedbAllWrongFalsely : Prop := pagedbAllRow.holds Try.pinned (OpenSpec.ofChange pagedbAllWrong)

/-- 'wardenlaw14.SpaceLast': WHATEVER THE INPUT: true; the input reads as it did. -/
def spaceLastSpec : ChangeSpec := { name := "spaceLast", fn := fun _ => fun
  | [d] => { results := [.lit (.bool true)], args := [d] }
  | _ => none }
def spaceLastRow : OpenClaim := { program := "ytlndkfcnfhkbkaa", sum := "c46155d70b0e8687701cf2350ed9349d7deaa999b6d039a743647da79ef9a442", func := "warden/wardenlaw14.SpaceLast", spec := "spaceLast", unfollowed := true, recurses := true, apart := false }
def SpaceLastSaid : Prop := spaceLastRow.holds Try.pinned (OpenSpec.ofChange spaceLastSpec)

/-- ITS FALSE NEIGHBOUR: 'it returns false'. Refute it at one input. -/
def spaceLastWrong : ChangeSpec := { name := "spaceLast", fn := fun _ => fun
  | [d] => { results := [.lit (.bool false)], args := [d] }
  | _ => none }
def SpaceLastWrongFalsely : Prop := spaceLastRow.holds Try.pinned (OpenSpec.ofChange spaceLastWrong)

/-- 'wardenlaw14.SpaceTouches': WHATEVER THE INPUT: true; the input reads as it did. -/
def spaceTouchesSpec : ChangeSpec := { name := "spaceTouches", fn := fun _ => fun
  | [d1, d2] => { results := [.lit (.bool true)], args := [d1, d2] }
  | _ => none }
def spaceTouchesRow : OpenClaim := { program := "ytlndkfcnfhkbkaa", sum := "c46155d70b0e8687701cf2350ed9349d7deaa999b6d039a743647da79ef9a442", func := "warden/wardenlaw14.SpaceTouches", spec := "spaceTouches", unfollowed := true, recurses := true, apart := false }
def SpaceTouchesSaid : Prop := spaceTouchesRow.holds Try.pinned (OpenSpec.ofChange spaceTouchesSpec)

/-- ITS FALSE NEIGHBOUR: 'it returns false'. Refute it at one input. -/
def spaceTouchesWrong : ChangeSpec := { name := "spaceTouches", fn := fun _ => fun
  | [d1, d2] => { results := [.lit (.bool false)], args := [d1, d2] }
  | _ => none }
def SpaceTouchesWrongFalsely : Prop := spaceTouchesRow.holds Try.pinned (OpenSpec.ofChange spaceTouchesWrong)

/-- 'wardenlaw14.SpaceWalks': WHATEVER THE INPUT: true; the input reads as it did. -/
def spaceWalksSpec : ChangeSpec := { name := "spaceWalks", fn := fun _ => fun
  | [d1, d2] => { results := [.lit (.bool true)], args := [d1, d2] }
  | _ => none }
def spaceWalksRow : OpenClaim := { program := "ytlndkfcnfhkbkaa", sum := "c46155d70b0e8687701cf2350ed9349d7deaa999b6d039a743647da79ef9a442", func := "warden/wardenlaw14.SpaceWalks", spec := "spaceWalks", unfollowed := true, recurses := true, apart := false }
def SpaceWalksSaid : Prop := spaceWalksRow.holds Try.pinned (OpenSpec.ofChange spaceWalksSpec)

/-- ITS FALSE NEIGHBOUR: 'it returns false'. Refute it at one input. -/
def spaceWalksWrong : ChangeSpec := { name := "spaceWalks", fn := fun _ => fun
  | [d1, d2] => { results := [.lit (.bool false)], args := [d1, d2] }
  | _ => none }
def SpaceWalksWrongFalsely : Prop := spaceWalksRow.holds Try.pinned (OpenSpec.ofChange spaceWalksWrong)

/- THE SECOND FORM. 'bulk': how many values and letters a reading holds, each counted each time it is reached (what is shared counts as often as it is met; a slice's spare places count too). A statement '..UptoSaid' is the law's where the arguments, and the package variables that the reading takes, are together of bulk at most 1048576: NARROWER than '..Said'. Prove '..Said' where nothing that the law and all that it calls make is longer than what came in: it says more and counts as full. Else prove '..UptoSaid'. A law counts once. -/
mutual
def uptoBulk {H : Type} : DataW H → Nat
  | .lit (.string bytes) => bytes.length + 1
  | .lit _ => 1
  | .nil => 1
  | .ptr d => uptoBulk d + 1
  | .slice elems spare => uptoBulkAll elems + uptoBulkAll spare + 1
  | .agg parts => uptoBulkAll parts + 1
  | .iface _ d => uptoBulk d + 1
  | .map entries => uptoBulkEntries entries + 1
  | .held _ => 1
def uptoBulkAll {H : Type} : List (DataW H) → Nat
  | [] => 0
  | d :: r => uptoBulk d + uptoBulkAll r
def uptoBulkEntries {H : Type} : List (Lit × DataW H) → Nat
  | [] => 0
  | x :: r => uptoBulkEntry x + uptoBulkEntries r
def uptoBulkEntry {H : Type} : Lit × DataW H → Nat
  | (.string bytes, d) => bytes.length + uptoBulk d + 1
  | (_, d) => uptoBulk d + 1
 end
def uptoSmall : (H : Type) → List (DataW H) → Bool := fun _ ds => decide (uptoBulkAll ds ≤ 1048576)
def OpenSpec.upto (s : _root_.Go.ChangeSpec) : _root_.Go.OpenSpec := { _root_.Go.OpenSpec.ofChange s with cond := some uptoSmall }

/-- 'wardenlaw09.WalkKeeps', WHERE WHAT IT READS IS OF BULK AT MOST 1048576: true; the input reads as it did. -/
def walkKeepsUptoRow : OpenClaim := { program := "ytlndkfcnfhkbkaa", sum := "c46155d70b0e8687701cf2350ed9349d7deaa999b6d039a743647da79ef9a442", func := "warden/wardenlaw09.WalkKeeps", spec := "walkKeeps", unfollowed := true, recurses := true, apart := false, narrowed := true }
def WalkKeepsUptoSaid : Prop := walkKeepsUptoRow.holds Try.pinned (OpenSpec.upto walkKeepsSpec)

/-- 'wardenlaw09.WalkList', WHERE WHAT IT READS IS OF BULK AT MOST 1048576: true; the input reads as it did. -/
def walkListUptoRow : OpenClaim := { program := "ytlndkfcnfhkbkaa", sum := "c46155d70b0e8687701cf2350ed9349d7deaa999b6d039a743647da79ef9a442", func := "warden/wardenlaw09.WalkList", spec := "walkList", unfollowed := true, recurses := true, apart := false, narrowed := true }
def WalkListUptoSaid : Prop := walkListUptoRow.holds Try.pinned (OpenSpec.upto walkListSpec)

/-- 'wardenlaw09.WalkLocal', WHERE WHAT IT READS IS OF BULK AT MOST 1048576: true; the input reads as it did. -/
def walkLocalUptoRow : OpenClaim := { program := "ytlndkfcnfhkbkaa", sum := "c46155d70b0e8687701cf2350ed9349d7deaa999b6d039a743647da79ef9a442", func := "warden/wardenlaw09.WalkLocal", spec := "walkLocal", unfollowed := true, recurses := true, apart := false, narrowed := true }
def WalkLocalUptoSaid : Prop := walkLocalUptoRow.holds Try.pinned (OpenSpec.upto walkLocalSpec)

/-- 'wardenlaw09.WalkAll', WHERE WHAT IT READS IS OF BULK AT MOST 1048576: true; the input reads as it did. -/
def walkAllUptoRow : OpenClaim := { program := "ytlndkfcnfhkbkaa", sum := "c46155d70b0e8687701cf2350ed9349d7deaa999b6d039a743647da79ef9a442", func := "warden/wardenlaw09.WalkAll", spec := "walkAll", unfollowed := true, recurses := true, apart := false, narrowed := true }
def WalkAllUptoSaid : Prop := walkAllUptoRow.holds Try.pinned (OpenSpec.upto walkAllSpec)

/-- 'wardenlaw12.PagedbCounts', WHERE WHAT IT READS IS OF BULK AT MOST 1048576: true; the input reads as it did. -/
def pagedbCountsUptoRow : OpenClaim := { program := "ytlndkfcnfhkbkaa", sum := "c46155d70b0e8687701cf2350ed9349d7deaa999b6d039a743647da79ef9a442", func := "warden/wardenlaw12.PagedbCounts", spec := "pagedbCounts", unfollowed := true, recurses := true, apart := false, narrowed := true }
def PagedbCountsUptoSaid : Prop := pagedbCountsUptoRow.holds Try.pinned (OpenSpec.upto pagedbCountsSpec)

/-- 'wardenlaw12.PagedbKeeps', WHERE WHAT IT READS IS OF BULK AT MOST 1048576: true; the input reads as it did. -/
def pagedbKeepsUptoRow : OpenClaim := { program := "ytlndkfcnfhkbkaa", sum := "c46155d70b0e8687701cf2350ed9349d7deaa999b6d039a743647da79ef9a442", func := "warden/wardenlaw12.PagedbKeeps", spec := "pagedbKeeps", unfollowed := true, recurses := true, apart := false, narrowed := true }
def PagedbKeepsUptoSaid : Prop := pagedbKeepsUptoRow.holds Try.pinned (OpenSpec.upto pagedbKeepsSpec)

/-- 'wardenlaw12.PagedbBack', WHERE WHAT IT READS IS OF BULK AT MOST 1048576: true; the input reads as it did. -/
def pagedbBackUptoRow : OpenClaim := { program := "ytlndkfcnfhkbkaa", sum := "c46155d70b0e8687701cf2350ed9349d7deaa999b6d039a743647da79ef9a442", func := "warden/wardenlaw12.PagedbBack", spec := "pagedbBack", unfollowed := true, recurses := true, apart := false, narrowed := true }
def PagedbBackUptoSaid : Prop := pagedbBackUptoRow.holds Try.pinned (OpenSpec.upto pagedbBackSpec)

/-- 'wardenlaw12.PagedbAll', WHERE WHAT IT READS IS OF BULK AT MOST 1048576: true; the input reads as it did. -/
def pagedbAllUptoRow : OpenClaim := { program := "ytlndkfcnfhkbkaa", sum := "c46155d70b0e8687701cf2350ed9349d7deaa999b6d039a743647da79ef9a442", func := "warden/wardenlaw12.PagedbAll", spec := "pagedbAll", unfollowed := true, recurses := true, apart := false, narrowed := true }
def PagedbAllUptoSaid : Prop := pagedbAllUptoRow.holds Try.pinned (OpenSpec.upto pagedbAllSpec)

/-- 'wardenlaw14.SpaceLast', WHERE WHAT IT READS IS OF BULK AT MOST 1048576: true; the input reads as it did. -/
def spaceLastUptoRow : OpenClaim := { program := "ytlndkfcnfhkbkaa", sum := "c46155d70b0e8687701cf2350ed9349d7deaa999b6d039a743647da79ef9a442", func := "warden/wardenlaw14.SpaceLast", spec := "spaceLast", unfollowed := true, recurses := true, apart := false, narrowed := true }
def SpaceLastUptoSaid : Prop := spaceLastUptoRow.holds Try.pinned (OpenSpec.upto spaceLastSpec)

/-- 'wardenlaw14.SpaceTouches', WHERE WHAT IT READS IS OF BULK AT MOST 1048576: true; the input reads as it did. -/
def spaceTouchesUptoRow : OpenClaim := { program := "ytlndkfcnfhkbkaa", sum := "c46155d70b0e8687701cf2350ed9349d7deaa999b6d039a743647da79ef9a442", func := "warden/wardenlaw14.SpaceTouches", spec := "spaceTouches", unfollowed := true, recurses := true, apart := false, narrowed := true }
def SpaceTouchesUptoSaid : Prop := spaceTouchesUptoRow.holds Try.pinned (OpenSpec.upto spaceTouchesSpec)

/-- 'wardenlaw14.SpaceWalks', WHERE WHAT IT READS IS OF BULK AT MOST 1048576: true; the input reads as it did. -/
def spaceWalksUptoRow : OpenClaim := { program := "ytlndkfcnfhkbkaa", sum := "c46155d70b0e8687701cf2350ed9349d7deaa999b6d039a743647da79ef9a442", func := "warden/wardenlaw14.SpaceWalks", spec := "spaceWalks", unfollowed := true, recurses := true, apart := false, narrowed := true }
def SpaceWalksUptoSaid : Prop := spaceWalksUptoRow.holds Try.pinned (OpenSpec.upto spaceWalksSpec)

end Rows
end Go.Proofs.Ytlndkfcnfhkbkaa
