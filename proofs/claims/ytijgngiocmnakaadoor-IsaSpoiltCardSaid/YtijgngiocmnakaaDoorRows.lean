/-
  NARROWER THAN 'FOR EVERY INPUT', by the rows' own cells (each row's printed sentence says how): IsaNames: laid · IsaCodes: laid · IsaBack: laid · IsaPlaces: laid · IsaSpoilt: laid.
  DERIVED. THE GIVEN ROWS OF THIS SEAT. 5 by the template 'for every input the law returns true; each argument reads behind the call as it read before'; 0 by the template 'total and deterministic' (their statements: YtijgngiocmnakaaDoorTotals.lean).
  GIVEN WITH THE SEED: the statements are not yours to turn. If you find one false, say at which input.
  Laid BY PROGRAM, IN A SANDBOX (cutbox-rows.mjs): the forced cells as the released guide's own fill.sh prints them over the translation 1cd4c6c386e1fda0… (all of the seat's roots in one cut). By AI agents, Wed Nov 11 2026. No macro, syntax, notation, axiom, sorry.
-/
import Derived.Test.YtijgngiocmnakaaDoorChecked
import GoSem.Claim
import GoSem.ClaimJoined
import GoSem.ClaimMapViews
import Derived.JoinedTies
import Derived.KernelRfl
namespace Go.Proofs.YtijgngiocmnakaaDoor
/- THE CELL 'sum', in the pinned program and in every row, IS THE sha256 OF THE DUMP (.gsa) THAT YtijgngiocmnakaaDoorProg.lean LOADS. Nothing in Lean hashes anything: it is a label: what it is worth is what the hold of that sum in a sandbox is worth. -/
noncomputable def Tryd.pinned : Pinned := { name := "ytijgngiocmnakaadoor", sum := "1cd4c6c386e1fda0e1b3e3e6612dd9e94bc4f29be58458d57efa0e3fb01c3aeb", checked := Tryd.checked }
namespace Rows
def none {H : Type} : Left H := { results := [], args := [] }

/- WHAT THE LISTED PACKAGE-LEVEL VARIABLES READ AS WHEN THE CALL BEGINS. Each datum BY PROGRAM (the guide's laid-datum.mjs) off the statement by which the dump's own 'gosem.cut.vars' lays the variable. In a bare row this is a premise. The card (YtijgngiocmnakaaDoorCards.lean) ties it to the program's text. -/
def laid_warden_wardenref05_shapes {H : Type} : DataW H := .agg [.lit (.string []), .lit (.string [97, 117]), .lit (.string [97, 117]), .lit (.string [97, 98]), .lit (.string [97, 98, 99]), .lit (.string [97, 98, 99]), .lit (.string [97, 98, 99]), .lit (.string [97, 98, 99]), .lit (.string [97, 98, 99]), .lit (.string [97, 98, 99]), .lit (.string [97, 98, 99]), .lit (.string [97, 98, 99]), .lit (.string [97, 98, 99]), .lit (.string [97, 98, 99]), .lit (.string [97, 98, 115]), .lit (.string [97, 98, 115]), .lit (.string [97, 98, 115]), .lit (.string [97, 98, 99]), .lit (.string [97, 98, 99]), .lit (.string [97, 98]), .lit (.string [97, 115]), .lit (.string [107, 111]), .lit (.string [111]), .lit (.string [97]), .lit (.string [117])]
def laid_warden_wardenref05_names {H : Type} : DataW H := .agg [.lit (.string []), .lit (.string [109, 111, 118, 105]), .lit (.string [109, 111, 118, 116]), .lit (.string [109, 111, 118]), .lit (.string [97, 100, 100]), .lit (.string [115, 117, 98]), .lit (.string [109, 117, 108]), .lit (.string [100, 105, 118]), .lit (.string [97, 110, 100]), .lit (.string [111, 114]), .lit (.string [120, 111, 114]), .lit (.string [115, 104, 108]), .lit (.string [115, 104, 114]), .lit (.string [115, 97, 114]), .lit (.string [97, 100, 100, 105]), .lit (.string [108, 100, 114]), .lit (.string [115, 116, 114]), .lit (.string [108, 100, 120]), .lit (.string [115, 116, 120]), .lit (.string [99, 109, 112]), .lit (.string [99, 109, 112, 105]), .lit (.string [98]), .lit (.string [98, 108]), .lit (.string [98, 114]), .lit (.string [115, 118, 99])]
def laid_warden_wardenref05_conds {H : Type} : DataW H := .agg [.lit (.string [97, 108]), .lit (.string [101, 113]), .lit (.string [110, 101]), .lit (.string [108, 116]), .lit (.string [103, 101]), .lit (.string [108, 111]), .lit (.string [104, 115])]
def laid_warden_isa_uses {H : Type} : DataW H := .agg [.agg [.lit (.string []), .lit (.string [])], .agg [.lit (.string [109, 111, 118, 105]), .lit (.string [97, 117])], .agg [.lit (.string [109, 111, 118, 116]), .lit (.string [97, 117])], .agg [.lit (.string [109, 111, 118]), .lit (.string [97, 98])], .agg [.lit (.string [97, 100, 100]), .lit (.string [97, 98, 99])], .agg [.lit (.string [115, 117, 98]), .lit (.string [97, 98, 99])], .agg [.lit (.string [109, 117, 108]), .lit (.string [97, 98, 99])], .agg [.lit (.string [100, 105, 118]), .lit (.string [97, 98, 99])], .agg [.lit (.string [97, 110, 100]), .lit (.string [97, 98, 99])], .agg [.lit (.string [111, 114]), .lit (.string [97, 98, 99])], .agg [.lit (.string [120, 111, 114]), .lit (.string [97, 98, 99])], .agg [.lit (.string [115, 104, 108]), .lit (.string [97, 98, 99])], .agg [.lit (.string [115, 104, 114]), .lit (.string [97, 98, 99])], .agg [.lit (.string [115, 97, 114]), .lit (.string [97, 98, 99])], .agg [.lit (.string [97, 100, 100, 105]), .lit (.string [97, 98, 115])], .agg [.lit (.string [108, 100, 114]), .lit (.string [97, 98, 115])], .agg [.lit (.string [115, 116, 114]), .lit (.string [97, 98, 115])], .agg [.lit (.string [108, 100, 120]), .lit (.string [97, 98, 99])], .agg [.lit (.string [115, 116, 120]), .lit (.string [97, 98, 99])], .agg [.lit (.string [99, 109, 112]), .lit (.string [97, 98])], .agg [.lit (.string [99, 109, 112, 105]), .lit (.string [97, 115])], .agg [.lit (.string [98]), .lit (.string [107, 111])], .agg [.lit (.string [98, 108]), .lit (.string [111])], .agg [.lit (.string [98, 114]), .lit (.string [97])], .agg [.lit (.string [115, 118, 99]), .lit (.string [117])]]
def laid_warden_isa_conds {H : Type} : DataW H := .agg [.lit (.string [97, 108]), .lit (.string [101, 113]), .lit (.string [110, 101]), .lit (.string [108, 116]), .lit (.string [103, 101]), .lit (.string [108, 111]), .lit (.string [104, 115])]

/-- 'wardenlaw05.IsaNames': WHATEVER THE INPUT: true; the input reads as it did. -/
def isaNamesSpec : ChangeSpec := { name := "isaNames", fn := fun _ => fun
  | [d1, d2] => { results := [.lit (.bool true)], args := [d1, d2] }
  | _ => none }
def isaNamesRow : OpenClaim := { program := "ytijgngiocmnakaadoor", sum := "1cd4c6c386e1fda0e1b3e3e6612dd9e94bc4f29be58458d57efa0e3fb01c3aeb", func := "warden/wardenlaw05.IsaNames", spec := "isaNames", named := ["warden/isa.uses", "warden/wardenref05.names", "warden/wardenref05.conds", "warden/isa.conds", "warden/wardenref05.shapes"], apart := false, laid := [("warden/wardenref05.shapes", laid_warden_wardenref05_shapes), ("warden/wardenref05.names", laid_warden_wardenref05_names), ("warden/wardenref05.conds", laid_warden_wardenref05_conds), ("warden/isa.uses", laid_warden_isa_uses), ("warden/isa.conds", laid_warden_isa_conds)] }
def IsaNamesSaid : Prop := isaNamesRow.holds Tryd.pinned (OpenSpec.ofChange isaNamesSpec)

/-- ITS FALSE NEIGHBOUR: 'it returns false'. Refute it at one input. -/
def isaNamesWrong : ChangeSpec := { name := "isaNames", fn := fun _ => fun
  | [d1, d2] => { results := [.lit (.bool false)], args := [d1, d2] }
  | _ => none }
def IsaNamesWrongFalsely : Prop := isaNamesRow.holds Tryd.pinned (OpenSpec.ofChange isaNamesWrong)

/-- 'wardenlaw05.IsaCodes': WHATEVER THE INPUT: true; the input reads as it did. -/
def isaCodesSpec : ChangeSpec := { name := "isaCodes", fn := fun _ => fun
  | [d1, d2] => { results := [.lit (.bool true)], args := [d1, d2] }
  | _ => none }
def isaCodesRow : OpenClaim := { program := "ytijgngiocmnakaadoor", sum := "1cd4c6c386e1fda0e1b3e3e6612dd9e94bc4f29be58458d57efa0e3fb01c3aeb", func := "warden/wardenlaw05.IsaCodes", spec := "isaCodes", named := ["warden/isa.uses", "warden/wardenref05.shapes"], apart := false, laid := [("warden/wardenref05.shapes", laid_warden_wardenref05_shapes), ("warden/isa.uses", laid_warden_isa_uses)] }
def IsaCodesSaid : Prop := isaCodesRow.holds Tryd.pinned (OpenSpec.ofChange isaCodesSpec)

/-- ITS FALSE NEIGHBOUR: 'it returns false'. Refute it at one input. -/
def isaCodesWrong : ChangeSpec := { name := "isaCodes", fn := fun _ => fun
  | [d1, d2] => { results := [.lit (.bool false)], args := [d1, d2] }
  | _ => none }
def IsaCodesWrongFalsely : Prop := isaCodesRow.holds Tryd.pinned (OpenSpec.ofChange isaCodesWrong)

/-- 'wardenlaw05.IsaBack': WHATEVER THE INPUT: true; the input reads as it did. -/
def isaBackSpec : ChangeSpec := { name := "isaBack", fn := fun _ => fun
  | [d1, d2] => { results := [.lit (.bool true)], args := [d1, d2] }
  | _ => none }
def isaBackRow : OpenClaim := { program := "ytijgngiocmnakaadoor", sum := "1cd4c6c386e1fda0e1b3e3e6612dd9e94bc4f29be58458d57efa0e3fb01c3aeb", func := "warden/wardenlaw05.IsaBack", spec := "isaBack", named := ["warden/isa.uses"], apart := false, laid := [("warden/isa.uses", laid_warden_isa_uses)] }
def IsaBackSaid : Prop := isaBackRow.holds Tryd.pinned (OpenSpec.ofChange isaBackSpec)

/-- ITS FALSE NEIGHBOUR: 'it returns false'. Refute it at one input. -/
def isaBackWrong : ChangeSpec := { name := "isaBack", fn := fun _ => fun
  | [d1, d2] => { results := [.lit (.bool false)], args := [d1, d2] }
  | _ => none }
def IsaBackWrongFalsely : Prop := isaBackRow.holds Tryd.pinned (OpenSpec.ofChange isaBackWrong)

/-- 'wardenlaw05.IsaPlaces': WHATEVER THE INPUT: true; the input reads as it did. -/
def isaPlacesSpec : ChangeSpec := { name := "isaPlaces", fn := fun _ => fun
  | [d] => { results := [.lit (.bool true)], args := [d] }
  | _ => none }
def isaPlacesRow : OpenClaim := { program := "ytijgngiocmnakaadoor", sum := "1cd4c6c386e1fda0e1b3e3e6612dd9e94bc4f29be58458d57efa0e3fb01c3aeb", func := "warden/wardenlaw05.IsaPlaces", spec := "isaPlaces", named := ["warden/isa.uses"], apart := false, laid := [("warden/isa.uses", laid_warden_isa_uses)] }
def IsaPlacesSaid : Prop := isaPlacesRow.holds Tryd.pinned (OpenSpec.ofChange isaPlacesSpec)

/-- ITS FALSE NEIGHBOUR: 'it returns false'. Refute it at one input. -/
def isaPlacesWrong : ChangeSpec := { name := "isaPlaces", fn := fun _ => fun
  | [d] => { results := [.lit (.bool false)], args := [d] }
  | _ => none }
def IsaPlacesWrongFalsely : Prop := isaPlacesRow.holds Tryd.pinned (OpenSpec.ofChange isaPlacesWrong)

/-- 'wardenlaw05.IsaSpoilt': WHATEVER THE INPUT: true; the input reads as it did. -/
def isaSpoiltSpec : ChangeSpec := { name := "isaSpoilt", fn := fun _ => fun
  | [d1, d2] => { results := [.lit (.bool true)], args := [d1, d2] }
  | _ => none }
def isaSpoiltRow : OpenClaim := { program := "ytijgngiocmnakaadoor", sum := "1cd4c6c386e1fda0e1b3e3e6612dd9e94bc4f29be58458d57efa0e3fb01c3aeb", func := "warden/wardenlaw05.IsaSpoilt", spec := "isaSpoilt", named := ["warden/isa.uses"], apart := false, laid := [("warden/isa.uses", laid_warden_isa_uses)] }
def IsaSpoiltSaid : Prop := isaSpoiltRow.holds Tryd.pinned (OpenSpec.ofChange isaSpoiltSpec)

/-- ITS FALSE NEIGHBOUR: 'it returns false'. Refute it at one input. -/
def isaSpoiltWrong : ChangeSpec := { name := "isaSpoilt", fn := fun _ => fun
  | [d1, d2] => { results := [.lit (.bool false)], args := [d1, d2] }
  | _ => none }
def IsaSpoiltWrongFalsely : Prop := isaSpoiltRow.holds Tryd.pinned (OpenSpec.ofChange isaSpoiltWrong)

/- THE SECOND FORM. 'bulk': how many values and letters a reading holds, each counted each time it is reached (what is shared counts as often as it is met; a slice's spare places count too). A statement '..UptoSaid' is the law's where the arguments, and the package variables that the reading takes, are together of bulk at most 1048576: NARROWER than '..Said'. Prove '..Said' where nothing that the law and all that it calls make is longer than what came in: it says more and counts as full. Else prove '..UptoSaid'. A law counts once. -/
mutual
def uptoBulk {H : Type} : DataW H → Nat
  | .lit (.string bytes) => bytes.length + 1
  | .lit _ => 1
  | .nil => 1
  | .ptr d => uptoBulk d + 1
  | .slice elems spare => uptoBulkAll elems + uptoBulkAll spare + 1
  | .agg parts => uptoBulkAll parts + 1
  | .iface _ d => uptoBulk d + 1
  | .map entries => uptoBulkEntries entries + 1
  | .held _ => 1
def uptoBulkAll {H : Type} : List (DataW H) → Nat
  | [] => 0
  | d :: r => uptoBulk d + uptoBulkAll r
def uptoBulkEntries {H : Type} : List (Lit × DataW H) → Nat
  | [] => 0
  | x :: r => uptoBulkEntry x + uptoBulkEntries r
def uptoBulkEntry {H : Type} : Lit × DataW H → Nat
  | (.string bytes, d) => bytes.length + uptoBulk d + 1
  | (_, d) => uptoBulk d + 1
 end
def uptoSmall : (H : Type) → List (DataW H) → Bool := fun _ ds => decide (uptoBulkAll ds ≤ 1048576)
def OpenSpec.upto (s : _root_.Go.ChangeSpec) : _root_.Go.OpenSpec := { _root_.Go.OpenSpec.ofChange s with cond := some uptoSmall }

/-- 'wardenlaw05.IsaNames', WHERE WHAT IT READS IS OF BULK AT MOST 1048576: true; the input reads as it did. -/
def isaNamesUptoRow : OpenClaim := { program := "ytijgngiocmnakaadoor", sum := "1cd4c6c386e1fda0e1b3e3e6612dd9e94bc4f29be58458d57efa0e3fb01c3aeb", func := "warden/wardenlaw05.IsaNames", spec := "isaNames", named := ["warden/isa.uses", "warden/wardenref05.names", "warden/wardenref05.conds", "warden/isa.conds", "warden/wardenref05.shapes"], apart := false, laid := [("warden/wardenref05.shapes", laid_warden_wardenref05_shapes), ("warden/wardenref05.names", laid_warden_wardenref05_names), ("warden/wardenref05.conds", laid_warden_wardenref05_conds), ("warden/isa.uses", laid_warden_isa_uses), ("warden/isa.conds", laid_warden_isa_conds)], narrowed := true }
def IsaNamesUptoSaid : Prop := isaNamesUptoRow.holds Tryd.pinned (OpenSpec.upto isaNamesSpec)

/-- 'wardenlaw05.IsaCodes', WHERE WHAT IT READS IS OF BULK AT MOST 1048576: true; the input reads as it did. -/
def isaCodesUptoRow : OpenClaim := { program := "ytijgngiocmnakaadoor", sum := "1cd4c6c386e1fda0e1b3e3e6612dd9e94bc4f29be58458d57efa0e3fb01c3aeb", func := "warden/wardenlaw05.IsaCodes", spec := "isaCodes", named := ["warden/isa.uses", "warden/wardenref05.shapes"], apart := false, laid := [("warden/wardenref05.shapes", laid_warden_wardenref05_shapes), ("warden/isa.uses", laid_warden_isa_uses)], narrowed := true }
def IsaCodesUptoSaid : Prop := isaCodesUptoRow.holds Tryd.pinned (OpenSpec.upto isaCodesSpec)

/-- 'wardenlaw05.IsaBack', WHERE WHAT IT READS IS OF BULK AT MOST 1048576: true; the input reads as it did. -/
def isaBackUptoRow : OpenClaim := { program := "ytijgngiocmnakaadoor", sum := "1cd4c6c386e1fda0e1b3e3e6612dd9e94bc4f29be58458d57efa0e3fb01c3aeb", func := "warden/wardenlaw05.IsaBack", spec := "isaBack", named := ["warden/isa.uses"], apart := false, laid := [("warden/isa.uses", laid_warden_isa_uses)], narrowed := true }
def IsaBackUptoSaid : Prop := isaBackUptoRow.holds Tryd.pinned (OpenSpec.upto isaBackSpec)

/-- 'wardenlaw05.IsaPlaces', WHERE WHAT IT READS IS OF BULK AT MOST 1048576: true; the input reads as it did. -/
def isaPlacesUptoRow : OpenClaim := { program := "ytijgngiocmnakaadoor", sum := "1cd4c6c386e1fda0e1b3e3e6612dd9e94bc4f29be58458d57efa0e3fb01c3aeb", func := "warden/wardenlaw05.IsaPlaces", spec := "isaPlaces", named := ["warden/isa.uses"], apart := false, laid := [("warden/isa.uses", laid_warden_isa_uses)], narrowed := true }
def IsaPlacesUptoSaid : Prop := isaPlacesUptoRow.holds Tryd.pinned (OpenSpec.upto isaPlacesSpec)

/-- 'wardenlaw05.IsaSpoilt', WHERE WHAT IT READS IS OF BULK AT MOST 1048576: true; the input reads as it did. -/
def isaSpoiltUptoRow : OpenClaim := { program := "ytijgngiocmnakaadoor", sum := "1cd4c6c386e1fda0e1b3e3e6612dd9e94bc4f29be58458d57efa0e3fb01c3aeb", func := "warden/wardenlaw05.IsaSpoilt", spec := "isaSpoilt", named := ["warden/isa.uses"], apart := false, laid := [("warden/isa.uses", laid_warden_isa_uses)], narrowed := true }
def IsaSpoiltUptoSaid : Prop := isaSpoiltUptoRow.holds Tryd.pinned (OpenSpec.upto isaSpoiltSpec)

end Rows
end Go.Proofs.YtijgngiocmnakaaDoor
