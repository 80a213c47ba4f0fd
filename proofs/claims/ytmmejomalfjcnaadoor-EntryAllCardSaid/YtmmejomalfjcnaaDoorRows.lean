/-
  NARROWER THAN 'FOR EVERY INPUT', by the rows' own cells (each row's printed sentence says how): EntryAll: laid.
  DERIVED. THE GIVEN ROWS OF THIS SEAT. 1 by the template 'for every input the law returns true; each argument reads behind the call as it read before'; 0 by the template 'total and deterministic' (their statements: YtmmejomalfjcnaaDoorTotals.lean).
  GIVEN WITH THE SEED: the statements are not yours to turn. If you find one false, say at which input.
  Laid BY PROGRAM, IN A SANDBOX (cutbox-rows.mjs): the forced cells as the released guide's own fill.sh prints them over the translation f4c34502a0d0953c… (all of the seat's roots in one cut). By AI agents, Wed Nov 11 2026. No macro, syntax, notation, axiom, sorry.
-/
import Derived.Test.YtmmejomalfjcnaaDoorChecked
import GoSem.Claim
import GoSem.ClaimJoined
import GoSem.ClaimMapViews
import Derived.JoinedTies
import Derived.KernelRfl
namespace Go.Proofs.YtmmejomalfjcnaaDoor
/- THE CELL 'sum', in the pinned program and in every row, IS THE sha256 OF THE DUMP (.gsa) THAT YtmmejomalfjcnaaDoorProg.lean LOADS. Nothing in Lean hashes anything: it is a label: what it is worth is what the hold of that sum in a sandbox is worth. -/
noncomputable def Tryd.pinned : Pinned := { name := "ytmmejomalfjcnaadoor", sum := "f4c34502a0d0953ca345405aef9ebd0b1c017079205c3addb3b5a859b03d8358", checked := Tryd.checked }
namespace Rows
def none {H : Type} : Left H := { results := [], args := [] }

/- WHAT THE LISTED PACKAGE-LEVEL VARIABLES READ AS WHEN THE CALL BEGINS. Each datum BY PROGRAM (the guide's laid-datum.mjs) off the statement by which the dump's own 'gosem.cut.vars' lays the variable. In a bare row this is a premise. The card (YtmmejomalfjcnaaDoorCards.lean) ties it to the program's text. -/
def laid_warden_wardenref11_types {H : Type} : DataW H := .agg [.lit (.string [102, 114, 101, 101]), .lit (.string [115, 112, 97, 99, 101]), .lit (.string [116, 104, 114, 101, 97, 100]), .lit (.string [102, 105, 114, 115, 116]), .lit (.string [115, 101, 99, 111, 110, 100]), .lit (.string [100, 97, 116, 97]), .lit (.string [115, 112, 97, 114, 101])]
def laid_warden_wardenref11_states {H : Type} : DataW H := .agg [.lit (.string [110, 111, 110, 101]), .lit (.string [105, 110, 105, 116]), .lit (.string [102, 105, 110, 97, 108]), .lit (.string [115, 116, 111, 112, 112, 101, 100])]

/-- 'wardenlaw11.EntryAll': WHATEVER THE INPUT: true; the input reads as it did. -/
def entryAllSpec : ChangeSpec := { name := "entryAll", fn := fun _ => fun
  | [d1, d2, d3] => { results := [.lit (.bool true)], args := [d1, d2, d3] }
  | _ => none }
def entryAllRow : OpenClaim := { program := "ytmmejomalfjcnaadoor", sum := "f4c34502a0d0953ca345405aef9ebd0b1c017079205c3addb3b5a859b03d8358", func := "warden/wardenlaw11.EntryAll", spec := "entryAll", named := ["warden/wardenref11.types", "warden/wardenref11.states"], apart := false, laid := [("warden/wardenref11.types", laid_warden_wardenref11_types), ("warden/wardenref11.states", laid_warden_wardenref11_states)] }
def EntryAllSaid : Prop := entryAllRow.holds Tryd.pinned (OpenSpec.ofChange entryAllSpec)

/-- ITS FALSE NEIGHBOUR: 'it returns false'. Refute it at one input. -/
def entryAllWrong : ChangeSpec := { name := "entryAll", fn := fun _ => fun
  | [d1, d2, d3] => { results := [.lit (.bool false)], args := [d1, d2, d3] }
  | _ => none }
def EntryAllWrongFalsely : Prop := entryAllRow.holds Tryd.pinned (OpenSpec.ofChange entryAllWrong)

/- THE SECOND FORM. 'bulk': how many values and letters a reading holds, each counted each time it is reached (what is shared counts as often as it is met; a slice's spare places count too). A statement '..UptoSaid' is the law's where the arguments, and the package variables that the reading takes, are together of bulk at most 1048576: NARROWER than '..Said'. Prove '..Said' where nothing that the law and all that it calls make is longer than what came in: it says more and counts as full. Else prove '..UptoSaid'. A law counts once. -/
mutual
def uptoBulk {H : Type} : DataW H → Nat
  | .lit (.string bytes) => bytes.length + 1
  | .lit _ => 1
  | .nil => 1
  | .ptr d => uptoBulk d + 1
  | .slice elems spare => uptoBulkAll elems + uptoBulkAll spare + 1
  | .agg parts => uptoBulkAll parts + 1
  | .iface _ d => uptoBulk d + 1
  | .map entries => uptoBulkEntries entries + 1
  | .held _ => 1
def uptoBulkAll {H : Type} : List (DataW H) → Nat
  | [] => 0
  | d :: r => uptoBulk d + uptoBulkAll r
def uptoBulkEntries {H : Type} : List (Lit × DataW H) → Nat
  | [] => 0
  | x :: r => uptoBulkEntry x + uptoBulkEntries r
def uptoBulkEntry {H : Type} : Lit × DataW H → Nat
  | (.string bytes, d) => bytes.length + uptoBulk d + 1
  | (_, d) => uptoBulk d + 1
 end
def uptoSmall : (H : Type) → List (DataW H) → Bool := fun _ ds => decide (uptoBulkAll ds ≤ 1048576)
def OpenSpec.upto (s : _root_.Go.ChangeSpec) : _root_.Go.OpenSpec := { _root_.Go.OpenSpec.ofChange s with cond := some uptoSmall }

/-- 'wardenlaw11.EntryAll', WHERE WHAT IT READS IS OF BULK AT MOST 1048576: true; the input reads as it did. -/
def entryAllUptoRow : OpenClaim := { program := "ytmmejomalfjcnaadoor", sum := "f4c34502a0d0953ca345405aef9ebd0b1c017079205c3addb3b5a859b03d8358", func := "warden/wardenlaw11.EntryAll", spec := "entryAll", named := ["warden/wardenref11.types", "warden/wardenref11.states"], apart := false, laid := [("warden/wardenref11.types", laid_warden_wardenref11_types), ("warden/wardenref11.states", laid_warden_wardenref11_states)], narrowed := true }
def EntryAllUptoSaid : Prop := entryAllUptoRow.holds Tryd.pinned (OpenSpec.upto entryAllSpec)

end Rows
end Go.Proofs.YtmmejomalfjcnaaDoor
