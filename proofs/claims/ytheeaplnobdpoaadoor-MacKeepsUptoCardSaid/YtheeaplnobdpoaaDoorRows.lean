/-
  NARROWER THAN 'FOR EVERY INPUT', by the rows' own cells (each row's printed sentence says how): MacPieces: laid · MacKeys: laid · MacKeeps: laid · MacAll: laid · MeasureWords: laid · MeasurePieces: laid · MeasureOne: laid · MeasureAll: laid · MeasureKeeps: laid.
  DERIVED. THE GIVEN ROWS OF THIS SEAT. 9 by the template 'for every input the law returns true; each argument reads behind the call as it read before'; 0 by the template 'total and deterministic' (their statements: YtheeaplnobdpoaaDoorTotals.lean).
  GIVEN WITH THE SEED: the statements are not yours to turn. If you find one false, say at which input.
  Laid BY PROGRAM, IN A SANDBOX (cutbox-rows.mjs): the forced cells as the released guide's own fill.sh prints them over the translation 56769b50f2556d32… (all of the seat's roots in one cut). By AI agents, Wed Nov 11 2026. No macro, syntax, notation, axiom, sorry.
-/
import Derived.Test.YtheeaplnobdpoaaDoorChecked
import GoSem.Claim
import GoSem.ClaimJoined
import GoSem.ClaimMapViews
import Derived.JoinedTies
import Derived.KernelRfl
namespace Go.Proofs.YtheeaplnobdpoaaDoor
/- THE CELL 'sum', in the pinned program and in every row, IS THE sha256 OF THE DUMP (.gsa) THAT YtheeaplnobdpoaaDoorProg.lean LOADS. Nothing in Lean hashes anything: it is a label: what it is worth is what the hold of that sum in a sandbox is worth. -/
noncomputable def Tryd.pinned : Pinned := { name := "ytheeaplnobdpoaadoor", sum := "56769b50f2556d3244191ca9477b34a6f6f2a563ec18ed11c27cf736c9fabd90", checked := Tryd.checked }
namespace Rows
def none {H : Type} : Left H := { results := [], args := [] }

/- WHAT THE LISTED PACKAGE-LEVEL VARIABLES READ AS WHEN THE CALL BEGINS. Each datum BY PROGRAM (the guide's laid-datum.mjs) off the statement by which the dump's own 'gosem.cut.vars' lays the variable. In a bare row this is a premise. The card (YtheeaplnobdpoaaDoorCards.lean) ties it to the program's text. -/
def laid_warden_sha_rounds {H : Type} : DataW H := .agg [.lit (.int .u32 1116352408), .lit (.int .u32 1899447441), .lit (.int .u32 3049323471), .lit (.int .u32 3921009573), .lit (.int .u32 961987163), .lit (.int .u32 1508970993), .lit (.int .u32 2453635748), .lit (.int .u32 2870763221), .lit (.int .u32 3624381080), .lit (.int .u32 310598401), .lit (.int .u32 607225278), .lit (.int .u32 1426881987), .lit (.int .u32 1925078388), .lit (.int .u32 2162078206), .lit (.int .u32 2614888103), .lit (.int .u32 3248222580), .lit (.int .u32 3835390401), .lit (.int .u32 4022224774), .lit (.int .u32 264347078), .lit (.int .u32 604807628), .lit (.int .u32 770255983), .lit (.int .u32 1249150122), .lit (.int .u32 1555081692), .lit (.int .u32 1996064986), .lit (.int .u32 2554220882), .lit (.int .u32 2821834349), .lit (.int .u32 2952996808), .lit (.int .u32 3210313671), .lit (.int .u32 3336571891), .lit (.int .u32 3584528711), .lit (.int .u32 113926993), .lit (.int .u32 338241895), .lit (.int .u32 666307205), .lit (.int .u32 773529912), .lit (.int .u32 1294757372), .lit (.int .u32 1396182291), .lit (.int .u32 1695183700), .lit (.int .u32 1986661051), .lit (.int .u32 2177026350), .lit (.int .u32 2456956037), .lit (.int .u32 2730485921), .lit (.int .u32 2820302411), .lit (.int .u32 3259730800), .lit (.int .u32 3345764771), .lit (.int .u32 3516065817), .lit (.int .u32 3600352804), .lit (.int .u32 4094571909), .lit (.int .u32 275423344), .lit (.int .u32 430227734), .lit (.int .u32 506948616), .lit (.int .u32 659060556), .lit (.int .u32 883997877), .lit (.int .u32 958139571), .lit (.int .u32 1322822218), .lit (.int .u32 1537002063), .lit (.int .u32 1747873779), .lit (.int .u32 1955562222), .lit (.int .u32 2024104815), .lit (.int .u32 2227730452), .lit (.int .u32 2361852424), .lit (.int .u32 2428436474), .lit (.int .u32 2756734187), .lit (.int .u32 3204031479), .lit (.int .u32 3329325298)]
def laid_warden_wardenref02_K {H : Type} : DataW H := .agg [.lit (.int .u32 1116352408), .lit (.int .u32 1899447441), .lit (.int .u32 3049323471), .lit (.int .u32 3921009573), .lit (.int .u32 961987163), .lit (.int .u32 1508970993), .lit (.int .u32 2453635748), .lit (.int .u32 2870763221), .lit (.int .u32 3624381080), .lit (.int .u32 310598401), .lit (.int .u32 607225278), .lit (.int .u32 1426881987), .lit (.int .u32 1925078388), .lit (.int .u32 2162078206), .lit (.int .u32 2614888103), .lit (.int .u32 3248222580), .lit (.int .u32 3835390401), .lit (.int .u32 4022224774), .lit (.int .u32 264347078), .lit (.int .u32 604807628), .lit (.int .u32 770255983), .lit (.int .u32 1249150122), .lit (.int .u32 1555081692), .lit (.int .u32 1996064986), .lit (.int .u32 2554220882), .lit (.int .u32 2821834349), .lit (.int .u32 2952996808), .lit (.int .u32 3210313671), .lit (.int .u32 3336571891), .lit (.int .u32 3584528711), .lit (.int .u32 113926993), .lit (.int .u32 338241895), .lit (.int .u32 666307205), .lit (.int .u32 773529912), .lit (.int .u32 1294757372), .lit (.int .u32 1396182291), .lit (.int .u32 1695183700), .lit (.int .u32 1986661051), .lit (.int .u32 2177026350), .lit (.int .u32 2456956037), .lit (.int .u32 2730485921), .lit (.int .u32 2820302411), .lit (.int .u32 3259730800), .lit (.int .u32 3345764771), .lit (.int .u32 3516065817), .lit (.int .u32 3600352804), .lit (.int .u32 4094571909), .lit (.int .u32 275423344), .lit (.int .u32 430227734), .lit (.int .u32 506948616), .lit (.int .u32 659060556), .lit (.int .u32 883997877), .lit (.int .u32 958139571), .lit (.int .u32 1322822218), .lit (.int .u32 1537002063), .lit (.int .u32 1747873779), .lit (.int .u32 1955562222), .lit (.int .u32 2024104815), .lit (.int .u32 2227730452), .lit (.int .u32 2361852424), .lit (.int .u32 2428436474), .lit (.int .u32 2756734187), .lit (.int .u32 3204031479), .lit (.int .u32 3329325298)]

/-- 'wardenlaw03.MacPieces': WHATEVER THE INPUT: true; the input reads as it did. -/
def macPiecesSpec : ChangeSpec := { name := "macPieces", fn := fun _ => fun
  | [d] => { results := [.lit (.bool true)], args := [d] }
  | _ => none }
def macPiecesRow : OpenClaim := { program := "ytheeaplnobdpoaadoor", sum := "56769b50f2556d3244191ca9477b34a6f6f2a563ec18ed11c27cf736c9fabd90", func := "warden/wardenlaw03.MacPieces", spec := "macPieces", named := ["warden/sha.rounds"], apart := false, laid := [("warden/sha.rounds", laid_warden_sha_rounds)] }
def MacPiecesSaid : Prop := macPiecesRow.holds Tryd.pinned (OpenSpec.ofChange macPiecesSpec)

/-- ITS FALSE NEIGHBOUR: 'it returns false'. Refute it at one input. -/
def macPiecesWrong : ChangeSpec := { name := "macPieces", fn := fun _ => fun
  | [d] => { results := [.lit (.bool false)], args := [d] }
  | _ => none }
def MacPiecesWrongFalsely : Prop := macPiecesRow.holds Tryd.pinned (OpenSpec.ofChange macPiecesWrong)

/-- 'wardenlaw03.MacKeys': WHATEVER THE INPUT: true; the input reads as it did. -/
def macKeysSpec : ChangeSpec := { name := "macKeys", fn := fun _ => fun
  | [d] => { results := [.lit (.bool true)], args := [d] }
  | _ => none }
def macKeysRow : OpenClaim := { program := "ytheeaplnobdpoaadoor", sum := "56769b50f2556d3244191ca9477b34a6f6f2a563ec18ed11c27cf736c9fabd90", func := "warden/wardenlaw03.MacKeys", spec := "macKeys", named := ["warden/sha.rounds"], apart := false, laid := [("warden/sha.rounds", laid_warden_sha_rounds)] }
def MacKeysSaid : Prop := macKeysRow.holds Tryd.pinned (OpenSpec.ofChange macKeysSpec)

/-- ITS FALSE NEIGHBOUR: 'it returns false'. Refute it at one input. -/
def macKeysWrong : ChangeSpec := { name := "macKeys", fn := fun _ => fun
  | [d] => { results := [.lit (.bool false)], args := [d] }
  | _ => none }
def MacKeysWrongFalsely : Prop := macKeysRow.holds Tryd.pinned (OpenSpec.ofChange macKeysWrong)

/-- 'wardenlaw03.MacKeeps': WHATEVER THE INPUT: true; the input reads as it did. -/
def macKeepsSpec : ChangeSpec := { name := "macKeeps", fn := fun _ => fun
  | [d1, d2] => { results := [.lit (.bool true)], args := [d1, d2] }
  | _ => none }
def macKeepsRow : OpenClaim := { program := "ytheeaplnobdpoaadoor", sum := "56769b50f2556d3244191ca9477b34a6f6f2a563ec18ed11c27cf736c9fabd90", func := "warden/wardenlaw03.MacKeeps", spec := "macKeeps", named := ["warden/sha.rounds"], apart := false, laid := [("warden/sha.rounds", laid_warden_sha_rounds)] }
def MacKeepsSaid : Prop := macKeepsRow.holds Tryd.pinned (OpenSpec.ofChange macKeepsSpec)

/-- ITS FALSE NEIGHBOUR: 'it returns false'. Refute it at one input. -/
def macKeepsWrong : ChangeSpec := { name := "macKeeps", fn := fun _ => fun
  | [d1, d2] => { results := [.lit (.bool false)], args := [d1, d2] }
  | _ => none }
def MacKeepsWrongFalsely : Prop := macKeepsRow.holds Tryd.pinned (OpenSpec.ofChange macKeepsWrong)

/-- 'wardenlaw03.MacAll': WHATEVER THE INPUT: true; the input reads as it did. -/
def macAllSpec : ChangeSpec := { name := "macAll", fn := fun _ => fun
  | [d] => { results := [.lit (.bool true)], args := [d] }
  | _ => none }
def macAllRow : OpenClaim := { program := "ytheeaplnobdpoaadoor", sum := "56769b50f2556d3244191ca9477b34a6f6f2a563ec18ed11c27cf736c9fabd90", func := "warden/wardenlaw03.MacAll", spec := "macAll", named := ["warden/sha.rounds", "warden/wardenref02.K"], apart := false, laid := [("warden/sha.rounds", laid_warden_sha_rounds), ("warden/wardenref02.K", laid_warden_wardenref02_K)] }
def MacAllSaid : Prop := macAllRow.holds Tryd.pinned (OpenSpec.ofChange macAllSpec)

/-- ITS FALSE NEIGHBOUR: 'it returns false'. Refute it at one input. -/
def macAllWrong : ChangeSpec := { name := "macAll", fn := fun _ => fun
  | [d] => { results := [.lit (.bool false)], args := [d] }
  | _ => none }
def MacAllWrongFalsely : Prop := macAllRow.holds Tryd.pinned (OpenSpec.ofChange macAllWrong)

/-- 'wardenlaw15.MeasureWords': WHATEVER THE INPUT: true; the input reads as it did. -/
def measureWordsSpec : ChangeSpec := { name := "measureWords", fn := fun _ => fun
  | [d1, d2, d3, d4] => { results := [.lit (.bool true)], args := [d1, d2, d3, d4] }
  | _ => none }
def measureWordsRow : OpenClaim := { program := "ytheeaplnobdpoaadoor", sum := "56769b50f2556d3244191ca9477b34a6f6f2a563ec18ed11c27cf736c9fabd90", func := "warden/wardenlaw15.MeasureWords", spec := "measureWords", unfollowed := true, recurses := true, named := ["warden/sha.rounds"], apart := false, laid := [("warden/sha.rounds", laid_warden_sha_rounds)] }
def MeasureWordsSaid : Prop := measureWordsRow.holds Tryd.pinned (OpenSpec.ofChange measureWordsSpec)

/-- ITS FALSE NEIGHBOUR: 'it returns false'. Refute it at one input. -/
def measureWordsWrong : ChangeSpec := { name := "measureWords", fn := fun _ => fun
  | [d1, d2, d3, d4] => { results := [.lit (.bool false)], args := [d1, d2, d3, d4] }
  | _ => none }
def MeasureWordsWrongFalsely : Prop := measureWordsRow.holds Tryd.pinned (OpenSpec.ofChange measureWordsWrong)

/-- 'wardenlaw15.MeasurePieces': WHATEVER THE INPUT: true; the input reads as it did. -/
def measurePiecesSpec : ChangeSpec := { name := "measurePieces", fn := fun _ => fun
  | [d1, d2] => { results := [.lit (.bool true)], args := [d1, d2] }
  | _ => none }
def measurePiecesRow : OpenClaim := { program := "ytheeaplnobdpoaadoor", sum := "56769b50f2556d3244191ca9477b34a6f6f2a563ec18ed11c27cf736c9fabd90", func := "warden/wardenlaw15.MeasurePieces", spec := "measurePieces", unfollowed := true, recurses := true, named := ["warden/sha.rounds"], apart := false, laid := [("warden/sha.rounds", laid_warden_sha_rounds)] }
def MeasurePiecesSaid : Prop := measurePiecesRow.holds Tryd.pinned (OpenSpec.ofChange measurePiecesSpec)

/-- ITS FALSE NEIGHBOUR: 'it returns false'. Refute it at one input. -/
def measurePiecesWrong : ChangeSpec := { name := "measurePieces", fn := fun _ => fun
  | [d1, d2] => { results := [.lit (.bool false)], args := [d1, d2] }
  | _ => none }
def MeasurePiecesWrongFalsely : Prop := measurePiecesRow.holds Tryd.pinned (OpenSpec.ofChange measurePiecesWrong)

/-- 'wardenlaw15.MeasureOne': WHATEVER THE INPUT: true; the input reads as it did. -/
def measureOneSpec : ChangeSpec := { name := "measureOne", fn := fun _ => fun
  | [d1, d2] => { results := [.lit (.bool true)], args := [d1, d2] }
  | _ => none }
def measureOneRow : OpenClaim := { program := "ytheeaplnobdpoaadoor", sum := "56769b50f2556d3244191ca9477b34a6f6f2a563ec18ed11c27cf736c9fabd90", func := "warden/wardenlaw15.MeasureOne", spec := "measureOne", unfollowed := true, recurses := true, named := ["warden/sha.rounds"], apart := false, laid := [("warden/sha.rounds", laid_warden_sha_rounds)] }
def MeasureOneSaid : Prop := measureOneRow.holds Tryd.pinned (OpenSpec.ofChange measureOneSpec)

/-- ITS FALSE NEIGHBOUR: 'it returns false'. Refute it at one input. -/
def measureOneWrong : ChangeSpec := { name := "measureOne", fn := fun _ => fun
  | [d1, d2] => { results := [.lit (.bool false)], args := [d1, d2] }
  | _ => none }
def MeasureOneWrongFalsely : Prop := measureOneRow.holds Tryd.pinned (OpenSpec.ofChange measureOneWrong)

/-- 'wardenlaw15.MeasureAll': WHATEVER THE INPUT: true; the input reads as it did. -/
def measureAllSpec : ChangeSpec := { name := "measureAll", fn := fun _ => fun
  | [d] => { results := [.lit (.bool true)], args := [d] }
  | _ => none }
def measureAllRow : OpenClaim := { program := "ytheeaplnobdpoaadoor", sum := "56769b50f2556d3244191ca9477b34a6f6f2a563ec18ed11c27cf736c9fabd90", func := "warden/wardenlaw15.MeasureAll", spec := "measureAll", unfollowed := true, recurses := true, named := ["warden/sha.rounds", "warden/wardenref02.K"], apart := false, laid := [("warden/sha.rounds", laid_warden_sha_rounds), ("warden/wardenref02.K", laid_warden_wardenref02_K)] }
def MeasureAllSaid : Prop := measureAllRow.holds Tryd.pinned (OpenSpec.ofChange measureAllSpec)

/-- ITS FALSE NEIGHBOUR: 'it returns false'. Refute it at one input. -/
def measureAllWrong : ChangeSpec := { name := "measureAll", fn := fun _ => fun
  | [d] => { results := [.lit (.bool false)], args := [d] }
  | _ => none }
def MeasureAllWrongFalsely : Prop := measureAllRow.holds Tryd.pinned (OpenSpec.ofChange measureAllWrong)

/-- 'wardenlaw15.MeasureKeeps': WHATEVER THE INPUT: true; the input reads as it did. -/
def measureKeepsSpec : ChangeSpec := { name := "measureKeeps", fn := fun _ => fun
  | [d1, d2] => { results := [.lit (.bool true)], args := [d1, d2] }
  | _ => none }
def measureKeepsRow : OpenClaim := { program := "ytheeaplnobdpoaadoor", sum := "56769b50f2556d3244191ca9477b34a6f6f2a563ec18ed11c27cf736c9fabd90", func := "warden/wardenlaw15.MeasureKeeps", spec := "measureKeeps", unfollowed := true, recurses := true, named := ["warden/sha.rounds"], apart := false, laid := [("warden/sha.rounds", laid_warden_sha_rounds)] }
def MeasureKeepsSaid : Prop := measureKeepsRow.holds Tryd.pinned (OpenSpec.ofChange measureKeepsSpec)

/-- ITS FALSE NEIGHBOUR: 'it returns false'. Refute it at one input. -/
def measureKeepsWrong : ChangeSpec := { name := "measureKeeps", fn := fun _ => fun
  | [d1, d2] => { results := [.lit (.bool false)], args := [d1, d2] }
  | _ => none }
def MeasureKeepsWrongFalsely : Prop := measureKeepsRow.holds Tryd.pinned (OpenSpec.ofChange measureKeepsWrong)

/- THE SECOND FORM. 'bulk': how many values and letters a reading holds, each counted each time it is reached (what is shared counts as often as it is met; a slice's spare places count too). A statement '..UptoSaid' is the law's where the arguments, and the package variables that the reading takes, are together of bulk at most 1048576: NARROWER than '..Said'. Prove '..Said' where nothing that the law and all that it calls make is longer than what came in: it says more and counts as full. Else prove '..UptoSaid'. A law counts once. -/
mutual
def uptoBulk {H : Type} : DataW H → Nat
  | .lit (.string bytes) => bytes.length + 1
  | .lit _ => 1
  | .nil => 1
  | .ptr d => uptoBulk d + 1
  | .slice elems spare => uptoBulkAll elems + uptoBulkAll spare + 1
  | .agg parts => uptoBulkAll parts + 1
  | .iface _ d => uptoBulk d + 1
  | .map entries => uptoBulkEntries entries + 1
  | .held _ => 1
def uptoBulkAll {H : Type} : List (DataW H) → Nat
  | [] => 0
  | d :: r => uptoBulk d + uptoBulkAll r
def uptoBulkEntries {H : Type} : List (Lit × DataW H) → Nat
  | [] => 0
  | x :: r => uptoBulkEntry x + uptoBulkEntries r
def uptoBulkEntry {H : Type} : Lit × DataW H → Nat
  | (.string bytes, d) => bytes.length + uptoBulk d + 1
  | (_, d) => uptoBulk d + 1
 end
def uptoSmall : (H : Type) → List (DataW H) → Bool := fun _ ds => decide (uptoBulkAll ds ≤ 1048576)
def OpenSpec.upto (s : _root_.Go.ChangeSpec) : _root_.Go.OpenSpec := { _root_.Go.OpenSpec.ofChange s with cond := some uptoSmall }

/-- 'wardenlaw03.MacPieces', WHERE WHAT IT READS IS OF BULK AT MOST 1048576: true; the input reads as it did. -/
def macPiecesUptoRow : OpenClaim := { program := "ytheeaplnobdpoaadoor", sum := "56769b50f2556d3244191ca9477b34a6f6f2a563ec18ed11c27cf736c9fabd90", func := "warden/wardenlaw03.MacPieces", spec := "macPieces", named := ["warden/sha.rounds"], apart := false, laid := [("warden/sha.rounds", laid_warden_sha_rounds)], narrowed := true }
def MacPiecesUptoSaid : Prop := macPiecesUptoRow.holds Tryd.pinned (OpenSpec.upto macPiecesSpec)

/-- 'wardenlaw03.MacKeys', WHERE WHAT IT READS IS OF BULK AT MOST 1048576: true; the input reads as it did. -/
def macKeysUptoRow : OpenClaim := { program := "ytheeaplnobdpoaadoor", sum := "56769b50f2556d3244191ca9477b34a6f6f2a563ec18ed11c27cf736c9fabd90", func := "warden/wardenlaw03.MacKeys", spec := "macKeys", named := ["warden/sha.rounds"], apart := false, laid := [("warden/sha.rounds", laid_warden_sha_rounds)], narrowed := true }
def MacKeysUptoSaid : Prop := macKeysUptoRow.holds Tryd.pinned (OpenSpec.upto macKeysSpec)

/-- 'wardenlaw03.MacKeeps', WHERE WHAT IT READS IS OF BULK AT MOST 1048576: true; the input reads as it did. -/
def macKeepsUptoRow : OpenClaim := { program := "ytheeaplnobdpoaadoor", sum := "56769b50f2556d3244191ca9477b34a6f6f2a563ec18ed11c27cf736c9fabd90", func := "warden/wardenlaw03.MacKeeps", spec := "macKeeps", named := ["warden/sha.rounds"], apart := false, laid := [("warden/sha.rounds", laid_warden_sha_rounds)], narrowed := true }
def MacKeepsUptoSaid : Prop := macKeepsUptoRow.holds Tryd.pinned (OpenSpec.upto macKeepsSpec)

/-- 'wardenlaw03.MacAll', WHERE WHAT IT READS IS OF BULK AT MOST 1048576: true; the input reads as it did. -/
def macAllUptoRow : OpenClaim := { program := "ytheeaplnobdpoaadoor", sum := "56769b50f2556d3244191ca9477b34a6f6f2a563ec18ed11c27cf736c9fabd90", func := "warden/wardenlaw03.MacAll", spec := "macAll", named := ["warden/sha.rounds", "warden/wardenref02.K"], apart := false, laid := [("warden/sha.rounds", laid_warden_sha_rounds), ("warden/wardenref02.K", laid_warden_wardenref02_K)], narrowed := true }
def MacAllUptoSaid : Prop := macAllUptoRow.holds Tryd.pinned (OpenSpec.upto macAllSpec)

/-- 'wardenlaw15.MeasureWords', WHERE WHAT IT READS IS OF BULK AT MOST 1048576: true; the input reads as it did. -/
def measureWordsUptoRow : OpenClaim := { program := "ytheeaplnobdpoaadoor", sum := "56769b50f2556d3244191ca9477b34a6f6f2a563ec18ed11c27cf736c9fabd90", func := "warden/wardenlaw15.MeasureWords", spec := "measureWords", unfollowed := true, recurses := true, named := ["warden/sha.rounds"], apart := false, laid := [("warden/sha.rounds", laid_warden_sha_rounds)], narrowed := true }
def MeasureWordsUptoSaid : Prop := measureWordsUptoRow.holds Tryd.pinned (OpenSpec.upto measureWordsSpec)

/-- 'wardenlaw15.MeasurePieces', WHERE WHAT IT READS IS OF BULK AT MOST 1048576: true; the input reads as it did. -/
def measurePiecesUptoRow : OpenClaim := { program := "ytheeaplnobdpoaadoor", sum := "56769b50f2556d3244191ca9477b34a6f6f2a563ec18ed11c27cf736c9fabd90", func := "warden/wardenlaw15.MeasurePieces", spec := "measurePieces", unfollowed := true, recurses := true, named := ["warden/sha.rounds"], apart := false, laid := [("warden/sha.rounds", laid_warden_sha_rounds)], narrowed := true }
def MeasurePiecesUptoSaid : Prop := measurePiecesUptoRow.holds Tryd.pinned (OpenSpec.upto measurePiecesSpec)

/-- 'wardenlaw15.MeasureOne', WHERE WHAT IT READS IS OF BULK AT MOST 1048576: true; the input reads as it did. -/
def measureOneUptoRow : OpenClaim := { program := "ytheeaplnobdpoaadoor", sum := "56769b50f2556d3244191ca9477b34a6f6f2a563ec18ed11c27cf736c9fabd90", func := "warden/wardenlaw15.MeasureOne", spec := "measureOne", unfollowed := true, recurses := true, named := ["warden/sha.rounds"], apart := false, laid := [("warden/sha.rounds", laid_warden_sha_rounds)], narrowed := true }
def MeasureOneUptoSaid : Prop := measureOneUptoRow.holds Tryd.pinned (OpenSpec.upto measureOneSpec)

/-- 'wardenlaw15.MeasureAll', WHERE WHAT IT READS IS OF BULK AT MOST 1048576: true; the input reads as it did. -/
def measureAllUptoRow : OpenClaim := { program := "ytheeaplnobdpoaadoor", sum := "56769b50f2556d3244191ca9477b34a6f6f2a563ec18ed11c27cf736c9fabd90", func := "warden/wardenlaw15.MeasureAll", spec := "measureAll", unfollowed := true, recurses := true, named := ["warden/sha.rounds", "warden/wardenref02.K"], apart := false, laid := [("warden/sha.rounds", laid_warden_sha_rounds), ("warden/wardenref02.K", laid_warden_wardenref02_K)], narrowed := true }
def MeasureAllUptoSaid : Prop := measureAllUptoRow.holds Tryd.pinned (OpenSpec.upto measureAllSpec)

/-- 'wardenlaw15.MeasureKeeps', WHERE WHAT IT READS IS OF BULK AT MOST 1048576: true; the input reads as it did. -/
def measureKeepsUptoRow : OpenClaim := { program := "ytheeaplnobdpoaadoor", sum := "56769b50f2556d3244191ca9477b34a6f6f2a563ec18ed11c27cf736c9fabd90", func := "warden/wardenlaw15.MeasureKeeps", spec := "measureKeeps", unfollowed := true, recurses := true, named := ["warden/sha.rounds"], apart := false, laid := [("warden/sha.rounds", laid_warden_sha_rounds)], narrowed := true }
def MeasureKeepsUptoSaid : Prop := measureKeepsUptoRow.holds Tryd.pinned (OpenSpec.upto measureKeepsSpec)

end Rows
end Go.Proofs.YtheeaplnobdpoaaDoor
