/-
  NARROWER THAN 'FOR EVERY INPUT', by the rows' own cells (each row's printed sentence says how): ShaRoots: laid · ShaSums: laid · ShaPads: laid · ShaBack: laid · ShaPieces: laid · ShaScripts: laid.
  DERIVED. THE GIVEN ROWS OF THIS SEAT. 6 by the template 'for every input the law returns true; each argument reads behind the call as it read before'; 0 by the template 'total and deterministic' (their statements: YtieeahpokociiaaDoorTotals.lean).
  GIVEN WITH THE SEED: the statements are not yours to turn. If you find one false, say at which input.
  Laid BY PROGRAM, IN A SANDBOX (cutbox-rows.mjs): the forced cells as the released guide's own fill.sh prints them over the translation 19a39e7dd66eb08b… (all of the seat's roots in one cut). By AI agents, Wed Nov 11 2026. No macro, syntax, notation, axiom, sorry.
-/
import Derived.Test.YtieeahpokociiaaDoorChecked
import GoSem.Claim
import GoSem.ClaimJoined
import GoSem.ClaimMapViews
import Derived.JoinedTies
import Derived.KernelRfl
namespace Go.Proofs.YtieeahpokociiaaDoor
/- THE CELL 'sum', in the pinned program and in every row, IS THE sha256 OF THE DUMP (.gsa) THAT YtieeahpokociiaaDoorProg.lean LOADS. Nothing in Lean hashes anything: it is a label: what it is worth is what the hold of that sum in a sandbox is worth. -/
noncomputable def Tryd.pinned : Pinned := { name := "ytieeahpokociiaadoor", sum := "19a39e7dd66eb08bcea818bdc2a8575e7179cbc69a7275140977b4fa195b71c8", checked := Tryd.checked }
namespace Rows
def none {H : Type} : Left H := { results := [], args := [] }

/- WHAT THE LISTED PACKAGE-LEVEL VARIABLES READ AS WHEN THE CALL BEGINS. Each datum BY PROGRAM (the guide's laid-datum.mjs) off the statement by which the dump's own 'gosem.cut.vars' lays the variable. In a bare row this is a premise. The card (YtieeahpokociiaaDoorCards.lean) ties it to the program's text. -/
def laid_warden_sha_rounds {H : Type} : DataW H := .agg [.lit (.int .u32 1116352408), .lit (.int .u32 1899447441), .lit (.int .u32 3049323471), .lit (.int .u32 3921009573), .lit (.int .u32 961987163), .lit (.int .u32 1508970993), .lit (.int .u32 2453635748), .lit (.int .u32 2870763221), .lit (.int .u32 3624381080), .lit (.int .u32 310598401), .lit (.int .u32 607225278), .lit (.int .u32 1426881987), .lit (.int .u32 1925078388), .lit (.int .u32 2162078206), .lit (.int .u32 2614888103), .lit (.int .u32 3248222580), .lit (.int .u32 3835390401), .lit (.int .u32 4022224774), .lit (.int .u32 264347078), .lit (.int .u32 604807628), .lit (.int .u32 770255983), .lit (.int .u32 1249150122), .lit (.int .u32 1555081692), .lit (.int .u32 1996064986), .lit (.int .u32 2554220882), .lit (.int .u32 2821834349), .lit (.int .u32 2952996808), .lit (.int .u32 3210313671), .lit (.int .u32 3336571891), .lit (.int .u32 3584528711), .lit (.int .u32 113926993), .lit (.int .u32 338241895), .lit (.int .u32 666307205), .lit (.int .u32 773529912), .lit (.int .u32 1294757372), .lit (.int .u32 1396182291), .lit (.int .u32 1695183700), .lit (.int .u32 1986661051), .lit (.int .u32 2177026350), .lit (.int .u32 2456956037), .lit (.int .u32 2730485921), .lit (.int .u32 2820302411), .lit (.int .u32 3259730800), .lit (.int .u32 3345764771), .lit (.int .u32 3516065817), .lit (.int .u32 3600352804), .lit (.int .u32 4094571909), .lit (.int .u32 275423344), .lit (.int .u32 430227734), .lit (.int .u32 506948616), .lit (.int .u32 659060556), .lit (.int .u32 883997877), .lit (.int .u32 958139571), .lit (.int .u32 1322822218), .lit (.int .u32 1537002063), .lit (.int .u32 1747873779), .lit (.int .u32 1955562222), .lit (.int .u32 2024104815), .lit (.int .u32 2227730452), .lit (.int .u32 2361852424), .lit (.int .u32 2428436474), .lit (.int .u32 2756734187), .lit (.int .u32 3204031479), .lit (.int .u32 3329325298)]
def laid_warden_wardenref02_primes {H : Type} : DataW H := .agg [.lit (.int .u64 2), .lit (.int .u64 3), .lit (.int .u64 5), .lit (.int .u64 7), .lit (.int .u64 11), .lit (.int .u64 13), .lit (.int .u64 17), .lit (.int .u64 19), .lit (.int .u64 23), .lit (.int .u64 29), .lit (.int .u64 31), .lit (.int .u64 37), .lit (.int .u64 41), .lit (.int .u64 43), .lit (.int .u64 47), .lit (.int .u64 53), .lit (.int .u64 59), .lit (.int .u64 61), .lit (.int .u64 67), .lit (.int .u64 71), .lit (.int .u64 73), .lit (.int .u64 79), .lit (.int .u64 83), .lit (.int .u64 89), .lit (.int .u64 97), .lit (.int .u64 101), .lit (.int .u64 103), .lit (.int .u64 107), .lit (.int .u64 109), .lit (.int .u64 113), .lit (.int .u64 127), .lit (.int .u64 131), .lit (.int .u64 137), .lit (.int .u64 139), .lit (.int .u64 149), .lit (.int .u64 151), .lit (.int .u64 157), .lit (.int .u64 163), .lit (.int .u64 167), .lit (.int .u64 173), .lit (.int .u64 179), .lit (.int .u64 181), .lit (.int .u64 191), .lit (.int .u64 193), .lit (.int .u64 197), .lit (.int .u64 199), .lit (.int .u64 211), .lit (.int .u64 223), .lit (.int .u64 227), .lit (.int .u64 229), .lit (.int .u64 233), .lit (.int .u64 239), .lit (.int .u64 241), .lit (.int .u64 251), .lit (.int .u64 257), .lit (.int .u64 263), .lit (.int .u64 269), .lit (.int .u64 271), .lit (.int .u64 277), .lit (.int .u64 281), .lit (.int .u64 283), .lit (.int .u64 293), .lit (.int .u64 307), .lit (.int .u64 311)]
def laid_warden_wardenref02_K {H : Type} : DataW H := .agg [.lit (.int .u32 1116352408), .lit (.int .u32 1899447441), .lit (.int .u32 3049323471), .lit (.int .u32 3921009573), .lit (.int .u32 961987163), .lit (.int .u32 1508970993), .lit (.int .u32 2453635748), .lit (.int .u32 2870763221), .lit (.int .u32 3624381080), .lit (.int .u32 310598401), .lit (.int .u32 607225278), .lit (.int .u32 1426881987), .lit (.int .u32 1925078388), .lit (.int .u32 2162078206), .lit (.int .u32 2614888103), .lit (.int .u32 3248222580), .lit (.int .u32 3835390401), .lit (.int .u32 4022224774), .lit (.int .u32 264347078), .lit (.int .u32 604807628), .lit (.int .u32 770255983), .lit (.int .u32 1249150122), .lit (.int .u32 1555081692), .lit (.int .u32 1996064986), .lit (.int .u32 2554220882), .lit (.int .u32 2821834349), .lit (.int .u32 2952996808), .lit (.int .u32 3210313671), .lit (.int .u32 3336571891), .lit (.int .u32 3584528711), .lit (.int .u32 113926993), .lit (.int .u32 338241895), .lit (.int .u32 666307205), .lit (.int .u32 773529912), .lit (.int .u32 1294757372), .lit (.int .u32 1396182291), .lit (.int .u32 1695183700), .lit (.int .u32 1986661051), .lit (.int .u32 2177026350), .lit (.int .u32 2456956037), .lit (.int .u32 2730485921), .lit (.int .u32 2820302411), .lit (.int .u32 3259730800), .lit (.int .u32 3345764771), .lit (.int .u32 3516065817), .lit (.int .u32 3600352804), .lit (.int .u32 4094571909), .lit (.int .u32 275423344), .lit (.int .u32 430227734), .lit (.int .u32 506948616), .lit (.int .u32 659060556), .lit (.int .u32 883997877), .lit (.int .u32 958139571), .lit (.int .u32 1322822218), .lit (.int .u32 1537002063), .lit (.int .u32 1747873779), .lit (.int .u32 1955562222), .lit (.int .u32 2024104815), .lit (.int .u32 2227730452), .lit (.int .u32 2361852424), .lit (.int .u32 2428436474), .lit (.int .u32 2756734187), .lit (.int .u32 3204031479), .lit (.int .u32 3329325298)]

/-- 'wardenlaw02.ShaRoots': WHATEVER THE INPUT: true; the input reads as it did. -/
def shaRootsSpec : ChangeSpec := { name := "shaRoots", fn := fun _ => fun
  | [] => { results := [.lit (.bool true)], args := [] }
  | _ => none }
def shaRootsRow : OpenClaim := { program := "ytieeahpokociiaadoor", sum := "19a39e7dd66eb08bcea818bdc2a8575e7179cbc69a7275140977b4fa195b71c8", func := "warden/wardenlaw02.ShaRoots", spec := "shaRoots", named := ["warden/wardenref02.K", "warden/wardenref02.primes", "warden/sha.rounds"], apart := false, laid := [("warden/sha.rounds", laid_warden_sha_rounds), ("warden/wardenref02.primes", laid_warden_wardenref02_primes), ("warden/wardenref02.K", laid_warden_wardenref02_K)] }
def ShaRootsSaid : Prop := shaRootsRow.holds Tryd.pinned (OpenSpec.ofChange shaRootsSpec)

/-- ITS FALSE NEIGHBOUR: 'it returns false'. Refute it at one input. -/
def shaRootsWrong : ChangeSpec := { name := "shaRoots", fn := fun _ => fun
  | [] => { results := [.lit (.bool false)], args := [] }
  | _ => none }
def ShaRootsWrongFalsely : Prop := shaRootsRow.holds Tryd.pinned (OpenSpec.ofChange shaRootsWrong)

/-- 'wardenlaw02.ShaSums': WHATEVER THE INPUT: true; the input reads as it did. -/
def shaSumsSpec : ChangeSpec := { name := "shaSums", fn := fun _ => fun
  | [d1, d2, d3, d4] => { results := [.lit (.bool true)], args := [d1, d2, d3, d4] }
  | _ => none }
def shaSumsRow : OpenClaim := { program := "ytieeahpokociiaadoor", sum := "19a39e7dd66eb08bcea818bdc2a8575e7179cbc69a7275140977b4fa195b71c8", func := "warden/wardenlaw02.ShaSums", spec := "shaSums", named := ["warden/sha.rounds", "warden/wardenref02.K"], apart := false, laid := [("warden/sha.rounds", laid_warden_sha_rounds), ("warden/wardenref02.K", laid_warden_wardenref02_K)] }
def ShaSumsSaid : Prop := shaSumsRow.holds Tryd.pinned (OpenSpec.ofChange shaSumsSpec)

/-- ITS FALSE NEIGHBOUR: 'it returns false'. Refute it at one input. -/
def shaSumsWrong : ChangeSpec := { name := "shaSums", fn := fun _ => fun
  | [d1, d2, d3, d4] => { results := [.lit (.bool false)], args := [d1, d2, d3, d4] }
  | _ => none }
def ShaSumsWrongFalsely : Prop := shaSumsRow.holds Tryd.pinned (OpenSpec.ofChange shaSumsWrong)

/-- 'wardenlaw02.ShaPads': WHATEVER THE INPUT: true; the input reads as it did. -/
def shaPadsSpec : ChangeSpec := { name := "shaPads", fn := fun _ => fun
  | [d1, d2] => { results := [.lit (.bool true)], args := [d1, d2] }
  | _ => none }
def shaPadsRow : OpenClaim := { program := "ytieeahpokociiaadoor", sum := "19a39e7dd66eb08bcea818bdc2a8575e7179cbc69a7275140977b4fa195b71c8", func := "warden/wardenlaw02.ShaPads", spec := "shaPads", named := ["warden/sha.rounds"], apart := false, laid := [("warden/sha.rounds", laid_warden_sha_rounds)] }
def ShaPadsSaid : Prop := shaPadsRow.holds Tryd.pinned (OpenSpec.ofChange shaPadsSpec)

/-- ITS FALSE NEIGHBOUR: 'it returns false'. Refute it at one input. -/
def shaPadsWrong : ChangeSpec := { name := "shaPads", fn := fun _ => fun
  | [d1, d2] => { results := [.lit (.bool false)], args := [d1, d2] }
  | _ => none }
def ShaPadsWrongFalsely : Prop := shaPadsRow.holds Tryd.pinned (OpenSpec.ofChange shaPadsWrong)

/-- 'wardenlaw02.ShaBack': WHATEVER THE INPUT: true; the input reads as it did. -/
def shaBackSpec : ChangeSpec := { name := "shaBack", fn := fun _ => fun
  | [d1, d2, d3] => { results := [.lit (.bool true)], args := [d1, d2, d3] }
  | _ => none }
def shaBackRow : OpenClaim := { program := "ytieeahpokociiaadoor", sum := "19a39e7dd66eb08bcea818bdc2a8575e7179cbc69a7275140977b4fa195b71c8", func := "warden/wardenlaw02.ShaBack", spec := "shaBack", named := ["warden/sha.rounds"], apart := false, laid := [("warden/sha.rounds", laid_warden_sha_rounds)] }
def ShaBackSaid : Prop := shaBackRow.holds Tryd.pinned (OpenSpec.ofChange shaBackSpec)

/-- ITS FALSE NEIGHBOUR: 'it returns false'. Refute it at one input. -/
def shaBackWrong : ChangeSpec := { name := "shaBack", fn := fun _ => fun
  | [d1, d2, d3] => { results := [.lit (.bool false)], args := [d1, d2, d3] }
  | _ => none }
def ShaBackWrongFalsely : Prop := shaBackRow.holds Tryd.pinned (OpenSpec.ofChange shaBackWrong)

/-- 'wardenlaw02.ShaPieces': WHATEVER THE INPUT: true; the input reads as it did. -/
def shaPiecesSpec : ChangeSpec := { name := "shaPieces", fn := fun _ => fun
  | [d1, d2] => { results := [.lit (.bool true)], args := [d1, d2] }
  | _ => none }
def shaPiecesRow : OpenClaim := { program := "ytieeahpokociiaadoor", sum := "19a39e7dd66eb08bcea818bdc2a8575e7179cbc69a7275140977b4fa195b71c8", func := "warden/wardenlaw02.ShaPieces", spec := "shaPieces", named := ["warden/sha.rounds"], apart := false, laid := [("warden/sha.rounds", laid_warden_sha_rounds)] }
def ShaPiecesSaid : Prop := shaPiecesRow.holds Tryd.pinned (OpenSpec.ofChange shaPiecesSpec)

/-- ITS FALSE NEIGHBOUR: 'it returns false'. Refute it at one input. -/
def shaPiecesWrong : ChangeSpec := { name := "shaPieces", fn := fun _ => fun
  | [d1, d2] => { results := [.lit (.bool false)], args := [d1, d2] }
  | _ => none }
def ShaPiecesWrongFalsely : Prop := shaPiecesRow.holds Tryd.pinned (OpenSpec.ofChange shaPiecesWrong)

/-- 'wardenlaw02.ShaScripts': WHATEVER THE INPUT: true; the input reads as it did. -/
def shaScriptsSpec : ChangeSpec := { name := "shaScripts", fn := fun _ => fun
  | [d] => { results := [.lit (.bool true)], args := [d] }
  | _ => none }
def shaScriptsRow : OpenClaim := { program := "ytieeahpokociiaadoor", sum := "19a39e7dd66eb08bcea818bdc2a8575e7179cbc69a7275140977b4fa195b71c8", func := "warden/wardenlaw02.ShaScripts", spec := "shaScripts", named := ["warden/sha.rounds", "warden/wardenref02.K"], apart := false, laid := [("warden/sha.rounds", laid_warden_sha_rounds), ("warden/wardenref02.K", laid_warden_wardenref02_K)] }
def ShaScriptsSaid : Prop := shaScriptsRow.holds Tryd.pinned (OpenSpec.ofChange shaScriptsSpec)

/-- ITS FALSE NEIGHBOUR: 'it returns false'. Refute it at one input. -/
def shaScriptsWrong : ChangeSpec := { name := "shaScripts", fn := fun _ => fun
  | [d] => { results := [.lit (.bool false)], args := [d] }
  | _ => none }
def ShaScriptsWrongFalsely : Prop := shaScriptsRow.holds Tryd.pinned (OpenSpec.ofChange shaScriptsWrong)

/- THE SECOND FORM. 'bulk': how many values and letters a reading holds, each counted each time it is reached (what is shared counts as often as it is met; a slice's spare places count too). A statement '..UptoSaid' is the law's where the arguments, and the package variables that the reading takes, are together of bulk at most 1048576: NARROWER than '..Said'. Prove '..Said' where nothing that the law and all that it calls make is longer than what came in: it says more and counts as full. Else prove '..UptoSaid'. A law counts once. -/
mutual
def uptoBulk {H : Type} : DataW H → Nat
  | .lit (.string bytes) => bytes.length + 1
  | .lit _ => 1
  | .nil => 1
  | .ptr d => uptoBulk d + 1
  | .slice elems spare => uptoBulkAll elems + uptoBulkAll spare + 1
  | .agg parts => uptoBulkAll parts + 1
  | .iface _ d => uptoBulk d + 1
  | .map entries => uptoBulkEntries entries + 1
  | .held _ => 1
def uptoBulkAll {H : Type} : List (DataW H) → Nat
  | [] => 0
  | d :: r => uptoBulk d + uptoBulkAll r
def uptoBulkEntries {H : Type} : List (Lit × DataW H) → Nat
  | [] => 0
  | x :: r => uptoBulkEntry x + uptoBulkEntries r
def uptoBulkEntry {H : Type} : Lit × DataW H → Nat
  | (.string bytes, d) => bytes.length + uptoBulk d + 1
  | (_, d) => uptoBulk d + 1
 end
def uptoSmall : (H : Type) → List (DataW H) → Bool := fun _ ds => decide (uptoBulkAll ds ≤ 1048576)
def OpenSpec.upto (s : _root_.Go.ChangeSpec) : _root_.Go.OpenSpec := { _root_.Go.OpenSpec.ofChange s with cond := some uptoSmall }

/-- 'wardenlaw02.ShaRoots', WHERE WHAT IT READS IS OF BULK AT MOST 1048576: true; the input reads as it did. -/
def shaRootsUptoRow : OpenClaim := { program := "ytieeahpokociiaadoor", sum := "19a39e7dd66eb08bcea818bdc2a8575e7179cbc69a7275140977b4fa195b71c8", func := "warden/wardenlaw02.ShaRoots", spec := "shaRoots", named := ["warden/wardenref02.K", "warden/wardenref02.primes", "warden/sha.rounds"], apart := false, laid := [("warden/sha.rounds", laid_warden_sha_rounds), ("warden/wardenref02.primes", laid_warden_wardenref02_primes), ("warden/wardenref02.K", laid_warden_wardenref02_K)], narrowed := true }
def ShaRootsUptoSaid : Prop := shaRootsUptoRow.holds Tryd.pinned (OpenSpec.upto shaRootsSpec)

/-- 'wardenlaw02.ShaSums', WHERE WHAT IT READS IS OF BULK AT MOST 1048576: true; the input reads as it did. -/
def shaSumsUptoRow : OpenClaim := { program := "ytieeahpokociiaadoor", sum := "19a39e7dd66eb08bcea818bdc2a8575e7179cbc69a7275140977b4fa195b71c8", func := "warden/wardenlaw02.ShaSums", spec := "shaSums", named := ["warden/sha.rounds", "warden/wardenref02.K"], apart := false, laid := [("warden/sha.rounds", laid_warden_sha_rounds), ("warden/wardenref02.K", laid_warden_wardenref02_K)], narrowed := true }
def ShaSumsUptoSaid : Prop := shaSumsUptoRow.holds Tryd.pinned (OpenSpec.upto shaSumsSpec)

/-- 'wardenlaw02.ShaPads', WHERE WHAT IT READS IS OF BULK AT MOST 1048576: true; the input reads as it did. -/
def shaPadsUptoRow : OpenClaim := { program := "ytieeahpokociiaadoor", sum := "19a39e7dd66eb08bcea818bdc2a8575e7179cbc69a7275140977b4fa195b71c8", func := "warden/wardenlaw02.ShaPads", spec := "shaPads", named := ["warden/sha.rounds"], apart := false, laid := [("warden/sha.rounds", laid_warden_sha_rounds)], narrowed := true }
def ShaPadsUptoSaid : Prop := shaPadsUptoRow.holds Tryd.pinned (OpenSpec.upto shaPadsSpec)

/-- 'wardenlaw02.ShaBack', WHERE WHAT IT READS IS OF BULK AT MOST 1048576: true; the input reads as it did. -/
def shaBackUptoRow : OpenClaim := { program := "ytieeahpokociiaadoor", sum := "19a39e7dd66eb08bcea818bdc2a8575e7179cbc69a7275140977b4fa195b71c8", func := "warden/wardenlaw02.ShaBack", spec := "shaBack", named := ["warden/sha.rounds"], apart := false, laid := [("warden/sha.rounds", laid_warden_sha_rounds)], narrowed := true }
def ShaBackUptoSaid : Prop := shaBackUptoRow.holds Tryd.pinned (OpenSpec.upto shaBackSpec)

/-- 'wardenlaw02.ShaPieces', WHERE WHAT IT READS IS OF BULK AT MOST 1048576: true; the input reads as it did. -/
def shaPiecesUptoRow : OpenClaim := { program := "ytieeahpokociiaadoor", sum := "19a39e7dd66eb08bcea818bdc2a8575e7179cbc69a7275140977b4fa195b71c8", func := "warden/wardenlaw02.ShaPieces", spec := "shaPieces", named := ["warden/sha.rounds"], apart := false, laid := [("warden/sha.rounds", laid_warden_sha_rounds)], narrowed := true }
def ShaPiecesUptoSaid : Prop := shaPiecesUptoRow.holds Tryd.pinned (OpenSpec.upto shaPiecesSpec)

/-- 'wardenlaw02.ShaScripts', WHERE WHAT IT READS IS OF BULK AT MOST 1048576: true; the input reads as it did. -/
def shaScriptsUptoRow : OpenClaim := { program := "ytieeahpokociiaadoor", sum := "19a39e7dd66eb08bcea818bdc2a8575e7179cbc69a7275140977b4fa195b71c8", func := "warden/wardenlaw02.ShaScripts", spec := "shaScripts", named := ["warden/sha.rounds", "warden/wardenref02.K"], apart := false, laid := [("warden/sha.rounds", laid_warden_sha_rounds), ("warden/wardenref02.K", laid_warden_wardenref02_K)], narrowed := true }
def ShaScriptsUptoSaid : Prop := shaScriptsUptoRow.holds Tryd.pinned (OpenSpec.upto shaScriptsSpec)

end Rows
end Go.Proofs.YtieeahpokociiaaDoor
