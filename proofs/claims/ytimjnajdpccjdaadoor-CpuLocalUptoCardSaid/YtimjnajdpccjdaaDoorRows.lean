/-
  NARROWER THAN 'FOR EVERY INPUT', by the rows' own cells (each row's printed sentence says how): CpuFaults: laid · CpuLocal: laid · CpuPieces: laid · LifeKeeps: laid · LifeRefuses: laid · LifeMeasures: laid · LifeReclaims: laid.
  DERIVED. THE GIVEN ROWS OF THIS SEAT. 7 by the template 'for every input the law returns true; each argument reads behind the call as it read before'; 0 by the template 'total and deterministic' (their statements: YtimjnajdpccjdaaDoorTotals.lean).
  GIVEN WITH THE SEED: the statements are not yours to turn. If you find one false, say at which input.
  Laid BY PROGRAM, IN A SANDBOX (cutbox-rows.mjs): the forced cells as the released guide's own fill.sh prints them over the translation 90fd8849e3562b33… (all of the seat's roots in one cut). By AI agents, Wed Nov 11 2026. No macro, syntax, notation, axiom, sorry.
-/
import Derived.Test.YtimjnajdpccjdaaDoorChecked
import GoSem.Claim
import GoSem.ClaimJoined
import GoSem.ClaimMapViews
import Derived.JoinedTies
import Derived.KernelRfl
namespace Go.Proofs.YtimjnajdpccjdaaDoor
/- THE CELL 'sum', in the pinned program and in every row, IS THE sha256 OF THE DUMP (.gsa) THAT YtimjnajdpccjdaaDoorProg.lean LOADS. Nothing in Lean hashes anything: it is a label: what it is worth is what the hold of that sum in a sandbox is worth. -/
noncomputable def Tryd.pinned : Pinned := { name := "ytimjnajdpccjdaadoor", sum := "90fd8849e3562b33f00bd2c6ec83f1b0216df74f5069a1b63157fab6aca7e87a", checked := Tryd.checked }
namespace Rows
def none {H : Type} : Left H := { results := [], args := [] }

/- WHAT THE LISTED PACKAGE-LEVEL VARIABLES READ AS WHEN THE CALL BEGINS. Each datum BY PROGRAM (the guide's laid-datum.mjs) off the statement by which the dump's own 'gosem.cut.vars' lays the variable. In a bare row this is a premise. The card (YtimjnajdpccjdaaDoorCards.lean) ties it to the program's text. -/
def laid_warden_isa_uses {H : Type} : DataW H := .agg [.agg [.lit (.string []), .lit (.string [])], .agg [.lit (.string [109, 111, 118, 105]), .lit (.string [97, 117])], .agg [.lit (.string [109, 111, 118, 116]), .lit (.string [97, 117])], .agg [.lit (.string [109, 111, 118]), .lit (.string [97, 98])], .agg [.lit (.string [97, 100, 100]), .lit (.string [97, 98, 99])], .agg [.lit (.string [115, 117, 98]), .lit (.string [97, 98, 99])], .agg [.lit (.string [109, 117, 108]), .lit (.string [97, 98, 99])], .agg [.lit (.string [100, 105, 118]), .lit (.string [97, 98, 99])], .agg [.lit (.string [97, 110, 100]), .lit (.string [97, 98, 99])], .agg [.lit (.string [111, 114]), .lit (.string [97, 98, 99])], .agg [.lit (.string [120, 111, 114]), .lit (.string [97, 98, 99])], .agg [.lit (.string [115, 104, 108]), .lit (.string [97, 98, 99])], .agg [.lit (.string [115, 104, 114]), .lit (.string [97, 98, 99])], .agg [.lit (.string [115, 97, 114]), .lit (.string [97, 98, 99])], .agg [.lit (.string [97, 100, 100, 105]), .lit (.string [97, 98, 115])], .agg [.lit (.string [108, 100, 114]), .lit (.string [97, 98, 115])], .agg [.lit (.string [115, 116, 114]), .lit (.string [97, 98, 115])], .agg [.lit (.string [108, 100, 120]), .lit (.string [97, 98, 99])], .agg [.lit (.string [115, 116, 120]), .lit (.string [97, 98, 99])], .agg [.lit (.string [99, 109, 112]), .lit (.string [97, 98])], .agg [.lit (.string [99, 109, 112, 105]), .lit (.string [97, 115])], .agg [.lit (.string [98]), .lit (.string [107, 111])], .agg [.lit (.string [98, 108]), .lit (.string [111])], .agg [.lit (.string [98, 114]), .lit (.string [97])], .agg [.lit (.string [115, 118, 99]), .lit (.string [117])]]
def laid_warden_cpu_groups {H : Type} : DataW H := .agg [.lit (.int .i64 0), .lit (.int .i64 1), .lit (.int .i64 1), .lit (.int .i64 1), .lit (.int .i64 2), .lit (.int .i64 2), .lit (.int .i64 2), .lit (.int .i64 2), .lit (.int .i64 2), .lit (.int .i64 2), .lit (.int .i64 2), .lit (.int .i64 2), .lit (.int .i64 2), .lit (.int .i64 2), .lit (.int .i64 1), .lit (.int .i64 3), .lit (.int .i64 3), .lit (.int .i64 3), .lit (.int .i64 3), .lit (.int .i64 4), .lit (.int .i64 4), .lit (.int .i64 5), .lit (.int .i64 5), .lit (.int .i64 5), .lit (.int .i64 6)]
def laid_warden_sha_rounds {H : Type} : DataW H := .agg [.lit (.int .u32 1116352408), .lit (.int .u32 1899447441), .lit (.int .u32 3049323471), .lit (.int .u32 3921009573), .lit (.int .u32 961987163), .lit (.int .u32 1508970993), .lit (.int .u32 2453635748), .lit (.int .u32 2870763221), .lit (.int .u32 3624381080), .lit (.int .u32 310598401), .lit (.int .u32 607225278), .lit (.int .u32 1426881987), .lit (.int .u32 1925078388), .lit (.int .u32 2162078206), .lit (.int .u32 2614888103), .lit (.int .u32 3248222580), .lit (.int .u32 3835390401), .lit (.int .u32 4022224774), .lit (.int .u32 264347078), .lit (.int .u32 604807628), .lit (.int .u32 770255983), .lit (.int .u32 1249150122), .lit (.int .u32 1555081692), .lit (.int .u32 1996064986), .lit (.int .u32 2554220882), .lit (.int .u32 2821834349), .lit (.int .u32 2952996808), .lit (.int .u32 3210313671), .lit (.int .u32 3336571891), .lit (.int .u32 3584528711), .lit (.int .u32 113926993), .lit (.int .u32 338241895), .lit (.int .u32 666307205), .lit (.int .u32 773529912), .lit (.int .u32 1294757372), .lit (.int .u32 1396182291), .lit (.int .u32 1695183700), .lit (.int .u32 1986661051), .lit (.int .u32 2177026350), .lit (.int .u32 2456956037), .lit (.int .u32 2730485921), .lit (.int .u32 2820302411), .lit (.int .u32 3259730800), .lit (.int .u32 3345764771), .lit (.int .u32 3516065817), .lit (.int .u32 3600352804), .lit (.int .u32 4094571909), .lit (.int .u32 275423344), .lit (.int .u32 430227734), .lit (.int .u32 506948616), .lit (.int .u32 659060556), .lit (.int .u32 883997877), .lit (.int .u32 958139571), .lit (.int .u32 1322822218), .lit (.int .u32 1537002063), .lit (.int .u32 1747873779), .lit (.int .u32 1955562222), .lit (.int .u32 2024104815), .lit (.int .u32 2227730452), .lit (.int .u32 2361852424), .lit (.int .u32 2428436474), .lit (.int .u32 2756734187), .lit (.int .u32 3204031479), .lit (.int .u32 3329325298)]

/-- 'wardenlaw10.CpuFaults': WHATEVER THE INPUT: true; the input reads as it did. -/
def cpuFaultsSpec : ChangeSpec := { name := "cpuFaults", fn := fun _ => fun
  | [d] => { results := [.lit (.bool true)], args := [d] }
  | _ => none }
def cpuFaultsRow : OpenClaim := { program := "ytimjnajdpccjdaadoor", sum := "90fd8849e3562b33f00bd2c6ec83f1b0216df74f5069a1b63157fab6aca7e87a", func := "warden/wardenlaw10.CpuFaults", spec := "cpuFaults", unfollowed := true, recurses := true, named := ["warden/isa.uses", "warden/cpu.groups"], apart := false, laid := [("warden/isa.uses", laid_warden_isa_uses), ("warden/cpu.groups", laid_warden_cpu_groups)] }
def CpuFaultsSaid : Prop := cpuFaultsRow.holds Tryd.pinned (OpenSpec.ofChange cpuFaultsSpec)

/-- ITS FALSE NEIGHBOUR: 'it returns false'. Refute it at one input. -/
def cpuFaultsWrong : ChangeSpec := { name := "cpuFaults", fn := fun _ => fun
  | [d] => { results := [.lit (.bool false)], args := [d] }
  | _ => none }
def CpuFaultsWrongFalsely : Prop := cpuFaultsRow.holds Tryd.pinned (OpenSpec.ofChange cpuFaultsWrong)

/-- 'wardenlaw10.CpuLocal': WHATEVER THE INPUT: true; the input reads as it did. -/
def cpuLocalSpec : ChangeSpec := { name := "cpuLocal", fn := fun _ => fun
  | [d1, d2, d3] => { results := [.lit (.bool true)], args := [d1, d2, d3] }
  | _ => none }
def cpuLocalRow : OpenClaim := { program := "ytimjnajdpccjdaadoor", sum := "90fd8849e3562b33f00bd2c6ec83f1b0216df74f5069a1b63157fab6aca7e87a", func := "warden/wardenlaw10.CpuLocal", spec := "cpuLocal", unfollowed := true, recurses := true, named := ["warden/isa.uses", "warden/cpu.groups"], apart := false, laid := [("warden/isa.uses", laid_warden_isa_uses), ("warden/cpu.groups", laid_warden_cpu_groups)] }
def CpuLocalSaid : Prop := cpuLocalRow.holds Tryd.pinned (OpenSpec.ofChange cpuLocalSpec)

/-- ITS FALSE NEIGHBOUR: 'it returns false'. Refute it at one input. -/
def cpuLocalWrong : ChangeSpec := { name := "cpuLocal", fn := fun _ => fun
  | [d1, d2, d3] => { results := [.lit (.bool false)], args := [d1, d2, d3] }
  | _ => none }
def CpuLocalWrongFalsely : Prop := cpuLocalRow.holds Tryd.pinned (OpenSpec.ofChange cpuLocalWrong)

/-- 'wardenlaw10.CpuPieces': WHATEVER THE INPUT: true; the input reads as it did. -/
def cpuPiecesSpec : ChangeSpec := { name := "cpuPieces", fn := fun _ => fun
  | [d1, d2, d3] => { results := [.lit (.bool true)], args := [d1, d2, d3] }
  | _ => none }
def cpuPiecesRow : OpenClaim := { program := "ytimjnajdpccjdaadoor", sum := "90fd8849e3562b33f00bd2c6ec83f1b0216df74f5069a1b63157fab6aca7e87a", func := "warden/wardenlaw10.CpuPieces", spec := "cpuPieces", unfollowed := true, recurses := true, named := ["warden/isa.uses", "warden/cpu.groups"], apart := false, laid := [("warden/isa.uses", laid_warden_isa_uses), ("warden/cpu.groups", laid_warden_cpu_groups)] }
def CpuPiecesSaid : Prop := cpuPiecesRow.holds Tryd.pinned (OpenSpec.ofChange cpuPiecesSpec)

/-- ITS FALSE NEIGHBOUR: 'it returns false'. Refute it at one input. -/
def cpuPiecesWrong : ChangeSpec := { name := "cpuPieces", fn := fun _ => fun
  | [d1, d2, d3] => { results := [.lit (.bool false)], args := [d1, d2, d3] }
  | _ => none }
def CpuPiecesWrongFalsely : Prop := cpuPiecesRow.holds Tryd.pinned (OpenSpec.ofChange cpuPiecesWrong)

/-- 'wardenlaw18.LifeKeeps': WHATEVER THE INPUT: true; the input reads as it did. -/
def lifeKeepsSpec : ChangeSpec := { name := "lifeKeeps", fn := fun _ => fun
  | [d1, d2] => { results := [.lit (.bool true)], args := [d1, d2] }
  | _ => none }
def lifeKeepsRow : OpenClaim := { program := "ytimjnajdpccjdaadoor", sum := "90fd8849e3562b33f00bd2c6ec83f1b0216df74f5069a1b63157fab6aca7e87a", func := "warden/wardenlaw18.LifeKeeps", spec := "lifeKeeps", unfollowed := true, recurses := true, named := ["warden/sha.rounds"], apart := false, laid := [("warden/sha.rounds", laid_warden_sha_rounds)] }
def LifeKeepsSaid : Prop := lifeKeepsRow.holds Tryd.pinned (OpenSpec.ofChange lifeKeepsSpec)

/-- ITS FALSE NEIGHBOUR: 'it returns false'. Refute it at one input. -/
def lifeKeepsWrong : ChangeSpec := { name := "lifeKeeps", fn := fun _ => fun
  | [d1, d2] => { results := [.lit (.bool false)], args := [d1, d2] }
  | _ => none }
def LifeKeepsWrongFalsely : Prop := lifeKeepsRow.holds Tryd.pinned (OpenSpec.ofChange lifeKeepsWrong)

/-- 'wardenlaw18.LifeRefuses': WHATEVER THE INPUT: true; the input reads as it did. -/
def lifeRefusesSpec : ChangeSpec := { name := "lifeRefuses", fn := fun _ => fun
  | [d1, d2] => { results := [.lit (.bool true)], args := [d1, d2] }
  | _ => none }
def lifeRefusesRow : OpenClaim := { program := "ytimjnajdpccjdaadoor", sum := "90fd8849e3562b33f00bd2c6ec83f1b0216df74f5069a1b63157fab6aca7e87a", func := "warden/wardenlaw18.LifeRefuses", spec := "lifeRefuses", unfollowed := true, recurses := true, named := ["warden/sha.rounds"], apart := false, laid := [("warden/sha.rounds", laid_warden_sha_rounds)] }
def LifeRefusesSaid : Prop := lifeRefusesRow.holds Tryd.pinned (OpenSpec.ofChange lifeRefusesSpec)

/-- ITS FALSE NEIGHBOUR: 'it returns false'. Refute it at one input. -/
def lifeRefusesWrong : ChangeSpec := { name := "lifeRefuses", fn := fun _ => fun
  | [d1, d2] => { results := [.lit (.bool false)], args := [d1, d2] }
  | _ => none }
def LifeRefusesWrongFalsely : Prop := lifeRefusesRow.holds Tryd.pinned (OpenSpec.ofChange lifeRefusesWrong)

/-- 'wardenlaw18.LifeMeasures': WHATEVER THE INPUT: true; the input reads as it did. -/
def lifeMeasuresSpec : ChangeSpec := { name := "lifeMeasures", fn := fun _ => fun
  | [d1, d2] => { results := [.lit (.bool true)], args := [d1, d2] }
  | _ => none }
def lifeMeasuresRow : OpenClaim := { program := "ytimjnajdpccjdaadoor", sum := "90fd8849e3562b33f00bd2c6ec83f1b0216df74f5069a1b63157fab6aca7e87a", func := "warden/wardenlaw18.LifeMeasures", spec := "lifeMeasures", unfollowed := true, recurses := true, named := ["warden/sha.rounds"], apart := false, laid := [("warden/sha.rounds", laid_warden_sha_rounds)] }
def LifeMeasuresSaid : Prop := lifeMeasuresRow.holds Tryd.pinned (OpenSpec.ofChange lifeMeasuresSpec)

/-- ITS FALSE NEIGHBOUR: 'it returns false'. Refute it at one input. -/
def lifeMeasuresWrong : ChangeSpec := { name := "lifeMeasures", fn := fun _ => fun
  | [d1, d2] => { results := [.lit (.bool false)], args := [d1, d2] }
  | _ => none }
def LifeMeasuresWrongFalsely : Prop := lifeMeasuresRow.holds Tryd.pinned (OpenSpec.ofChange lifeMeasuresWrong)

/-- 'wardenlaw18.LifeReclaims': WHATEVER THE INPUT: true; the input reads as it did. -/
def lifeReclaimsSpec : ChangeSpec := { name := "lifeReclaims", fn := fun _ => fun
  | [d1, d2] => { results := [.lit (.bool true)], args := [d1, d2] }
  | _ => none }
def lifeReclaimsRow : OpenClaim := { program := "ytimjnajdpccjdaadoor", sum := "90fd8849e3562b33f00bd2c6ec83f1b0216df74f5069a1b63157fab6aca7e87a", func := "warden/wardenlaw18.LifeReclaims", spec := "lifeReclaims", unfollowed := true, recurses := true, named := ["warden/sha.rounds"], apart := false, laid := [("warden/sha.rounds", laid_warden_sha_rounds)] }
def LifeReclaimsSaid : Prop := lifeReclaimsRow.holds Tryd.pinned (OpenSpec.ofChange lifeReclaimsSpec)

/-- ITS FALSE NEIGHBOUR: 'it returns false'. Refute it at one input. -/
def lifeReclaimsWrong : ChangeSpec := { name := "lifeReclaims", fn := fun _ => fun
  | [d1, d2] => { results := [.lit (.bool false)], args := [d1, d2] }
  | _ => none }
def LifeReclaimsWrongFalsely : Prop := lifeReclaimsRow.holds Tryd.pinned (OpenSpec.ofChange lifeReclaimsWrong)

/- THE SECOND FORM. 'bulk': how many values and letters a reading holds, each counted each time it is reached (what is shared counts as often as it is met; a slice's spare places count too). A statement '..UptoSaid' is the law's where the arguments, and the package variables that the reading takes, are together of bulk at most 1048576: NARROWER than '..Said'. Prove '..Said' where nothing that the law and all that it calls make is longer than what came in: it says more and counts as full. Else prove '..UptoSaid'. A law counts once. -/
mutual
def uptoBulk {H : Type} : DataW H → Nat
  | .lit (.string bytes) => bytes.length + 1
  | .lit _ => 1
  | .nil => 1
  | .ptr d => uptoBulk d + 1
  | .slice elems spare => uptoBulkAll elems + uptoBulkAll spare + 1
  | .agg parts => uptoBulkAll parts + 1
  | .iface _ d => uptoBulk d + 1
  | .map entries => uptoBulkEntries entries + 1
  | .held _ => 1
def uptoBulkAll {H : Type} : List (DataW H) → Nat
  | [] => 0
  | d :: r => uptoBulk d + uptoBulkAll r
def uptoBulkEntries {H : Type} : List (Lit × DataW H) → Nat
  | [] => 0
  | x :: r => uptoBulkEntry x + uptoBulkEntries r
def uptoBulkEntry {H : Type} : Lit × DataW H → Nat
  | (.string bytes, d) => bytes.length + uptoBulk d + 1
  | (_, d) => uptoBulk d + 1
 end
def uptoSmall : (H : Type) → List (DataW H) → Bool := fun _ ds => decide (uptoBulkAll ds ≤ 1048576)
def OpenSpec.upto (s : _root_.Go.ChangeSpec) : _root_.Go.OpenSpec := { _root_.Go.OpenSpec.ofChange s with cond := some uptoSmall }

/-- 'wardenlaw10.CpuFaults', WHERE WHAT IT READS IS OF BULK AT MOST 1048576: true; the input reads as it did. -/
def cpuFaultsUptoRow : OpenClaim := { program := "ytimjnajdpccjdaadoor", sum := "90fd8849e3562b33f00bd2c6ec83f1b0216df74f5069a1b63157fab6aca7e87a", func := "warden/wardenlaw10.CpuFaults", spec := "cpuFaults", unfollowed := true, recurses := true, named := ["warden/isa.uses", "warden/cpu.groups"], apart := false, laid := [("warden/isa.uses", laid_warden_isa_uses), ("warden/cpu.groups", laid_warden_cpu_groups)], narrowed := true }
def CpuFaultsUptoSaid : Prop := cpuFaultsUptoRow.holds Tryd.pinned (OpenSpec.upto cpuFaultsSpec)

/-- 'wardenlaw10.CpuLocal', WHERE WHAT IT READS IS OF BULK AT MOST 1048576: true; the input reads as it did. -/
def cpuLocalUptoRow : OpenClaim := { program := "ytimjnajdpccjdaadoor", sum := "90fd8849e3562b33f00bd2c6ec83f1b0216df74f5069a1b63157fab6aca7e87a", func := "warden/wardenlaw10.CpuLocal", spec := "cpuLocal", unfollowed := true, recurses := true, named := ["warden/isa.uses", "warden/cpu.groups"], apart := false, laid := [("warden/isa.uses", laid_warden_isa_uses), ("warden/cpu.groups", laid_warden_cpu_groups)], narrowed := true }
def CpuLocalUptoSaid : Prop := cpuLocalUptoRow.holds Tryd.pinned (OpenSpec.upto cpuLocalSpec)

/-- 'wardenlaw10.CpuPieces', WHERE WHAT IT READS IS OF BULK AT MOST 1048576: true; the input reads as it did. -/
def cpuPiecesUptoRow : OpenClaim := { program := "ytimjnajdpccjdaadoor", sum := "90fd8849e3562b33f00bd2c6ec83f1b0216df74f5069a1b63157fab6aca7e87a", func := "warden/wardenlaw10.CpuPieces", spec := "cpuPieces", unfollowed := true, recurses := true, named := ["warden/isa.uses", "warden/cpu.groups"], apart := false, laid := [("warden/isa.uses", laid_warden_isa_uses), ("warden/cpu.groups", laid_warden_cpu_groups)], narrowed := true }
def CpuPiecesUptoSaid : Prop := cpuPiecesUptoRow.holds Tryd.pinned (OpenSpec.upto cpuPiecesSpec)

/-- 'wardenlaw18.LifeKeeps', WHERE WHAT IT READS IS OF BULK AT MOST 1048576: true; the input reads as it did. -/
def lifeKeepsUptoRow : OpenClaim := { program := "ytimjnajdpccjdaadoor", sum := "90fd8849e3562b33f00bd2c6ec83f1b0216df74f5069a1b63157fab6aca7e87a", func := "warden/wardenlaw18.LifeKeeps", spec := "lifeKeeps", unfollowed := true, recurses := true, named := ["warden/sha.rounds"], apart := false, laid := [("warden/sha.rounds", laid_warden_sha_rounds)], narrowed := true }
def LifeKeepsUptoSaid : Prop := lifeKeepsUptoRow.holds Tryd.pinned (OpenSpec.upto lifeKeepsSpec)

/-- 'wardenlaw18.LifeRefuses', WHERE WHAT IT READS IS OF BULK AT MOST 1048576: true; the input reads as it did. -/
def lifeRefusesUptoRow : OpenClaim := { program := "ytimjnajdpccjdaadoor", sum := "90fd8849e3562b33f00bd2c6ec83f1b0216df74f5069a1b63157fab6aca7e87a", func := "warden/wardenlaw18.LifeRefuses", spec := "lifeRefuses", unfollowed := true, recurses := true, named := ["warden/sha.rounds"], apart := false, laid := [("warden/sha.rounds", laid_warden_sha_rounds)], narrowed := true }
def LifeRefusesUptoSaid : Prop := lifeRefusesUptoRow.holds Tryd.pinned (OpenSpec.upto lifeRefusesSpec)

/-- 'wardenlaw18.LifeMeasures', WHERE WHAT IT READS IS OF BULK AT MOST 1048576: true; the input reads as it did. -/
def lifeMeasuresUptoRow : OpenClaim := { program := "ytimjnajdpccjdaadoor", sum := "90fd8849e3562b33f00bd2c6ec83f1b0216df74f5069a1b63157fab6aca7e87a", func := "warden/wardenlaw18.LifeMeasures", spec := "lifeMeasures", unfollowed := true, recurses := true, named := ["warden/sha.rounds"], apart := false, laid := [("warden/sha.rounds", laid_warden_sha_rounds)], narrowed := true }
def LifeMeasuresUptoSaid : Prop := lifeMeasuresUptoRow.holds Tryd.pinned (OpenSpec.upto lifeMeasuresSpec)

/-- 'wardenlaw18.LifeReclaims', WHERE WHAT IT READS IS OF BULK AT MOST 1048576: true; the input reads as it did. -/
def lifeReclaimsUptoRow : OpenClaim := { program := "ytimjnajdpccjdaadoor", sum := "90fd8849e3562b33f00bd2c6ec83f1b0216df74f5069a1b63157fab6aca7e87a", func := "warden/wardenlaw18.LifeReclaims", spec := "lifeReclaims", unfollowed := true, recurses := true, named := ["warden/sha.rounds"], apart := false, laid := [("warden/sha.rounds", laid_warden_sha_rounds)], narrowed := true }
def LifeReclaimsUptoSaid : Prop := lifeReclaimsUptoRow.holds Tryd.pinned (OpenSpec.upto lifeReclaimsSpec)

end Rows
end Go.Proofs.YtimjnajdpccjdaaDoor
