/- A memory's pages copied. No condition beyond lengths. -/
import Derived.Test.YtlndkfcnfhkbkaaMemD
namespace Go.Proofs.Ytlndkfcnfhkbkaa
open Go.RowKit Sx
set_option linter.unusedVariables false
set_option linter.unusedSimpArgs false
set_option maxRecDepth 100000
set_option maxHeartbeats 4000000
noncomputable def c_cpTS : ECon := ECon.or c_atT c_atTS
theorem c_cpTS_e : EEntry Try.prog 93 c_cpTS := EEntry.or c_atT_e c_atTS_e
noncomputable def pt_ccTS : List (Nat × (List SV → Option (List Prop × SV))) := []
theorem pt_ccTS_ok : PureOK Try.prog (fun f => List.lookup f pt_ccTS) := pure_list pt_ccTS trivial
noncomputable def et_ccTS : List (Nat × ECon) := [(93, c_cpTS)]
theorem et_ccTS_ok : ConOK Try.prog (fun f => List.lookup f et_ccTS) := con_list et_ccTS ⟨c_cpTS_e, trivial⟩
noncomputable abbrev cx_ccTS (must : Nat → Option Bool := fun _ => none) (loop : Nat → SS → Option LoopSpec := fun _ _ => none) : Ctx := ⟨tab, inlC tab (fun f => List.lookup f pt_ccTS) (fun f => List.lookup f et_ccTS) fns (fun _ => {}) 1000 4, fun f => List.lookup f pt_ccTS, must, loop, 0, 0, fun f => List.lookup f et_ccTS⟩
theorem cx_ccTS_ok (must : Nat → Option Bool) (loop : Nat → SS → Option LoopSpec) : CxOK Try.prog (cx_ccTS must loop) := inlC_ok mixed tab_ok pt_ccTS_ok et_ccTS_ok fns_ok 4 _ _ _ _
noncomputable def c_cpTT : ECon := ECon.or c_atT c_atTT
theorem c_cpTT_e : EEntry Try.prog 93 c_cpTT := EEntry.or c_atT_e c_atTT_e
noncomputable def pt_ccTT : List (Nat × (List SV → Option (List Prop × SV))) := []
theorem pt_ccTT_ok : PureOK Try.prog (fun f => List.lookup f pt_ccTT) := pure_list pt_ccTT trivial
noncomputable def et_ccTT : List (Nat × ECon) := [(93, c_cpTT)]
theorem et_ccTT_ok : ConOK Try.prog (fun f => List.lookup f et_ccTT) := con_list et_ccTT ⟨c_cpTT_e, trivial⟩
noncomputable abbrev cx_ccTT (must : Nat → Option Bool := fun _ => none) (loop : Nat → SS → Option LoopSpec := fun _ _ => none) : Ctx := ⟨tab, inlC tab (fun f => List.lookup f pt_ccTT) (fun f => List.lookup f et_ccTT) fns (fun _ => {}) 1000 4, fun f => List.lookup f pt_ccTT, must, loop, 0, 0, fun f => List.lookup f et_ccTT⟩
theorem cx_ccTT_ok (must : Nat → Option Bool) (loop : Nat → SS → Option LoopSpec) : CxOK Try.prog (cx_ccTT must loop) := inlC_ok mixed tab_ok pt_ccTT_ok et_ccTT_ok fns_ok 4 _ _ _ _
noncomputable def c_cpTF : ECon := ECon.or c_atT c_atTF
theorem c_cpTF_e : EEntry Try.prog 93 c_cpTF := EEntry.or c_atT_e c_atTF_e
noncomputable def pt_ccTF : List (Nat × (List SV → Option (List Prop × SV))) := []
theorem pt_ccTF_ok : PureOK Try.prog (fun f => List.lookup f pt_ccTF) := pure_list pt_ccTF trivial
noncomputable def et_ccTF : List (Nat × ECon) := [(93, c_cpTF)]
theorem et_ccTF_ok : ConOK Try.prog (fun f => List.lookup f et_ccTF) := con_list et_ccTF ⟨c_cpTF_e, trivial⟩
noncomputable abbrev cx_ccTF (must : Nat → Option Bool := fun _ => none) (loop : Nat → SS → Option LoopSpec := fun _ _ => none) : Ctx := ⟨tab, inlC tab (fun f => List.lookup f pt_ccTF) (fun f => List.lookup f et_ccTF) fns (fun _ => {}) 1000 4, fun f => List.lookup f pt_ccTF, must, loop, 0, 0, fun f => List.lookup f et_ccTF⟩
theorem cx_ccTF_ok (must : Nat → Option Bool) (loop : Nat → SS → Option LoopSpec) : CxOK Try.prog (cx_ccTF must loop) := inlC_ok mixed tab_ok pt_ccTF_ok et_ccTF_ok fns_ok 4 _ _ _ _
noncomputable def c_cpTN : ECon := ECon.or c_atT c_atTN
theorem c_cpTN_e : EEntry Try.prog 93 c_cpTN := EEntry.or c_atT_e c_atTN_e
noncomputable def pt_ccTN : List (Nat × (List SV → Option (List Prop × SV))) := []
theorem pt_ccTN_ok : PureOK Try.prog (fun f => List.lookup f pt_ccTN) := pure_list pt_ccTN trivial
noncomputable def et_ccTN : List (Nat × ECon) := [(93, c_cpTN)]
theorem et_ccTN_ok : ConOK Try.prog (fun f => List.lookup f et_ccTN) := con_list et_ccTN ⟨c_cpTN_e, trivial⟩
noncomputable abbrev cx_ccTN (must : Nat → Option Bool := fun _ => none) (loop : Nat → SS → Option LoopSpec := fun _ _ => none) : Ctx := ⟨tab, inlC tab (fun f => List.lookup f pt_ccTN) (fun f => List.lookup f et_ccTN) fns (fun _ => {}) 1000 4, fun f => List.lookup f pt_ccTN, must, loop, 0, 0, fun f => List.lookup f et_ccTN⟩
theorem cx_ccTN_ok (must : Nat → Option Bool) (loop : Nat → SS → Option LoopSpec) : CxOK Try.prog (cx_ccTN must loop) := inlC_ok mixed tab_ok pt_ccTN_ok et_ccTN_ok fns_ok 4 _ _ _ _
noncomputable def c_cpFS : ECon := ECon.or c_atF c_atFS
theorem c_cpFS_e : EEntry Try.prog 93 c_cpFS := EEntry.or c_atF_e c_atFS_e
noncomputable def pt_ccFS : List (Nat × (List SV → Option (List Prop × SV))) := []
theorem pt_ccFS_ok : PureOK Try.prog (fun f => List.lookup f pt_ccFS) := pure_list pt_ccFS trivial
noncomputable def et_ccFS : List (Nat × ECon) := [(93, c_cpFS)]
theorem et_ccFS_ok : ConOK Try.prog (fun f => List.lookup f et_ccFS) := con_list et_ccFS ⟨c_cpFS_e, trivial⟩
noncomputable abbrev cx_ccFS (must : Nat → Option Bool := fun _ => none) (loop : Nat → SS → Option LoopSpec := fun _ _ => none) : Ctx := ⟨tab, inlC tab (fun f => List.lookup f pt_ccFS) (fun f => List.lookup f et_ccFS) fns (fun _ => {}) 1000 4, fun f => List.lookup f pt_ccFS, must, loop, 0, 0, fun f => List.lookup f et_ccFS⟩
theorem cx_ccFS_ok (must : Nat → Option Bool) (loop : Nat → SS → Option LoopSpec) : CxOK Try.prog (cx_ccFS must loop) := inlC_ok mixed tab_ok pt_ccFS_ok et_ccFS_ok fns_ok 4 _ _ _ _
noncomputable def c_cpFF : ECon := ECon.or c_atF c_atFF
theorem c_cpFF_e : EEntry Try.prog 93 c_cpFF := EEntry.or c_atF_e c_atFF_e
noncomputable def pt_ccFF : List (Nat × (List SV → Option (List Prop × SV))) := []
theorem pt_ccFF_ok : PureOK Try.prog (fun f => List.lookup f pt_ccFF) := pure_list pt_ccFF trivial
noncomputable def et_ccFF : List (Nat × ECon) := [(93, c_cpFF)]
theorem et_ccFF_ok : ConOK Try.prog (fun f => List.lookup f et_ccFF) := con_list et_ccFF ⟨c_cpFF_e, trivial⟩
noncomputable abbrev cx_ccFF (must : Nat → Option Bool := fun _ => none) (loop : Nat → SS → Option LoopSpec := fun _ _ => none) : Ctx := ⟨tab, inlC tab (fun f => List.lookup f pt_ccFF) (fun f => List.lookup f et_ccFF) fns (fun _ => {}) 1000 4, fun f => List.lookup f pt_ccFF, must, loop, 0, 0, fun f => List.lookup f et_ccFF⟩
theorem cx_ccFF_ok (must : Nat → Option Bool) (loop : Nat → SS → Option LoopSpec) : CxOK Try.prog (cx_ccFF must loop) := inlC_ok mixed tab_ok pt_ccFF_ok et_ccFF_ok fns_ok 4 _ _ _ _
noncomputable def c_cpFT : ECon := ECon.or c_atF c_atFT
theorem c_cpFT_e : EEntry Try.prog 93 c_cpFT := EEntry.or c_atF_e c_atFT_e
noncomputable def pt_ccFT : List (Nat × (List SV → Option (List Prop × SV))) := []
theorem pt_ccFT_ok : PureOK Try.prog (fun f => List.lookup f pt_ccFT) := pure_list pt_ccFT trivial
noncomputable def et_ccFT : List (Nat × ECon) := [(93, c_cpFT)]
theorem et_ccFT_ok : ConOK Try.prog (fun f => List.lookup f et_ccFT) := con_list et_ccFT ⟨c_cpFT_e, trivial⟩
noncomputable abbrev cx_ccFT (must : Nat → Option Bool := fun _ => none) (loop : Nat → SS → Option LoopSpec := fun _ _ => none) : Ctx := ⟨tab, inlC tab (fun f => List.lookup f pt_ccFT) (fun f => List.lookup f et_ccFT) fns (fun _ => {}) 1000 4, fun f => List.lookup f pt_ccFT, must, loop, 0, 0, fun f => List.lookup f et_ccFT⟩
theorem cx_ccFT_ok (must : Nat → Option Bool) (loop : Nat → SS → Option LoopSpec) : CxOK Try.prog (cx_ccFT must loop) := inlC_ok mixed tab_ok pt_ccFT_ok et_ccFT_ok fns_ok 4 _ _ _ _
noncomputable def c_cpFN : ECon := ECon.or c_atF c_atFN
theorem c_cpFN_e : EEntry Try.prog 93 c_cpFN := EEntry.or c_atF_e c_atFN_e
noncomputable def pt_ccFN : List (Nat × (List SV → Option (List Prop × SV))) := []
theorem pt_ccFN_ok : PureOK Try.prog (fun f => List.lookup f pt_ccFN) := pure_list pt_ccFN trivial
noncomputable def et_ccFN : List (Nat × ECon) := [(93, c_cpFN)]
theorem et_ccFN_ok : ConOK Try.prog (fun f => List.lookup f et_ccFN) := con_list et_ccFN ⟨c_cpFN_e, trivial⟩
noncomputable abbrev cx_ccFN (must : Nat → Option Bool := fun _ => none) (loop : Nat → SS → Option LoopSpec := fun _ _ => none) : Ctx := ⟨tab, inlC tab (fun f => List.lookup f pt_ccFN) (fun f => List.lookup f et_ccFN) fns (fun _ => {}) 1000 4, fun f => List.lookup f pt_ccFN, must, loop, 0, 0, fun f => List.lookup f et_ccFN⟩
theorem cx_ccFN_ok (must : Nat → Option Bool) (loop : Nat → SS → Option LoopSpec) : CxOK Try.prog (cx_ccFN must loop) := inlC_ok mixed tab_ok pt_ccFN_ok et_ccFN_ok fns_ok 4 _ _ _ _
noncomputable def c_cpNT : ECon := ECon.or c_atN c_atNT
theorem c_cpNT_e : EEntry Try.prog 93 c_cpNT := EEntry.or c_atN_e c_atNT_e
noncomputable def pt_ccNT : List (Nat × (List SV → Option (List Prop × SV))) := []
theorem pt_ccNT_ok : PureOK Try.prog (fun f => List.lookup f pt_ccNT) := pure_list pt_ccNT trivial
noncomputable def et_ccNT : List (Nat × ECon) := [(93, c_cpNT)]
theorem et_ccNT_ok : ConOK Try.prog (fun f => List.lookup f et_ccNT) := con_list et_ccNT ⟨c_cpNT_e, trivial⟩
noncomputable abbrev cx_ccNT (must : Nat → Option Bool := fun _ => none) (loop : Nat → SS → Option LoopSpec := fun _ _ => none) : Ctx := ⟨tab, inlC tab (fun f => List.lookup f pt_ccNT) (fun f => List.lookup f et_ccNT) fns (fun _ => {}) 1000 4, fun f => List.lookup f pt_ccNT, must, loop, 0, 0, fun f => List.lookup f et_ccNT⟩
theorem cx_ccNT_ok (must : Nat → Option Bool) (loop : Nat → SS → Option LoopSpec) : CxOK Try.prog (cx_ccNT must loop) := inlC_ok mixed tab_ok pt_ccNT_ok et_ccNT_ok fns_ok 4 _ _ _ _
noncomputable def c_cpNF : ECon := ECon.or c_atN c_atNF
theorem c_cpNF_e : EEntry Try.prog 93 c_cpNF := EEntry.or c_atN_e c_atNF_e
noncomputable def pt_ccNF : List (Nat × (List SV → Option (List Prop × SV))) := []
theorem pt_ccNF_ok : PureOK Try.prog (fun f => List.lookup f pt_ccNF) := pure_list pt_ccNF trivial
noncomputable def et_ccNF : List (Nat × ECon) := [(93, c_cpNF)]
theorem et_ccNF_ok : ConOK Try.prog (fun f => List.lookup f et_ccNF) := con_list et_ccNF ⟨c_cpNF_e, trivial⟩
noncomputable abbrev cx_ccNF (must : Nat → Option Bool := fun _ => none) (loop : Nat → SS → Option LoopSpec := fun _ _ => none) : Ctx := ⟨tab, inlC tab (fun f => List.lookup f pt_ccNF) (fun f => List.lookup f et_ccNF) fns (fun _ => {}) 1000 4, fun f => List.lookup f pt_ccNF, must, loop, 0, 0, fun f => List.lookup f et_ccNF⟩
theorem cx_ccNF_ok (must : Nat → Option Bool) (loop : Nat → SS → Option LoopSpec) : CxOK Try.prog (cx_ccNF must loop) := inlC_ok mixed tab_ok pt_ccNF_ok et_ccNF_ok fns_ok 4 _ _ _ _
noncomputable def c_cpNN : ECon := ECon.or c_atN c_atNN
theorem c_cpNN_e : EEntry Try.prog 93 c_cpNN := EEntry.or c_atN_e c_atNN_e
noncomputable def pt_ccNN : List (Nat × (List SV → Option (List Prop × SV))) := []
theorem pt_ccNN_ok : PureOK Try.prog (fun f => List.lookup f pt_ccNN) := pure_list pt_ccNN trivial
noncomputable def et_ccNN : List (Nat × ECon) := [(93, c_cpNN)]
theorem et_ccNN_ok : ConOK Try.prog (fun f => List.lookup f et_ccNN) := con_list et_ccNN ⟨c_cpNN_e, trivial⟩
noncomputable abbrev cx_ccNN (must : Nat → Option Bool := fun _ => none) (loop : Nat → SS → Option LoopSpec := fun _ _ => none) : Ctx := ⟨tab, inlC tab (fun f => List.lookup f pt_ccNN) (fun f => List.lookup f et_ccNN) fns (fun _ => {}) 1000 4, fun f => List.lookup f pt_ccNN, must, loop, 0, 0, fun f => List.lookup f et_ccNN⟩
theorem cx_ccNN_ok (must : Nat → Option Bool) (loop : Nat → SS → Option LoopSpec) : CxOK Try.prog (cx_ccNN must loop) := inlC_ok mixed tab_ok pt_ccNN_ok et_ccNN_ok fns_ok 4 _ _ _ _
end Go.Proofs.Ytlndkfcnfhkbkaa
