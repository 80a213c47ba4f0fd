/- A secure page's frame. No condition. -/
import Derived.Test.YtlndkfcnfhkbkaaWkM
namespace Go.Proofs.Ytlndkfcnfhkbkaa
open Go.RowKit Sx
set_option linter.unusedVariables false
set_option linter.unusedSimpArgs false
noncomputable def pt_Wq : List (Nat × (List SV → Option (List Prop × SV))) := []
theorem pt_Wq_ok : PureOK Try.prog (fun f => List.lookup f pt_Wq) := pure_list pt_Wq trivial
noncomputable abbrev cx_Wq (must : Nat → Option Bool := fun _ => none) (loop : Nat → SS → Option LoopSpec := fun _ _ => none) (fz : Nat → SS → List Nat := fun _ _ => []) (on : Bool := false) : Ctx := ⟨tab, inl tab (fun f => List.lookup f pt_Wq) fns (fun _ => {}) 1000 4, fun f => List.lookup f pt_Wq, must, loop, 0, 0, fun _ => none, fz, on⟩
theorem cx_Wq_ok (must : Nat → Option Bool) (loop : Nat → SS → Option LoopSpec) (fz : Nat → SS → List Nat) (on : Bool) : CxOK Try.prog (cx_Wq must loop fz on) := inl_ok mixed tab_ok pt_Wq_ok fns_ok 4 _ _ _ _ _ _
theorem secured_ok (l : Int)  : PureSem Try.prog 87 [.int .i64 l] (.agg [.bool true, .int .i64 l]) := by
  refine pure_intro mixed (cx_Wq_ok (fun _ => none) (fun _ _ => none) (fun _ _ => []) false) Try.func87 1000 rfl rfl ?_
  refine of_nf (p := true = true /\ l = l /\ True) (by kernel_rfl) ?_
  repeat' (first | with_reducible rfl | exact True.intro | apply And.intro | intro _h)
end Go.Proofs.Ytlndkfcnfhkbkaa
