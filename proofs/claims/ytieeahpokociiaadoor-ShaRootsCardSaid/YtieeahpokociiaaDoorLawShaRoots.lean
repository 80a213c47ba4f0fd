/- The statement ShaRoots. No condition. -/
import Derived.Test.YtieeahpokociiaaDoorCards
import Derived.Test.YtieeahpokociiaaDoorTie
import Derived.Deep.DeepHandedRow
import Derived.Test.YtieeahpokociiaaDoorSxD
import Derived.Test.YtieeahpokociiaaDoorRows
import Derived.WalkKit
import Derived.ProofKit
import Derived.OpenShut
import Derived.ShutString
import Derived.ChangeOld
import Derived.Below
import Derived.Test.YtieeahpokociiaaDoorSxD
import Derived.Test.YtieeahpokociiaaDoorShaR
namespace Go.Proofs.YtieeahpokociiaaDoor.lawShaRoots
open Go.ChangeShapes Go.WideShapes Go.ChangeAt Go.RowKit
open Go.ChangeMaps (open_string shut_string)
set_option linter.unusedVariables false
theorem own : ownKnob Tryd.prog.godebug = none := by kernel_rfl
theorem laidOut : laidOutB Tryd.prog = true := by kernel_rfl

noncomputable def ty2 : TypeId := ((Tryd.prog.globals[2]?).map (·.type)).getD 0
noncomputable def ty1 : TypeId := ((Tryd.prog.globals[1]?).map (·.type)).getD 0
noncomputable def ty0 : TypeId := ((Tryd.prog.globals[0]?).map (·.type)).getD 0
theorem hglob {W : World} (h : laidMetH Tryd.prog Rows.shaRootsRow.laid W) : Sx.Globs W (fun _ => False) := by
  have h : laidMet Tryd.prog Rows.shaRootsRow.laid W := h
  exact Sx.globs_of ⟨Sx.laid_glob (t := ty2) (d := Rows.laid_warden_sha_rounds) h (List.mem_of_getElem? (i := 0) rfl) (by kernel_rfl) (by kernel_rfl) (by kernel_rfl), Sx.laid_glob (t := ty1) (d := Rows.laid_warden_wardenref02_primes) h (List.mem_of_getElem? (i := 1) rfl) (by kernel_rfl) (by kernel_rfl) (by kernel_rfl), Sx.laid_glob (t := ty0) (d := Rows.laid_warden_wardenref02_K) h (List.mem_of_getElem? (i := 2) rfl) (by kernel_rfl) (by kernel_rfl) (by kernel_rfl), trivial⟩
/-- A world for the witness: the variables hold what the program's text lays. -/
noncomputable def laidWorld (os : Os) : World :=
  { World.holding Tryd.prog os ⟨#[], #[], []⟩ with heap := ((((World.holding Tryd.prog os ⟨#[], #[], []⟩).heap.modify 2 (fun o => match o with | Obj.cells _ t fr => Obj.cells (Sx.cellsL Sx.Num.zero ((List.lookup 2 Sx.globs).getD [])).toArray t fr | o => o)).modify 1 (fun o => match o with | Obj.cells _ t fr => Obj.cells (Sx.cellsL Sx.Num.zero ((List.lookup 1 Sx.globs).getD [])).toArray t fr | o => o)).modify 0 (fun o => match o with | Obj.cells _ t fr => Obj.cells (Sx.cellsL Sx.Num.zero ((List.lookup 0 Sx.globs).getD [])).toArray t fr | o => o)) }
theorem laid_met (os : Os) : laidMet Tryd.prog Rows.shaRootsRow.laid ((laidWorld os).forCall (fun _ _ => 0) ⟨#[], #[], []⟩).memory :=
  laidMet_of_run' 8 (by kernel_rfl) (by kernel_rfl)
theorem reads (os : Os) {H : Type} (enc : TypeId × Value → H) : ∃ x, DataW.whole enc Tryd.prog ((laidWorld os).forCall (fun _ _ => 0) ⟨#[], #[], []⟩).memory Tryd.f3.params.toList Rows.shaRootsSpec.vars false (#[] : Array Value).toList 12 = some x ∧ true = true := by
  have h : (DataW.whole enc Tryd.prog ((laidWorld os).forCall (fun _ _ => 0) ⟨#[], #[], []⟩).memory Tryd.f3.params.toList Rows.shaRootsSpec.vars false (#[] : Array Value).toList 12).map (fun x => true) = some true := by kernel_rfl
  obtain ⟨x, hx, hk⟩ := Option.map_eq_some_iff.1 h
  exact ⟨x, hx, hk⟩

set_option maxRecDepth 100000 in
theorem lifted (os : Os) (started : os.Started) (H : Type) (enc : TypeId × Value → H) (F : Stop.Interp) :
    ReturnsInHanded {} Tryd.checked os 3 .any ((OpenSpec.ofChange Rows.shaRootsSpec).preRow enc Tryd.prog Tryd.f3 Rows.shaRootsRow.domain false Rows.shaRootsRow.laid) (((OpenSpec.ofChange Rows.shaRootsSpec).at F).post enc Tryd.prog Tryd.f3 false true false false) := by
  obtain ⟨x, hx, hsm⟩ := reads os enc
  refine returnsInHanded_of_row (C := Tryd.checked) (s := OpenSpec.ofChange Rows.shaRootsSpec) own started (by kernel_rfl) Tryd.func3
    (witness_row_at (enc := enc) (C := Tryd.checked) false (laidWorld os) #[] rfl (by kernel_rfl) (by kernel_rfl) (by kernel_rfl)
      (OpenSpec.preRow_of_cond 12 hx (by kernel_rfl) (fun k hk => by cases hk) (by kernel_rfl) (laid_met os))) ?_
  intro W base args ds gs before hval0 hW hcnd hk0 _ hL _ _
  have hglob := hglob hL
  have hval : ∀ (j : Nat) t v, Tryd.f3.params[j]? = some t → args[j]? = some v → Value.okWide Tryd.prog W .any base t v := hval0
  have hW' := hW
  obtain ⟨p, q, hA0, hV, rfl, hfz, hnd⟩ := hW
  have hA : DataW.TrodAll enc Tryd.prog W 0 (fun _ => true) true Tryd.f3.params.toList args.toList ds p := hA0
  rw [Tryd.params3] at hA hval
  obtain ⟨hargs, rfl, rfl⟩ := trodAll_nil hA
  obtain rfl : args = #[] := by cases args; simp_all
  obtain ⟨rfl, rfl⟩ := trodVars_none hV
  clear hA0 hval0 hval hfz hnd hcnd
  have fin : Calls Tryd.prog 3 #[] W fun e w' => e = .returned (.bool true) ∧ Below W.heap.size W w' := by
    exact pure_law (ShaRootsL_ok  ) W hglob (by repeat (first | trivial | assumption | exact ⟨by assumption, by assumption⟩ | apply And.intro))
  refine fin.mono fun e W' ⟨he, bel⟩ => ?_
  subst he
  exact ⟨_, rfl, _, _, _, [], _, [], hW', trodAll_mk1 (shut_bool Tryd.underlying4 _), trodAll_mk0, rfl, bel.frame _, fun h => by cases h⟩

theorem over : Rows.ShaRootsSaid :=
  OpenClaim.holds_of_cond 3 Tryd.f3 rfl rfl rfl rfl rfl rfl rfl ⟨rfl, rfl, rfl, rfl, rfl⟩ rfl rfl rfl rfl rfl (by kernel_rfl) Tryd.func3 (by kernel_rfl)
    (of_decide_eq_true (by kernel_rfl)) (by unfold Func.isWrapper; first | (rw [if_pos (by decide +kernel)]; kernel_rfl) | (rw [if_neg (by decide +kernel)]; exact ⟨rfl, rfl⟩))
    (fun os started H enc _ F => by rw [OpenClaim.pre_eq_preRow]; exact lifted os started H enc F)

theorem plain (f : FuncId) (fn : Func) (hf : Tryd.pinned.checked.prog.funcNamed "warden/wardenlaw02.ShaRoots" = some f) (hfn : Tryd.pinned.checked.prog.funcs[f]? = some fn) :
    false = Tryd.pinned.checked.prog.looks [] ∧ ∀ (j : Nat) t, fn.params[j]? = some t → Tryd.pinned.checked.prog.wantsStandIn t = false := by
  obtain rfl : f = 3 := Option.some.inj ((show Tryd.prog.funcNamed "warden/wardenlaw02.ShaRoots" = some 3 by kernel_rfl).symm.trans hf) |>.symm
  obtain rfl : fn = Tryd.f3 := (Option.some.inj (Tryd.func3.symm.trans hfn)).symm
  refine ⟨by kernel_rfl, fun j t ht => ?_⟩
  have all : ∀ x ∈ Tryd.f3.params.toList, Tryd.prog.wantsStandIn x = false := by
    have h : (Tryd.f3.params.toList.all fun x => !Tryd.prog.wantsStandIn x) = true := by kernel_rfl
    intro x hx
    simpa using List.all_eq_true.1 h x hx
  exact all t (Array.mem_toList_iff.2 (Array.mem_of_getElem? ht))

/-- THE STATEMENT: the card -/
theorem proved : Rows.ShaRootsCardSaid :=
  Claim7.holds_tied_plain_at .later [] _ _ _ _ over (fun _ h => by cases h) (by kernel_rfl) (fun _ h => by cases h) shaRoots_row_tie rfl ⟨rfl, rfl⟩ (by kernel_rfl) rfl plain (by kernel_rfl)
#print axioms proved
end Go.Proofs.YtieeahpokociiaaDoor.lawShaRoots
