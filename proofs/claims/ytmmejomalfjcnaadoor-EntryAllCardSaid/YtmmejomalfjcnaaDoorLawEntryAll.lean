/- The statement EntryAll. No condition. -/
import Derived.Test.YtmmejomalfjcnaaDoorCards
import Derived.Test.YtmmejomalfjcnaaDoorTie
import Derived.Deep.DeepHandedRow
import Derived.Test.YtmmejomalfjcnaaDoorSxD
import Derived.Test.YtmmejomalfjcnaaDoorRows
import Derived.WalkKit
import Derived.ProofKit
import Derived.OpenShut
import Derived.ShutString
import Derived.ChangeOld
import Derived.Below
import Derived.Test.YtmmejomalfjcnaaDoorSxD
import Derived.Test.YtmmejomalfjcnaaDoorEnL
namespace Go.Proofs.YtmmejomalfjcnaaDoor.lawEntryAll
open Go.ChangeShapes Go.WideShapes Go.ChangeAt Go.RowKit
open Go.ChangeMaps (open_string shut_string)
set_option linter.unusedVariables false
theorem own : ownKnob Tryd.prog.godebug = none := by kernel_rfl
theorem laidOut : laidOutB Tryd.prog = true := by kernel_rfl
theorem sh0 : Sx.shAt Tryd.prog 8 23 = some [.i .i64, .i .i64, .i .i64, .i .i64, .b] := by kernel_rfl
theorem agg0 : isAggT Tryd.prog 23 = true := by kernel_rfl
theorem sh1 : Sx.shAt Tryd.prog 8 25 = some [.i .u32, .i .u32] := by kernel_rfl
theorem agg1 : isAggT Tryd.prog 25 = true := by kernel_rfl

noncomputable def ty0 : TypeId := ((Tryd.prog.globals[0]?).map (·.type)).getD 0
noncomputable def ty1 : TypeId := ((Tryd.prog.globals[1]?).map (·.type)).getD 0
theorem hglob {W : World} (h : laidMetH Tryd.prog Rows.entryAllRow.laid W) : Sx.Globs W (fun _ => False) := by
  have h : laidMet Tryd.prog Rows.entryAllRow.laid W := h
  exact Sx.globs_of ⟨Sx.laid_glob (t := ty0) (d := Rows.laid_warden_wardenref11_types) h (List.mem_of_getElem? (i := 0) rfl) (by kernel_rfl) (by kernel_rfl) (by kernel_rfl), Sx.laid_glob (t := ty1) (d := Rows.laid_warden_wardenref11_states) h (List.mem_of_getElem? (i := 1) rfl) (by kernel_rfl) (by kernel_rfl) (by kernel_rfl), trivial⟩
/-- A world for the witness: the variables hold what the program's text lays. -/
noncomputable def laidWorld (os : Os) : World :=
  { World.holding Tryd.prog os ⟨#[], #[], []⟩ with heap := (((World.holding Tryd.prog os ⟨#[], #[], []⟩).heap.modify 0 (fun o => match o with | Obj.cells _ t fr => Obj.cells (Sx.cellsL Sx.Num.zero ((List.lookup 0 Sx.globs).getD [])).toArray t fr | o => o)).modify 1 (fun o => match o with | Obj.cells _ t fr => Obj.cells (Sx.cellsL Sx.Num.zero ((List.lookup 1 Sx.globs).getD [])).toArray t fr | o => o)) }
theorem laid_met (os : Os) : laidMet Tryd.prog Rows.entryAllRow.laid ((laidWorld os).forCall (fun _ _ => 0) ⟨#[], #[.agg #[.int .i64 0, .int .i64 0, .int .i64 0, .int .i64 0, .bool false], .agg #[.int .u32 0, .int .u32 0], .int .i64 0], []⟩).memory :=
  laidMet_of_run' 8 (by kernel_rfl) (by kernel_rfl)
theorem reads (os : Os) {H : Type} (enc : TypeId × Value → H) : ∃ ds gs places, DataW.whole enc Tryd.prog ((laidWorld os).forCall (fun _ _ => 0) ⟨#[], #[.agg #[.int .i64 0, .int .i64 0, .int .i64 0, .int .i64 0, .bool false], .agg #[.int .u32 0, .int .u32 0], .int .i64 0], []⟩).memory Tryd.f3.params.toList Rows.entryAllSpec.vars false #[.agg #[.int .i64 0, .int .i64 0, .int .i64 0, .int .i64 0, .bool false], .agg #[.int .u32 0, .int .u32 0], .int .i64 0].toList 12 = some (ds, gs, places) := by
  have h : (DataW.whole enc Tryd.prog ((laidWorld os).forCall (fun _ _ => 0) ⟨#[], #[.agg #[.int .i64 0, .int .i64 0, .int .i64 0, .int .i64 0, .bool false], .agg #[.int .u32 0, .int .u32 0], .int .i64 0], []⟩).memory Tryd.f3.params.toList Rows.entryAllSpec.vars false (#[.agg #[.int .i64 0, .int .i64 0, .int .i64 0, .int .i64 0, .bool false], .agg #[.int .u32 0, .int .u32 0], .int .i64 0] : Array Value).toList 12).isSome = true := by kernel_rfl
  obtain ⟨⟨ds, gs, places⟩, e⟩ := Option.isSome_iff_exists.1 h
  exact ⟨ds, gs, places, e⟩

set_option maxRecDepth 100000 in
theorem lifted (os : Os) (started : os.Started) (H : Type) (enc : TypeId × Value → H) (F : Stop.Interp) :
    ReturnsInHanded {} Tryd.checked os 3 .any ((OpenSpec.ofChange Rows.entryAllSpec).preRow enc Tryd.prog Tryd.f3 Rows.entryAllRow.domain false Rows.entryAllRow.laid) (((OpenSpec.ofChange Rows.entryAllSpec).at F).post enc Tryd.prog Tryd.f3 false true false false) := by
  obtain ⟨ds, gs, places, hx⟩ := reads os enc
  refine returnsInHanded_of_row (C := Tryd.checked) (s := OpenSpec.ofChange Rows.entryAllSpec) own started (by kernel_rfl) Tryd.func3
    (witness_row_at (enc := enc) (C := Tryd.checked) false (laidWorld os) #[.agg #[.int .i64 0, .int .i64 0, .int .i64 0, .int .i64 0, .bool false], .agg #[.int .u32 0, .int .u32 0], .int .i64 0] rfl (by kernel_rfl) (by kernel_rfl) (by kernel_rfl)
      (OpenSpec.preRow_of_cond 12 hx (by kernel_rfl) (fun k hk => by cases hk) (by kernel_rfl) (laid_met os))) ?_
  intro W base args ds gs before hval0 hW hcnd _ _ hL _ _
  have hglob := hglob hL
  have hval : ∀ (j : Nat) t v, Tryd.f3.params[j]? = some t → args[j]? = some v → Value.okWide Tryd.prog W .any base t v := hval0
  have hW' := hW
  obtain ⟨p, q, hA0, hV, rfl, hfz, hnd⟩ := hW
  have hA : DataW.TrodAll enc Tryd.prog W 0 (fun _ => true) true Tryd.f3.params.toList args.toList ds p := hA0
  rw [Tryd.params3] at hA hval
  obtain ⟨v0, vs0, d0, ds0, p0, q0, hargs, rfl, rfl, h0, r0⟩ := trodAll_cons hA
  obtain ⟨v1, vs1, d1, ds1, p1, q1, rfl, rfl, rfl, h1, r1⟩ := trodAll_cons r0
  obtain ⟨v2, vs2, d2, ds2, p2, q2, rfl, rfl, rfl, h2, r2⟩ := trodAll_cons r1
  obtain ⟨rfl, rfl, rfl⟩ := trodAll_nil r2
  obtain rfl : args = #[v0, v1, v2] := by cases args; simp_all
  obtain ⟨rfl, rfl⟩ := trodVars_none hV
  have k0 := h0
  have lt0 : ∀ x ∈ p0, x.block < W.heap.size := by obtain ⟨m, hm⟩ := k0; exact DataW.trod_lt m _ _ _ hm
  have o0 := hval 0 _ v0 rfl rfl
  have k1 := h1
  have lt1 : ∀ x ∈ p1, x.block < W.heap.size := by obtain ⟨m, hm⟩ := k1; exact DataW.trod_lt m _ _ _ hm
  have o1 := hval 1 _ v1 rfl rfl
  have k2 := h2
  have lt2 : ∀ x ∈ p2, x.block < W.heap.size := by obtain ⟨m, hm⟩ := k2; exact DataW.trod_lt m _ _ _ hm
  have o2 := hval 2 _ v2 rfl rfl
  clear hA0 hval0 hval hfz hnd hcnd
  have fin : Calls Tryd.prog 3 #[v0, v1, v2] W fun e w' => e = .returned (.bool true) ∧ Below W.heap.size W w' := by
    obtain ⟨c0, rfl, s0_0⟩ := open_agg agg0 sh0 o0 h0
    obtain ⟨x0, ds0_1, rfl, i0, s0_1⟩ := Sx.sh_i s0_0
    obtain ⟨x1, ds0_2, rfl, i1, s0_2⟩ := Sx.sh_i s0_1
    obtain ⟨x2, ds0_3, rfl, i2, s0_3⟩ := Sx.sh_i s0_2
    obtain ⟨x3, ds0_4, rfl, i3, s0_4⟩ := Sx.sh_i s0_3
    obtain ⟨x4, ds0_5, rfl, s0_5⟩ := Sx.sh_b s0_4
    obtain rfl := Sx.sh_e s0_5
    obtain ⟨c1, rfl, s1_0⟩ := open_agg agg1 sh1 o1 h1
    obtain ⟨x5, ds1_1, rfl, i5, s1_1⟩ := Sx.sh_i s1_0
    obtain ⟨x6, ds1_2, rfl, i6, s1_2⟩ := Sx.sh_i s1_1
    obtain rfl := Sx.sh_e s1_2
    obtain ⟨x7, rfl, rfl, rfl, w7⟩ := open_int Tryd.underlying3 o2 h2
    have i7 := InK_of_wf w7
    exact pure_law (EntryAllL_ok x0 x1 x2 x3 x4 x5 x6 x7 (i5) (i6)) W hglob (by repeat (first | trivial | assumption | exact ⟨by assumption, by assumption⟩ | apply And.intro))
  refine fin.mono fun e W' ⟨he, bel⟩ => ?_
  subst he
  exact ⟨_, rfl, _, _, _, [], _, [], hW', trodAll_mk1 (shut_bool Tryd.underlying4 _), (trodAll_cons_mk (Below.trod laidOut (by kernel_rfl) (of_decide_eq_true (by kernel_rfl)) k0 bel lt0) (trodAll_cons_mk (Below.trod laidOut (by kernel_rfl) (of_decide_eq_true (by kernel_rfl)) k1 bel lt1) (trodAll_cons_mk (Below.trod laidOut (by kernel_rfl) (of_decide_eq_true (by kernel_rfl)) k2 bel lt2) trodAll_mk0))), rfl, bel.frame _, fun h => by cases h⟩

theorem over : Rows.EntryAllSaid :=
  OpenClaim.holds_of_cond 3 Tryd.f3 rfl rfl rfl rfl rfl rfl rfl ⟨rfl, rfl, rfl, rfl, rfl⟩ rfl rfl rfl rfl rfl (by kernel_rfl) Tryd.func3 (by kernel_rfl)
    (of_decide_eq_true (by kernel_rfl)) (by unfold Func.isWrapper; first | (rw [if_pos (by decide +kernel)]; kernel_rfl) | (rw [if_neg (by decide +kernel)]; exact ⟨rfl, rfl⟩))
    (fun os started H enc _ F => by rw [OpenClaim.pre_eq_preRow]; exact lifted os started H enc F)

theorem plain (f : FuncId) (fn : Func) (hf : Tryd.pinned.checked.prog.funcNamed "warden/wardenlaw11.EntryAll" = some f) (hfn : Tryd.pinned.checked.prog.funcs[f]? = some fn) :
    false = Tryd.pinned.checked.prog.looks [] ∧ ∀ (j : Nat) t, fn.params[j]? = some t → Tryd.pinned.checked.prog.wantsStandIn t = false := by
  obtain rfl : f = 3 := Option.some.inj ((show Tryd.prog.funcNamed "warden/wardenlaw11.EntryAll" = some 3 by kernel_rfl).symm.trans hf) |>.symm
  obtain rfl : fn = Tryd.f3 := (Option.some.inj (Tryd.func3.symm.trans hfn)).symm
  refine ⟨by kernel_rfl, fun j t ht => ?_⟩
  have all : ∀ x ∈ Tryd.f3.params.toList, Tryd.prog.wantsStandIn x = false := by
    have h : (Tryd.f3.params.toList.all fun x => !Tryd.prog.wantsStandIn x) = true := by kernel_rfl
    intro x hx
    simpa using List.all_eq_true.1 h x hx
  exact all t (Array.mem_toList_iff.2 (Array.mem_of_getElem? ht))

/-- THE STATEMENT: the card -/
theorem proved : Rows.EntryAllCardSaid :=
  Claim7.holds_tied_plain_at .later [] _ _ _ _ over (fun _ h => by cases h) (by kernel_rfl) (fun _ h => by cases h) entryAll_row_tie rfl ⟨rfl, rfl⟩ (by kernel_rfl) rfl plain (by kernel_rfl)
#print axioms proved
end Go.Proofs.YtmmejomalfjcnaaDoor.lawEntryAll
