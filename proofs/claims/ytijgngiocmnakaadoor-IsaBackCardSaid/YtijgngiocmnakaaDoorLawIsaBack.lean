/- The statement IsaBack. No condition. -/
import Derived.Test.YtijgngiocmnakaaDoorCards
import Derived.Test.YtijgngiocmnakaaDoorTie
import Derived.Deep.DeepHandedRow
import Derived.Test.YtijgngiocmnakaaDoorSxD
import Derived.Test.YtijgngiocmnakaaDoorRows
import Derived.WalkKit
import Derived.ProofKit
import Derived.OpenShut
import Derived.ShutString
import Derived.ChangeOld
import Derived.Below
import Derived.Test.YtijgngiocmnakaaDoorSxD
import Derived.Test.YtijgngiocmnakaaDoorIsaLB
namespace Go.Proofs.YtijgngiocmnakaaDoor.lawIsaBack
open Go.ChangeShapes Go.WideShapes Go.ChangeAt Go.RowKit
open Go.ChangeMaps (open_string shut_string)
set_option linter.unusedVariables false
theorem own : ownKnob Tryd.prog.godebug = none := by kernel_rfl
theorem laidOut : laidOutB Tryd.prog = true := by kernel_rfl
theorem sh0 : Sx.shAt Tryd.prog 8 38 = some [.l 1 [.i .u32]] := by kernel_rfl
theorem sh1 : Sx.shAt Tryd.prog 8 37 = some [.l 6 [.i .i64, .i .i64, .i .i64, .i .i64, .i .i64, .i .i32]] := by kernel_rfl

noncomputable def ty0 : TypeId := ((Tryd.prog.globals[0]?).map (·.type)).getD 0
theorem hglob {W : World} (h : laidMetH Tryd.prog Rows.isaBackRow.laid W) : Sx.Globs W (fun _ => False) := by
  have h : laidMet Tryd.prog Rows.isaBackRow.laid W := h
  exact Sx.globs_of ⟨Sx.laid_glob (t := ty0) (d := Rows.laid_warden_isa_uses) h (List.mem_of_getElem? (i := 0) rfl) (by kernel_rfl) (by kernel_rfl) (by kernel_rfl), trivial⟩
/-- A world for the witness: the variables hold what the program's text lays. -/
noncomputable def laidWorld (os : Os) : World :=
  { World.holding Tryd.prog os ⟨#[], #[], []⟩ with heap := ((World.holding Tryd.prog os ⟨#[], #[], []⟩).heap.modify 0 (fun o => match o with | Obj.cells _ t fr => Obj.cells (Sx.cellsL Sx.Num.zero ((List.lookup 0 Sx.globs).getD [])).toArray t fr | o => o)) }
theorem laid_met (os : Os) : laidMet Tryd.prog Rows.isaBackRow.laid ((laidWorld os).forCall (fun _ _ => 0) ⟨#[], #[.slice none 0 0, .slice none 0 0], []⟩).memory :=
  laidMet_of_run' 8 (by kernel_rfl) (by kernel_rfl)
theorem reads (os : Os) {H : Type} (enc : TypeId × Value → H) : ∃ ds gs places, DataW.whole enc Tryd.prog ((laidWorld os).forCall (fun _ _ => 0) ⟨#[], #[.slice none 0 0, .slice none 0 0], []⟩).memory Tryd.f5.params.toList Rows.isaBackSpec.vars false #[.slice none 0 0, .slice none 0 0].toList 12 = some (ds, gs, places) := by
  have h : (DataW.whole enc Tryd.prog ((laidWorld os).forCall (fun _ _ => 0) ⟨#[], #[.slice none 0 0, .slice none 0 0], []⟩).memory Tryd.f5.params.toList Rows.isaBackSpec.vars false (#[.slice none 0 0, .slice none 0 0] : Array Value).toList 12).isSome = true := by kernel_rfl
  obtain ⟨⟨ds, gs, places⟩, e⟩ := Option.isSome_iff_exists.1 h
  exact ⟨ds, gs, places, e⟩

set_option maxRecDepth 100000 in
theorem lifted (os : Os) (started : os.Started) (H : Type) (enc : TypeId × Value → H) (F : Stop.Interp) :
    ReturnsInHanded {} Tryd.checked os 5 .any ((OpenSpec.ofChange Rows.isaBackSpec).preRow enc Tryd.prog Tryd.f5 Rows.isaBackRow.domain false Rows.isaBackRow.laid) (((OpenSpec.ofChange Rows.isaBackSpec).at F).post enc Tryd.prog Tryd.f5 false true false false) := by
  obtain ⟨ds, gs, places, hx⟩ := reads os enc
  refine returnsInHanded_of_row (C := Tryd.checked) (s := OpenSpec.ofChange Rows.isaBackSpec) own started (by kernel_rfl) Tryd.func5
    (witness_row_at (enc := enc) (C := Tryd.checked) false (laidWorld os) #[.slice none 0 0, .slice none 0 0] rfl (by kernel_rfl) (by kernel_rfl) (by kernel_rfl)
      (OpenSpec.preRow_of_cond 12 hx (by kernel_rfl) (fun k hk => by cases hk) (by kernel_rfl) (laid_met os))) ?_
  intro W base args ds gs before hval0 hW hcnd _ _ hL _ _
  have hglob := hglob hL
  have hval : ∀ (j : Nat) t v, Tryd.f5.params[j]? = some t → args[j]? = some v → Value.okWide Tryd.prog W .any base t v := hval0
  have hW' := hW
  obtain ⟨p, q, hA0, hV, rfl, hfz, hnd⟩ := hW
  have hA : DataW.TrodAll enc Tryd.prog W 0 (fun _ => true) true Tryd.f5.params.toList args.toList ds p := hA0
  rw [Tryd.params5] at hA hval
  obtain ⟨v0, vs0, d0, ds0, p0, q0, hargs, rfl, rfl, h0, r0⟩ := trodAll_cons hA
  obtain ⟨v1, vs1, d1, ds1, p1, q1, rfl, rfl, rfl, h1, r1⟩ := trodAll_cons r0
  obtain ⟨rfl, rfl, rfl⟩ := trodAll_nil r1
  obtain rfl : args = #[v0, v1] := by cases args; simp_all
  obtain ⟨rfl, rfl⟩ := trodVars_none hV
  have k0 := h0
  have lt0 : ∀ x ∈ p0, x.block < W.heap.size := by obtain ⟨m, hm⟩ := k0; exact DataW.trod_lt m _ _ _ hm
  have o0 := hval 0 _ v0 rfl rfl
  have k1 := h1
  have lt1 : ∀ x ∈ p1, x.block < W.heap.size := by obtain ⟨m, hm⟩ := k1; exact DataW.trod_lt m _ _ _ hm
  have o1 := hval 1 _ v1 rfl rfl
  clear hA0 hval0 hval hfz hnd hcnd
  have fin : Calls Tryd.prog 5 #[v0, v1] W fun e w' => e = .returned (.bool true) ∧ Below W.heap.size W w' := by
    have s0 := open_one sh0 h0
    obtain ⟨u0, x0, d0, e0, r0, i0, n0, s0_1⟩ := Sx.sh_rd s0
    obtain rfl := Sx.sh_e s0_1
    obtain rfl := cells_one Tryd.underlying38 o0 e0
    have s1 := open_one sh1 h1
    obtain ⟨u1, m1, f1, d1, e1, r1, q1, n1, s1_1⟩ := Sx.sh_rs s1 rfl
    obtain rfl := Sx.sh_e s1_1
    obtain rfl := cells_one Tryd.underlying37 o1 e1
    have key1 : ∀ e, ∃ x : Int × Int × Int × Int × Int × Int, e < m1 → f1 e = Sx.cellsL Sx.Num.zero [.int .i64 (x.1), .int .i64 (x.2.1), .int .i64 (x.2.2.1), .int .i64 (x.2.2.2.1), .int .i64 (x.2.2.2.2.1), .int .i32 (x.2.2.2.2.2)] ∧ (Sx.InK .i64 (x.1)) ∧ (Sx.InK .i64 (x.2.1)) ∧ (Sx.InK .i64 (x.2.2.1)) ∧ (Sx.InK .i64 (x.2.2.2.1)) ∧ (Sx.InK .i64 (x.2.2.2.2.1)) ∧ (Sx.InK .i32 (x.2.2.2.2.2)) := by
      intro e
      by_cases he : e < m1
      · have qq := q1 e he
        generalize f1 e = fe at qq
        obtain ⟨x2, dz1_1, rfl, i2, z1_1⟩ := Sx.sh_i qq
        obtain ⟨x3, dz1_2, rfl, i3, z1_2⟩ := Sx.sh_i z1_1
        obtain ⟨x4, dz1_3, rfl, i4, z1_3⟩ := Sx.sh_i z1_2
        obtain ⟨x5, dz1_4, rfl, i5, z1_4⟩ := Sx.sh_i z1_3
        obtain ⟨x6, dz1_5, rfl, i6, z1_5⟩ := Sx.sh_i z1_4
        obtain ⟨x7, dz1_6, rfl, i7, z1_6⟩ := Sx.sh_i z1_5
        obtain rfl := Sx.sh_e z1_6
        exact ⟨(x2, x3, x4, x5, x6, x7), fun _ => ⟨rfl, i2, i3, i4, i5, i6, i7⟩⟩
      · exact ⟨default, fun h => absurd h he⟩
    obtain ⟨g1, hg1⟩ := Classical.axiomOfChoice key1
    have rr1 := r1.as (g := fun e => Sx.cellsL Sx.Num.zero [.int .i64 ((g1 e).1), .int .i64 ((g1 e).2.1), .int .i64 ((g1 e).2.2.1), .int .i64 ((g1 e).2.2.2.1), .int .i64 ((g1 e).2.2.2.2.1), .int .i32 ((g1 e).2.2.2.2.2)]) (fun e he => (hg1 e he).1)
    have kk1 : ∀ e, e < m1 → Sx.okdL W (fun _ => False) 0 [.int .i64 ((g1 e).1), .int .i64 ((g1 e).2.1), .int .i64 ((g1 e).2.2.1), .int .i64 ((g1 e).2.2.2.1), .int .i64 ((g1 e).2.2.2.2.1), .int .i32 ((g1 e).2.2.2.2.2)] := fun e he => ⟨trivial, trivial, trivial, trivial, trivial, trivial, trivial⟩
    exact pure_law (IsaBackL_ok v0 x0 v1 m1 (fun e => ((g1 e).1)) (fun e => ((g1 e).2.1)) (fun e => ((g1 e).2.2.1)) (fun e => ((g1 e).2.2.2.1)) (fun e => ((g1 e).2.2.2.2.1)) (fun e => ((g1 e).2.2.2.2.2)) (i0) (fun e he => (hg1 e he).2) (by have := n0; simp [Go.maxLen] at this ⊢; omega) (by have := n1; simp [Go.maxLen] at this ⊢; omega)) W hglob (by repeat (first | trivial | assumption | exact ⟨by assumption, by assumption⟩ | apply And.intro))
  refine fin.mono fun e W' ⟨he, bel⟩ => ?_
  subst he
  exact ⟨_, rfl, _, _, _, [], _, [], hW', trodAll_mk1 (shut_bool Tryd.underlying4 _), (trodAll_cons_mk (Below.trod laidOut (by kernel_rfl) (of_decide_eq_true (by kernel_rfl)) k0 bel lt0) (trodAll_cons_mk (Below.trod laidOut (by kernel_rfl) (of_decide_eq_true (by kernel_rfl)) k1 bel lt1) trodAll_mk0)), rfl, bel.frame _, fun h => by cases h⟩

theorem over : Rows.IsaBackSaid :=
  OpenClaim.holds_of_cond 5 Tryd.f5 rfl rfl rfl rfl rfl rfl rfl ⟨rfl, rfl, rfl, rfl, rfl⟩ rfl rfl rfl rfl rfl (by kernel_rfl) Tryd.func5 (by kernel_rfl)
    (of_decide_eq_true (by kernel_rfl)) (by unfold Func.isWrapper; first | (rw [if_pos (by decide +kernel)]; kernel_rfl) | (rw [if_neg (by decide +kernel)]; exact ⟨rfl, rfl⟩))
    (fun os started H enc _ F => by rw [OpenClaim.pre_eq_preRow]; exact lifted os started H enc F)

theorem plain (f : FuncId) (fn : Func) (hf : Tryd.pinned.checked.prog.funcNamed "warden/wardenlaw05.IsaBack" = some f) (hfn : Tryd.pinned.checked.prog.funcs[f]? = some fn) :
    false = Tryd.pinned.checked.prog.looks [] ∧ ∀ (j : Nat) t, fn.params[j]? = some t → Tryd.pinned.checked.prog.wantsStandIn t = false := by
  obtain rfl : f = 5 := Option.some.inj ((show Tryd.prog.funcNamed "warden/wardenlaw05.IsaBack" = some 5 by kernel_rfl).symm.trans hf) |>.symm
  obtain rfl : fn = Tryd.f5 := (Option.some.inj (Tryd.func5.symm.trans hfn)).symm
  refine ⟨by kernel_rfl, fun j t ht => ?_⟩
  have all : ∀ x ∈ Tryd.f5.params.toList, Tryd.prog.wantsStandIn x = false := by
    have h : (Tryd.f5.params.toList.all fun x => !Tryd.prog.wantsStandIn x) = true := by kernel_rfl
    intro x hx
    simpa using List.all_eq_true.1 h x hx
  exact all t (Array.mem_toList_iff.2 (Array.mem_of_getElem? ht))

/-- THE STATEMENT: the card -/
theorem proved : Rows.IsaBackCardSaid :=
  Claim7.holds_tied_plain_at .later [] _ _ _ _ over (fun _ h => by cases h) (by kernel_rfl) (fun _ h => by cases h) isaBack_row_tie rfl ⟨rfl, rfl⟩ (by kernel_rfl) rfl plain (by kernel_rfl)
#print axioms proved
end Go.Proofs.YtijgngiocmnakaaDoor.lawIsaBack
