/- The statement RegsHolds. No condition. -/
import Derived.Test.YtmmejomalfjcnaaRows
import Derived.WalkKit
import Derived.ProofKit
import Derived.OpenShut
import Derived.ShutString
import Derived.ChangeOld
import Derived.Below
import Derived.Test.YtmmejomalfjcnaaOpen
import Derived.Test.YtmmejomalfjcnaaSxLaw
import Derived.Test.YtmmejomalfjcnaaRegsHd
namespace Go.Proofs.Ytmmejomalfjcnaa.lawRegsHolds
open Go.ChangeShapes Go.WideShapes Go.ChangeAt Go.RowKit
open Go.ChangeMaps (open_string shut_string)
set_option linter.unusedVariables false
theorem own : ownKnob Try.prog.godebug = none := by kernel_rfl
theorem laidOut : laidOutB Try.prog = true := by kernel_rfl
theorem flat0 : flatAt Try.prog 6 41 = some [some .u32, some .u32, some .u32, some .u32, some .u32, some .u32, some .u32, some .u32, some .u32, some .u32, some .u32, some .u32, some .u32, some .u32, some .u32, some .u32, none, none, none] := by kernel_rfl
theorem agg0 : isAggT Try.prog 41 = true := by kernel_rfl

set_option maxRecDepth 100000 in
theorem lifted (os : Os) (started : os.Started) (H : Type) (enc : TypeId × Value → H) :
    ReturnsInHanded {} Try.checked os 5 .any (Rows.regsHoldsSpec.pre6 enc Try.prog Try.f5 Rows.regsHoldsRow.domain false) (Rows.regsHoldsSpec.post enc Try.prog Try.f5 false true false false) := by
  refine returnsInHanded_of_change (C := Try.checked) own started (by kernel_rfl) Try.func5
    (ChangeSpec.witness6 (enc := enc) (C := Try.checked) false ⟨#[], #[.agg #[.int .u32 0, .int .u32 0, .int .u32 0, .int .u32 0, .int .u32 0, .int .u32 0, .int .u32 0, .int .u32 0, .int .u32 0, .int .u32 0, .int .u32 0, .int .u32 0, .int .u32 0, .int .u32 0, .int .u32 0, .int .u32 0, .bool false, .bool false, .bool false], .int .u32 0, .int .u32 0], []⟩ 12 (by kernel_rfl) (by kernel_rfl) (by kernel_rfl) (by kernel_rfl)) ?_
  intro W base args ds gs before hval0 hW hcnd hreach
  have hval : ∀ (j : Nat) t v, Try.f5.params[j]? = some t → args[j]? = some v → Value.okWide Try.prog W .any base t v := hval0
  have hW' := hW
  obtain ⟨p, q, hA0, hV, rfl, hfz, hnd⟩ := hW
  have hA : DataW.TrodAll enc Try.prog W 0 (fun _ => true) true Try.f5.params.toList args.toList ds p := hA0
  rw [Try.params5] at hA hval
  obtain ⟨v0, vs0, d0, ds0, p0, q0, hargs, rfl, rfl, h0, r0⟩ := trodAll_cons hA
  obtain ⟨v1, vs1, d1, ds1, p1, q1, rfl, rfl, rfl, h1, r1⟩ := trodAll_cons r0
  obtain ⟨v2, vs2, d2, ds2, p2, q2, rfl, rfl, rfl, h2, r2⟩ := trodAll_cons r1
  obtain ⟨rfl, rfl, rfl⟩ := trodAll_nil r2
  obtain rfl : args = #[v0, v1, v2] := by cases args; simp_all
  obtain ⟨rfl, rfl⟩ := trodVars_none hV
  have k0 := h0
  have lt0 : ∀ x ∈ p0, x.block < W.heap.size := by obtain ⟨m, hm⟩ := k0; exact DataW.trod_lt m _ _ _ hm
  have o0 := hval 0 _ v0 rfl rfl
  have k1 := h1
  have lt1 : ∀ x ∈ p1, x.block < W.heap.size := by obtain ⟨m, hm⟩ := k1; exact DataW.trod_lt m _ _ _ hm
  have o1 := hval 1 _ v1 rfl rfl
  have k2 := h2
  have lt2 : ∀ x ∈ p2, x.block < W.heap.size := by obtain ⟨m, hm⟩ := k2; exact DataW.trod_lt m _ _ _ hm
  have o2 := hval 2 _ v2 rfl rfl
  clear hA0 hval0 hval hfz hnd hcnd
  have fin : Calls Try.prog 5 #[v0, v1, v2] W fun e w' => e = .returned (.bool true) ∧ Below W.heap.size W w' := by
    obtain ⟨c0, rfl, f0_0⟩ := open_flat agg0 flat0 o0 h0
    obtain ⟨x0, d0_0, rfl, l0, i0, f0_1⟩ := fits_r 15 f0_0
    obtain ⟨x1, d0_1, rfl, i1, f0_2⟩ := fits_i f0_1
    obtain ⟨x2, d0_2, rfl, f0_3⟩ := fits_b f0_2
    obtain ⟨x3, d0_3, rfl, f0_4⟩ := fits_b f0_3
    obtain ⟨x4, d0_4, rfl, f0_5⟩ := fits_b f0_4
    obtain rfl := fits_e f0_5
    obtain ⟨x5, rfl, rfl, rfl, w5⟩ := open_int Try.underlying22 o1 h1
    have i5 := InK_of_wf w5
    obtain ⟨x6, rfl, rfl, rfl, w6⟩ := open_int Try.underlying22 o2 h2
    have i6 := InK_of_wf w6
    exact pure_law (RegsHoldsL_ok x0 x1 x2 x3 x4 x5 x6 l0 i5 i6) W (by intro g cs h; simp [Sx.globs] at h) (by repeat (first | trivial | apply And.intro))
  refine fin.mono fun e W' ⟨he, bel⟩ => ?_
  subst he
  exact ⟨_, rfl, _, _, _, [], _, [], hW', trodAll_mk1 (shut_bool Try.underlying4 _), (trodAll_cons_mk (Below.trod laidOut (by kernel_rfl) (of_decide_eq_true (by kernel_rfl)) k0 bel lt0) (trodAll_cons_mk (Below.trod laidOut (by kernel_rfl) (of_decide_eq_true (by kernel_rfl)) k1 bel lt1) (trodAll_cons_mk (Below.trod laidOut (by kernel_rfl) (of_decide_eq_true (by kernel_rfl)) k2 bel lt2) trodAll_mk0))), rfl, bel.frame _, fun h => by cases h⟩

theorem over : Rows.regsHoldsRow.holds Try.pinned (OpenSpec.ofChange Rows.regsHoldsSpec) :=
  OpenClaim.holds_of_wide 5 Try.f5 rfl rfl rfl rfl rfl rfl rfl ⟨rfl, rfl, rfl, rfl, rfl⟩ rfl rfl rfl rfl rfl (by kernel_rfl) Try.func5 (by kernel_rfl)
    (of_decide_eq_true (by kernel_rfl)) (by unfold Func.isWrapper; first | (rw [if_pos (by decide +kernel)]; kernel_rfl) | (rw [if_neg (by decide +kernel)]; exact ⟨rfl, rfl⟩))
    (fun os started H enc _ => lifted os started H enc)

/-- THE STATEMENT -/
theorem proved : Rows.RegsHoldsSaid := over
#print axioms proved
end Go.Proofs.Ytmmejomalfjcnaa.lawRegsHolds
