/- The statement WalkCodes. No condition. -/
import Derived.Test.YtmmejomalfjcnaaRows
import Derived.WalkKit
import Derived.ProofKit
import Derived.OpenShut
import Derived.ShutString
import Derived.ChangeOld
import Derived.Below
import Derived.Test.YtmmejomalfjcnaaOpen
import Derived.Test.YtmmejomalfjcnaaSxLaw
import Derived.Test.YtmmejomalfjcnaaWalkCodes
namespace Go.Proofs.Ytmmejomalfjcnaa.lawWalkCodes
open Go.ChangeShapes Go.WideShapes Go.ChangeAt Go.RowKit
open Go.ChangeMaps (open_string shut_string)
set_option linter.unusedVariables false
theorem own : ownKnob Try.prog.godebug = none := by kernel_rfl
theorem laidOut : laidOutB Try.prog = true := by kernel_rfl
theorem flat0 : flatAt Try.prog 6 78 = some [some .u32, some .i64, some .i64, some .i64, some .i64, some .u32, none, some .i64, none, none] := by kernel_rfl
theorem agg0 : isAggT Try.prog 78 = true := by kernel_rfl

set_option maxRecDepth 100000 in
theorem lifted (os : Os) (started : os.Started) (H : Type) (enc : TypeId × Value → H) :
    ReturnsInHanded {} Try.checked os 9 .any (Rows.walkCodesSpec.pre6 enc Try.prog Try.f9 Rows.walkCodesRow.domain false) (Rows.walkCodesSpec.post enc Try.prog Try.f9 false true false false) := by
  refine returnsInHanded_of_change (C := Try.checked) own started (by kernel_rfl) Try.func9
    (ChangeSpec.witness6 (enc := enc) (C := Try.checked) false ⟨#[], #[.agg #[.int .u32 0, .int .i64 0, .int .i64 0, .int .i64 0, .int .i64 0, .int .u32 0, .bool false, .int .i64 0, .bool false, .bool false]], []⟩ 12 (by kernel_rfl) (by kernel_rfl) (by kernel_rfl) (by kernel_rfl)) ?_
  intro W base args ds gs before hval0 hW hcnd hreach
  have hval : ∀ (j : Nat) t v, Try.f9.params[j]? = some t → args[j]? = some v → Value.okWide Try.prog W .any base t v := hval0
  have hW' := hW
  obtain ⟨p, q, hA0, hV, rfl, hfz, hnd⟩ := hW
  have hA : DataW.TrodAll enc Try.prog W 0 (fun _ => true) true Try.f9.params.toList args.toList ds p := hA0
  rw [Try.params9] at hA hval
  obtain ⟨v0, vs0, d0, ds0, p0, q0, hargs, rfl, rfl, h0, r0⟩ := trodAll_cons hA
  obtain ⟨rfl, rfl, rfl⟩ := trodAll_nil r0
  obtain rfl : args = #[v0] := by cases args; simp_all
  obtain ⟨rfl, rfl⟩ := trodVars_none hV
  have k0 := h0
  have lt0 : ∀ x ∈ p0, x.block < W.heap.size := by obtain ⟨m, hm⟩ := k0; exact DataW.trod_lt m _ _ _ hm
  have o0 := hval 0 _ v0 rfl rfl
  clear hA0 hval0 hval hfz hnd hcnd
  have fin : Calls Try.prog 9 #[v0] W fun e w' => e = .returned (.bool true) ∧ Below W.heap.size W w' := by
    obtain ⟨c0, rfl, f0_0⟩ := open_flat agg0 flat0 o0 h0
    obtain ⟨x0, d0_0, rfl, i0, f0_1⟩ := fits_i f0_0
    obtain ⟨x1, d0_1, rfl, i1, f0_2⟩ := fits_i f0_1
    obtain ⟨x2, d0_2, rfl, i2, f0_3⟩ := fits_i f0_2
    obtain ⟨x3, d0_3, rfl, i3, f0_4⟩ := fits_i f0_3
    obtain ⟨x4, d0_4, rfl, i4, f0_5⟩ := fits_i f0_4
    obtain ⟨x5, d0_5, rfl, i5, f0_6⟩ := fits_i f0_5
    obtain ⟨x6, d0_6, rfl, f0_7⟩ := fits_b f0_6
    obtain ⟨x7, d0_7, rfl, i7, f0_8⟩ := fits_i f0_7
    obtain ⟨x8, d0_8, rfl, f0_9⟩ := fits_b f0_8
    obtain ⟨x9, d0_9, rfl, f0_10⟩ := fits_b f0_9
    obtain rfl := fits_e f0_10
    exact pure_law (WalkCodesL_ok x0 x1 x2 x3 x4 x5 x6 x7 x8 x9 i0 i7 i5) W (by repeat (first | trivial | apply And.intro))
  refine fin.mono fun e W' ⟨he, bel⟩ => ?_
  subst he
  exact ⟨_, rfl, _, _, _, [], _, [], hW', trodAll_mk1 (shut_bool Try.underlying4 _), (trodAll_cons_mk (Below.trod laidOut (by kernel_rfl) (of_decide_eq_true (by kernel_rfl)) k0 bel lt0) trodAll_mk0), rfl, bel.frame _, fun h => by cases h⟩

theorem over : Rows.walkCodesRow.holds Try.pinned (OpenSpec.ofChange Rows.walkCodesSpec) :=
  OpenClaim.holds_of_wide 9 Try.f9 rfl rfl rfl rfl rfl rfl rfl ⟨rfl, rfl, rfl, rfl, rfl⟩ rfl rfl rfl rfl rfl (by kernel_rfl) Try.func9 (by kernel_rfl)
    (of_decide_eq_true (by kernel_rfl)) (by unfold Func.isWrapper; first | (rw [if_pos (by decide +kernel)]; kernel_rfl) | (rw [if_neg (by decide +kernel)]; exact ⟨rfl, rfl⟩))
    (fun os started H enc _ => lifted os started H enc)

/-- THE STATEMENT -/
theorem proved : Rows.WalkCodesSaid := over
#print axioms proved
end Go.Proofs.Ytmmejomalfjcnaa.lawWalkCodes
