/- The statement RegsLast. No condition. -/
import Derived.Test.YtmmejomalfjcnaaRows
import Derived.WalkKit
import Derived.ProofKit
import Derived.OpenShut
import Derived.ShutString
import Derived.ChangeOld
import Derived.Below
import Derived.Test.YtmmejomalfjcnaaOpen
import Derived.Test.YtmmejomalfjcnaaSxArg
import Derived.Test.YtmmejomalfjcnaaRegsLst
namespace Go.Proofs.Ytmmejomalfjcnaa.lawRegsLast
open Go.ChangeShapes Go.WideShapes Go.ChangeAt Go.RowKit
open Go.ChangeMaps (open_string shut_string)
set_option linter.unusedVariables false
theorem own : ownKnob Try.prog.godebug = none := by kernel_rfl
theorem laidOut : laidOutB Try.prog = true := by kernel_rfl
theorem sh0 : Sx.shAt Try.prog 8 63 = some [.i .u32, .i .u32, .i .u32, .i .u32] := by kernel_rfl
theorem agg0 : isAggT Try.prog 63 = true := by kernel_rfl
theorem sh1 : Sx.shAt Try.prog 8 64 = some [.l 2 [.i .i64, .i .u32]] := by kernel_rfl

set_option maxRecDepth 100000 in
theorem lifted (os : Os) (started : os.Started) (H : Type) (enc : TypeId × Value → H) :
    ReturnsInHanded {} Try.checked os 7 .any (Rows.regsLastSpec.pre6 enc Try.prog Try.f7 Rows.regsLastRow.domain false) (Rows.regsLastSpec.post enc Try.prog Try.f7 false true false false) := by
  refine returnsInHanded_of_change (C := Try.checked) own started (by kernel_rfl) Try.func7
    (ChangeSpec.witness6 (enc := enc) (C := Try.checked) false ⟨#[], #[.agg #[.int .u32 0, .int .u32 0, .int .u32 0, .int .u32 0], .slice none 0 0], []⟩ 12 (by kernel_rfl) (by kernel_rfl) (by kernel_rfl) (by kernel_rfl)) ?_
  intro W base args ds gs before hval0 hW hcnd hreach
  have hval : ∀ (j : Nat) t v, Try.f7.params[j]? = some t → args[j]? = some v → Value.okWide Try.prog W .any base t v := hval0
  have hW' := hW
  obtain ⟨p, q, hA0, hV, rfl, hfz, hnd⟩ := hW
  have hA : DataW.TrodAll enc Try.prog W 0 (fun _ => true) true Try.f7.params.toList args.toList ds p := hA0
  rw [Try.params7] at hA hval
  obtain ⟨v0, vs0, d0, ds0, p0, q0, hargs, rfl, rfl, h0, r0⟩ := trodAll_cons hA
  obtain ⟨v1, vs1, d1, ds1, p1, q1, rfl, rfl, rfl, h1, r1⟩ := trodAll_cons r0
  obtain ⟨rfl, rfl, rfl⟩ := trodAll_nil r1
  obtain rfl : args = #[v0, v1] := by cases args; simp_all
  obtain ⟨rfl, rfl⟩ := trodVars_none hV
  have k0 := h0
  have lt0 : ∀ x ∈ p0, x.block < W.heap.size := by obtain ⟨m, hm⟩ := k0; exact DataW.trod_lt m _ _ _ hm
  have o0 := hval 0 _ v0 rfl rfl
  have k1 := h1
  have lt1 : ∀ x ∈ p1, x.block < W.heap.size := by obtain ⟨m, hm⟩ := k1; exact DataW.trod_lt m _ _ _ hm
  have o1 := hval 1 _ v1 rfl rfl
  clear hA0 hval0 hval hfz hnd hcnd
  have fin : Calls Try.prog 7 #[v0, v1] W fun e w' => e = .returned (.bool true) ∧ Below W.heap.size W w' := by
    obtain ⟨c0, rfl, s0_0⟩ := open_agg agg0 sh0 o0 h0
    obtain ⟨x0, ds0_1, rfl, i0, s0_1⟩ := Sx.sh_i s0_0
    obtain ⟨x1, ds0_2, rfl, i1, s0_2⟩ := Sx.sh_i s0_1
    obtain ⟨x2, ds0_3, rfl, i2, s0_3⟩ := Sx.sh_i s0_2
    obtain ⟨x3, ds0_4, rfl, i3, s0_4⟩ := Sx.sh_i s0_3
    obtain rfl := Sx.sh_e s0_4
    have s1 := open_one sh1 h1
    obtain ⟨u4, m4, f4, d4, e4, r4, q4, n4, s1_1⟩ := Sx.sh_rs s1 rfl
    obtain rfl := Sx.sh_e s1_1
    obtain rfl := cells_one Try.underlying64 o1 e4
    have key1 : ∀ e, ∃ x : Int × Int, e < m4 → f4 e = Sx.cellsL Sx.Num.zero [.int .i64 (x.1), .int .u32 (x.2)] ∧ Sx.InK .i64 (x.1) ∧ Sx.InK .u32 (x.2) := by
      intro e
      by_cases he : e < m4
      · have qq := q4 e he
        generalize f4 e = fe at qq
        obtain ⟨x5, dz1_1, rfl, i5, z1_1⟩ := Sx.sh_i qq
        obtain ⟨x6, dz1_2, rfl, i6, z1_2⟩ := Sx.sh_i z1_1
        obtain rfl := Sx.sh_e z1_2
        exact ⟨(x5, x6), fun _ => ⟨rfl, i5, i6⟩⟩
      · exact ⟨default, fun h => absurd h he⟩
    obtain ⟨g4, hg4⟩ := Classical.axiomOfChoice key1
    have rr4 := r4.as (g := fun e => Sx.cellsL Sx.Num.zero [.int .i64 ((g4 e).1), .int .u32 ((g4 e).2)]) (fun e he => (hg4 e he).1)
    have kk4 : ∀ e, e < m4 → Sx.okdL W (fun _ => False) 0 [.int .i64 ((g4 e).1), .int .u32 ((g4 e).2)] := fun e he => by have := (hg4 e he).2; repeat (first | trivial | assumption | (apply And.intro) | (simp_all; done))
    exact pure_law (RegsLastL_ok x0 x1 x2 x3 v1 m4 (fun e => ((g4 e).1)) (fun e => ((g4 e).2)) (i0) (i1) (i2) (i3) (fun e he => (hg4 e he).2) (by simp [maxLen] at n4; omega)) W (by intro g cs h; simp [Sx.globs] at h) (by repeat (first | trivial | assumption | exact ⟨by assumption, by assumption⟩ | apply And.intro))
  refine fin.mono fun e W' ⟨he, bel⟩ => ?_
  subst he
  exact ⟨_, rfl, _, _, _, [], _, [], hW', trodAll_mk1 (shut_bool Try.underlying4 _), (trodAll_cons_mk (Below.trod laidOut (by kernel_rfl) (of_decide_eq_true (by kernel_rfl)) k0 bel lt0) (trodAll_cons_mk (Below.trod laidOut (by kernel_rfl) (of_decide_eq_true (by kernel_rfl)) k1 bel lt1) trodAll_mk0)), rfl, bel.frame _, fun h => by cases h⟩

theorem over : Rows.regsLastRow.holds Try.pinned (OpenSpec.ofChange Rows.regsLastSpec) :=
  OpenClaim.holds_of_wide 7 Try.f7 rfl rfl rfl rfl rfl rfl rfl ⟨rfl, rfl, rfl, rfl, rfl⟩ rfl rfl rfl rfl rfl (by kernel_rfl) Try.func7 (by kernel_rfl)
    (of_decide_eq_true (by kernel_rfl)) (by unfold Func.isWrapper; first | (rw [if_pos (by decide +kernel)]; kernel_rfl) | (rw [if_neg (by decide +kernel)]; exact ⟨rfl, rfl⟩))
    (fun os started H enc _ => lifted os started H enc)

/-- THE STATEMENT -/
theorem proved : Rows.RegsLastSaid := over
#print axioms proved
end Go.Proofs.Ytmmejomalfjcnaa.lawRegsLast
