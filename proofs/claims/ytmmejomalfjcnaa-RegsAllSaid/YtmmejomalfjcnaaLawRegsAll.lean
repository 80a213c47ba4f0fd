/- The statement RegsAll. No condition. -/
import Derived.Test.YtmmejomalfjcnaaRows
import Derived.WalkKit
import Derived.ProofKit
import Derived.OpenShut
import Derived.ShutString
import Derived.ChangeOld
import Derived.Below
import Derived.Test.YtmmejomalfjcnaaOpen
import Derived.Test.YtmmejomalfjcnaaSxArg
import Derived.Test.YtmmejomalfjcnaaRegsPl
namespace Go.Proofs.Ytmmejomalfjcnaa.lawRegsAll
open Go.ChangeShapes Go.WideShapes Go.ChangeAt Go.RowKit
open Go.ChangeMaps (open_string shut_string)
set_option linter.unusedVariables false
theorem own : ownKnob Try.prog.godebug = none := by kernel_rfl
theorem laidOut : laidOutB Try.prog = true := by kernel_rfl
theorem sh0 : Sx.shAt Try.prog 8 115 = some [.l 26 [.i .i64, .i .u32, .i .u32, .i .u32, .i .u32, .i .u32, .i .u32, .i .u32, .i .u32, .i .u32, .i .u32, .i .u32, .i .u32, .i .u32, .i .u32, .i .u32, .i .u32, .b, .b, .b, .i .i64, .i .u32, .i .u32, .i .u32, .i .u32, .l 1 [.i .u32]]] := by kernel_rfl

set_option maxRecDepth 100000 in
theorem lifted (os : Os) (started : os.Started) (H : Type) (enc : TypeId × Value → H) :
    ReturnsInHanded {} Try.checked os 13 .any (Rows.regsAllSpec.pre6 enc Try.prog Try.f13 Rows.regsAllRow.domain false) (Rows.regsAllSpec.post enc Try.prog Try.f13 false true false false) := by
  refine returnsInHanded_of_change (C := Try.checked) own started (by kernel_rfl) Try.func13
    (ChangeSpec.witness6 (enc := enc) (C := Try.checked) false ⟨#[], #[.slice none 0 0], []⟩ 12 (by kernel_rfl) (by kernel_rfl) (by kernel_rfl) (by kernel_rfl)) ?_
  intro W base args ds gs before hval0 hW hcnd hreach
  have hval : ∀ (j : Nat) t v, Try.f13.params[j]? = some t → args[j]? = some v → Value.okWide Try.prog W .any base t v := hval0
  have hW' := hW
  obtain ⟨p, q, hA0, hV, rfl, hfz, hnd⟩ := hW
  have hA : DataW.TrodAll enc Try.prog W 0 (fun _ => true) true Try.f13.params.toList args.toList ds p := hA0
  rw [Try.params13] at hA hval
  obtain ⟨v0, vs0, d0, ds0, p0, q0, hargs, rfl, rfl, h0, r0⟩ := trodAll_cons hA
  obtain ⟨rfl, rfl, rfl⟩ := trodAll_nil r0
  obtain rfl : args = #[v0] := by cases args; simp_all
  obtain ⟨rfl, rfl⟩ := trodVars_none hV
  have k0 := h0
  have lt0 : ∀ x ∈ p0, x.block < W.heap.size := by obtain ⟨m, hm⟩ := k0; exact DataW.trod_lt m _ _ _ hm
  have o0 := hval 0 _ v0 rfl rfl
  clear hA0 hval0 hval hfz hnd hcnd
  have fin : Calls Try.prog 13 #[v0] W fun e w' => e = .returned (.bool true) ∧ Below W.heap.size W w' := by
    have s0 := open_one sh0 h0
    obtain ⟨u0, m0, f0, d0, e0, r0, q0, n0, s0_1⟩ := Sx.sh_rs s0 rfl
    obtain rfl := Sx.sh_e s0_1
    obtain rfl := cells_one Try.underlying115 o0 e0
    have key0 : ∀ e, ∃ x : Int × List Int × Int × Bool × Bool × Bool × Int × Int × Int × Int × Int × Value × List Int, e < m0 → f0 e = Sx.cellsL Sx.Num.zero [.int .i64 (x.1), .ints .u32 15 (x.2.1), .int .u32 (x.2.2.1), .bool (x.2.2.2.1), .bool (x.2.2.2.2.1), .bool (x.2.2.2.2.2.1), .int .i64 (x.2.2.2.2.2.2.1), .int .u32 (x.2.2.2.2.2.2.2.1), .int .u32 (x.2.2.2.2.2.2.2.2.1), .int .u32 (x.2.2.2.2.2.2.2.2.2.1), .int .u32 (x.2.2.2.2.2.2.2.2.2.2.1), .rd .u32 (x.2.2.2.2.2.2.2.2.2.2.2.1) (x.2.2.2.2.2.2.2.2.2.2.2.2)] ∧ (Sx.InK .i64 (x.1)) ∧ ((x.2.1).length = 15) ∧ (∀ y ∈ (x.2.1), Sx.InK .u32 y) ∧ (Sx.InK .u32 (x.2.2.1)) ∧ (Sx.InK .i64 (x.2.2.2.2.2.2.1)) ∧ (Sx.InK .u32 (x.2.2.2.2.2.2.2.1)) ∧ (Sx.InK .u32 (x.2.2.2.2.2.2.2.2.1)) ∧ (Sx.InK .u32 (x.2.2.2.2.2.2.2.2.2.1)) ∧ (Sx.InK .u32 (x.2.2.2.2.2.2.2.2.2.2.1)) ∧ (∀ y ∈ (x.2.2.2.2.2.2.2.2.2.2.2.2), Sx.InK .u32 y) ∧ ((x.2.2.2.2.2.2.2.2.2.2.2.2).length ≤ maxLen) ∧ (Sx.Reads W (fun _ => False) .u32 (x.2.2.2.2.2.2.2.2.2.2.2.1) (x.2.2.2.2.2.2.2.2.2.2.2.2)) := by
      intro e
      by_cases he : e < m0
      · have qq := q0 e he
        generalize f0 e = fe at qq
        obtain ⟨x1, dz0_1, rfl, i1, z0_1⟩ := Sx.sh_i qq
        obtain ⟨x2, dz0_2, rfl, l2, i2, z0_2⟩ := Sx.sh_r 15 z0_1
        obtain ⟨x3, dz0_3, rfl, i3, z0_3⟩ := Sx.sh_i z0_2
        obtain ⟨x4, dz0_4, rfl, z0_4⟩ := Sx.sh_b z0_3
        obtain ⟨x5, dz0_5, rfl, z0_5⟩ := Sx.sh_b z0_4
        obtain ⟨x6, dz0_6, rfl, z0_6⟩ := Sx.sh_b z0_5
        obtain ⟨x7, dz0_7, rfl, i7, z0_7⟩ := Sx.sh_i z0_6
        obtain ⟨x8, dz0_8, rfl, i8, z0_8⟩ := Sx.sh_i z0_7
        obtain ⟨x9, dz0_9, rfl, i9, z0_9⟩ := Sx.sh_i z0_8
        obtain ⟨x10, dz0_10, rfl, i10, z0_10⟩ := Sx.sh_i z0_9
        obtain ⟨x11, dz0_11, rfl, i11, z0_11⟩ := Sx.sh_i z0_10
        obtain ⟨u12, x12, dz0_12, rfl, r12, i12, n12, z0_12⟩ := Sx.sh_rd z0_11
        obtain rfl := Sx.sh_e z0_12
        exact ⟨(x1, x2, x3, x4, x5, x6, x7, x8, x9, x10, x11, u12, x12), fun _ => ⟨rfl, i1, l2, i2, i3, i7, i8, i9, i10, i11, i12, n12, r12⟩⟩
      · exact ⟨default, fun h => absurd h he⟩
    obtain ⟨g0, hg0⟩ := Classical.axiomOfChoice key0
    have rr0 := r0.as (g := fun e => Sx.cellsL Sx.Num.zero [.int .i64 ((g0 e).1), .ints .u32 15 ((g0 e).2.1), .int .u32 ((g0 e).2.2.1), .bool ((g0 e).2.2.2.1), .bool ((g0 e).2.2.2.2.1), .bool ((g0 e).2.2.2.2.2.1), .int .i64 ((g0 e).2.2.2.2.2.2.1), .int .u32 ((g0 e).2.2.2.2.2.2.2.1), .int .u32 ((g0 e).2.2.2.2.2.2.2.2.1), .int .u32 ((g0 e).2.2.2.2.2.2.2.2.2.1), .int .u32 ((g0 e).2.2.2.2.2.2.2.2.2.2.1), .rd .u32 ((g0 e).2.2.2.2.2.2.2.2.2.2.2.1) ((g0 e).2.2.2.2.2.2.2.2.2.2.2.2)]) (fun e he => (hg0 e he).1)
    have kk0 : ∀ e, e < m0 → Sx.okdL W (fun _ => False) 0 [.int .i64 ((g0 e).1), .ints .u32 15 ((g0 e).2.1), .int .u32 ((g0 e).2.2.1), .bool ((g0 e).2.2.2.1), .bool ((g0 e).2.2.2.2.1), .bool ((g0 e).2.2.2.2.2.1), .int .i64 ((g0 e).2.2.2.2.2.2.1), .int .u32 ((g0 e).2.2.2.2.2.2.2.1), .int .u32 ((g0 e).2.2.2.2.2.2.2.2.1), .int .u32 ((g0 e).2.2.2.2.2.2.2.2.2.1), .int .u32 ((g0 e).2.2.2.2.2.2.2.2.2.2.1), .rd .u32 ((g0 e).2.2.2.2.2.2.2.2.2.2.2.1) ((g0 e).2.2.2.2.2.2.2.2.2.2.2.2)] := fun e he => ⟨trivial, trivial, trivial, trivial, trivial, trivial, trivial, trivial, trivial, trivial, trivial, (hg0 e he).2.2.2.2.2.2.2.2.2.2.2.2, trivial⟩
    exact pure_law (RegsAllL_ok v0 m0 (fun e => ((g0 e).1)) (fun e => ((g0 e).2.1)) (fun e => ((g0 e).2.2.1)) (fun e => ((g0 e).2.2.2.1)) (fun e => ((g0 e).2.2.2.2.1)) (fun e => ((g0 e).2.2.2.2.2.1)) (fun e => ((g0 e).2.2.2.2.2.2.1)) (fun e => ((g0 e).2.2.2.2.2.2.2.1)) (fun e => ((g0 e).2.2.2.2.2.2.2.2.1)) (fun e => ((g0 e).2.2.2.2.2.2.2.2.2.1)) (fun e => ((g0 e).2.2.2.2.2.2.2.2.2.2.1)) (fun e => ((g0 e).2.2.2.2.2.2.2.2.2.2.2.1)) (fun e => ((g0 e).2.2.2.2.2.2.2.2.2.2.2.2)) (fun e he => by have := (hg0 e he).2; exact ⟨this.2.1, this.2.2.2.2.2.1, this.2.2.2.2.2.2.1, this.2.2.2.2.2.2.2.2.2.1⟩) (by simp [maxLen] at n0; omega)) W (by intro g cs h; simp [Sx.globs] at h) (by repeat (first | trivial | assumption | exact ⟨by assumption, by assumption⟩ | apply And.intro))
  refine fin.mono fun e W' ⟨he, bel⟩ => ?_
  subst he
  exact ⟨_, rfl, _, _, _, [], _, [], hW', trodAll_mk1 (shut_bool Try.underlying4 _), (trodAll_cons_mk (Below.trod laidOut (by kernel_rfl) (of_decide_eq_true (by kernel_rfl)) k0 bel lt0) trodAll_mk0), rfl, bel.frame _, fun h => by cases h⟩

theorem over : Rows.regsAllRow.holds Try.pinned (OpenSpec.ofChange Rows.regsAllSpec) :=
  OpenClaim.holds_of_wide 13 Try.f13 rfl rfl rfl rfl rfl rfl rfl ⟨rfl, rfl, rfl, rfl, rfl⟩ rfl rfl rfl rfl rfl (by kernel_rfl) Try.func13 (by kernel_rfl)
    (of_decide_eq_true (by kernel_rfl)) (by unfold Func.isWrapper; first | (rw [if_pos (by decide +kernel)]; kernel_rfl) | (rw [if_neg (by decide +kernel)]; exact ⟨rfl, rfl⟩))
    (fun os started H enc _ => lifted os started H enc)

/-- THE STATEMENT -/
theorem proved : Rows.RegsAllSaid := over
#print axioms proved
end Go.Proofs.Ytmmejomalfjcnaa.lawRegsAll
