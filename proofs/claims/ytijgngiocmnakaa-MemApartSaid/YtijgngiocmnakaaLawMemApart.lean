/- The statement MemApart. No condition. -/
import Derived.Test.YtijgngiocmnakaaRows
import Derived.WalkKit
import Derived.ProofKit
import Derived.OpenShut
import Derived.ShutString
import Derived.ChangeOld
import Derived.Below
import Derived.Test.YtijgngiocmnakaaSxD
import Derived.Test.YtijgngiocmnakaaMemU
namespace Go.Proofs.Ytijgngiocmnakaa.lawMemApart
open Go.ChangeShapes Go.WideShapes Go.ChangeAt Go.RowKit
open Go.ChangeMaps (open_string shut_string)
set_option linter.unusedVariables false
theorem own : ownKnob Try.prog.godebug = none := by kernel_rfl
theorem laidOut : laidOutB Try.prog = true := by kernel_rfl
theorem sh0 : Sx.shAt Try.prog 8 22 = some [.l 5 [.i .i64, .i .i64, .i .i64, .i .i64, .i .u32]] := by kernel_rfl
theorem sh1 : Sx.shAt Try.prog 8 22 = some [.l 5 [.i .i64, .i .i64, .i .i64, .i .i64, .i .u32]] := by kernel_rfl
theorem sh2 : Sx.shAt Try.prog 8 22 = some [.l 5 [.i .i64, .i .i64, .i .i64, .i .i64, .i .u32]] := by kernel_rfl

set_option maxRecDepth 100000 in
theorem lifted (os : Os) (started : os.Started) (H : Type) (enc : TypeId × Value → H) :
    ReturnsInHanded {} Try.checked os 5 .any (Rows.memApartSpec.pre6 enc Try.prog Try.f5 Rows.memApartRow.domain false) (Rows.memApartSpec.post enc Try.prog Try.f5 false true false false) := by
  refine returnsInHanded_of_change (C := Try.checked) own started (by kernel_rfl) Try.func5
    (ChangeSpec.witness6 (enc := enc) (C := Try.checked) false ⟨#[], #[.slice none 0 0, .slice none 0 0, .slice none 0 0], []⟩ 12 (by kernel_rfl) (by kernel_rfl) (by kernel_rfl) (by kernel_rfl)) ?_
  intro W base args ds gs before hval0 hW hcnd hreach
  have hval : ∀ (j : Nat) t v, Try.f5.params[j]? = some t → args[j]? = some v → Value.okWide Try.prog W .any base t v := hval0
  have hW' := hW
  obtain ⟨p, q, hA0, hV, rfl, hfz, hnd⟩ := hW
  have hA : DataW.TrodAll enc Try.prog W 0 (fun _ => true) true Try.f5.params.toList args.toList ds p := hA0
  rw [Try.params5] at hA hval
  obtain ⟨v0, vs0, d0, ds0, p0, q0, hargs, rfl, rfl, h0, r0⟩ := trodAll_cons hA
  obtain ⟨v1, vs1, d1, ds1, p1, q1, rfl, rfl, rfl, h1, r1⟩ := trodAll_cons r0
  obtain ⟨v2, vs2, d2, ds2, p2, q2, rfl, rfl, rfl, h2, r2⟩ := trodAll_cons r1
  obtain ⟨rfl, rfl, rfl⟩ := trodAll_nil r2
  obtain rfl : args = #[v0, v1, v2] := by cases args; simp_all
  obtain ⟨rfl, rfl⟩ := trodVars_none hV
  have k0 := h0
  have lt0 : ∀ x ∈ p0, x.block < W.heap.size := by obtain ⟨m, hm⟩ := k0; exact DataW.trod_lt m _ _ _ hm
  have o0 := hval 0 _ v0 rfl rfl
  have k1 := h1
  have lt1 : ∀ x ∈ p1, x.block < W.heap.size := by obtain ⟨m, hm⟩ := k1; exact DataW.trod_lt m _ _ _ hm
  have o1 := hval 1 _ v1 rfl rfl
  have k2 := h2
  have lt2 : ∀ x ∈ p2, x.block < W.heap.size := by obtain ⟨m, hm⟩ := k2; exact DataW.trod_lt m _ _ _ hm
  have o2 := hval 2 _ v2 rfl rfl
  clear hA0 hval0 hval hfz hnd hcnd
  have fin : Calls Try.prog 5 #[v0, v1, v2] W fun e w' => e = .returned (.bool true) ∧ Below W.heap.size W w' := by
    have s0 := open_one sh0 h0
    obtain ⟨u0, m0, f0, d0, e0, r0, q0, n0, s0_1⟩ := Sx.sh_rs s0 rfl
    obtain rfl := Sx.sh_e s0_1
    obtain rfl := cells_one Try.underlying22 o0 e0
    have key0 : ∀ e, ∃ x : Int × Int × Int × Int × Int, e < m0 → f0 e = Sx.cellsL Sx.Num.zero [.int .i64 (x.1), .int .i64 (x.2.1), .int .i64 (x.2.2.1), .int .i64 (x.2.2.2.1), .int .u32 (x.2.2.2.2)] ∧ (Sx.InK .i64 (x.1)) ∧ (Sx.InK .i64 (x.2.1)) ∧ (Sx.InK .i64 (x.2.2.1)) ∧ (Sx.InK .i64 (x.2.2.2.1)) ∧ (Sx.InK .u32 (x.2.2.2.2)) := by
      intro e
      by_cases he : e < m0
      · have qq := q0 e he
        generalize f0 e = fe at qq
        obtain ⟨x1, dz0_1, rfl, i1, z0_1⟩ := Sx.sh_i qq
        obtain ⟨x2, dz0_2, rfl, i2, z0_2⟩ := Sx.sh_i z0_1
        obtain ⟨x3, dz0_3, rfl, i3, z0_3⟩ := Sx.sh_i z0_2
        obtain ⟨x4, dz0_4, rfl, i4, z0_4⟩ := Sx.sh_i z0_3
        obtain ⟨x5, dz0_5, rfl, i5, z0_5⟩ := Sx.sh_i z0_4
        obtain rfl := Sx.sh_e z0_5
        exact ⟨(x1, x2, x3, x4, x5), fun _ => ⟨rfl, i1, i2, i3, i4, i5⟩⟩
      · exact ⟨default, fun h => absurd h he⟩
    obtain ⟨g0, hg0⟩ := Classical.axiomOfChoice key0
    have rr0 := r0.as (g := fun e => Sx.cellsL Sx.Num.zero [.int .i64 ((g0 e).1), .int .i64 ((g0 e).2.1), .int .i64 ((g0 e).2.2.1), .int .i64 ((g0 e).2.2.2.1), .int .u32 ((g0 e).2.2.2.2)]) (fun e he => (hg0 e he).1)
    have kk0 : ∀ e, e < m0 → Sx.okdL W (fun _ => False) 0 [.int .i64 ((g0 e).1), .int .i64 ((g0 e).2.1), .int .i64 ((g0 e).2.2.1), .int .i64 ((g0 e).2.2.2.1), .int .u32 ((g0 e).2.2.2.2)] := fun e he => ⟨trivial, trivial, trivial, trivial, trivial, trivial⟩
    have s1 := open_one sh1 h1
    obtain ⟨u6, m6, f6, d6, e6, r6, q6, n6, s1_1⟩ := Sx.sh_rs s1 rfl
    obtain rfl := Sx.sh_e s1_1
    obtain rfl := cells_one Try.underlying22 o1 e6
    have key1 : ∀ e, ∃ x : Int × Int × Int × Int × Int, e < m6 → f6 e = Sx.cellsL Sx.Num.zero [.int .i64 (x.1), .int .i64 (x.2.1), .int .i64 (x.2.2.1), .int .i64 (x.2.2.2.1), .int .u32 (x.2.2.2.2)] ∧ (Sx.InK .i64 (x.1)) ∧ (Sx.InK .i64 (x.2.1)) ∧ (Sx.InK .i64 (x.2.2.1)) ∧ (Sx.InK .i64 (x.2.2.2.1)) ∧ (Sx.InK .u32 (x.2.2.2.2)) := by
      intro e
      by_cases he : e < m6
      · have qq := q6 e he
        generalize f6 e = fe at qq
        obtain ⟨x7, dz1_1, rfl, i7, z1_1⟩ := Sx.sh_i qq
        obtain ⟨x8, dz1_2, rfl, i8, z1_2⟩ := Sx.sh_i z1_1
        obtain ⟨x9, dz1_3, rfl, i9, z1_3⟩ := Sx.sh_i z1_2
        obtain ⟨x10, dz1_4, rfl, i10, z1_4⟩ := Sx.sh_i z1_3
        obtain ⟨x11, dz1_5, rfl, i11, z1_5⟩ := Sx.sh_i z1_4
        obtain rfl := Sx.sh_e z1_5
        exact ⟨(x7, x8, x9, x10, x11), fun _ => ⟨rfl, i7, i8, i9, i10, i11⟩⟩
      · exact ⟨default, fun h => absurd h he⟩
    obtain ⟨g6, hg6⟩ := Classical.axiomOfChoice key1
    have rr6 := r6.as (g := fun e => Sx.cellsL Sx.Num.zero [.int .i64 ((g6 e).1), .int .i64 ((g6 e).2.1), .int .i64 ((g6 e).2.2.1), .int .i64 ((g6 e).2.2.2.1), .int .u32 ((g6 e).2.2.2.2)]) (fun e he => (hg6 e he).1)
    have kk6 : ∀ e, e < m6 → Sx.okdL W (fun _ => False) 0 [.int .i64 ((g6 e).1), .int .i64 ((g6 e).2.1), .int .i64 ((g6 e).2.2.1), .int .i64 ((g6 e).2.2.2.1), .int .u32 ((g6 e).2.2.2.2)] := fun e he => ⟨trivial, trivial, trivial, trivial, trivial, trivial⟩
    have s2 := open_one sh2 h2
    obtain ⟨u12, m12, f12, d12, e12, r12, q12, n12, s2_1⟩ := Sx.sh_rs s2 rfl
    obtain rfl := Sx.sh_e s2_1
    obtain rfl := cells_one Try.underlying22 o2 e12
    have key2 : ∀ e, ∃ x : Int × Int × Int × Int × Int, e < m12 → f12 e = Sx.cellsL Sx.Num.zero [.int .i64 (x.1), .int .i64 (x.2.1), .int .i64 (x.2.2.1), .int .i64 (x.2.2.2.1), .int .u32 (x.2.2.2.2)] ∧ (Sx.InK .i64 (x.1)) ∧ (Sx.InK .i64 (x.2.1)) ∧ (Sx.InK .i64 (x.2.2.1)) ∧ (Sx.InK .i64 (x.2.2.2.1)) ∧ (Sx.InK .u32 (x.2.2.2.2)) := by
      intro e
      by_cases he : e < m12
      · have qq := q12 e he
        generalize f12 e = fe at qq
        obtain ⟨x13, dz2_1, rfl, i13, z2_1⟩ := Sx.sh_i qq
        obtain ⟨x14, dz2_2, rfl, i14, z2_2⟩ := Sx.sh_i z2_1
        obtain ⟨x15, dz2_3, rfl, i15, z2_3⟩ := Sx.sh_i z2_2
        obtain ⟨x16, dz2_4, rfl, i16, z2_4⟩ := Sx.sh_i z2_3
        obtain ⟨x17, dz2_5, rfl, i17, z2_5⟩ := Sx.sh_i z2_4
        obtain rfl := Sx.sh_e z2_5
        exact ⟨(x13, x14, x15, x16, x17), fun _ => ⟨rfl, i13, i14, i15, i16, i17⟩⟩
      · exact ⟨default, fun h => absurd h he⟩
    obtain ⟨g12, hg12⟩ := Classical.axiomOfChoice key2
    have rr12 := r12.as (g := fun e => Sx.cellsL Sx.Num.zero [.int .i64 ((g12 e).1), .int .i64 ((g12 e).2.1), .int .i64 ((g12 e).2.2.1), .int .i64 ((g12 e).2.2.2.1), .int .u32 ((g12 e).2.2.2.2)]) (fun e he => (hg12 e he).1)
    have kk12 : ∀ e, e < m12 → Sx.okdL W (fun _ => False) 0 [.int .i64 ((g12 e).1), .int .i64 ((g12 e).2.1), .int .i64 ((g12 e).2.2.1), .int .i64 ((g12 e).2.2.2.1), .int .u32 ((g12 e).2.2.2.2)] := fun e he => ⟨trivial, trivial, trivial, trivial, trivial, trivial⟩
    exact pure_law (MemApartL_ok v0 m0 (fun e => ((g0 e).1)) (fun e => ((g0 e).2.1)) (fun e => ((g0 e).2.2.1)) (fun e => ((g0 e).2.2.2.1)) (fun e => ((g0 e).2.2.2.2)) v1 m6 (fun e => ((g6 e).1)) (fun e => ((g6 e).2.1)) (fun e => ((g6 e).2.2.1)) (fun e => ((g6 e).2.2.2.1)) (fun e => ((g6 e).2.2.2.2)) v2 m12 (fun e => ((g12 e).1)) (fun e => ((g12 e).2.1)) (fun e => ((g12 e).2.2.1)) (fun e => ((g12 e).2.2.2.1)) (fun e => ((g12 e).2.2.2.2)) (fun e he => ⟨(hg0 e he).2.2.1, (hg0 e he).2.2.2.1, (hg0 e he).2.2.2.2.1⟩) (fun e he => ⟨(hg6 e he).2.2.1, (hg6 e he).2.2.2.1, (hg6 e he).2.2.2.2.1⟩) (fun e he => ⟨(hg12 e he).2.2.1, (hg12 e he).2.2.2.1, (hg12 e he).2.2.2.2.1⟩)) W (by intro g cs h; simp [Sx.globs] at h) (by repeat (first | trivial | assumption | exact ⟨by assumption, by assumption⟩ | apply And.intro))
  refine fin.mono fun e W' ⟨he, bel⟩ => ?_
  subst he
  exact ⟨_, rfl, _, _, _, [], _, [], hW', trodAll_mk1 (shut_bool Try.underlying4 _), (trodAll_cons_mk (Below.trod laidOut (by kernel_rfl) (of_decide_eq_true (by kernel_rfl)) k0 bel lt0) (trodAll_cons_mk (Below.trod laidOut (by kernel_rfl) (of_decide_eq_true (by kernel_rfl)) k1 bel lt1) (trodAll_cons_mk (Below.trod laidOut (by kernel_rfl) (of_decide_eq_true (by kernel_rfl)) k2 bel lt2) trodAll_mk0))), rfl, bel.frame _, fun h => by cases h⟩

theorem over : Rows.memApartRow.holds Try.pinned (OpenSpec.ofChange Rows.memApartSpec) :=
  OpenClaim.holds_of_wide 5 Try.f5 rfl rfl rfl rfl rfl rfl rfl ⟨rfl, rfl, rfl, rfl, rfl⟩ rfl rfl rfl rfl rfl (by kernel_rfl) Try.func5 (by kernel_rfl)
    (of_decide_eq_true (by kernel_rfl)) (by unfold Func.isWrapper; first | (rw [if_pos (by decide +kernel)]; kernel_rfl) | (rw [if_neg (by decide +kernel)]; exact ⟨rfl, rfl⟩))
    (fun os started H enc _ => lifted os started H enc)

/-- THE STATEMENT -/
theorem proved : Rows.MemApartSaid := over
#print axioms proved
end Go.Proofs.Ytijgngiocmnakaa.lawMemApart
