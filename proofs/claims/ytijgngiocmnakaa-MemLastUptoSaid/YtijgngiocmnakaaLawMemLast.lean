/- The statement MemLast. No condition. -/
import Derived.Test.YtijgngiocmnakaaRows
import Derived.WalkKit
import Derived.ProofKit
import Derived.OpenShut
import Derived.ShutString
import Derived.ChangeOld
import Derived.Below
import Derived.Test.YtijgngiocmnakaaSxD
import Derived.Test.YtijgngiocmnakaaMemT
namespace Go.Proofs.Ytijgngiocmnakaa.lawMemLast
open Go.ChangeShapes Go.WideShapes Go.ChangeAt Go.RowKit
open Go.ChangeMaps (open_string shut_string)
set_option linter.unusedVariables false
theorem own : ownKnob Try.prog.godebug = none := by kernel_rfl
theorem laidOut : laidOutB Try.prog = true := by kernel_rfl
theorem sh0 : Sx.shAt Try.prog 8 22 = some [.l 5 [.i .i64, .i .i64, .i .i64, .i .i64, .i .u32]] := by kernel_rfl
theorem sh1 : Sx.shAt Try.prog 8 23 = some [.l 2 [.i .i64, .i .i64]] := by kernel_rfl
theorem bulkSl {H : Type} {enc : TypeId × Value → H} {P : Program} {w : World} {base : Nat} {spare : Nat → Bool} {held : Bool} {t e : TypeId} {v : Value} {d : DataW H} {p : List MemPlace} {a : Option Addr} {n cap : Nat} (ht : P.underlying t = some (.slice e)) (h : DataW.Trod enc P w base spare held t v d p) (hv : v = .slice a n cap) : n + 1 ≤ Rows.uptoBulk d := by
  have len_le : ∀ l : List (DataW H), l.length ≤ Rows.uptoBulkAll l := by
    intro l
    induction l with
    | nil => simp [Rows.uptoBulkAll]
    | cons x r ih =>
      have h1 : 1 ≤ Rows.uptoBulk x := by
        cases x with
        | lit l => cases l <;> simp [Rows.uptoBulk]
        | nil => simp [Rows.uptoBulk]
        | ptr d => simp [Rows.uptoBulk]
        | slice elems spare => simp [Rows.uptoBulk]
        | agg parts => simp [Rows.uptoBulk]
        | iface t d => simp [Rows.uptoBulk]
        | map entries => simp [Rows.uptoBulk]
        | held h => simp [Rows.uptoBulk]
      simp only [Rows.uptoBulkAll, List.length_cons]; omega
  obtain ⟨fuel, hf⟩ := h
  subst hv
  rcases DataW.trod_slice ht hf with ⟨h1, h2⟩ | ⟨a', len, cap', elems, rest, m, _, h1, h2, _, _, _, h5, _⟩
  · simp [Value.cells] at h1
    obtain ⟨_, rfl, _⟩ := h1
    cases h2
    simp [Rows.uptoBulk]
  · simp [Value.cells] at h1
    obtain ⟨_, rfl, _⟩ := h1
    cases h2
    have := len_le (elems.map (·.1))
    simp only [Rows.uptoBulk, List.length_map] at this ⊢
    omega
theorem bulkRd {H : Type} {enc : TypeId × Value → H} {P : Program} {w : World} {base : Nat} {spare : Nat → Bool} {held : Bool} {t e : TypeId} {v : Value} {d : DataW H} {p : List MemPlace} {W : World} {F : Nat → Prop} {k : IntKind} {xs : List Int} (ht : P.underlying t = some (.slice e)) (h : DataW.Trod enc P w base spare held t v d p) (hr : Sx.Reads W F k v xs) : xs.length + 1 ≤ Rows.uptoBulk d := by
  rcases hr with ⟨a, cap, h1, _⟩ | ⟨b, off, cap, h1, _⟩
  · exact bulkSl ht h h1
  · exact bulkSl ht h h1
theorem bulkRs {H : Type} {enc : TypeId × Value → H} {P : Program} {w : World} {base : Nat} {spare : Nat → Bool} {held : Bool} {t e : TypeId} {v : Value} {d : DataW H} {p : List MemPlace} {W : World} {F : Nat → Prop} {sz n : Nat} {f : Nat → List Value} (ht : P.underlying t = some (.slice e)) (h : DataW.Trod enc P w base spare held t v d p) (hr : Sx.ReadsS W F sz v n f) : n + 1 ≤ Rows.uptoBulk d := by
  rcases hr.2 with ⟨a, cap, h1, _⟩ | ⟨b, off, cap, h1, _⟩
  · exact bulkSl ht h h1
  · exact bulkSl ht h h1

theorem reads (os : Os) {H : Type} (enc : TypeId × Value → H) : ∃ x, DataW.whole enc Try.prog (World.plainHolding Try.prog os ⟨#[], #[.slice none 0 0, .slice none 0 0], []⟩).memory Try.f3.params.toList Rows.memLastSpec.vars false (#[.slice none 0 0, .slice none 0 0] : Array Value).toList 12 = some x ∧ Rows.uptoSmall H (x.1 ++ x.2.1) = true := by
  have h : (DataW.whole enc Try.prog (World.plainHolding Try.prog os ⟨#[], #[.slice none 0 0, .slice none 0 0], []⟩).memory Try.f3.params.toList Rows.memLastSpec.vars false (#[.slice none 0 0, .slice none 0 0] : Array Value).toList 12).map (fun x => Rows.uptoSmall H (x.1 ++ x.2.1)) = some true := by kernel_rfl
  obtain ⟨x, hx, hk⟩ := Option.map_eq_some_iff.1 h
  exact ⟨x, hx, hk⟩
set_option maxRecDepth 100000 in
theorem lifted (os : Os) (started : os.Started) (H : Type) (enc : TypeId × Value → H) (F : Stop.Interp) :
    ReturnsInHanded {} Try.checked os 3 .any ((Rows.OpenSpec.upto Rows.memLastSpec).pre6 enc Try.prog Try.f3 Rows.memLastUptoRow.domain false) (((Rows.OpenSpec.upto Rows.memLastSpec).at F).post enc Try.prog Try.f3 false true false false) := by
  obtain ⟨x, hx, hsm⟩ := reads os enc
  refine returnsInHanded_of_cond (C := Try.checked) (s := Rows.OpenSpec.upto Rows.memLastSpec) (k := Rows.uptoSmall) rfl own started (by kernel_rfl) Try.func3
    (OpenSpec.witness (enc := enc) (C := Try.checked) (s := Rows.OpenSpec.upto Rows.memLastSpec) (k := Rows.uptoSmall) rfl false ⟨#[], #[.slice none 0 0, .slice none 0 0], []⟩ 12 (by kernel_rfl) (by kernel_rfl) (by kernel_rfl) (x := x) hx rfl hsm) ?_
  intro W base args ds gs before hval0 hW hcnd hk0 _
  have hval : ∀ (j : Nat) t v, Try.f3.params[j]? = some t → args[j]? = some v → Value.okWide Try.prog W .any base t v := hval0
  have hW' := hW
  obtain ⟨p, q, hA0, hV, rfl, hfz, hnd⟩ := hW
  have hA : DataW.TrodAll enc Try.prog W 0 (fun _ => true) true Try.f3.params.toList args.toList ds p := hA0
  rw [Try.params3] at hA hval
  obtain ⟨v0, vs0, d0, ds0, p0, q0, hargs, rfl, rfl, h0, r0⟩ := trodAll_cons hA
  obtain ⟨v1, vs1, d1, ds1, p1, q1, rfl, rfl, rfl, h1, r1⟩ := trodAll_cons r0
  obtain ⟨rfl, rfl, rfl⟩ := trodAll_nil r1
  obtain rfl : args = #[v0, v1] := by cases args; simp_all
  obtain ⟨rfl, rfl⟩ := trodVars_none hV
  have k0 := h0
  have lt0 : ∀ x ∈ p0, x.block < W.heap.size := by obtain ⟨m, hm⟩ := k0; exact DataW.trod_lt m _ _ _ hm
  have o0 := hval 0 _ v0 rfl rfl
  have k1 := h1
  have lt1 : ∀ x ∈ p1, x.block < W.heap.size := by obtain ⟨m, hm⟩ := k1; exact DataW.trod_lt m _ _ _ hm
  have o1 := hval 1 _ v1 rfl rfl
  have hk : Rows.uptoBulkAll ([d0, d1] ++ []) ≤ 1048576 := of_decide_eq_true hk0
  simp only [List.append_nil, Rows.uptoBulkAll] at hk
  clear hA0 hval0 hval hfz hnd hcnd
  have fin : Calls Try.prog 3 #[v0, v1] W fun e w' => e = .returned (.bool true) ∧ Below W.heap.size W w' := by
    have s0 := open_one sh0 h0
    obtain ⟨u0, m0, f0, d0, e0, r0, q0, n0, s0_1⟩ := Sx.sh_rs s0 rfl
    obtain rfl := Sx.sh_e s0_1
    obtain rfl := cells_one Try.underlying22 o0 e0
    have b0 : m0 ≤ 1048576 := by have := bulkRs Try.underlying22 k0 r0; omega
    have key0 : ∀ e, ∃ x : Int × Int × Int × Int × Int, e < m0 → f0 e = Sx.cellsL Sx.Num.zero [.int .i64 (x.1), .int .i64 (x.2.1), .int .i64 (x.2.2.1), .int .i64 (x.2.2.2.1), .int .u32 (x.2.2.2.2)] ∧ (Sx.InK .i64 (x.1)) ∧ (Sx.InK .i64 (x.2.1)) ∧ (Sx.InK .i64 (x.2.2.1)) ∧ (Sx.InK .i64 (x.2.2.2.1)) ∧ (Sx.InK .u32 (x.2.2.2.2)) := by
      intro e
      by_cases he : e < m0
      · have qq := q0 e he
        generalize f0 e = fe at qq
        obtain ⟨x1, dz0_1, rfl, i1, z0_1⟩ := Sx.sh_i qq
        obtain ⟨x2, dz0_2, rfl, i2, z0_2⟩ := Sx.sh_i z0_1
        obtain ⟨x3, dz0_3, rfl, i3, z0_3⟩ := Sx.sh_i z0_2
        obtain ⟨x4, dz0_4, rfl, i4, z0_4⟩ := Sx.sh_i z0_3
        obtain ⟨x5, dz0_5, rfl, i5, z0_5⟩ := Sx.sh_i z0_4
        obtain rfl := Sx.sh_e z0_5
        exact ⟨(x1, x2, x3, x4, x5), fun _ => ⟨rfl, i1, i2, i3, i4, i5⟩⟩
      · exact ⟨default, fun h => absurd h he⟩
    obtain ⟨g0, hg0⟩ := Classical.axiomOfChoice key0
    have rr0 := r0.as (g := fun e => Sx.cellsL Sx.Num.zero [.int .i64 ((g0 e).1), .int .i64 ((g0 e).2.1), .int .i64 ((g0 e).2.2.1), .int .i64 ((g0 e).2.2.2.1), .int .u32 ((g0 e).2.2.2.2)]) (fun e he => (hg0 e he).1)
    have kk0 : ∀ e, e < m0 → Sx.okdL W (fun _ => False) 0 [.int .i64 ((g0 e).1), .int .i64 ((g0 e).2.1), .int .i64 ((g0 e).2.2.1), .int .i64 ((g0 e).2.2.2.1), .int .u32 ((g0 e).2.2.2.2)] := fun e he => ⟨trivial, trivial, trivial, trivial, trivial, trivial⟩
    have s1 := open_one sh1 h1
    obtain ⟨u6, m6, f6, d6, e6, r6, q6, n6, s1_1⟩ := Sx.sh_rs s1 rfl
    obtain rfl := Sx.sh_e s1_1
    obtain rfl := cells_one Try.underlying23 o1 e6
    have b6 : m6 ≤ 1048576 := by have := bulkRs Try.underlying23 k1 r6; omega
    have key1 : ∀ e, ∃ x : Int × Int, e < m6 → f6 e = Sx.cellsL Sx.Num.zero [.int .i64 (x.1), .int .i64 (x.2)] ∧ (Sx.InK .i64 (x.1)) ∧ (Sx.InK .i64 (x.2)) := by
      intro e
      by_cases he : e < m6
      · have qq := q6 e he
        generalize f6 e = fe at qq
        obtain ⟨x7, dz1_1, rfl, i7, z1_1⟩ := Sx.sh_i qq
        obtain ⟨x8, dz1_2, rfl, i8, z1_2⟩ := Sx.sh_i z1_1
        obtain rfl := Sx.sh_e z1_2
        exact ⟨(x7, x8), fun _ => ⟨rfl, i7, i8⟩⟩
      · exact ⟨default, fun h => absurd h he⟩
    obtain ⟨g6, hg6⟩ := Classical.axiomOfChoice key1
    have rr6 := r6.as (g := fun e => Sx.cellsL Sx.Num.zero [.int .i64 ((g6 e).1), .int .i64 ((g6 e).2)]) (fun e he => (hg6 e he).1)
    have kk6 : ∀ e, e < m6 → Sx.okdL W (fun _ => False) 0 [.int .i64 ((g6 e).1), .int .i64 ((g6 e).2)] := fun e he => ⟨trivial, trivial, trivial⟩
    exact pure_law (MemLastL_ok v0 m0 (fun e => ((g0 e).1)) (fun e => ((g0 e).2.1)) (fun e => ((g0 e).2.2.1)) (fun e => ((g0 e).2.2.2.1)) (fun e => ((g0 e).2.2.2.2)) v1 m6 (fun e => ((g6 e).1)) (fun e => ((g6 e).2)) (fun e he => (hg0 e he).2.2.1) (fun e he => (hg0 e he).2.2.2.1) (fun e he => (hg0 e he).2.2.2.2.1) (fun e he => (hg0 e he).2.2.2.2.2) (fun e he => (hg6 e he).2.1) (fun e he => (hg6 e he).2.2) (b0) (b6)) W (by intro g cs h; simp [Sx.globs] at h) (by repeat (first | trivial | assumption | exact ⟨by assumption, by assumption⟩ | apply And.intro))
  refine fin.mono fun e W' ⟨he, bel⟩ => ?_
  subst he
  exact ⟨_, rfl, _, _, _, [], _, [], hW', trodAll_mk1 (shut_bool Try.underlying4 _), (trodAll_cons_mk (Below.trod laidOut (by kernel_rfl) (of_decide_eq_true (by kernel_rfl)) k0 bel lt0) (trodAll_cons_mk (Below.trod laidOut (by kernel_rfl) (of_decide_eq_true (by kernel_rfl)) k1 bel lt1) trodAll_mk0)), rfl, bel.frame _, fun h => by cases h⟩

theorem over : Rows.memLastUptoRow.holds Try.pinned (Rows.OpenSpec.upto Rows.memLastSpec) :=
  OpenClaim.holds_of_cond 3 Try.f3 rfl rfl rfl rfl rfl rfl rfl ⟨rfl, rfl, rfl, rfl, rfl⟩ rfl rfl rfl rfl rfl (by kernel_rfl) Try.func3 (by kernel_rfl)
    (of_decide_eq_true (by kernel_rfl)) (by unfold Func.isWrapper; first | (rw [if_pos (by decide +kernel)]; kernel_rfl) | (rw [if_neg (by decide +kernel)]; exact ⟨rfl, rfl⟩))
    (fun os started H enc _ F => lifted os started H enc F)

/-- THE STATEMENT -/
theorem proved : Rows.MemLastUptoSaid := over
#print axioms proved
end Go.Proofs.Ytijgngiocmnakaa.lawMemLast
