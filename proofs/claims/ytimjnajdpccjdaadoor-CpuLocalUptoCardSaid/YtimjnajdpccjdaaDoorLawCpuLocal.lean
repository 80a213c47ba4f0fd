/- The statement CpuLocal. No condition. -/
import Derived.Test.YtimjnajdpccjdaaDoorCards
import Derived.Test.YtimjnajdpccjdaaDoorTie
import Derived.Deep.DeepHandedRow
import Derived.Test.YtimjnajdpccjdaaDoorSxD
import Derived.Test.YtimjnajdpccjdaaDoorRows
import Derived.WalkKit
import Derived.ProofKit
import Derived.OpenShut
import Derived.ShutString
import Derived.ChangeOld
import Derived.Below
import Derived.Test.YtimjnajdpccjdaaDoorSxD
import Derived.Test.YtimjnajdpccjdaaDoorCpO
namespace Go.Proofs.YtimjnajdpccjdaaDoor.lawCpuLocal
set_option linter.unusedVariables false
set_option linter.unusedSimpArgs false
open Go.ChangeShapes Go.WideShapes Go.ChangeAt Go.RowKit
open Go.ChangeMaps (open_string shut_string)
theorem own : ownKnob Tryd.prog.godebug = none := by kernel_rfl
theorem laidOut : laidOutB Tryd.prog = true := by kernel_rfl
theorem sh0 : Sx.shAt Tryd.prog 8 28 = some [.i .i64, .i .i64, .l 4 [.b, .i .i64, .i .i64, .l 1 [.i .u32]], .i .i64, .i .u32, .i .u32, .i .u32, .i .u32, .i .u32, .i .u32, .i .u32, .i .u32, .i .u32, .i .u32, .i .u32, .i .u32, .i .u32, .i .u32, .i .u32, .i .u32, .b, .b, .b] := by kernel_rfl
theorem agg0 : isAggT Tryd.prog 28 = true := by kernel_rfl
theorem sh1 : Sx.shAt Tryd.prog 8 36 = some [.b, .i .i64, .i .i64] := by kernel_rfl
theorem agg1 : isAggT Tryd.prog 36 = true := by kernel_rfl
theorem bulkSl {H : Type} {enc : TypeId × Value → H} {P : Program} {w : World} {base : Nat} {spare : Nat → Bool} {held : Bool} {t e : TypeId} {v : Value} {d : DataW H} {p : List MemPlace} {a : Option Addr} {n cap : Nat} (ht : P.underlying t = some (.slice e)) (h : DataW.Trod enc P w base spare held t v d p) (hv : v = .slice a n cap) : n + 1 ≤ Rows.uptoBulk d := by
  have len_le : ∀ l : List (DataW H), l.length ≤ Rows.uptoBulkAll l := by
    intro l
    induction l with
    | nil => simp [Rows.uptoBulkAll]
    | cons x r ih =>
      have h1 : 1 ≤ Rows.uptoBulk x := by
        cases x with
        | lit l => cases l <;> simp [Rows.uptoBulk]
        | nil => simp [Rows.uptoBulk]
        | ptr d => simp [Rows.uptoBulk]
        | slice elems spare => simp [Rows.uptoBulk]
        | agg parts => simp [Rows.uptoBulk]
        | iface t d => simp [Rows.uptoBulk]
        | map entries => simp [Rows.uptoBulk]
        | held h => simp [Rows.uptoBulk]
      simp only [Rows.uptoBulkAll, List.length_cons]; omega
  obtain ⟨fuel, hf⟩ := h
  subst hv
  rcases DataW.trod_slice ht hf with ⟨h1, h2⟩ | ⟨a', len, cap', elems, rest, m, _, h1, h2, _, _, _, h5, _⟩
  · simp [Value.cells] at h1
    obtain ⟨_, rfl, _⟩ := h1
    cases h2
    simp [Rows.uptoBulk]
  · simp [Value.cells] at h1
    obtain ⟨_, rfl, _⟩ := h1
    cases h2
    have := len_le (elems.map (·.1))
    simp only [Rows.uptoBulk, List.length_map] at this ⊢
    omega
theorem bulkRd {H : Type} {enc : TypeId × Value → H} {P : Program} {w : World} {base : Nat} {spare : Nat → Bool} {held : Bool} {t e : TypeId} {v : Value} {d : DataW H} {p : List MemPlace} {W : World} {F : Nat → Prop} {k : IntKind} {xs : List Int} (ht : P.underlying t = some (.slice e)) (h : DataW.Trod enc P w base spare held t v d p) (hr : Sx.Reads W F k v xs) : xs.length + 1 ≤ Rows.uptoBulk d := by
  rcases hr with ⟨a, cap, h1, _⟩ | ⟨b, off, cap, h1, _⟩
  · exact bulkSl ht h h1
  · exact bulkSl ht h h1
theorem bulkRs {H : Type} {enc : TypeId × Value → H} {P : Program} {w : World} {base : Nat} {spare : Nat → Bool} {held : Bool} {t e : TypeId} {v : Value} {d : DataW H} {p : List MemPlace} {W : World} {F : Nat → Prop} {sz n : Nat} {f : Nat → List Value} (ht : P.underlying t = some (.slice e)) (h : DataW.Trod enc P w base spare held t v d p) (hr : Sx.ReadsS W F sz v n f) : n + 1 ≤ Rows.uptoBulk d := by
  rcases hr.2 with ⟨a, cap, h1, _⟩ | ⟨b, off, cap, h1, _⟩
  · exact bulkSl ht h h1
  · exact bulkSl ht h h1
theorem bulk_mem {H : Type} {l : List (DataW H)} {d : DataW H} (h : d ∈ l) : Rows.uptoBulk d ≤ Rows.uptoBulkAll l := by
  induction l with
  | nil => simp at h
  | cons x r ih =>
    simp only [Rows.uptoBulkAll]
    rcases List.mem_cons.1 h with rfl | h
    · omega
    · have := ih h; omega
theorem bulkF {H : Type} {enc : TypeId × Value → H} {P : Program} {w : World} {base : Nat} {spare : Nat → Bool} {held : Bool} {t e : TypeId} {fs : Array Field} {f : Field} {i : Nat} {cs : List Value} {u : Value} {d : DataW H} {p : List MemPlace} {W : World} {F : Nat → Prop} {sz n : Nat} {g : Nat → List Value}
    (ht : P.underlying t = some (.struct fs)) (h : DataW.Trod enc P w base spare held t (.agg cs.toArray) d p) (hf : fs[i]? = some f) (he : P.underlying f.type = some (.slice e)) (hc : (cs.drop f.offset).take (P.cellsOf f.type) = [u]) (hr : Sx.ReadsS W F sz u n g) : n + 1 ≤ Rows.uptoBulk d := by
  obtain ⟨fuel, h⟩ := h
  obtain ⟨xs, k, _, hx, _, hl, hg⟩ := DataW.trod_struct ht h
  cases hx
  have h1 := hg i f hf
  have hi : i < xs.length := by rw [hl]; exact (Array.getElem?_eq_some_iff.1 hf).1
  obtain ⟨a, cap, hu⟩ : ∃ a cap, u = .slice a n cap := by
    rcases hr.2 with ⟨a, cap, h1, _⟩ | ⟨b, off, cap, h1, _⟩
    · exact ⟨_, _, h1⟩
    · exact ⟨_, _, h1⟩
  have hcs : ((Value.agg cs.toArray).cells.toList.drop f.offset).take (P.cellsOf f.type) = u.cells.toList := by
    rw [hu, ← hu]; simpa [Value.cells, hu] using hc
  rw [hcs, List.getElem?_eq_getElem hi] at h1
  have h2 := bulkSl (d := xs[i].1) (p := xs[i].2) he ⟨k, h1⟩ hu
  have h3 := bulk_mem (l := xs.map (·.1)) (d := xs[i].1) (List.mem_map.2 ⟨_, List.getElem_mem hi, rfl⟩)
  simp only [Rows.uptoBulk]
  omega
noncomputable def ty1 : TypeId := ((Tryd.prog.globals[1]?).map (·.type)).getD 0
noncomputable def ty0 : TypeId := ((Tryd.prog.globals[0]?).map (·.type)).getD 0
theorem hglob {W : World} (h : laidMetH Tryd.prog Rows.cpuLocalUptoRow.laid W) : Sx.Globs W (fun _ => False) := by
  have h : laidMet Tryd.prog Rows.cpuLocalUptoRow.laid W := h
  exact Sx.globs_of ⟨Sx.laid_glob (t := ty1) (d := Rows.laid_warden_isa_uses) h (List.mem_of_getElem? (i := 0) rfl) (by kernel_rfl) (by kernel_rfl) (by kernel_rfl), Sx.laid_glob (t := ty0) (d := Rows.laid_warden_cpu_groups) h (List.mem_of_getElem? (i := 1) rfl) (by kernel_rfl) (by kernel_rfl) (by kernel_rfl), trivial⟩
noncomputable def laidWorld (os : Os) : World :=
  { World.holding Tryd.prog os ⟨#[], #[], []⟩ with heap := (((World.holding Tryd.prog os ⟨#[], #[], []⟩).heap.modify 1 (fun o => match o with | Obj.cells _ t fr => Obj.cells (Sx.cellsL Sx.Num.zero ((List.lookup 1 Sx.globs).getD [])).toArray t fr | o => o)).modify 0 (fun o => match o with | Obj.cells _ t fr => Obj.cells (Sx.cellsL Sx.Num.zero ((List.lookup 0 Sx.globs).getD [])).toArray t fr | o => o)) }
theorem laid_met (os : Os) : laidMet Tryd.prog Rows.cpuLocalUptoRow.laid ((laidWorld os).forCall (fun _ _ => 0) ⟨#[], #[.agg #[.int .i64 0, .int .i64 0, .slice none 0 0, .int .i64 0, .int .u32 0, .int .u32 0, .int .u32 0, .int .u32 0, .int .u32 0, .int .u32 0, .int .u32 0, .int .u32 0, .int .u32 0, .int .u32 0, .int .u32 0, .int .u32 0, .int .u32 0, .int .u32 0, .int .u32 0, .int .u32 0, .bool false, .bool false, .bool false], .agg #[.bool false, .int .i64 0, .int .i64 0], .int .u32 0], []⟩).memory :=
  laidMet_of_run' 8 (by kernel_rfl) (by kernel_rfl)
theorem reads (os : Os) {H : Type} (enc : TypeId × Value → H) : ∃ x, DataW.whole enc Tryd.prog ((laidWorld os).forCall (fun _ _ => 0) ⟨#[], #[.agg #[.int .i64 0, .int .i64 0, .slice none 0 0, .int .i64 0, .int .u32 0, .int .u32 0, .int .u32 0, .int .u32 0, .int .u32 0, .int .u32 0, .int .u32 0, .int .u32 0, .int .u32 0, .int .u32 0, .int .u32 0, .int .u32 0, .int .u32 0, .int .u32 0, .int .u32 0, .int .u32 0, .bool false, .bool false, .bool false], .agg #[.bool false, .int .i64 0, .int .i64 0], .int .u32 0], []⟩).memory Tryd.f4.params.toList Rows.cpuLocalSpec.vars false (#[.agg #[.int .i64 0, .int .i64 0, .slice none 0 0, .int .i64 0, .int .u32 0, .int .u32 0, .int .u32 0, .int .u32 0, .int .u32 0, .int .u32 0, .int .u32 0, .int .u32 0, .int .u32 0, .int .u32 0, .int .u32 0, .int .u32 0, .int .u32 0, .int .u32 0, .int .u32 0, .int .u32 0, .bool false, .bool false, .bool false], .agg #[.bool false, .int .i64 0, .int .i64 0], .int .u32 0] : Array Value).toList 12 = some x ∧ Rows.uptoSmall H (x.1 ++ x.2.1) = true := by
  have h : (DataW.whole enc Tryd.prog ((laidWorld os).forCall (fun _ _ => 0) ⟨#[], #[.agg #[.int .i64 0, .int .i64 0, .slice none 0 0, .int .i64 0, .int .u32 0, .int .u32 0, .int .u32 0, .int .u32 0, .int .u32 0, .int .u32 0, .int .u32 0, .int .u32 0, .int .u32 0, .int .u32 0, .int .u32 0, .int .u32 0, .int .u32 0, .int .u32 0, .int .u32 0, .int .u32 0, .bool false, .bool false, .bool false], .agg #[.bool false, .int .i64 0, .int .i64 0], .int .u32 0], []⟩).memory Tryd.f4.params.toList Rows.cpuLocalSpec.vars false (#[.agg #[.int .i64 0, .int .i64 0, .slice none 0 0, .int .i64 0, .int .u32 0, .int .u32 0, .int .u32 0, .int .u32 0, .int .u32 0, .int .u32 0, .int .u32 0, .int .u32 0, .int .u32 0, .int .u32 0, .int .u32 0, .int .u32 0, .int .u32 0, .int .u32 0, .int .u32 0, .int .u32 0, .bool false, .bool false, .bool false], .agg #[.bool false, .int .i64 0, .int .i64 0], .int .u32 0] : Array Value).toList 12).map (fun x => Rows.uptoSmall H (x.1 ++ x.2.1)) = some true := by kernel_rfl
  obtain ⟨x, hx, hk⟩ := Option.map_eq_some_iff.1 h
  exact ⟨x, hx, hk⟩
set_option maxRecDepth 100000 in
theorem lifted (os : Os) (started : os.Started) (H : Type) (enc : TypeId × Value → H) (F : Stop.Interp) :
    ReturnsInHanded {} Tryd.checked os 4 .any ((Rows.OpenSpec.upto Rows.cpuLocalSpec).preRow enc Tryd.prog Tryd.f4 Rows.cpuLocalUptoRow.domain false Rows.cpuLocalUptoRow.laid) (((Rows.OpenSpec.upto Rows.cpuLocalSpec).at F).post enc Tryd.prog Tryd.f4 false true false false) := by
  obtain ⟨x, hx, hsm⟩ := reads os enc
  refine returnsInHanded_of_row (C := Tryd.checked) (s := Rows.OpenSpec.upto Rows.cpuLocalSpec) own started (by kernel_rfl) Tryd.func4
    (witness_row_at (enc := enc) (C := Tryd.checked) false (laidWorld os) #[.agg #[.int .i64 0, .int .i64 0, .slice none 0 0, .int .i64 0, .int .u32 0, .int .u32 0, .int .u32 0, .int .u32 0, .int .u32 0, .int .u32 0, .int .u32 0, .int .u32 0, .int .u32 0, .int .u32 0, .int .u32 0, .int .u32 0, .int .u32 0, .int .u32 0, .int .u32 0, .int .u32 0, .bool false, .bool false, .bool false], .agg #[.bool false, .int .i64 0, .int .i64 0], .int .u32 0] rfl (by kernel_rfl) (by kernel_rfl) (by kernel_rfl)
      (OpenSpec.preRow_of_cond 12 hx (by kernel_rfl) (fun k hk => by cases hk; exact hsm) (by kernel_rfl) (laid_met os))) ?_
  intro W base args ds gs before hval0 hW hcnd hk0 _ hL _ _
  have hglob := hglob hL
  have hval : ∀ (j : Nat) t v, Tryd.f4.params[j]? = some t → args[j]? = some v → Value.okWide Tryd.prog W .any base t v := hval0
  have hW' := hW
  obtain ⟨p, q, hA0, hV, rfl, hfz, hnd⟩ := hW
  have hA : DataW.TrodAll enc Tryd.prog W 0 (fun _ => true) true Tryd.f4.params.toList args.toList ds p := hA0
  rw [Tryd.params4] at hA hval
  obtain ⟨v0, vs0, d0, ds0, p0, q0, hargs, rfl, rfl, h0, r0⟩ := trodAll_cons hA
  obtain ⟨v1, vs1, d1, ds1, p1, q1, rfl, rfl, rfl, h1, r1⟩ := trodAll_cons r0
  obtain ⟨v2, vs2, d2, ds2, p2, q2, rfl, rfl, rfl, h2, r2⟩ := trodAll_cons r1
  obtain ⟨rfl, rfl, rfl⟩ := trodAll_nil r2
  obtain rfl : args = #[v0, v1, v2] := by cases args; simp_all
  obtain ⟨rfl, rfl⟩ := trodVars_none hV
  have k0 := h0
  have lt0 : ∀ x ∈ p0, x.block < W.heap.size := by obtain ⟨m, hm⟩ := k0; exact DataW.trod_lt m _ _ _ hm
  have o0 := hval 0 _ v0 rfl rfl
  have k1 := h1
  have lt1 : ∀ x ∈ p1, x.block < W.heap.size := by obtain ⟨m, hm⟩ := k1; exact DataW.trod_lt m _ _ _ hm
  have o1 := hval 1 _ v1 rfl rfl
  have k2 := h2
  have lt2 : ∀ x ∈ p2, x.block < W.heap.size := by obtain ⟨m, hm⟩ := k2; exact DataW.trod_lt m _ _ _ hm
  have o2 := hval 2 _ v2 rfl rfl
  have hk : Rows.uptoBulkAll ([d0, d1, d2] ++ []) ≤ 1048576 := of_decide_eq_true (hk0 _ rfl)
  simp only [List.append_nil, Rows.uptoBulkAll] at hk
  clear hA0 hval0 hval hfz hnd hcnd
  have fin : Calls Tryd.prog 4 #[v0, v1, v2] W fun e w' => e = .returned (.bool true) ∧ Below W.heap.size W w' := by
    obtain ⟨c0, rfl, s0_0⟩ := open_agg agg0 sh0 o0 h0
    obtain ⟨x0, ds0_1, rfl, i0, s0_1⟩ := Sx.sh_i s0_0
    obtain ⟨x1, ds0_2, rfl, i1, s0_2⟩ := Sx.sh_i s0_1
    obtain ⟨u2, m2, f2, ds0_3, rfl, r2, q2, n2, s0_3⟩ := Sx.sh_rs s0_2 rfl
    have key2 : ∀ e, ∃ x : Bool × Int × Int × Value × List Int, e < m2 → f2 e = Sx.cellsL Sx.Num.zero [.bool (x.1), .int .i64 (x.2.1), .int .i64 (x.2.2.1), .rd .u32 (x.2.2.2.1) (x.2.2.2.2)] ∧ (Sx.InK .i64 (x.2.1)) ∧ (Sx.InK .i64 (x.2.2.1)) ∧ (∀ y ∈ (x.2.2.2.2), Sx.InK .u32 y) ∧ ((x.2.2.2.2).length ≤ maxLen) ∧ (Sx.Reads W (fun _ => False) .u32 (x.2.2.2.1) (x.2.2.2.2)) := by
      intro e
      by_cases he : e < m2
      · have qq := q2 e he
        generalize f2 e = fe at qq
        obtain ⟨x3, dz2_1, rfl, z2_1⟩ := Sx.sh_b qq
        obtain ⟨x4, dz2_2, rfl, i4, z2_2⟩ := Sx.sh_i z2_1
        obtain ⟨x5, dz2_3, rfl, i5, z2_3⟩ := Sx.sh_i z2_2
        obtain ⟨u6, x6, dz2_4, rfl, r6, i6, n6, z2_4⟩ := Sx.sh_rd z2_3
        obtain rfl := Sx.sh_e z2_4
        exact ⟨(x3, x4, x5, u6, x6), fun _ => ⟨rfl, i4, i5, i6, n6, r6⟩⟩
      · exact ⟨default, fun h => absurd h he⟩
    obtain ⟨g2, hg2⟩ := Classical.axiomOfChoice key2
    have rr2 := r2.as (g := fun e => Sx.cellsL Sx.Num.zero [.bool ((g2 e).1), .int .i64 ((g2 e).2.1), .int .i64 ((g2 e).2.2.1), .rd .u32 ((g2 e).2.2.2.1) ((g2 e).2.2.2.2)]) (fun e he => (hg2 e he).1)
    have kk2 : ∀ e, e < m2 → Sx.okdL W (fun _ => False) 0 [.bool ((g2 e).1), .int .i64 ((g2 e).2.1), .int .i64 ((g2 e).2.2.1), .rd .u32 ((g2 e).2.2.2.1) ((g2 e).2.2.2.2)] := fun e he => ⟨trivial, trivial, trivial, (hg2 e he).2.2.2.2.2, trivial⟩
    obtain ⟨x7, ds0_4, rfl, i7, s0_4⟩ := Sx.sh_i s0_3
    obtain ⟨x8, ds0_5, rfl, l8, i8, s0_5⟩ := Sx.sh_r 15 s0_4
    obtain ⟨x9, ds0_6, rfl, i9, s0_6⟩ := Sx.sh_i s0_5
    obtain ⟨x10, ds0_7, rfl, s0_7⟩ := Sx.sh_b s0_6
    obtain ⟨x11, ds0_8, rfl, s0_8⟩ := Sx.sh_b s0_7
    obtain ⟨x12, ds0_9, rfl, s0_9⟩ := Sx.sh_b s0_8
    obtain rfl := Sx.sh_e s0_9
    have b2 : m2 ≤ 1048576 := by have := bulkF Tryd.underlying28 k0 (i := 2) rfl Tryd.underlying22 rfl r2; omega
    obtain ⟨c1, rfl, s1_0⟩ := open_agg agg1 sh1 o1 h1
    obtain ⟨x13, ds1_1, rfl, s1_1⟩ := Sx.sh_b s1_0
    obtain ⟨x14, ds1_2, rfl, i14, s1_2⟩ := Sx.sh_i s1_1
    obtain ⟨x15, ds1_3, rfl, i15, s1_3⟩ := Sx.sh_i s1_2
    obtain rfl := Sx.sh_e s1_3
    obtain ⟨x16, rfl, rfl, rfl, w16⟩ := open_int Tryd.underlying23 o2 h2
    have i16 := InK_of_wf w16
    exact pure_law (CpuLocalL_ok x0 x1 u2 m2 (fun e => ((g2 e).1)) (fun e => ((g2 e).2.1)) (fun e => ((g2 e).2.2.1)) (fun e => ((g2 e).2.2.2.1)) (fun e => ((g2 e).2.2.2.2)) x7 x8 x9 x10 x11 x12 x13 x14 x15 x16 (⟨fun e he => (hg2 e he).2.2.2.1⟩) (b2) (wfF.mk l8 i8 i9) (i7) (i16)) W hglob (by repeat (first | trivial | assumption | exact ⟨by assumption, by assumption⟩ | apply And.intro))
  refine fin.mono fun e W' ⟨he, bel⟩ => ?_
  subst he
  exact ⟨_, rfl, _, _, _, [], _, [], hW', trodAll_mk1 (shut_bool Tryd.underlying4 _), (trodAll_cons_mk (Below.trod laidOut (by kernel_rfl) (of_decide_eq_true (by kernel_rfl)) k0 bel lt0) (trodAll_cons_mk (Below.trod laidOut (by kernel_rfl) (of_decide_eq_true (by kernel_rfl)) k1 bel lt1) (trodAll_cons_mk (Below.trod laidOut (by kernel_rfl) (of_decide_eq_true (by kernel_rfl)) k2 bel lt2) trodAll_mk0))), rfl, bel.frame _, fun h => by cases h⟩
theorem over : Rows.CpuLocalUptoSaid :=
  OpenClaim.holds_of_cond 4 Tryd.f4 rfl rfl rfl rfl rfl rfl rfl ⟨rfl, rfl, rfl, rfl, rfl⟩ rfl rfl rfl rfl rfl (by kernel_rfl) Tryd.func4 (by kernel_rfl)
    (of_decide_eq_true (by kernel_rfl)) (by unfold Func.isWrapper; first | (rw [if_pos (by decide +kernel)]; kernel_rfl) | (rw [if_neg (by decide +kernel)]; exact ⟨rfl, rfl⟩))
    (fun os started H enc _ F => by rw [OpenClaim.pre_eq_preRow]; exact lifted os started H enc F)
theorem plain (f : FuncId) (fn : Func) (hf : Tryd.pinned.checked.prog.funcNamed "warden/wardenlaw10.CpuLocal" = some f) (hfn : Tryd.pinned.checked.prog.funcs[f]? = some fn) :
    true = Tryd.pinned.checked.prog.looks [] ∧ ∀ (j : Nat) t, fn.params[j]? = some t → Tryd.pinned.checked.prog.wantsStandIn t = false := by
  obtain rfl : f = 4 := Option.some.inj ((show Tryd.prog.funcNamed "warden/wardenlaw10.CpuLocal" = some 4 by kernel_rfl).symm.trans hf) |>.symm
  obtain rfl : fn = Tryd.f4 := (Option.some.inj (Tryd.func4.symm.trans hfn)).symm
  refine ⟨by kernel_rfl, fun j t ht => ?_⟩
  have all : ∀ x ∈ Tryd.f4.params.toList, Tryd.prog.wantsStandIn x = false := by
    have h : (Tryd.f4.params.toList.all fun x => !Tryd.prog.wantsStandIn x) = true := by kernel_rfl
    intro x hx
    simpa using List.all_eq_true.1 h x hx
  exact all t (Array.mem_toList_iff.2 (Array.mem_of_getElem? ht))
theorem proved : Rows.CpuLocalUptoCardSaid :=
  Claim7.holds_tied_plain_at .later [] _ _ _ _ over (fun _ h => by cases h) (by kernel_rfl) (fun _ h => by cases h) cpuLocalUpto_row_tie rfl ⟨rfl, rfl⟩ (by kernel_rfl) rfl plain (by kernel_rfl)
#print axioms proved
end Go.Proofs.YtimjnajdpccjdaaDoor.lawCpuLocal
