/- The statement WalkList. No condition. -/
import Derived.Test.YtlndkfcnfhkbkaaRows
import Derived.WalkKit
import Derived.ProofKit
import Derived.OpenShut
import Derived.ShutString
import Derived.ChangeOld
import Derived.Below
import Derived.Test.YtlndkfcnfhkbkaaSxD
import Derived.Test.YtlndkfcnfhkbkaaWlE
namespace Go.Proofs.Ytlndkfcnfhkbkaa.lawWalkList
open Go.ChangeShapes Go.WideShapes Go.ChangeAt Go.RowKit
open Go.ChangeMaps (open_string shut_string)
set_option linter.unusedVariables false
theorem own : ownKnob Try.prog.godebug = none := by kernel_rfl
theorem laidOut : laidOutB Try.prog = true := by kernel_rfl
theorem sh0 : Sx.shAt Try.prog 8 22 = some [.l 6 [.i .i64, .i .i64, .b, .i .i64, .b, .b]] := by kernel_rfl
theorem sh1 : Sx.shAt Try.prog 8 42 = some [.l 1 [.i .i64]] := by kernel_rfl
theorem bulkSl {H : Type} {enc : TypeId × Value → H} {P : Program} {w : World} {base : Nat} {spare : Nat → Bool} {held : Bool} {t e : TypeId} {v : Value} {d : DataW H} {p : List MemPlace} {a : Option Addr} {n cap : Nat} (ht : P.underlying t = some (.slice e)) (h : DataW.Trod enc P w base spare held t v d p) (hv : v = .slice a n cap) : n + 1 ≤ Rows.uptoBulk d := by
  have len_le : ∀ l : List (DataW H), l.length ≤ Rows.uptoBulkAll l := by
    intro l
    induction l with
    | nil => simp [Rows.uptoBulkAll]
    | cons x r ih =>
      have h1 : 1 ≤ Rows.uptoBulk x := by
        cases x with
        | lit l => cases l <;> simp [Rows.uptoBulk]
        | nil => simp [Rows.uptoBulk]
        | ptr d => simp [Rows.uptoBulk]
        | slice elems spare => simp [Rows.uptoBulk]
        | agg parts => simp [Rows.uptoBulk]
        | iface t d => simp [Rows.uptoBulk]
        | map entries => simp [Rows.uptoBulk]
        | held h => simp [Rows.uptoBulk]
      simp only [Rows.uptoBulkAll, List.length_cons]; omega
  obtain ⟨fuel, hf⟩ := h
  subst hv
  rcases DataW.trod_slice ht hf with ⟨h1, h2⟩ | ⟨a', len, cap', elems, rest, m, _, h1, h2, _, _, _, h5, _⟩
  · simp [Value.cells] at h1
    obtain ⟨_, rfl, _⟩ := h1
    cases h2
    simp [Rows.uptoBulk]
  · simp [Value.cells] at h1
    obtain ⟨_, rfl, _⟩ := h1
    cases h2
    have := len_le (elems.map (·.1))
    simp only [Rows.uptoBulk, List.length_map] at this ⊢
    omega
theorem bulkRd {H : Type} {enc : TypeId × Value → H} {P : Program} {w : World} {base : Nat} {spare : Nat → Bool} {held : Bool} {t e : TypeId} {v : Value} {d : DataW H} {p : List MemPlace} {W : World} {F : Nat → Prop} {k : IntKind} {xs : List Int} (ht : P.underlying t = some (.slice e)) (h : DataW.Trod enc P w base spare held t v d p) (hr : Sx.Reads W F k v xs) : xs.length + 1 ≤ Rows.uptoBulk d := by
  rcases hr with ⟨a, cap, h1, _⟩ | ⟨b, off, cap, h1, _⟩
  · exact bulkSl ht h h1
  · exact bulkSl ht h h1
theorem bulkRs {H : Type} {enc : TypeId × Value → H} {P : Program} {w : World} {base : Nat} {spare : Nat → Bool} {held : Bool} {t e : TypeId} {v : Value} {d : DataW H} {p : List MemPlace} {W : World} {F : Nat → Prop} {sz n : Nat} {f : Nat → List Value} (ht : P.underlying t = some (.slice e)) (h : DataW.Trod enc P w base spare held t v d p) (hr : Sx.ReadsS W F sz v n f) : n + 1 ≤ Rows.uptoBulk d := by
  rcases hr.2 with ⟨a, cap, h1, _⟩ | ⟨b, off, cap, h1, _⟩
  · exact bulkSl ht h h1
  · exact bulkSl ht h h1
theorem bulk_mem {H : Type} {l : List (DataW H)} {d : DataW H} (h : d ∈ l) : Rows.uptoBulk d ≤ Rows.uptoBulkAll l := by
  induction l with
  | nil => simp at h
  | cons x r ih =>
    simp only [Rows.uptoBulkAll]
    rcases List.mem_cons.1 h with rfl | h
    · omega
    · have := ih h; omega
theorem bulkF {H : Type} {enc : TypeId × Value → H} {P : Program} {w : World} {base : Nat} {spare : Nat → Bool} {held : Bool} {t e : TypeId} {fs : Array Field} {f : Field} {i : Nat} {cs : List Value} {u : Value} {d : DataW H} {p : List MemPlace} {W : World} {F : Nat → Prop} {sz n : Nat} {g : Nat → List Value}
    (ht : P.underlying t = some (.struct fs)) (h : DataW.Trod enc P w base spare held t (.agg cs.toArray) d p) (hf : fs[i]? = some f) (he : P.underlying f.type = some (.slice e)) (hc : (cs.drop f.offset).take (P.cellsOf f.type) = [u]) (hr : Sx.ReadsS W F sz u n g) : n + 1 ≤ Rows.uptoBulk d := by
  obtain ⟨fuel, h⟩ := h
  obtain ⟨xs, k, _, hx, _, hl, hg⟩ := DataW.trod_struct ht h
  cases hx
  have h1 := hg i f hf
  have hi : i < xs.length := by rw [hl]; exact (Array.getElem?_eq_some_iff.1 hf).1
  obtain ⟨a, cap, hu⟩ : ∃ a cap, u = .slice a n cap := by
    rcases hr.2 with ⟨a, cap, h1, _⟩ | ⟨b, off, cap, h1, _⟩
    · exact ⟨_, _, h1⟩
    · exact ⟨_, _, h1⟩
  have hcs : ((Value.agg cs.toArray).cells.toList.drop f.offset).take (P.cellsOf f.type) = u.cells.toList := by
    rw [hu, ← hu]; simpa [Value.cells, hu] using hc
  rw [hcs, List.getElem?_eq_getElem hi] at h1
  have h2 := bulkSl (d := xs[i].1) (p := xs[i].2) he ⟨k, h1⟩ hu
  have h3 := bulk_mem (l := xs.map (·.1)) (d := xs[i].1) (List.mem_map.2 ⟨_, List.getElem_mem hi, rfl⟩)
  simp only [Rows.uptoBulk]
  omega
theorem reads (os : Os) {H : Type} (enc : TypeId × Value → H) : ∃ x, DataW.whole enc Try.prog (World.plainHolding Try.prog os ⟨#[], #[.slice none 0 0, .slice none 0 0, .int .u32 0], []⟩).memory Try.f4.params.toList Rows.walkListSpec.vars false (#[.slice none 0 0, .slice none 0 0, .int .u32 0] : Array Value).toList 12 = some x ∧ Rows.uptoSmall H (x.1 ++ x.2.1) = true := by
  have h : (DataW.whole enc Try.prog (World.plainHolding Try.prog os ⟨#[], #[.slice none 0 0, .slice none 0 0, .int .u32 0], []⟩).memory Try.f4.params.toList Rows.walkListSpec.vars false (#[.slice none 0 0, .slice none 0 0, .int .u32 0] : Array Value).toList 12).map (fun x => Rows.uptoSmall H (x.1 ++ x.2.1)) = some true := by kernel_rfl
  obtain ⟨x, hx, hk⟩ := Option.map_eq_some_iff.1 h
  exact ⟨x, hx, hk⟩
set_option maxRecDepth 100000 in
theorem lifted (os : Os) (started : os.Started) (H : Type) (enc : TypeId × Value → H) (F : Stop.Interp) :
    ReturnsInHanded {} Try.checked os 4 .any ((Rows.OpenSpec.upto Rows.walkListSpec).pre6 enc Try.prog Try.f4 Rows.walkListUptoRow.domain false) (((Rows.OpenSpec.upto Rows.walkListSpec).at F).post enc Try.prog Try.f4 false true false false) := by
  obtain ⟨x, hx, hsm⟩ := reads os enc
  refine returnsInHanded_of_cond (C := Try.checked) (s := Rows.OpenSpec.upto Rows.walkListSpec) (k := Rows.uptoSmall) rfl own started (by kernel_rfl) Try.func4
    (OpenSpec.witness (enc := enc) (C := Try.checked) (s := Rows.OpenSpec.upto Rows.walkListSpec) (k := Rows.uptoSmall) rfl false ⟨#[], #[.slice none 0 0, .slice none 0 0, .int .u32 0], []⟩ 12 (by kernel_rfl) (by kernel_rfl) (by kernel_rfl) (x := x) hx rfl hsm) ?_
  intro W base args ds gs before hval0 hW hcnd hk0 _
  have hval : ∀ (j : Nat) t v, Try.f4.params[j]? = some t → args[j]? = some v → Value.okWide Try.prog W .any base t v := hval0
  have hW' := hW
  obtain ⟨p, q, hA0, hV, rfl, hfz, hnd⟩ := hW
  have hA : DataW.TrodAll enc Try.prog W 0 (fun _ => true) true Try.f4.params.toList args.toList ds p := hA0
  rw [Try.params4] at hA hval
  obtain ⟨v0, vs0, d0, ds0, p0, q0, hargs, rfl, rfl, h0, r0⟩ := trodAll_cons hA
  obtain ⟨v1, vs1, d1, ds1, p1, q1, rfl, rfl, rfl, h1, r1⟩ := trodAll_cons r0
  obtain ⟨v2, vs2, d2, ds2, p2, q2, rfl, rfl, rfl, h2, r2⟩ := trodAll_cons r1
  obtain ⟨rfl, rfl, rfl⟩ := trodAll_nil r2
  obtain rfl : args = #[v0, v1, v2] := by cases args; simp_all
  obtain ⟨rfl, rfl⟩ := trodVars_none hV
  have k0 := h0
  have lt0 : ∀ x ∈ p0, x.block < W.heap.size := by obtain ⟨m, hm⟩ := k0; exact DataW.trod_lt m _ _ _ hm
  have o0 := hval 0 _ v0 rfl rfl
  have k1 := h1
  have lt1 : ∀ x ∈ p1, x.block < W.heap.size := by obtain ⟨m, hm⟩ := k1; exact DataW.trod_lt m _ _ _ hm
  have o1 := hval 1 _ v1 rfl rfl
  have k2 := h2
  have lt2 : ∀ x ∈ p2, x.block < W.heap.size := by obtain ⟨m, hm⟩ := k2; exact DataW.trod_lt m _ _ _ hm
  have o2 := hval 2 _ v2 rfl rfl
  have hk : Rows.uptoBulkAll ([d0, d1, d2] ++ []) ≤ 1048576 := of_decide_eq_true hk0
  simp only [List.append_nil, Rows.uptoBulkAll] at hk
  clear hA0 hval0 hval hfz hnd hcnd
  have fin : Calls Try.prog 4 #[v0, v1, v2] W fun e w' => e = .returned (.bool true) ∧ Below W.heap.size W w' := by
    have s0 := open_one sh0 h0
    obtain ⟨u0, m0, f0, d0, e0, r0, q0, n0, s0_1⟩ := Sx.sh_rs s0 rfl
    obtain rfl := Sx.sh_e s0_1
    obtain rfl := cells_one Try.underlying22 o0 e0
    have b0 : m0 ≤ 1048576 := by have := bulkRs Try.underlying22 k0 r0; omega
    have key0 : ∀ e, ∃ x : Int × Int × Bool × Int × Bool × Bool, e < m0 → f0 e = Sx.cellsL Sx.Num.zero [.int .i64 (x.1), .int .i64 (x.2.1), .bool (x.2.2.1), .int .i64 (x.2.2.2.1), .bool (x.2.2.2.2.1), .bool (x.2.2.2.2.2)] ∧ (Sx.InK .i64 (x.1)) ∧ (Sx.InK .i64 (x.2.1)) ∧ (Sx.InK .i64 (x.2.2.2.1)) := by
      intro e
      by_cases he : e < m0
      · have qq := q0 e he
        generalize f0 e = fe at qq
        obtain ⟨x1, dz0_1, rfl, i1, z0_1⟩ := Sx.sh_i qq
        obtain ⟨x2, dz0_2, rfl, i2, z0_2⟩ := Sx.sh_i z0_1
        obtain ⟨x3, dz0_3, rfl, z0_3⟩ := Sx.sh_b z0_2
        obtain ⟨x4, dz0_4, rfl, i4, z0_4⟩ := Sx.sh_i z0_3
        obtain ⟨x5, dz0_5, rfl, z0_5⟩ := Sx.sh_b z0_4
        obtain ⟨x6, dz0_6, rfl, z0_6⟩ := Sx.sh_b z0_5
        obtain rfl := Sx.sh_e z0_6
        exact ⟨(x1, x2, x3, x4, x5, x6), fun _ => ⟨rfl, i1, i2, i4⟩⟩
      · exact ⟨default, fun h => absurd h he⟩
    obtain ⟨g0, hg0⟩ := Classical.axiomOfChoice key0
    have rr0 := r0.as (g := fun e => Sx.cellsL Sx.Num.zero [.int .i64 ((g0 e).1), .int .i64 ((g0 e).2.1), .bool ((g0 e).2.2.1), .int .i64 ((g0 e).2.2.2.1), .bool ((g0 e).2.2.2.2.1), .bool ((g0 e).2.2.2.2.2)]) (fun e he => (hg0 e he).1)
    have kk0 : ∀ e, e < m0 → Sx.okdL W (fun _ => False) 0 [.int .i64 ((g0 e).1), .int .i64 ((g0 e).2.1), .bool ((g0 e).2.2.1), .int .i64 ((g0 e).2.2.2.1), .bool ((g0 e).2.2.2.2.1), .bool ((g0 e).2.2.2.2.2)] := fun e he => ⟨trivial, trivial, trivial, trivial, trivial, trivial, trivial⟩
    have s1 := open_one sh1 h1
    obtain ⟨u7, x7, d7, e7, r7, i7, n7, s1_1⟩ := Sx.sh_rd s1
    obtain rfl := Sx.sh_e s1_1
    obtain rfl := cells_one Try.underlying42 o1 e7
    have b7 : x7.length ≤ 1048576 := by have := bulkRd Try.underlying42 k1 r7; omega
    obtain ⟨x8, rfl, rfl, rfl, w8⟩ := open_int Try.underlying34 o2 h2
    have i8 := InK_of_wf w8
    exact pure_law (WalkListL_ok v0 m0 (fun e => ((g0 e).1)) (fun e => ((g0 e).2.1)) (fun e => ((g0 e).2.2.1)) (fun e => ((g0 e).2.2.2.1)) (fun e => ((g0 e).2.2.2.2.1)) (fun e => ((g0 e).2.2.2.2.2)) v1 x7 x8 (by omega) (⟨fun e he => (hg0 e he).2⟩) (i8) (LF_of (Nat.min_le_right _ _) _ _ _ _ _ _)) W (by intro g cs h; simp [Sx.globs] at h) (by repeat (first | trivial | assumption | exact ⟨by assumption, by assumption⟩ | apply And.intro))
  refine fin.mono fun e W' ⟨he, bel⟩ => ?_
  subst he
  exact ⟨_, rfl, _, _, _, [], _, [], hW', trodAll_mk1 (shut_bool Try.underlying4 _), (trodAll_cons_mk (Below.trod laidOut (by kernel_rfl) (of_decide_eq_true (by kernel_rfl)) k0 bel lt0) (trodAll_cons_mk (Below.trod laidOut (by kernel_rfl) (of_decide_eq_true (by kernel_rfl)) k1 bel lt1) (trodAll_cons_mk (Below.trod laidOut (by kernel_rfl) (of_decide_eq_true (by kernel_rfl)) k2 bel lt2) trodAll_mk0))), rfl, bel.frame _, fun h => by cases h⟩
theorem over : Rows.walkListUptoRow.holds Try.pinned (Rows.OpenSpec.upto Rows.walkListSpec) :=
  OpenClaim.holds_of_cond 4 Try.f4 rfl rfl rfl rfl rfl rfl rfl ⟨rfl, rfl, rfl, rfl, rfl⟩ rfl rfl rfl rfl rfl (by kernel_rfl) Try.func4 (by kernel_rfl)
    (of_decide_eq_true (by kernel_rfl)) (by unfold Func.isWrapper; first | (rw [if_pos (by decide +kernel)]; kernel_rfl) | (rw [if_neg (by decide +kernel)]; exact ⟨rfl, rfl⟩))
    (fun os started H enc _ F => lifted os started H enc F)
theorem proved : Rows.WalkListUptoSaid := over
#print axioms proved
end Go.Proofs.Ytlndkfcnfhkbkaa.lawWalkList
