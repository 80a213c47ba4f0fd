/- All that is mapped, as a list. No condition beyond sizes. -/
import Derived.Test.YtlndkfcnfhkbkaaWkS
import Derived.Maps.OwnIn
namespace Go.Proofs.Ytlndkfcnfhkbkaa
open Go.RowKit Sx Go.Shelf
set_option linter.unusedVariables false
set_option linter.unusedSimpArgs false
set_option maxRecDepth 100000
set_option maxHeartbeats 4000000
attribute [local go_sem] Oper.semAt_some
noncomputable abbrev itV (ps qs : List (List Int)) (l : Int) (x : Nat × Nat) : List Value := [.int .u32 (vaI x.1 x.2), .bool (plS ps qs (tbP ps qs l (x.1 : Int)) (x.2 : Int)), .int .i64 (plF ps qs (tbP ps qs l (x.1 : Int)) (x.2 : Int)), .bool (plW ps qs (tbP ps qs l (x.1 : Int)) (x.2 : Int)), .bool (plX ps qs (tbP ps qs l (x.1 : Int)) (x.2 : Int))]
noncomputable def itL (ps qs : List (List Int)) (l : Int) (s : List (Nat × Nat)) : List Value := s.flatMap (itV ps qs l)
theorem itL_snoc (ps qs : List (List Int)) (l : Int) (s : List (Nat × Nat)) (x : Nat × Nat) : itL ps qs l (s ++ [x]) = itL ps qs l s ++ itV ps qs l x := by
  simp [itL, List.flatMap_append]
structure OutAt (ne bo a0 : Nat) (we : World) (Gi : Nat → Prop) (ps qs : List (List Int)) (l : Int) (G : Nat → Prop) (s : List (Nat × Nat)) (W : World) : Prop where
  out : ∃ v, Boxed W bo 27 v ∧ W.ownsRow ne 40 5 v s.length (itL ps qs l s) ∧ (v = .slice none 0 0 ↔ s = []) ∧ ∀ g, v.ownBlock = some g → ¬ G g
  nb : ¬ G bo
  fr : Frm Gi we W
  sub : ∀ y, G y → Gi y ∨ we.heap.size ≤ y
  x1 : Boxed W (bo + 1) 23 (.pointer (some ⟨a0, 0, none⟩))
  x2 : Boxed W (bo + 2) 3 (.int .i64 l)
  n1 : ¬ G (bo + 1)
  n2 : ¬ G (bo + 2)
theorem ownsRow_of {W W' : World} {base : Nat} {e : TypeId} {size : Nat} {v : Value} {k : Nat} {xs : List Value} (h : W.ownsRow base e size v k xs) (hk : ∀ g, v.ownBlock = some g → ∀ c t f, W.heap[g]? = some (.cells c t f) → W'.heap[g]? = W.heap[g]?) : W'.ownsRow base e size v k xs := by
  refine ⟨h.1, ?_⟩
  rcases h.2 with hn | ⟨g, cap, cur, rfl, hb, hg, rest⟩
  · exact .inl hn
  · exact .inr ⟨g, cap, cur, rfl, hb, by rw [hk g rfl _ _ _ hg]; exact hg, rest⟩
section
variable {ne bo a0 : Nat} {we : World} {Gi G G' : Nat → Prop} {ps qs : List (List Int)} {l : Int} {s : List (Nat × Nat)} {W W' : World}
theorem OutAt.map (h : OutAt ne bo a0 we Gi ps qs l G s W) (hk : ∀ k c t f, ¬ G k → W.heap[k]? = some (.cells c t f) → W'.heap[k]? = W.heap[k]?) (hG : ∀ y, y < W.heap.size → G' y → G y) (hfr : Frm Gi we W') (hsub : ∀ y, G' y → Gi y ∨ we.heap.size ≤ y) : OutAt ne bo a0 we Gi ps qs l G' s W' := by
  obtain ⟨⟨v, h1, h2, h3, h4⟩, h5, h6, h7, y1, y2, y3, y4⟩ := h
  have hb : Boxed W' bo 27 v := (hk bo _ _ _ h5 h1).trans h1
  refine ⟨⟨v, hb, ownsRow_of h2 fun g hg c t f hc => hk g c t f (h4 g hg) hc, h3, fun g hg hh => ?_⟩, fun hh => h5 (hG bo h1.lt hh), hfr, hsub, (hk _ _ _ _ y3 y1).trans y1, (hk _ _ _ _ y4 y2).trans y2, fun hh => y3 (hG _ y1.lt hh), fun hh => y4 (hG _ y2.lt hh)⟩
  rcases h2.2 with ⟨rfl, _⟩ | ⟨g', cap, cur, rfl, _, hgg, _⟩
  · simp [Value.ownBlock] at hg
  · obtain rfl : g' = g := by simpa [Value.ownBlock] using hg
    exact h4 _ hg (hG _ (Array.getElem?_eq_some_iff.1 hgg).1 hh)
theorem OutAt.own {B : Nat} (hB : we.heap.size ≤ B) : OwnFrom B (OutAt ne bo a0 we Gi ps qs l G) := fun s W W' row hs hg hr =>
  hs.map (fun k c t f hk hc => by
    refine hg.block k (Array.getElem?_eq_some_iff.1 hc).1 fun e => ?_
    obtain ⟨_, o, ho, hn⟩ := hr k e.symm
    rw [hc] at ho; cases ho; cases hn) (fun y _ h => h)
    ⟨hg.os.trans hs.fr.os, hg.tape.trans hs.fr.tape, hg.output.trans hs.fr.output, Nat.le_trans hs.fr.size hg.size, fun k hk hn => by
      rw [hg.block k (Nat.lt_of_lt_of_le hk hs.fr.size) (fun e => by have := (hr k e.symm).1; omega), hs.fr.block k hk hn]⟩ hs.sub
theorem OutAt.below (h : OutAt ne bo a0 we Gi ps qs l G s W) (hb : Below W.heap.size W W') : OutAt ne bo a0 we Gi ps qs l G s W' :=
  h.map (fun k c t f _ hc => hb.block k (Array.getElem?_eq_some_iff.1 hc).1) (fun y _ h => h) ⟨hb.os.trans h.fr.os, hb.tape.trans h.fr.tape, hb.output.trans h.fr.output, Nat.le_trans h.fr.size hb.size, fun k hk hn => (hb.block k (Nat.lt_of_lt_of_le hk h.fr.size)).trans (h.fr.block k hk hn)⟩ h.sub
theorem OutAt.step (h : OutAt ne bo a0 we Gi ps qs l G s W) (hf : Frm G W W') (hG : ∀ y, G' y → G y ∨ W.heap.size ≤ y) : OutAt ne bo a0 we Gi ps qs l G' s W' :=
  h.map (fun k c t f hk hc => hf.block k (Array.getElem?_eq_some_iff.1 hc).1 hk) (fun y hy hg => by
    rcases hG y hg with h | h
    · exact h
    · omega)
    ⟨hf.os.trans h.fr.os, hf.tape.trans h.fr.tape, hf.output.trans h.fr.output, Nat.le_trans h.fr.size hf.size, fun k hk hn => by
      rw [hf.block k (Nat.lt_of_lt_of_le hk h.fr.size) (fun hh => ?_), h.fr.block k hk hn]
      rcases h.sub k hh with h | h
      · exact hn h
      · omega⟩ (fun y hy => by
    rcases hG y hy with h' | h'
    · exact h.sub y h'
    · exact .inr (Nat.le_trans h.fr.size h'))
end
theorem mappedV_in (n : Nat) (p0 : Option Addr) (l : Int) (w : World) : CallsIn Fence.wide n Try.prog 88 #[.pointer p0, .int .i64 l] w fun e w' => e = .returned (.func (.func 150) #[] #[.pointer (some ⟨w.heap.size, 0, none⟩), .pointer (some ⟨w.heap.size + 1, 0, none⟩)]) ∧ w' = (w.alloc (.cells #[.pointer p0] 23)).alloc (.cells #[.int .i64 l] 3) := by
  refine callsIn_of_wp Try.func88 rfl trivial ?_ rfl
  simp only [Try.ntmps88, List.size_toArray, List.length_cons, List.length_nil, Nat.reduceAdd, Nat.reduceSub, Array.replicate_succ, Array.replicate_zero, List.push_toArray, List.append_toArray, List.nil_append, List.cons_append]
  gi_wp2
  go_ret
  exact ⟨by simp, rfl⟩
theorem infoAt : (Try.prog.info? 40).map (fun i => (i.zero, i.size, i.bytes)) = some (some (.agg #[.int .u32 0, .bool false, .int .i64 0, .bool false, .bool false]), 5, 32) := by kernel_rfl
theorem cells_new (w : World) (xs : List Value) (t : TypeId) : ∀ j u, xs[j]? = some u → (w.alloc (.cells xs.toArray t)).cell? ((⟨w.heap.size, 0, none⟩ : Addr).add j) = some u := by
  intro j u hj
  rw [addr_add, Nat.zero_add]
  simp only [World.cell?, World.alloc_heap_new]
  simpa using hj
section
variable {ne a0 : Nat} {ps qs : List (List Int)} {m : Int} {G : Nat → Prop} {W : World}
theorem has_call (h : MemAt ne a0 ps qs m G W) (b : Bool) (l : Int) (n : Nat) :
    CallsIn Fence.wide n Try.prog 86 #[.pointer (some ⟨a0, 0, none⟩), .agg #[.bool b, .int .i64 l]] W fun e W' => e = .returned (.bool (hasP b l ps qs)) ∧ Frm G W W' ∧ ∃ G', MemAt ne a0 ps qs m G' W' ∧ ∀ y, G' y → G y ∨ W.heap.size ≤ y :=
  callsIn_wide.2 (h.call (HasM_ok b l m ps qs) (fun _ _ => ⟨by show 0 < 1; omega, ⟨trivial, trivial, trivial⟩, trivial⟩) (fun _ _ => rfl) (fun ρ e => by simp [denL, den, cellsL, e]))
theorem secured_call (hg : Globs W (fun _ => False)) (l : Int) (n : Nat) : CallsIn Fence.wide n Try.prog 87 #[.int .i64 l] W fun e W' => e = .returned (.agg #[.bool true, .int .i64 l]) ∧ Below W.heap.size W W' :=
  callsIn_wide.2 (pure_law (secured_ok l) W hg ⟨trivial, trivial⟩)
end
def cutL (v : Value) (n : Nat) : Value := match v with
  | .slice (some a) _ _ => .slice (some a) n n
  | v => v
structure LsP (a0 : Nat) (ps qs : List (List Int)) (l m : Int) (G : Nat → Prop) (w : World) (e : Ending) (W' : World) : Prop where
  out : ∃ xs m' v G', xs = iI ps qs l 256 ∧ m' = m + iT ps qs l 256 ∧ e = .returned (.tuple #[cutL v xs.length, .int .i64 0]) ∧ MemAt w.heap.size a0 ps qs m' G' W' ∧ Frm G w W' ∧ (∀ y, G' y → G y ∨ w.heap.size ≤ y) ∧
      W'.ownsRow w.heap.size 40 5 v xs.length (itL ps qs l xs) ∧ (v = .slice none 0 0 ↔ xs = []) ∧ ∀ g, v.ownBlock = some g → ¬ G' g
theorem List_in {a0 : Nat} {ps qs : List (List Int)} {l m : Int} {G : Nat → Prop} {w : World} (hmem : MemAt w.heap.size a0 ps qs m G w) (hm0 : 0 ≤ m) (hm1 : m ≤ 4611686018427000000) (hp : wfP ps) (hq : wfP qs) (hl : InK .i64 l) (hh : hasP true l ps qs = true) (n : Nat) (hn : 3 ≤ n) :
    CallsIn Fence.wide n Try.prog 17 #[.pointer (some ⟨a0, 0, none⟩), .int .i64 l] w fun e W' => LsP a0 ps qs l m G w e W' := by
  have h1 : 1 ≤ n := by omega
  obtain ⟨i0, hi, hz0, hz1, hz2⟩ := info_parts infoAt
  refine callsIn_of_wp_marks Try.func17 rfl trivial ?_ rfl
  simp only [Try.ntmps17, List.size_toArray, List.length_cons, List.length_nil, Nat.reduceAdd, Nat.reduceSub, Array.replicate_succ, Array.replicate_zero, List.push_toArray, List.append_toArray, List.nil_append, List.cons_append]
  gi_wp2_with fail
  refine ⟨trivial, (secured_call hmem.globs l (n - 1)).mono ?_⟩
  rintro e w1 ⟨rfl, hb1⟩
  have hmem1 := hmem.keep (fun k hk => hb1.block k (hmem.lt k hk)) hb1.size (fun k hk => hb1.block k hk)
  gi_wp2_with fail
  refine ⟨trivial, (has_call hmem1 true l (n - 1)).mono ?_⟩
  rintro e w2 ⟨he2, hf2, G2, hmem2, hG2⟩
  rw [hh] at he2
  subst he2
  have hf2' : Frm G w w2 := (Frm.trans ⟨hb1.os, hb1.tape, hb1.output, hb1.size, fun k hk _ => hb1.block k hk⟩ hf2)
  have hG2' : ∀ y, G2 y → G y ∨ w.heap.size ≤ y := fun y hy => by
    rcases hG2 y hy with h | h
    · exact .inl h
    · exact .inr (Nat.le_trans hb1.size h)
  have hsz2 : w.heap.size ≤ w2.heap.size := hf2'.size
  clear hG2 hf2 hmem1 hb1
  gi_wp2_with fail
  refine ⟨trivial, (mappedV_in (n - 1) _ l _).mono ?_⟩
  rintro e w' ⟨rfl, rfl⟩
  gi_wp2_with fail
  obtain ⟨w3, hw3⟩ : ∃ w3, w3 = ((w2.alloc (.cells #[.slice none 0 0] 27)).alloc (.cells #[.pointer (some ⟨a0, 0, none⟩)] 23)).alloc (.cells #[.int .i64 l] 3) := ⟨_, rfl⟩
  have hs3 : w3.heap.size = w2.heap.size + 3 := by rw [hw3]; simp
  have hb3 : Below w2.heap.size w2 w3 := by
    rw [hw3]; exact (((Below.refl _ w2).alloc (Nat.le_refl _) _).alloc (by simp) _).alloc (by simp; omega) _
  have bO : Boxed w3 w2.heap.size 27 (.slice none 0 0) := by
    rw [hw3]; exact ((Boxed.new w2 27 (.slice none 0 0)).alloc _).alloc _
  have bM : Boxed w3 (w2.heap.size + 1) 23 (.pointer (some ⟨a0, 0, none⟩)) := by
    rw [hw3]
    have := (Boxed.new (w2.alloc (.cells #[.slice none 0 0] 27)) 23 (.pointer (some ⟨a0, 0, none⟩))).alloc (.cells #[.int .i64 l] 3)
    rwa [World.size_alloc] at this
  have bL : Boxed w3 (w2.heap.size + 2) 3 (.int .i64 l) := by
    rw [hw3]
    have := Boxed.new ((w2.alloc (.cells #[.slice none 0 0] 27)).alloc (.cells #[.pointer (some ⟨a0, 0, none⟩)] 23)) 3 (.int .i64 l)
    rwa [World.size_alloc, World.size_alloc] at this
  rw [← hw3]
  clear hw3
  have hmem3 := hmem2.keep (fun k hk => hb3.block k (hmem2.lt k hk)) hb3.size (fun k hk => hb3.block k (by omega))
  have hn3 : ∀ k, w2.heap.size ≤ k → ¬ G2 k := fun k hk h => by have := hmem2.lt k h; omega
  have hsq := mapped_in (ne := w.heap.size) (a0 := a0) (m := m) hm0 hm1 hp hq hl (n - 1) (by omega) (w2.heap.size + 1) (w2.heap.size + 1 + 1) (by omega) (by omega) w3 (by omega) bM bL
  have hI0 : OutAt w.heap.size w2.heap.size a0 w G ps qs l G2 [] w3 := ⟨⟨_, bO, World.ownsRow_nil _ _ _ _, by simp, fun g h => by simp [Value.ownBlock] at h⟩, hn3 _ (Nat.le_refl _), hf2'.trans ⟨hb3.os, hb3.tape, hb3.output, hb3.size, fun k hk _ => hb3.block k hk⟩, hG2', bM, bL, hn3 (w2.heap.size + 1) (by omega), hn3 (w2.heap.size + 2) (by omega)⟩
  have hst : ∀ W : World, Below w3.heap.size w3 W → ¬ G2 (w2.heap.size + 1) ∧ ¬ G2 (w2.heap.size + 1 + 1) := fun W _ => ⟨hn3 (w2.heap.size + 1) (by omega), hn3 (w2.heap.size + 1 + 1) (by omega)⟩
  refine wpIn_rangeFunc_M rfl h1 (gf := 150) (lb := #[.pointer (some ⟨w2.heap.size + 1, 0, none⟩), .pointer (some ⟨w2.heap.size + 1 + 1, 0, none⟩)]) rfl trivial (enters_of Try.func150 (by kernel_rfl) rfl)
    hsq KpI.trans ?hKb (Below.refl _ _) (fun _ => rfl) (by omega) hmem3 hst
    (OutAt w.heap.size w2.heap.size a0 w G ps qs l) (fun _ => OutAt.own (by omega)) (fun _ _ _ _ h hb => h.below hb) (fun _ _ _ _ _ h hf hG => h.step hf hG) hI0
    (fun x a' W => ∃ e8 : Nat, a' = { tmps := #[.pointer (some ⟨a0, 0, none⟩), .int .i64 l, undef, undef, .slice none 0 0, .int .i64 0, .pointer (some ⟨w2.heap.size, 0, none⟩), .int .u32 (vaI x.1 x.2), .pointer (some ⟨e8, 0, none⟩), .pointer (some ⟨a0, 0, none⟩), .int .i64 l, .agg #[.bool true, .int .i64 l], .bool true, .bool false, .pointer (some ⟨a0, 0, none⟩), .int .i64 l, .func (.func 150) #[] #[.pointer (some ⟨w2.heap.size + 1, 0, none⟩), .pointer (some ⟨w2.heap.size + 1 + 1, 0, none⟩)], .int .u32 (vaI x.1 x.2), mapI ps qs (tbP ps qs l (x.1 : Int)) (x.2 : Int), undef, undef, undef, undef, undef, undef, undef, undef, undef, undef, undef, undef], defers := [] } ∧
      W.cell? ⟨e8, 0, none⟩ = some (.bool (plS ps qs (tbP ps qs l (x.1 : Int)) (x.2 : Int))) ∧ W.cell? ⟨e8, 1, none⟩ = some (.int .i64 (plF ps qs (tbP ps qs l (x.1 : Int)) (x.2 : Int))) ∧ W.cell? ⟨e8, 2, none⟩ = some (.bool (plW ps qs (tbP ps qs l (x.1 : Int)) (x.2 : Int))) ∧ W.cell? ⟨e8, 3, none⟩ = some (.bool (plX ps qs (tbP ps qs l (x.1 : Int)) (x.2 : Int)))) ?hAx ?assign ?body ?done
  case hKb =>
    intro W k o o' hk h hc
    exact ⟨(Below.refl _ W).grown (grownBy_putObj' W k o') (by have := (Array.getElem?_eq_some_iff.1 h).1; omega) (fun r e => by cases e; omega), World.putObj_heap_other (by omega), World.putObj_heap_other (by omega)⟩
  case hAx =>
    rintro x a' s A B row ⟨e8, ha, c0, c1, c2, c3⟩ hg hr
    exact ⟨e8, ha, cell_kept c0 hg (fun r e => (hr r e).2), cell_kept c1 hg (fun r e => (hr r e).2), cell_kept c2 hg (fun r e => (hr r e).2), cell_kept c3 hg (fun r e => (hr r e).2)⟩
  case assign =>
    intro y Gy pre x W K hI hlt hK
    have hsW : w2.heap.size + 2 < W.heap.size := hI.x2.lt
    simp only [encI, mapI] at hK ⊢
    generalize vaI x.1 x.2 = V0, plS ps qs (tbP ps qs l (x.1 : Int)) (x.2 : Int) = S0, plF ps qs (tbP ps qs l (x.1 : Int)) (x.2 : Int) = F0, plW ps qs (tbP ps qs l (x.1 : Int)) (x.2 : Int) = W0, plX ps qs (tbP ps qs l (x.1 : Int)) (x.2 : Int) = X0 at hK ⊢
    replace hK : Hid _ := hK
    gi_wp2_with fail
    have hbA : Below W.heap.size W (W.alloc (.cells #[.bool S0, .int .i64 F0, .bool W0, .bool X0] 38)) := (Below.refl _ W).alloc (Nat.le_refl _) _
    refine hK.out _ _ ((KeepsOthers.alloc W _).from _) ⟨⟨hbA.os, hbA.tape, hbA.output, hbA.size, fun k hk => hbA.block k (by omega)⟩, hbA.block _ (by omega), hbA.block _ (by omega)⟩ (fun k hk => hbA.block k (hlt k hk)) (hI.below hbA) ⟨W.heap.size, rfl, ?_, ?_, ?_, ?_⟩
    all_goals (simp only [World.cell?, World.alloc_heap_new]; rfl)
  case body =>
    rintro y Gy pre x a' W _ _ hI hlt ⟨e8, rfl, c0, c1, c2, c3⟩ hlen
    have hsW : w2.heap.size + 2 < W.heap.size := hI.x2.lt
    obtain ⟨v, hv, hrow, hnil, hng⟩ := hI.out
    have hcv := hv.cell
    have hcf := hv.frozen
    have hitx : ∃ V0 S0 F0 W0 X0, V0 = vaI x.1 x.2 ∧ S0 = plS ps qs (tbP ps qs l (x.1 : Int)) (x.2 : Int) ∧ F0 = plF ps qs (tbP ps qs l (x.1 : Int)) (x.2 : Int) ∧ W0 = plW ps qs (tbP ps qs l (x.1 : Int)) (x.2 : Int) ∧ X0 = plX ps qs (tbP ps qs l (x.1 : Int)) (x.2 : Int) := ⟨_, _, _, _, _, rfl, rfl, rfl, rfl, rfl⟩
    obtain ⟨V0, S0, F0, W0, X0, q0, q1, q2, q3, q4⟩ := hitx
    simp only [mapI]
    rw [← q1] at c0 ⊢
    rw [← q2] at c1 ⊢
    rw [← q3] at c2 ⊢
    rw [← q4] at c3 ⊢
    rw [← q0]
    have hit : itV ps qs l x = [.int .u32 V0, .bool S0, .int .i64 F0, .bool W0, .bool X0] := by simp only [itV, ← q0, ← q1, ← q2, ← q3, ← q4]
    clear q0 q1 q2 q3 q4
    replace hit : Hid _ := hit
    gi_wp2_with (gi_at_builtin; refine wpListIn_append_own_at (w := W.alloc (.cells #[.int .u32 V0, .bool S0, .int .i64 F0, .bool W0, .bool X0] 40)) rfl _ _ 27 rfl w.heap.size 40 i0 (.agg #[.int .u32 0, .bool false, .int .i64 0, .bool false, .bool false]) 5 32 Try.underlying27 hi hz0 hz1 hz2 rfl (by decide) _ _ _ rfl (hrow.alloc _) ⟨W.heap.size, 0, none⟩ 1 1 [.int .u32 V0, .bool S0, .int .i64 F0, .bool W0, .bool X0] rfl rfl (cells_new W _ _) (by simp [Value.oneCell']) (by unfold maxLen; omega) (by omega) (by have := hI.fr.size; simp; omega) ?_; intro v' wv hown' hgrow _ hwho; obtain ⟨g', cap', rfl⟩ := ownsRow_succ hown'; obtain ⟨hv1, hv2, hr2, hk2, hb2⟩ := hv.appended (by decide) hrow hI.fr.size (by omega) hown' hgrow; have hc1 := hv1.cell; have hf1 := hv1.frozen)
    have key : ∀ k, k < W.heap.size → k ≠ w2.heap.size → some k ≠ v.ownBlock → (wv.setCell ⟨w2.heap.size, 0, none⟩ (.slice (some ⟨g', 0, none⟩) (pre.length + 1) cap')).heap[k]? = W.heap[k]? := fun k hk hb hv' => by
      rw [(grownBy_setCell' wv w2.heap.size _).block k (by have := hgrow.size; simp at this; omega) (by simpa using hb), hgrow.block k (by simp; omega) hv']
      exact Below.heap_alloc _ _ _ hk
    have k1 := key (w2.heap.size + 1) (by omega) (by omega) (hI.x1.not_row (by decide) hrow)
    have k2 := key (w2.heap.size + 2) (by omega) (by omega) (hI.x2.not_row (by decide) hrow)
    refine ⟨hk2.from _, ⟨⟨hb2, k1, k2⟩, fun k hk => key k (hlt k hk) (fun e => hI.nb (e ▸ hk)) (fun e => hng k e.symm hk)⟩, ⟨⟨_, hv2, by rw [List.length_append, itL_snoc, hit.out]; exact hr2, by simp, fun g hg hh => ?_⟩, hI.nb, ⟨hb2.os.trans hI.fr.os, hb2.tape.trans hI.fr.tape, hb2.output.trans hI.fr.output, Nat.le_trans hI.fr.size hb2.size, fun k hk hn => (hb2.block k hk).trans (hI.fr.block k hk hn)⟩, hI.sub, k1.trans hI.x1, k2.trans hI.x2, hI.n1, hI.n2⟩⟩
    obtain rfl : g' = g := by simpa [Value.ownBlock] using hg
    rcases hwho with h | h
    · exact hng g' (h.symm.trans rfl) hh
    · have h' : g' = W.heap.size + 1 := by simpa [Value.ownBlock] using h
      have := hlt g' hh
      omega
  case done =>
    rintro D xs m' G' W hD hnD ⟨e1, e2⟩ hI hmem' hdef
    obtain ⟨v, hv, hrow, hnil, hng⟩ := hI.out
    have hcv := hv.cell
    have hDo : (Obj.deferred (some [])).isCells = false := rfl
    have hkeep : ∀ k, k ≠ D → (W.putObj D (.deferred none)).heap[k]? = W.heap[k]? := fun k hk => World.putObj_heap_other hk
    have fin : MemAt w.heap.size a0 ps qs m' G' (W.putObj D (.deferred none)) ∧ Frm G w (W.putObj D (.deferred none)) ∧ (∀ y, G' y → G y ∨ w.heap.size ≤ y) ∧ (W.putObj D (.deferred none)).ownsRow w.heap.size 40 5 v xs.length (itL ps qs l xs) ∧ (v = .slice none 0 0 ↔ xs = []) ∧ ∀ g, v.ownBlock = some g → ¬ G' g := by
      refine ⟨hmem'.keep (fun k hk => hkeep k (fun e => hnD (e ▸ hk))) (by simp) (fun k hk => hkeep k (by omega)), ⟨hI.fr.os, hI.fr.tape, hI.fr.output, by simpa using hI.fr.size, fun k hk hn => (hkeep k (by omega)).trans (hI.fr.block k hk hn)⟩, hI.sub, ownsRow_putObj hrow _ hdef hDo, hnil, hng⟩
    clear hI hmem' hng hnil hkeep
    replace e1 : Hid (xs = iI ps qs l 256) := e1
    replace e2 : Hid (m' = m + iT ps qs l 256) := e2
    replace fin : Hid _ := fin
    rcases hrow.2 with ⟨rfl, h0⟩ | ⟨g, cap, cur, rfl, hbg, hgg, hlc, hcm, hcz, htk⟩
    · have hx : Hid (xs.length = 0) := h0
      clear h0
      gi_wp2_with fail
      refine ⟨by simp, .inl ⟨_, _, rfl, run_takeDeferred hdef, ?_⟩⟩
      exact ⟨_, results_tmp2 rfl _ _ _, ⟨xs, m', .slice none 0 0, G', e1.out, e2.out, rfl, fin.out.1, fin.out.2.1, fin.out.2.2.1, fin.out.2.2.2.1, ⟨fun _ => List.eq_nil_of_length_eq_zero hx.out, fun _ => rfl⟩, fin.out.2.2.2.2.2⟩⟩
    · have hmx : ((xs.length : Int) ≤ (cap : Int)) := by omega
      gi_wp2_with fail
      refine ⟨by simp, .inl ⟨_, _, rfl, run_takeDeferred hdef, ?_⟩⟩
      exact ⟨_, results_tmp2 rfl _ _ _, ⟨xs, m', _, G', e1.out, e2.out, rfl, fin.out⟩⟩
end Go.Proofs.Ytlndkfcnfhkbkaa
