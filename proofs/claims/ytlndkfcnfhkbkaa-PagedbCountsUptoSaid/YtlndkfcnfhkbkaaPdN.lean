/- The pages that a space owns, one by one. No condition beyond sizes. -/
import Derived.Test.YtlndkfcnfhkbkaaPdM
import Derived.RangeFuncBox
namespace Go.Proofs.Ytlndkfcnfhkbkaa
open Go.RowKit Sx Go.Shelf
set_option linter.unusedVariables false
set_option linter.unusedSimpArgs false
set_option maxRecDepth 100000
set_option maxHeartbeats 4000000
attribute [local go_sem] Oper.semAt_some
noncomputable def ownN (ws : List Int) (s : Int) (l : List Nat) : List Nat := l.filter fun x : Nat => decide ((x : Int) ≠ s) && decide (gT ws (x : Int) ≠ 0) && decide (gO ws (x : Int) = s)
noncomputable def ownL (ws : List Int) (s : Int) (l : List Nat) : List Int := (ownN ws s l).map fun x : Nat => (x : Int)
noncomputable def ownD (ps : List (List Int)) (ws : List Int) (s : Int) : List Int := if (hs ps s && gT ws s == 1) = true then ownL ws s (List.range ps.length) else []
theorem ownL_hit (ws : List Int) (s : Int) (pre : List Nat) (x : Nat) (h1 : (x : Int) ≠ s) (h2 : gT ws (x : Int) ≠ 0) (h3 : gO ws (x : Int) = s) : ownL ws s (pre ++ [x]) = ownL ws s pre ++ [(x : Int)] := by
  unfold ownL ownN
  rw [List.filter_append, List.map_append]
  have : decide ((x : Int) ≠ s) && decide (gT ws (x : Int) ≠ 0) && decide (gO ws (x : Int) = s) = true := by simp [h1, h2, h3]
  simp [h1, h2, h3]
theorem ownL_miss (ws : List Int) (s : Int) (pre : List Nat) (x : Nat) (h : ¬ ((x : Int) ≠ s ∧ gT ws (x : Int) ≠ 0 ∧ gO ws (x : Int) = s)) : ownL ws s (pre ++ [x]) = ownL ws s pre := by
  unfold ownL ownN
  rw [List.filter_append]
  have : (decide ((x : Int) ≠ s) && decide (gT ws (x : Int) ≠ 0) && decide (gO ws (x : Int) = s)) = false := by
    rw [Bool.eq_false_iff]
    intro hc
    simp only [Bool.and_eq_true, decide_eq_true_eq] at hc
    exact h ⟨hc.1.1, hc.1.2, hc.2⟩
  rw [List.filter_cons_of_neg (by rw [this]; simp)]
  simp
theorem ownL_le (ws : List Int) (s : Int) (l : List Nat) : (ownL ws s l).length ≤ l.length := by
  unfold ownL ownN
  rw [List.length_map]
  exact List.length_filter_le _ _
theorem isSpace_call {W w : World} {F : Nat → Prop} {ρ : Num} {b : Int} {len L : Nat} {ps qs : List (List Int)} {m : Int} {ws : List Int} (hm : MemOK W F ρ (D3R b len L ps qs m ws) w) (h : wfD len L b ps qs m ws) (n : Nat) (p : Int) :
    CallsIn Fence.wide n Try.prog 115 #[.pointer (some ⟨(ρ 0).1, 0, none⟩), .int .i64 p] w fun e w' => e = .returned (.bool (hs ps p && gT ws p == 1)) ∧ Below w.heap.size w w' := by
  refine callsIn_wide.2 ((pure_law (isSpaceX_ok (.slice (some ⟨(ρ 0).1, 0, none⟩) 1 1) (.pointer (some ⟨(ρ 1).1, 0, none⟩)) b (listV (ρ 2) len false) ws ps.length p h.n2 h.l3 h.w1) w (by intro g cs hg; simp [Sx.globs] at hg) ⟨db_reads hm h, trivial, trivial⟩).mono ?_)
  rintro e w' ⟨rfl, hb⟩
  exact ⟨rfl, hb⟩
theorem infoI : (Try.prog.info? 3).map (fun i => (i.zero, i.size, i.bytes)) = some (some (.int .i64 0), 1, 8) := by kernel_rfl
theorem Owned_in {W0 w : World} {F0 : Nat → Prop} {ρ : Num} {b : Int} {len L : Nat} {ps qs : List (List Int)} {m : Int} {ws : List Int} (hm : MemOK W0 F0 ρ (D3R b len L ps qs m ws) w) (hwf : wfD len L b ps qs m ws) (n : Nat) (hn : 3 ≤ n) (p : Int) :
    CallsIn Fence.wide n Try.prog 56 #[.pointer (some ⟨(ρ 0).1, 0, none⟩), .int .i64 p] w fun e w' => ∃ v, e = .returned v ∧ w'.ownsRow w.heap.size 3 1 v (ownD ps ws p).length ((ownD ps ws p).map (Value.int .i64)) ∧ (v = .slice none 0 0 ↔ ownD ps ws p = []) ∧ Below w.heap.size w w' := by
  have h1 : 1 ≤ n := by omega
  obtain ⟨i0, hi, hz0, hz1, hz2⟩ := info_parts infoI
  refine callsIn_of_wp_marks Try.func56 rfl trivial ?_ rfl
  simp only [Try.ntmps56, List.size_toArray, List.length_cons, List.length_nil, Nat.reduceAdd, Nat.reduceSub, Array.replicate_succ, Array.replicate_zero, List.push_toArray, List.append_toArray, List.nil_append, List.cons_append]
  have memAt : ∀ w1, Below w.heap.size w w1 → MemOK W0 F0 ρ (D3R b len L ps qs m ws) w1 := fun w1 h => hm.step (frm_below h)
  gi_wp2_with fail
  have hA : Below w.heap.size w (w.alloc (.cells #[.int .i64 p] 3)) := (Below.refl _ w).alloc (Nat.le_refl _) _
  have hBx := Boxed.new w 3 (.int .i64 p)
  refine ⟨trivial, (isSpace_call (memAt _ hA) hwf (n - 1) p).mono ?_⟩
  rintro e w1 ⟨rfl, hb1⟩
  by_cases hS : (hs ps p && gT ws p == 1) = true
  · rw [hS]
    gi_wp2_with fail
    refine ⟨trivial, (entriesV_in (n - 1) _ _).mono ?_⟩
    rintro e w' ⟨rfl, rfl⟩
    gi_wp2_with fail
    obtain ⟨A, hAeq⟩ : ∃ A, A = w.alloc (.cells #[.int .i64 p] 3) := ⟨_, rfl⟩
    have hAs : A.heap.size = w.heap.size + 1 := by rw [hAeq]; simp
    rw [← hAeq] at hA hBx hb1
    have hsz1 : w.heap.size + 1 ≤ w1.heap.size := by have := hb1.size; omega
    have bO := Boxed.new w1 42 (.slice none 0 0)
    have bN := Boxed.new (w1.alloc (.cells #[.slice none 0 0] 42)) 91 (.pointer (some ⟨(ρ 0).1, 0, none⟩))
    rw [World.size_alloc] at bN
    have hB0 : Below A.heap.size A ((w1.alloc (.cells #[.slice none 0 0] 42)).alloc (.cells #[.pointer (some ⟨(ρ 0).1, 0, none⟩)] 91)) := (hb1.alloc hb1.size _).alloc (by simp; omega) _
    have hBw : Below w.heap.size w ((w1.alloc (.cells #[.slice none 0 0] 42)).alloc (.cells #[.pointer (some ⟨(ρ 0).1, 0, none⟩)] 91)) := hA.trans (hB0.mono (by omega))
    refine wpIn_rangeFunc_ownH rfl h1 (gf := 158) (lb := #[.pointer (some ⟨w1.heap.size + 1, 0, none⟩)]) rfl trivial (enters_of Try.func158 (by kernel_rfl) rfl)
      (entries_stops hm hwf (n - 1) (w1.heap.size + 1) A.heap.size (by omega) _ (by omega) (by simp; omega) hBw (by simp) bN.cell) KpB.trans ?hKb (Below.refl _ _) (fun _ => rfl)
      (fun pre W => (∃ v, Boxed W w1.heap.size 42 v ∧ W.ownsRow A.heap.size 3 1 v (ownL ws p pre).length ((ownL ws p pre).map (Value.int .i64)) ∧ (v = .slice none 0 0 ↔ ownL ws p pre = [])) ∧ Boxed W (w1.heap.size + 1) 91 (.pointer (some ⟨(ρ 0).1, 0, none⟩)) ∧ Below A.heap.size A W ∧ w1.heap.size + 2 ≤ W.heap.size)
      (fun _ _ _ => False) ?hI (fun _ _ _ _ _ hs _ _ => hs) ⟨⟨_, bO.alloc _, World.ownsRow_nil _ _ _ _, by simp [ownL, ownN]⟩, bN, hB0, by simp⟩
      (fun x a' W => ∃ e5 : Nat, a' = { tmps := #[.pointer (some ⟨(ρ 0).1, 0, none⟩), .int .i64 p, undef, .pointer (some ⟨w.heap.size, 0, none⟩), .slice none 0 0, .pointer (some ⟨w1.heap.size, 0, none⟩), .int .i64 (x : Int), .pointer (some ⟨e5, 0, none⟩), .pointer (some ⟨(ρ 0).1, 0, none⟩), .int .i64 p, .bool true, .bool false, .pointer (some ⟨(ρ 0).1, 0, none⟩), .func (.func 158) #[] #[.pointer (some ⟨w1.heap.size + 1, 0, none⟩)], .int .i64 (x : Int), entV ws x, undef, undef, undef, undef, undef, undef, undef, undef, undef, undef, undef, undef, undef, undef, undef, undef, undef, undef, undef], defers := [] } ∧ W.cell? ⟨e5, 0, none⟩ = some (.int .i64 (gT ws (x : Int))) ∧ W.cell? ⟨e5, 1, none⟩ = some (.int .i64 (gO ws (x : Int)))) ?hAx ?assign ?body ?done ?stop
    case hKb =>
      intro W l o o' hl h hc hw
      simp only [World.size_alloc] at hl
      exact ⟨belowK_b (w := A) (Nat.le_refl _) W l o o' (by omega) h hc hw, World.putObj_heap_other (by omega)⟩
    case hI =>
      exact (Own.from (holdsRow_own A.heap.size w1.heap.size 42 3 1 (fun pre => (ownL ws p pre).length) (fun pre => (ownL ws p pre).map (Value.int .i64)) (fun pre v => v = .slice none 0 0 ↔ ownL ws p pre = [])) _).and ((Own.from (boxed_own (w1.heap.size + 1) 91 (fun _ => .pointer (some ⟨(ρ 0).1, 0, none⟩))) _).and ((ownFrom_below (Nat.le_refl _) (by simp; omega)).and (fun s A B row hs hg hr => Nat.le_trans hs hg.size)))
    case hAx =>
      rintro x a' s A B row ⟨e5, ha, hc, hc2⟩ hg hr
      exact ⟨e5, ha, cell_kept hc hg (fun r e => (hr r e).2), cell_kept hc2 hg (fun r e => (hr r e).2)⟩
    case assign =>
      intro l pre x W K hi hK
      gi_wp2_with fail
      obtain ⟨⟨v, hv, hrow, hnil⟩, hbn, hbl, hsz⟩ := hi
      refine hK _ _ ((KeepsOthers.alloc W _).from _) (KpB.of ((Below.refl _ W).alloc (Nat.le_refl _) _) hbl.size (by omega)) ⟨⟨v, hv.alloc _, hrow.alloc _, hnil⟩, hbn.alloc _, hbl.alloc hbl.size _, by simp; omega⟩ ⟨W.heap.size, rfl, ?_, ?_⟩
      · simp only [World.cell?, World.alloc_heap_new]
        rfl
      · simp only [World.cell?, World.alloc_heap_new]
        rfl
    case body =>
      rintro l pre x a' W _ _ ⟨⟨v, hv, hrow, hnil⟩, hbn, hbl, hsz⟩ ⟨e5, rfl, hc, hc2⟩ hlen
      have hcv := hv.cell
      have hcf := hv.frozen
      have hcp : W.cell? ⟨w.heap.size, 0, none⟩ = some (.int .i64 p) := (hbl.cell (p := ⟨w.heap.size, 0, none⟩) (by show w.heap.size < A.heap.size; omega)).trans hBx.cell
      have hle := ownL_le ws p pre
      gi_wp2_with (gi_at_builtin; refine wpListIn_append_own _ rfl _ _ 42 rfl A.heap.size 3 i0 (.int .i64 0) 1 8 Try.underlying42 hi hz0 hz1 hz2 rfl (by decide) _ _ _ rfl (hrow.alloc _) ⟨W.heap.size, 0, none⟩ 1 1 [.int .i64 (x : Int)] rfl rfl (cell_one_new _ _ _) (by simp [Value.oneCell']) (by have := hwf.n2; unfold maxLen; omega) (by have := hwf.n2; omega) (by have := hbl.size; simp; omega) ?_; intro v' w2 hown' hgrow _; obtain ⟨g', cap', rfl⟩ := ownsRow_succ hown'; obtain ⟨hv1, hv2, hr2, hk2, hb2⟩ := hv.appended (by decide) hrow hbl.size (by omega) hown' hgrow; have hc1 := hv1.cell; have hf1 := hv1.frozen)
      · exact ⟨KeepsFrom.refl _ _, ⟨Below.refl _ _, rfl⟩, ⟨v, hv, by rw [ownL_miss _ _ _ _ (by rintro ⟨a1, a2, a3⟩; simp_all)]; exact ⟨hrow, hnil⟩⟩, hbn, hbl, hsz⟩
      · exact ⟨KeepsFrom.refl _ _, ⟨Below.refl _ _, rfl⟩, ⟨v, hv, by rw [ownL_miss _ _ _ _ (by rintro ⟨a1, a2, a3⟩; simp_all)]; exact ⟨hrow, hnil⟩⟩, hbn, hbl, hsz⟩
      · have hit : ((↑x != p) = true ∧ (gT ws (x : Int) != 0) = true) ∧ (gO ws (x : Int) == p) = true := by assumption
        have k1 : (x : Int) ≠ p := by simpa using hit.1.1
        have k2 : gT ws (x : Int) ≠ 0 := by simpa using hit.1.2
        have k3 : gO ws (x : Int) = p := by simpa using hit.2
        have hbn2 := ((hbn.alloc _).kept hgrow (hbn.not_row (by decide) hrow)).other (B' := w1.heap.size) (by omega) (.slice (some ⟨g', 0, none⟩) ((ownL ws p pre).length + 1) cap')
        exact ⟨hk2.from _, ⟨hb2, hbn2.trans hbn.symm⟩, ⟨_, hv2, by rw [ownL_hit _ _ _ _ k1 k2 k3, List.length_append, List.map_append]; exact hr2, by rw [ownL_hit _ _ _ _ k1 k2 k3]; simp⟩, hbn2, hbl.trans hb2, Nat.le_trans hsz hb2.size⟩
      · exact ⟨KeepsFrom.refl _ _, ⟨Below.refl _ _, rfl⟩, ⟨v, hv, by rw [ownL_miss _ _ _ _ (by rintro ⟨a1, a2, a3⟩; simp_all)]; exact ⟨hrow, hnil⟩⟩, hbn, hbl, hsz⟩
    case done =>
      rintro D xs W hD rfl ⟨⟨v, hv, hrow, hnil⟩, hbn, hbl, hsz⟩ hK
      have hcc := hv.cell
      gi_wp2_with fail
      refine ⟨by simp, .inl ⟨_, _, rfl, run_takeDeferred hK, ?_⟩⟩
      have e0 : ownD ps ws p = ownL ws p (List.range ps.length) := if_pos hS
      refine ⟨_, results_tmp rfl _ _ _, v, rfl, ?_, by rw [e0]; exact hnil, ?_⟩
      · rw [e0]
        have hr := ownsRow_putObj hrow (.deferred none) hK rfl
        exact ⟨hr.1, hr.2.imp id fun ⟨g, cap, cur, h1, h2, h3⟩ => ⟨g, cap, cur, h1, by omega, h3⟩⟩
      · exact hA.trans ((hbl.trans (belowK_b (w := A) (Nat.le_refl _) W D _ _ (by simp at hD; omega) hK rfl rfl)).mono (by omega))
    case stop =>
      rintro D c pre W _ _ h _
      exact h.elim
  · have hS' : (hs ps p && gT ws p == 1) = false := by simpa using hS
    rw [hS']
    gi_wp2_with fail
    have e0 : ownD ps ws p = [] := if_neg hS
    refine ⟨_, results_tmp rfl _ _ _, _, rfl, ?_, by rw [e0]; simp, ?_⟩
    · rw [e0]
      exact World.ownsRow_nil _ _ _ _
    · exact hA.trans (hb1.mono (by simp))
end Go.Proofs.Ytlndkfcnfhkbkaa
