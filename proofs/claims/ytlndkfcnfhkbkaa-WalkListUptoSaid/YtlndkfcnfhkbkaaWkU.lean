/- All that is mapped, as a list: the contract. No condition beyond sizes. -/
import Derived.Test.YtlndkfcnfhkbkaaWkT
namespace Go.Proofs.Ytlndkfcnfhkbkaa
open Go.RowKit Sx
set_option linter.unusedVariables false
set_option linter.unusedSimpArgs false
set_option maxRecDepth 100000
set_option maxHeartbeats 8000000
section
variable (ps qs : List (List Int)) (l : Int)
theorem lsN_ex : ∃ n : Nat, n = (iI ps qs l 256).length := ⟨_, rfl⟩
theorem lsT_ex : ∃ n : Int, n = iT ps qs l 256 := ⟨_, rfl⟩
theorem lsI_ex : ∃ f : Nat → Nat × Nat, ∀ e, f e = (iI ps qs l 256).getD e (0, 0) := ⟨_, fun _ => rfl⟩
noncomputable def lsN : Nat := Classical.choose (lsN_ex ps qs l)
noncomputable def lsT : Int := Classical.choose (lsT_ex ps qs l)
noncomputable def lsI : Nat → Nat × Nat := Classical.choose (lsI_ex ps qs l)
theorem lsN_eq : lsN ps qs l = (iI ps qs l 256).length := Classical.choose_spec (lsN_ex ps qs l)
theorem lsT_eq : lsT ps qs l = iT ps qs l 256 := Classical.choose_spec (lsT_ex ps qs l)
theorem lsI_eq (e : Nat) : lsI ps qs l e = (iI ps qs l 256).getD e (0, 0) := Classical.choose_spec (lsI_ex ps qs l) e
theorem lsV_ex : ∃ f : Nat → Int, ∀ e, f e = vaI (lsI ps qs l e).1 (lsI ps qs l e).2 := ⟨_, fun _ => rfl⟩
theorem lsS_ex : ∃ f : Nat → Bool, ∀ e, f e = plS ps qs (tbP ps qs l ((lsI ps qs l e).1 : Int)) ((lsI ps qs l e).2 : Int) := ⟨_, fun _ => rfl⟩
theorem lsF_ex : ∃ f : Nat → Int, ∀ e, f e = plF ps qs (tbP ps qs l ((lsI ps qs l e).1 : Int)) ((lsI ps qs l e).2 : Int) := ⟨_, fun _ => rfl⟩
theorem lsW_ex : ∃ f : Nat → Bool, ∀ e, f e = plW ps qs (tbP ps qs l ((lsI ps qs l e).1 : Int)) ((lsI ps qs l e).2 : Int) := ⟨_, fun _ => rfl⟩
theorem lsX_ex : ∃ f : Nat → Bool, ∀ e, f e = plX ps qs (tbP ps qs l ((lsI ps qs l e).1 : Int)) ((lsI ps qs l e).2 : Int) := ⟨_, fun _ => rfl⟩
noncomputable def lsV : Nat → Int := Classical.choose (lsV_ex ps qs l)
noncomputable def lsS : Nat → Bool := Classical.choose (lsS_ex ps qs l)
noncomputable def lsF : Nat → Int := Classical.choose (lsF_ex ps qs l)
noncomputable def lsW : Nat → Bool := Classical.choose (lsW_ex ps qs l)
noncomputable def lsX : Nat → Bool := Classical.choose (lsX_ex ps qs l)
theorem lsV_eq (e : Nat) : lsV ps qs l e = vaI (lsI ps qs l e).1 (lsI ps qs l e).2 := Classical.choose_spec (lsV_ex ps qs l) e
theorem lsS_eq (e : Nat) : lsS ps qs l e = plS ps qs (tbP ps qs l ((lsI ps qs l e).1 : Int)) ((lsI ps qs l e).2 : Int) := Classical.choose_spec (lsS_ex ps qs l) e
theorem lsF_eq (e : Nat) : lsF ps qs l e = plF ps qs (tbP ps qs l ((lsI ps qs l e).1 : Int)) ((lsI ps qs l e).2 : Int) := Classical.choose_spec (lsF_ex ps qs l) e
theorem lsW_eq (e : Nat) : lsW ps qs l e = plW ps qs (tbP ps qs l ((lsI ps qs l e).1 : Int)) ((lsI ps qs l e).2 : Int) := Classical.choose_spec (lsW_ex ps qs l) e
theorem lsX_eq (e : Nat) : lsX ps qs l e = plX ps qs (tbP ps qs l ((lsI ps qs l e).1 : Int)) ((lsI ps qs l e).2 : Int) := Classical.choose_spec (lsX_ex ps qs l) e
end
theorem flat_get {α β : Type} (d : α) (g : α → List β) (xs : List α) : (List.range xs.length).flatMap (fun e => g (xs.getD e d)) = xs.flatMap g := by
  have h : (List.range xs.length).map (fun e => xs.getD e d) = xs := by
    apply List.ext_getElem?
    intro i
    by_cases hi : i < xs.length
    · simp [hi, List.getD]
    · rw [List.getElem?_eq_none (by simp; omega), List.getElem?_eq_none (by omega)]
  have := congrArg (fun l => l.flatMap g) h
  simpa [List.flatMap_map] using this
theorem itL_rec (ps qs : List (List Int)) (l : Int) : itL ps qs l (iI ps qs l 256) = recCells 5 (lsN ps qs l) (fun e => [.int .u32 (lsV ps qs l e), .bool (lsS ps qs l e), .int .i64 (lsF ps qs l e), .bool (lsW ps qs l e), .bool (lsX ps qs l e)]) := by
  unfold itL recCells
  rw [← flat_get (0, 0), lsN_eq]
  congr 1
  funext e
  rw [← lsI_eq]
  simp only [itV, ← lsV_eq, ← lsS_eq, ← lsF_eq, ← lsW_eq, ← lsX_eq]
  rfl
theorem List_ok {W w w' : World} {F : Nat → Prop} {ρ : Num} {ps qs : List (List Int)} {l m m' : Int} {G' : Nat → Prop} {v : Value} (hm : MemOK W F ρ (MR ps qs m) w) (h : MemAt w.heap.size (ρ 0).1 ps qs m' G' w') (hf : Frm (fun y => (F y ∨ W.heap.size ≤ y) ∧ y < w.heap.size) w w')
    (hG : ∀ y, G' y → ((F y ∨ W.heap.size ≤ y) ∧ y < w.heap.size) ∨ w.heap.size ≤ y) (hr : w'.ownsRow w.heap.size 40 5 v (lsN ps qs l) (itL ps qs l (iI ps qs l 256))) (hn : v = .slice none 0 0 ↔ iI ps qs l 256 = []) (hng : ∀ g, v.ownBlock = some g → ¬ G' g) :
    ∃ ρ' : Num, cutL v (lsN ps qs l) = den ρ' (.ow 1 true 0 0 (lsN ps qs l) true) ∧ MemOK W F ρ' (MR ps qs m' ++ [some ⟨40, [.many 5 (lsN ps qs l) (fun e => [.int .u32 (lsV ps qs l e), .bool (lsS ps qs l e), .int .i64 (lsF ps qs l e), .bool (lsW ps qs l e), .bool (lsX ps qs l e)])], 5, none⟩]) w' ∧ ∀ i, i < 1 → ρ' i = ρ i := by
  have hWw := hm.frame.size
  have hsz := hf.size
  have inF : ∀ y, G' y → F y ∨ W.heap.size ≤ y := fun y hy => by
    rcases hG y hy with h | h
    · exact h.1
    · exact .inr (Nat.le_trans hWw h)
  obtain ⟨⟨ρ1, ha, hm1⟩, hlt, _⟩ := h
  -- the list's block, if it has one
  have core : ∀ (b : Nat × Nat), (∀ ρ' : Num, ρ' 1 = b → RowOK ρ' w' 1 ⟨40, [.many 5 (lsN ps qs l) (fun e => [.int .u32 (lsV ps qs l e), .bool (lsS ps qs l e), .int .i64 (lsF ps qs l e), .bool (lsW ps qs l e), .bool (lsX ps qs l e)])], 5, none⟩) → (b.2 ≠ 0 → w.heap.size ≤ b.1 ∧ ¬ G' b.1) → cutL v (lsN ps qs l) = suffV b true 0 0 (lsN ps qs l) true →
      ∃ ρ' : Num, cutL v (lsN ps qs l) = den ρ' (.ow 1 true 0 0 (lsN ps qs l) true) ∧ MemOK W F ρ' (MR ps qs m' ++ [some ⟨40, [.many 5 (lsN ps qs l) (fun e => [.int .u32 (lsV ps qs l e), .bool (lsS ps qs l e), .int .i64 (lsF ps qs l e), .bool (lsW ps qs l e), .bool (lsX ps qs l e)])], 5, none⟩]) w' ∧ ∀ i, i < 1 → ρ' i = ρ i := by
    intro b hrow hb hv
    refine ⟨addB ρ 1 b, by rw [hv]; simp only [den, addB_eq], ⟨⟨hf.os.trans hm.frame.os, hf.tape.trans hm.frame.tape, hf.output.trans hm.frame.output, Nat.le_trans hWw hsz, fun k hk hk2 => ?_⟩, hm.glob, fun i r hi => ?_, fun i j r q hi hj h1 h2 he => ?_, fun i r hi hh => ?_, ?_⟩, fun i hi => addB_lt hi⟩
    · rw [hf.block k (Nat.lt_of_lt_of_le hk hWw) (fun hh => ?_), hm.frame.block k hk hk2]
      rcases hh.1 with h | h
      · exact hk2 h
      · omega
    · rcases i with _ | _ | i
      · cases hi
        exact ⟨.inr ⟨fun hh => (by have := hh.1; cases this), [], rfl, fun _ => rfl⟩, trivial⟩
      · cases hi
        exact ⟨hrow _ addB_eq, fun e he => ⟨rfl, rfl⟩, trivial⟩
      · simp at hi
    · rcases i with _ | _ | i
      · cases hi; have := h1.1; cases this
      · rcases j with _ | _ | j
        · cases hj; have := h2.1; cases this
        · rfl
        · simp at hj
      · simp at hi
    · rcases i with _ | _ | i
      · cases hi; have := hh.1; cases this
      · cases hi
        have h2 : (addB ρ 1 b 1).2 ≠ 0 := by
          rcases hh.2 with h | h
          · cases h
          · exact h
        rw [addB_eq] at h2 ⊢
        exact .inr (Nat.le_trans hWw (hb h2).1)
      · simp at hi
    · obtain ⟨φ, hφ⟩ := hm1.obs
      refine ⟨φ, fun i r x hi hx => ?_⟩
      rcases i with _ | _ | i
      · cases hi
        cases hx
        obtain ⟨⟨gs, k0, k1⟩, k2⟩ := hφ 0 _ _ rfl rfl
        have e0 : (addB ρ 1 b 0).1 = (ρ1 0).1 := by rw [addB_lt (by omega), ha]
        refine ⟨⟨gs, k0, ?_⟩, fun y hy => ?_⟩
        · show OTOK _ _ (addB ρ 1 b 0).1 _
          rw [e0]; exact k1
        · obtain ⟨m1, m2, _⟩ := k2 y hy
          have hg : G' y := by
            rcases m2 with h | h
            · exact h
            · omega
          refine ⟨m1, inF y hg, fun j q hj => ⟨fun hh => ?_, fun hq hne => ?_⟩⟩
          · rcases j with _ | _ | j
            · cases hj; have := hh.1; cases this
            · cases hj
              have h2 : (addB ρ 1 b 1).2 ≠ 0 := by
                rcases hh.2 with h | h
                · cases h
                · exact h
              rw [addB_eq] at h2 ⊢
              intro e
              exact (hb h2).2 (e ▸ hg)
            · simp at hj
          · rcases j with _ | _ | j
            · exact absurd rfl hne
            · cases hj; exact absurd rfl hq
            · simp at hj
      · cases hi; cases hx
      · simp at hi
  have hlen : lsN ps qs l = (iI ps qs l 256).length := lsN_eq ps qs l
  rcases hr.2 with ⟨rfl, h0⟩ | ⟨g, cap, cur, rfl, hbg, hgg, hlc, hcm, hcz, htk⟩
  · refine core (0, 0) (fun ρ' e => .inr ⟨fun hh => ?_, [], ⟨[], ?_, rfl⟩, fun _ => rfl⟩) (fun h => absurd rfl h) ?_
    · rcases hh.2 with h | h
      · cases h
      · rw [e] at h; exact h rfl
    · rw [h0]; rfl
    · rw [h0]; rfl
  · have hne : iI ps qs l 256 ≠ [] := fun e => by have := hn.2 e; cases this
    have hpos : 0 < lsN ps qs l := by rw [hlen]; exact List.length_pos_iff.2 hne
    refine core (g, cap) (fun ρ' e => .inl ⟨⟨rfl, .inr (by rw [e]; show cap ≠ 0; omega)⟩, cur, itL ps qs l (iI ps qs l 256), cur.toList.drop (lsN ps qs l * 5), by rw [e]; exact hgg, by rw [← htk, List.take_append_drop], ⟨[], by rw [itL_rec, List.append_nil], rfl⟩, fun h => (by cases h), fun _ => by rw [e]; exact hcz⟩) (fun _ => ⟨hbg, hng g rfl⟩) ?_
    show Value.slice _ _ _ = _
    rw [suffV_some (by show cap ≠ 0; omega) (by show cap ≠ 0; omega)]
    rfl
theorem wList_ok (m : Int) (ps qs : List (List Int)) (l : Int) (h0 : 0 ≤ m) (h1 : m ≤ 4611686018427000000) (h2 : wfP ps) (h3 : wfP qs) (h4 : InK .i64 l) (h5 : hasP true l ps qs = true) : SemCall Try.prog 17 [.ptr 0 0, .int .i64 l] [some ⟨181, [], 0, some (.own (.mem ps qs m))⟩] (AltK [⟨none, .tup [.ow 1 true 0 0 (lsN ps qs l) true, .int .i64 0], [some ⟨181, [], 0, some (.own (.mem ps qs (m + lsT ps qs l)))⟩, some ⟨40, [.many 5 (lsN ps qs l) (fun e => [.int .u32 (lsV ps qs l e), .bool (lsS ps qs l e), .int .i64 (lsF ps qs l e), .bool (lsW ps qs l e), .bool (lsX ps qs l e)])], 5, none⟩]⟩]) := by
  intro W F ρ w hm ho
  have hg : ∀ g cs, List.lookup g globs = some cs → g < w.heap.size := fun g cs h => by
    obtain ⟨h1, c, ty, fr, h2, h3⟩ := hm.glob g cs h
    exact Nat.lt_of_lt_of_le (Array.getElem?_eq_some_iff.1 h2).1 hm.frame.size
  refine (callsIn_wide.1 (List_in (MemAt.of hm hg) h0 h1 h2 h3 h4 h5 3 (Nat.le_refl _))).mono ?_
  rintro e w' ⟨xs, m', v, G', hxs, hm', he, k1, k2, k3, k4, k5, k6⟩
  rw [hxs] at he k4 k5
  rw [hm', ← lsT_eq] at k1
  rw [← lsN_eq] at he k4
  obtain ⟨ρ', q1, q2, q3⟩ := List_ok hm k1 k2 k3 k4 k5 k6
  exact ⟨ρ', _, _, ⟨_, List.mem_singleton.2 rfl, trivial, rfl, rfl⟩, by rw [he, q1]; rfl, ⟨(by show 1 < 2; omega), trivial, trivial⟩, q2, (by show 1 ≤ 2; omega), q3⟩
noncomputable def c_wList : ECon
  | [.ptr 0 0, .int .i64 l], [some ⟨181, [], 0, some (.own (.mem ps qs m))⟩] => some ([0 ≤ m, m ≤ 4611686018427000000, wfP ps, wfP qs, InK .i64 l, hasP true l ps qs = true], [⟨none, .tup [.ow 1 true 0 0 (lsN ps qs l) true, .int .i64 0], [some ⟨181, [], 0, some (.own (.mem ps qs (m + lsT ps qs l)))⟩, some ⟨40, [.many 5 (lsN ps qs l) (fun e => [.int .u32 (lsV ps qs l e), .bool (lsS ps qs l e), .int .i64 (lsF ps qs l e), .bool (lsW ps qs l e), .bool (lsX ps qs l e)])], 5, none⟩]⟩])
  | _, _ => none
theorem c_wList_e : EEntry Try.prog 17 c_wList := by
  refine ⟨callFunc_ok Try.func17 (by kernel_rfl) (by kernel_rfl), fun args rows ps alts h hp => ?_⟩
  unfold c_wList at h
  split at h
  · cases h; exact wList_ok _ _ _ _ (hp _ (List.mem_of_getElem? (i := 0) rfl)) (hp _ (List.mem_of_getElem? (i := 1) rfl)) (hp _ (List.mem_of_getElem? (i := 2) rfl)) (hp _ (List.mem_of_getElem? (i := 3) rfl)) (hp _ (List.mem_of_getElem? (i := 4) rfl)) (hp _ (List.mem_of_getElem? (i := 5) rfl))
  · cases h
end Go.Proofs.Ytlndkfcnfhkbkaa
