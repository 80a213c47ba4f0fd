/- The pages that a space owns, as a contract. No condition beyond sizes. -/
import Derived.Test.YtlndkfcnfhkbkaaPdN
namespace Go.Proofs.Ytlndkfcnfhkbkaa
open Go.RowKit Sx
set_option linter.unusedVariables false
set_option linter.unusedSimpArgs false
set_option maxRecDepth 100000
set_option maxHeartbeats 8000000
theorem d3_new {W w w' : World} {F : Nat → Prop} {ρ : Num} {b : Int} {len L : Nat} {ps qs : List (List Int)} {m : Int} {ws : List Int} {xs : List Int} {v : Value} (hm : MemOK W F ρ (D3R b len L ps qs m ws) w) (hb : Below w.heap.size w w')
    (hr : w'.ownsRow w.heap.size 3 1 v xs.length (xs.map (Value.int .i64))) (hn : v = .slice none 0 0 ↔ xs = []) :
    ∃ ρ' : Num, v = den ρ' (.on 3 xs.length true) ∧ MemOK W F ρ' (D3R b len L ps qs m ws ++ [some ⟨3, [.ints .i64 xs.length xs], 1, none⟩]) w' ∧ ∀ i, i < 3 → ρ' i = ρ i := by
  have hm' := hm.step (frm_below hb)
  rcases hr.2 with ⟨rfl, h0⟩ | ⟨g, cap, cur, rfl, hg, hc, hle, _, hsz, htk⟩
  · obtain rfl : xs = [] := List.length_eq_zero_iff.1 h0
    refine ⟨addN ρ 3, ?_, hm'.phantom (q := ⟨3, [.ints .i64 0 []], 1, none⟩) rfl, fun i hi => addN_lt hi⟩
    simp [den, listV, addN_eq]
  · by_cases hcap : cap = 0
    · subst hcap
      have e0 : xs = [] := List.length_eq_zero_iff.1 (by omega)
      exact absurd (hn.2 e0) (by simp)
    · refine ⟨addB ρ 3 (g, cap), ?_, ?_, fun i hi => addB_lt hi⟩
      · simp [den, listV, addB_eq, hcap]
      · have st : Sat W F 0 ρ ⟨[], D3R b len L ps qs m ws⟩ { tmps := #[], defers := [] } w := ⟨rfl, rfl, fun d sv h => (by cases h), hm⟩
        have hp : MemOK W F ρ (D3R b len L ps qs m ws ++ [none]) w := (st.pad (.alloc 0)).mem
        refine hp.gen (b := 3) (by simp) hm'.frame (fun i hi => by simp only [addB]; rw [if_neg hi]) (fun i r hi hr => ?_) (fun y hy _ => hb.block y hy) hb.size (fun r hr => ?_)
        · have hir : (D3R b len L ps qs m ws)[i]? = some (some r) := by
            rw [List.getElem?_append] at hr
            split at hr
            · exact hr
            · rename_i h4
              have h4 : ¬ i < 3 := h4
              rw [List.getElem?_eq_none (by simp; omega)] at hr
              cases hr
          have h3 : i < 3 := (List.getElem?_eq_some_iff.1 hir).1
          refine ⟨by rw [List.getElem?_append_left (by exact h3)]; exact hir, ?_, fun hh => hb.block _ (hm.lt hir hh)⟩
          rcases (by omega : i = 0 ∨ i = 1 ∨ i = 2) with rfl | rfl | rfl <;> (cases hir; rfl)
        · have hr : some ⟨3, [.ints .i64 xs.length xs], 1, none⟩ = some r := Option.some.inj (by simpa using hr)
          cases hr
          have hpos : Has (addB ρ 3 (g, cap)) 3 ⟨3, [.ints .i64 xs.length xs], 1, none⟩ := ⟨rfl, .inr (by rw [addB_eq]; exact hcap)⟩
          refine ⟨rfl, fun _ => .inl (by rw [addB_eq]; exact hg), .inl ⟨hpos, cur, xs.map (Value.int .i64), cur.toList.drop (xs.length * 1), by rw [addB_eq]; exact hc, by rw [← htk, List.take_append_drop], ⟨[], by rw [intCells_map, List.append_nil], rfl⟩, fun h => (by cases h), fun _ => by rw [addB_eq]; exact hsz⟩, ⟨trivial, trivial⟩, fun _ => ⟨.inr (by rw [addB_eq]; exact Nat.le_trans hm.frame.size hg), fun j q hj hq hh => ?_⟩⟩
          rw [addB_eq]
          have hjr : (D3R b len L ps qs m ws)[j]? = some (some q) := by
            rw [List.getElem?_append] at hq
            split at hq
            · exact hq
            · rename_i h4
              have h4 : ¬ j < 3 := h4
              rw [List.getElem?_eq_none (by simp; omega)] at hq
              cases hq
          have := hm.lt hjr hh
          simp only; omega
theorem dbOwned_ok (b : Int) (len L : Nat) (ps qs : List (List Int)) (m : Int) (ws : List Int) (p : Int) (h0 : wfD len L b ps qs m ws) : SemCall Try.prog 56 [.ptr 0 0, .int .i64 p] [some ⟨205, [.ptr 1 0, .int .i64 b, .on 2 len false], 0, none⟩, some ⟨181, [], 0, some (.own (.mem ps qs m))⟩, some ⟨34, [.ints .u32 L ws], 1, none⟩] (AltK [⟨none, .on 3 (ownD ps ws p).length true, [some ⟨205, [.ptr 1 0, .int .i64 b, .on 2 len false], 0, none⟩, some ⟨181, [], 0, some (.own (.mem ps qs m))⟩, some ⟨34, [.ints .u32 L ws], 1, none⟩, some ⟨3, [.ints .i64 (ownD ps ws p).length (ownD ps ws p)], 1, none⟩]⟩]) := by
  intro W F ρ w hm ho
  refine (callsIn_wide.1 (Owned_in hm h0 3 (Nat.le_refl _) p)).mono ?_
  rintro e w' ⟨v, rfl, hr, hn, hb⟩
  obtain ⟨ρ', hv, hm', hρ⟩ := d3_new hm hb hr hn
  exact ⟨ρ', _, _, ⟨_, List.mem_singleton.2 rfl, trivial, rfl, rfl⟩, by rw [hv], (by show 3 < 4; omega), hm', by simp, hρ⟩
noncomputable def c_dbOwned : ECon
  | [.ptr 0 0, .int .i64 p], [some ⟨205, [.ptr 1 0, .int .i64 b, .on 2 len false], 0, none⟩, some ⟨181, [], 0, some (.own (.mem ps qs m))⟩, some ⟨34, [.ints .u32 L ws], 1, none⟩] => some ([wfD len L b ps qs m ws], [⟨none, .on 3 (ownD ps ws p).length true, [some ⟨205, [.ptr 1 0, .int .i64 b, .on 2 len false], 0, none⟩, some ⟨181, [], 0, some (.own (.mem ps qs m))⟩, some ⟨34, [.ints .u32 L ws], 1, none⟩, some ⟨3, [.ints .i64 (ownD ps ws p).length (ownD ps ws p)], 1, none⟩]⟩])
  | _, _ => none
theorem c_dbOwned_e : EEntry Try.prog 56 c_dbOwned := by
  refine ⟨callFunc_ok Try.func56 (by kernel_rfl) (by kernel_rfl), fun args rows ps alts h hp => ?_⟩
  unfold c_dbOwned at h
  split at h
  · cases h; exact dbOwned_ok _ _ _ _ _ _ _ _ (hp _ (List.mem_of_getElem? (i := 0) rfl))
  · cases h
end Go.Proofs.Ytlndkfcnfhkbkaa
