/- What names a row; rows laid into memory, at any place. No condition. -/
import Derived.Test.YtmmejomalfjcnaaSxMem
namespace Go.Proofs.Ytmmejomalfjcnaa
open Go.RowKit
set_option linter.unusedVariables false
set_option linter.unusedSimpArgs false
namespace Sx
variable {P : Program} {T : Tab} {W : World} {F : Nat → Prop} {nt : Nat} {ρ ρ' : Num} {s : SS} {a : Act} {w : World}

mutual
def noM (b : Nat) : SV → Bool
  | .ptr i _ => !(Nat.beq i b)
  | .pte i _ _ => !(Nat.beq i b)
  | .sl i _ _ _ => !(Nat.beq i b)
  | .os i _ _ _ => !(Nat.beq i b)
  | .on i _ _ => !(Nat.beq i b)
  | .agg cs => noML b cs
  | .tup cs => noML b cs
  | .fn _ x y => noML b x && noML b y
  | _ => true
def noML (b : Nat) : List SV → Bool
  | [] => true
  | c :: cs => noM b c && noML b cs
end

mutual
theorem den_off {b : Nat} (h : ∀ i, i ≠ b → ρ' i = ρ i) : ∀ {c : SV}, noM b c = true → den ρ' c = den ρ c
  | .ptr i _, hc => by simp only [noM, Bool.not_eq_true'] at hc; simp [den, h i (Nat.ne_of_beq_eq_false hc)]
  | .pte i _ _, hc => by simp only [noM, Bool.not_eq_true'] at hc; simp [den, h i (Nat.ne_of_beq_eq_false hc)]
  | .sl i _ _ _, hc => by simp only [noM, Bool.not_eq_true'] at hc; simp [den, h i (Nat.ne_of_beq_eq_false hc)]
  | .os i _ _ _, hc => by simp only [noM, Bool.not_eq_true'] at hc; simp [den, h i (Nat.ne_of_beq_eq_false hc)]
  | .on i _ _, hc => by simp only [noM, Bool.not_eq_true'] at hc; simp [den, h i (Nat.ne_of_beq_eq_false hc)]
  | .agg cs, hc => by simp only [noM] at hc; simp [den, cellsL_off h (l := cs) hc]
  | .tup cs, hc => by simp only [noM] at hc; simp [den, denL_off h (l := cs) hc]
  | .fn _ x y, hc => by simp only [noM, Bool.and_eq_true] at hc; simp [den, denL_off h (l := x) hc.1, denL_off h (l := y) hc.2]
  | .gp _ _, _ | .gpe _ _ _ _ _, _ | .rd _ _ _, _ | .rda _ _ _ _, _ | .rs _ _ _ _, _ | .rsa _ _ _ _ _ _, _ | .top, _ | .lit _ _, _ | .int _ _, _ | .litb _, _ | .bool _, _ | .str _, _ | .val _, _ | .hnd _, _ | .ints _ _ _, _ => rfl
theorem denL_off {b : Nat} (h : ∀ i, i ≠ b → ρ' i = ρ i) : ∀ {l : List SV}, noML b l = true → denL ρ' l = denL ρ l
  | [], _ => rfl
  | c :: l, hc => by simp only [noML, Bool.and_eq_true] at hc; simp [denL, den_off h hc.1, denL_off h hc.2]
theorem cellsL_off {b : Nat} (h : ∀ i, i ≠ b → ρ' i = ρ i) : ∀ {l : List SV}, noML b l = true → cellsL ρ' l = cellsL ρ l
  | [], _ => rfl
  | c :: l, hc => by
    simp only [noML, Bool.and_eq_true] at hc
    have h1 := den_off h hc.1
    have h2 := cellsL_off h hc.2
    cases c <;> simp_all [cellsL, den]
end
theorem CellsOK.off {b : Nat} (h : ∀ i, i ≠ b → ρ' i = ρ i) : ∀ {l : List SV} {vs : List Value}, noML b l = true → CellsOK ρ l vs → CellsOK ρ' l vs
  | [], vs, _, hc => hc
  | c :: l, vs, ho, hc => by
    simp only [noML, Bool.and_eq_true] at ho
    cases hs : single c with
    | true =>
      obtain ⟨t, rfl, h2⟩ := hc.one hs
      rw [← den_off h ho.1]
      exact .mk_one hs (h2.off h ho.2)
    | false =>
      cases c <;> simp [single] at hs
      · obtain ⟨v, t, rfl, h2⟩ := hc
        exact ⟨v, t, rfl, h2.off h ho.2⟩
      · obtain ⟨t, rfl, h2⟩ := hc
        exact ⟨t, rfl, h2.off h ho.2⟩
theorem beq_ne {i b : Nat} (h : i ≠ b) : (!(Nat.beq i b)) = true := by
  cases hb : Nat.beq i b with
  | false => rfl
  | true => exact absurd (Nat.eq_of_beq_eq_true hb) h
mutual
theorem okd_noM {n b : Nat} (h : n ≤ b) : ∀ {c : SV}, okd W F n c → noM b c = true
  | .ptr i _, hc => by have hc : i < n := hc; exact beq_ne (by omega)
  | .pte i _ _, hc => by have hc : i < n := hc; exact beq_ne (by omega)
  | .sl i _ _ _, hc => by have hc : i < n := hc; exact beq_ne (by omega)
  | .os i _ _ _, hc => by have hc : i < n := hc; exact beq_ne (by omega)
  | .on i _ _, hc => by have hc : i < n := hc; exact beq_ne (by omega)
  | .agg cs, hc => okdL_noM h (l := cs) hc
  | .tup cs, hc => okdL_noM h (l := cs) hc
  | .fn _ x y, hc => by simp only [noM, Bool.and_eq_true]; exact ⟨okdL_noM h (l := x) hc.1, okdL_noM h (l := y) hc.2⟩
  | .gp _ _, _ | .gpe _ _ _ _ _, _ | .rd _ _ _, _ | .rda _ _ _ _, _ | .rs _ _ _ _, _ | .rsa _ _ _ _ _ _, _ | .top, _ | .lit _ _, _ | .int _ _, _ | .litb _, _ | .bool _, _ | .str _, _ | .val _, _ | .hnd _, _ | .ints _ _ _, _ => rfl
theorem okdL_noM {n b : Nat} (h : n ≤ b) : ∀ {l : List SV}, okdL W F n l → noML b l = true
  | [], _ => rfl
  | c :: l, hc => by simp only [noML, Bool.and_eq_true]; exact ⟨okd_noM h hc.1, okdL_noM h hc.2⟩
end

theorem ext_off (ρ : Num) (n : Nat) (b : Nat × Nat) : ∀ i, i ≠ n → ext ρ n b i = ρ i := fun i h => by simp [ext, h]


/-- A row laid at a free place, others given up; what else is there is as it was. -/
theorem MemOK.gen {rows rows' : List (Option Row)} (hm : MemOK W F ρ rows w) {w' : World} {b : Nat} (hlen : rows'.length = rows.length) (hfr : Frm F W w') (hoff : ∀ i, i ≠ b → ρ' i = ρ i)
    (hold : ∀ i r, i ≠ b → rows'[i]? = some (some r) → rows[i]? = some (some r) ∧ noML b r.cs = true ∧ (Has ρ i r → w'.heap[(ρ i).1]? = w.heap[(ρ i).1]?))
    (hnew : ∀ r, rows'[b]? = some (some r) → RowOK ρ' w' b r ∧ okdL W F rows.length r.cs ∧ (Has ρ' b r → (F (ρ' b).1 ∨ W.heap.size ≤ (ρ' b).1) ∧ ∀ j q, j ≠ b → rows'[j]? = some (some q) → Has ρ j q → (ρ j).1 ≠ (ρ' b).1)) :
    MemOK W F ρ' rows' w' := by
  have has : ∀ (i : Nat) (r : Row), i ≠ b → (Has ρ' i r ↔ Has ρ i r) := fun i r hi => by unfold Has; rw [hoff i hi]
  refine ⟨hfr, hm.glob, fun i r hi => ?_, fun i j r q hi hj h1 h2 he => ?_, fun i r hi h1 => ?_⟩
  · by_cases hib : i = b
    · subst hib
      obtain ⟨h1, h2, _⟩ := hnew r hi
      exact ⟨h1, by rw [hlen]; exact h2⟩
    · obtain ⟨h1, h2, h3⟩ := hold i r hib hi
      obtain ⟨h4, h5⟩ := hm.row i r h1
      exact ⟨h4.map (hoff i hib) rfl rfl h3 (fun vs hv => hv.off hoff h2), by rw [hlen]; exact h5⟩
  · by_cases hib : i = b <;> by_cases hjb : j = b
    · rw [hib, hjb]
    · subst hib
      have := ((hnew r hi).2.2 h1).2 j q hjb hj ((has j q hjb).1 h2)
      rw [hoff j hjb] at he
      exact absurd he.symm this
    · subst hjb
      have := ((hnew q hj).2.2 h2).2 i r hib hi ((has i r hib).1 h1)
      rw [hoff i hib] at he
      exact absurd he this
    · rw [hoff i hib, hoff j hjb] at he
      exact hm.inj i j r q (hold i r hib hi).1 (hold j q hjb hj).1 ((has i r hib).1 h1) ((has j q hjb).1 h2) he
  · by_cases hib : i = b
    · subst hib; exact ((hnew r hi).2.2 h1).1
    · rw [hoff i hib]
      exact hm.mine i r (hold i r hib hi).1 ((has i r hib).1 h1)

/-- A place for a new row: nobody names it. -/
structure Free (rows : List (Option Row)) (b : Nat) : Prop where
  lt : b < rows.length
  none : rows[b]? = some none
  off : ∀ (i : Nat) (x : Row), rows[i]? = some (some x) → noML b x.cs = true

/-- A row that has a new block. -/
theorem MemOK.fill {rows : List (Option Row)} (hm : MemOK W F ρ rows w) {b : Nat} (hb : Free rows b) {r : Row} {c : Array Value} {l rest : List Value} {cap : Nat} {w' : World} (hw' : w' = w.alloc (.cells c r.ty) ∨ w' = w.drew.alloc (.cells c r.ty)) (hl : c.toList = l ++ rest) (hc : CellsOK ρ r.cs l) (ho : okdL W F rows.length r.cs) (hn : noML b r.cs = true)
    (h0 : r.sz = 0 → rest = []) (h1 : r.sz ≠ 0 → c.size = cap * r.sz) (h2 : r.sz ≠ 0 → cap ≠ 0) : MemOK W F (ext ρ b (w.heap.size, cap)) (rows.set b (some r)) w' := by
  have hoff := ext_off ρ b (w.heap.size, cap)
  have hnew : w'.heap[w.heap.size]? = some (.cells c r.ty (0, 0)) := by
    rcases hw' with rfl | rfl
    · exact heap_alloc_new w _
    · exact heap_alloc_new w.drew _
  have hkeep : ∀ k, k < w.heap.size → w'.heap[k]? = w.heap[k]? := by
    intro k hk
    rcases hw' with rfl | rfl
    · exact Below.heap_alloc _ _ _ hk
    · exact Below.heap_alloc w.drew _ _ hk
  have hfr : Frm (fun _ => False) w w' := by
    refine ⟨?_, ?_, ?_, ?_, fun k hk _ => hkeep k hk⟩ <;> rcases hw' with rfl | rfl <;> first | rfl | simp
  refine hm.gen (b := b) (by simp) (hm.frame.trans ⟨hfr.os, hfr.tape, hfr.output, hfr.size, fun k hk _ => hkeep k hk⟩) hoff (fun i x hib hi => ?_) (fun x hi => ?_)
  · rw [List.getElem?_set_ne (by omega)] at hi
    exact ⟨hi, hb.off i x hi, fun hh => hkeep _ (hm.lt hi hh)⟩
  · rw [List.getElem?_set_self hb.lt] at hi
    cases hi
    have hhas : Has (ext ρ b (w.heap.size, cap)) b r := by
      unfold Has
      rw [ext_new]
      by_cases hz : r.sz = 0
      · exact .inl hz
      · exact .inr (h2 hz)
    refine ⟨.inl ⟨hhas, c, l, rest, by rw [ext_new]; exact hnew, hl, hc.off hoff hn, h0, fun hz => by rw [ext_new]; exact h1 hz⟩, ho, fun _ => ⟨.inr (by rw [ext_new]; exact hm.frame.size), fun j q hj hq hh => ?_⟩⟩
    rw [List.getElem?_set_ne (by omega)] at hq
    rw [ext_new]
    have := hm.lt hq hh
    simp only; omega
end Sx
end Go.Proofs.Ytmmejomalfjcnaa
