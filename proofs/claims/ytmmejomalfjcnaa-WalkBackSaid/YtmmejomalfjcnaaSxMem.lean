/- The operations that make or write memory do what the executor says. No condition. -/
import Derived.Test.YtmmejomalfjcnaaSxPure6
import Derived.Laws.CopyRow
namespace Go.Proofs.Ytmmejomalfjcnaa
open Go.RowKit
set_option linter.unusedVariables false
set_option linter.unusedSimpArgs false
namespace Sx
variable {P : Program} {T : Tab} {W : World} {F : Nat → Prop} {nt : Nat} {ρ ρ' : Nat → Nat} {s : SS} {a : Act} {w : World}

mutual
theorem okd_mono {n m : Nat} (h : n ≤ m) : ∀ {c : SV}, okd W F n c → okd W F m c
  | .ptr i _, hc => Nat.lt_of_lt_of_le hc h
  | .pte i _ _, hc => Nat.lt_of_lt_of_le hc h
  | .sl i _ _ _, hc => Nat.lt_of_lt_of_le hc h
  | .rd _ _ _, hc => hc
  | .rda _ _ _ _, hc => hc
  | .agg cs, hc => okdL_mono h (l := cs) hc
  | .tup cs, hc => okdL_mono h (l := cs) hc
  | .fn _ x y, hc => ⟨okdL_mono h (l := x) hc.1, okdL_mono h (l := y) hc.2⟩
  | .top, _ | .lit _ _, _ | .int _ _, _ | .litb _, _ | .bool _, _ | .str _, _ | .val _, _ | .hnd _, _ | .ints _ _ _, _ => trivial
theorem okdL_mono {n m : Nat} (h : n ≤ m) : ∀ {l : List SV}, okdL W F n l → okdL W F m l
  | [], _ => trivial
  | c :: l, hc => ⟨okd_mono h hc.1, okdL_mono h hc.2⟩
end

mutual
theorem den_congr {n : Nat} (h : ∀ i, i < n → ρ' i = ρ i) : ∀ {c : SV}, okd W F n c → den ρ' c = den ρ c
  | .ptr i _, hc => by simp [den, h i hc]
  | .pte i _ _, hc => by simp [den, h i hc]
  | .sl i _ _ _, hc => by simp [den, h i hc]
  | .agg cs, hc => by simp [den, cellsL_congr h (l := cs) hc]
  | .tup cs, hc => by simp [den, denL_congr h (l := cs) hc]
  | .fn _ x y, hc => by simp [den, denL_congr h (l := x) hc.1, denL_congr h (l := y) hc.2]
  | .rd _ _ _, _ | .rda _ _ _ _, _ | .top, _ | .lit _ _, _ | .int _ _, _ | .litb _, _ | .bool _, _ | .str _, _ | .val _, _ | .hnd _, _ | .ints _ _ _, _ => rfl
theorem denL_congr {n : Nat} (h : ∀ i, i < n → ρ' i = ρ i) : ∀ {l : List SV}, okdL W F n l → denL ρ' l = denL ρ l
  | [], _ => rfl
  | c :: l, hc => by simp [denL, den_congr h hc.1, denL_congr h hc.2]
theorem cellsL_congr {n : Nat} (h : ∀ i, i < n → ρ' i = ρ i) : ∀ {l : List SV}, okdL W F n l → cellsL ρ' l = cellsL ρ l
  | [], _ => rfl
  | c :: l, hc => by
    have h1 := den_congr h hc.1
    have h2 := cellsL_congr h hc.2
    cases c <;> simp_all [cellsL, den]
end

theorem CellsOK.congr {n : Nat} (h : ∀ i, i < n → ρ' i = ρ i) : ∀ {l : List SV} {vs : List Value}, okdL W F n l → CellsOK ρ l vs → CellsOK ρ' l vs
  | [], vs, _, hc => hc
  | c :: l, vs, ho, hc => by
    cases hs : single c with
    | true =>
      obtain ⟨t, rfl, h2⟩ := hc.one hs
      rw [← den_congr h ho.1]
      exact .mk_one hs (h2.congr h ho.2)
    | false =>
      cases c <;> simp [single] at hs
      · obtain ⟨v, t, rfl, h2⟩ := hc
        exact ⟨v, t, rfl, h2.congr h ho.2⟩
      · obtain ⟨t, rfl, h2⟩ := hc
        exact ⟨t, rfl, h2.congr h ho.2⟩

/-- The blocks' numbers with one more. -/
def ext (ρ : Nat → Nat) (n b : Nat) : Nat → Nat := fun i => if i = n then b else ρ i
theorem ext_old (ρ : Nat → Nat) (n b : Nat) : ∀ i, i < n → ext ρ n b i = ρ i := fun i h => by simp [ext]; omega
theorem ext_new (ρ : Nat → Nat) (n b : Nat) : ext ρ n b n = b := by simp [ext]

theorem get_push {rows : List (Option Row)} {r r' : Row} {i : Nat} (h : (rows ++ [some r])[i]? = some (some r')) : (rows[i]? = some (some r') ∧ i < rows.length) ∨ (i = rows.length ∧ r = r') := by
  by_cases hi : i < rows.length
  · rw [List.getElem?_append_left hi] at h; exact .inl ⟨h, hi⟩
  · rw [List.getElem?_append_right (by omega)] at h
    by_cases h0 : i - rows.length = 0
    · rw [h0] at h; simp at h; exact .inr ⟨by omega, h⟩
    · rw [List.getElem?_eq_none (by simp; omega)] at h; cases h

/-- A new row. -/
theorem MemOK.push {rows : List (Option Row)} (hm : MemOK W F ρ rows w) {r : Row} (c : Array Value) (hc : CellsOK ρ r.cs c.toList) (ho : okdL W F rows.length r.cs) :
    MemOK W F (ext ρ rows.length w.heap.size) (rows ++ [some r]) (w.alloc (.cells c r.ty)) := by
  have hold := ext_old ρ rows.length w.heap.size
  refine ⟨hm.frame.trans ⟨rfl, rfl, rfl, by simp, fun b hb _ => Below.heap_alloc _ _ _ hb⟩, ?_, ?_, ?_⟩
  · intro i r' hr
    rcases get_push hr with ⟨h, hi⟩ | ⟨rfl, rfl⟩
    · obtain ⟨c', h1, h2, h3⟩ := hm.row i r' h
      refine ⟨c', ?_, h2.congr hold h3, okdL_mono (by simp) h3⟩
      rw [hold i hi, Below.heap_alloc _ _ _ (hm.lt h)]
      exact h1
    · refine ⟨c, ?_, hc.congr hold ho, okdL_mono (by simp) ho⟩
      rw [ext_new]
      exact heap_alloc_new w _
  · intro i j r1 r2 hi hj he
    rcases get_push hi with ⟨h1, h2⟩ | ⟨rfl, rfl⟩ <;> rcases get_push hj with ⟨h3, h4⟩ | ⟨rfl, rfl⟩
    · rw [hold i h2, hold j h4] at he; exact hm.inj i j _ _ h1 h3 he
    · rw [hold i h2, ext_new] at he
      have := hm.lt h1; omega
    · rw [hold j h4, ext_new] at he
      have := hm.lt h3; omega
    · rfl
  · intro i r' hi
    rcases get_push hi with ⟨h1, h2⟩ | ⟨rfl, rfl⟩
    · rw [hold i h2]; exact hm.mine i _ h1
    · rw [ext_new]; exact .inr hm.frame.size

theorem get_set {rows : List (Option Row)} {r r' : Row} {b i : Nat} (h : (rows.set b (some r))[i]? = some (some r')) : (i = b ∧ r = r') ∨ (i ≠ b ∧ rows[i]? = some (some r')) := by
  by_cases hib : i = b
  · subst hib
    by_cases hl : i < rows.length
    · rw [List.getElem?_set_self hl] at h; cases h; exact .inl ⟨rfl, rfl⟩
    · rw [List.getElem?_eq_none (by simp; omega)] at h; cases h
  · rw [List.getElem?_set_ne (by omega)] at h; exact .inr ⟨hib, h⟩
theorem rowOf_get {rows : List (Option Row)} {b : Nat} {r : Row} (h : rowOf rows b = some r) : rows[b]? = some (some r) := by
  unfold rowOf at h
  split at h
  · rename_i hr; cases h; exact hr
  · cases h

/-- A row written. -/
theorem MemOK.set {rows : List (Option Row)} (hm : MemOK W F ρ rows w) {b : Nat} {r : Row} (hr : rowOf rows b = some r) {cs : List SV} {c : Array Value} (hc : CellsOK ρ cs c.toList) (ho : okdL W F rows.length cs) :
    MemOK W F ρ (rows.set b (some ⟨r.ty, cs⟩)) (w.setRow (ρ b) c) := by
  have hb := rowOf_get hr
  obtain ⟨c0, g1, g2, g3⟩ := hm.row b r hb
  refine ⟨⟨hm.frame.os, hm.frame.tape, hm.frame.output, by simpa using hm.frame.size, fun k hk hf => ?_⟩, ?_, ?_, ?_⟩
  · rw [setRow_other, hm.frame.block k hk hf]
    rintro rfl
    rcases hm.mine b _ hb with h | h
    · exact hf h
    · omega
  · intro i r' hi
    rcases get_set hi with ⟨rfl, rfl⟩ | ⟨hib, hi⟩
    · exact ⟨c, setRow_heap _ _ _ _ _ _ g1, hc, by simpa using ho⟩
    · obtain ⟨c', h1, h2, h3⟩ := hm.row i r' hi
      refine ⟨c', ?_, h2, by simpa using h3⟩
      rw [setRow_other _ _ _ _ (fun h => hib (hm.inj i b _ _ hi hb h))]
      exact h1
  · intro i j r1 r2 hi hj he
    have live : ∀ (i : Nat) (r1 : Row), (rows.set b (some ⟨r.ty, cs⟩))[i]? = some (some r1) → ∃ q, rows[i]? = some (some q) := by
      intro i r1 hi
      rcases get_set hi with ⟨rfl, rfl⟩ | ⟨hib, hi⟩
      · exact ⟨_, hb⟩
      · exact ⟨_, hi⟩
    obtain ⟨q1, h1⟩ := live i r1 hi
    obtain ⟨q2, h2⟩ := live j r2 hj
    exact hm.inj i j _ _ h1 h2 he
  · intro i r' hi
    rcases get_set hi with ⟨rfl, rfl⟩ | ⟨hib, hi⟩
    · exact hm.mine i _ hb
    · exact hm.mine i _ hi

/-- Nothing that was there has changed. -/
theorem MemOK.step {rows : List (Option Row)} (hm : MemOK W F ρ rows w) {w' : World} (hf : Frm (fun _ => False) w w') : MemOK W F ρ rows w' := by
  refine ⟨⟨hf.os.trans hm.frame.os, hf.tape.trans hm.frame.tape, hf.output.trans hm.frame.output, Nat.le_trans hm.frame.size hf.size, fun b hb hn => ?_⟩, fun i r hi => ?_, hm.inj, hm.mine⟩
  · rw [hf.block b (Nat.lt_of_lt_of_le hb hm.frame.size) id, hm.frame.block b hb hn]
  · obtain ⟨c, h1, h2, h3⟩ := hm.row i r hi
    exact ⟨c, by rw [hf.block _ (hm.lt hi) id]; exact h1, h2, h3⟩

theorem overC_cells {l new l' : List SV} {o m : Nat} {vs : List Value} (h : overC l o m new = some l') (hc : CellsOK ρ l vs) (hw : widthL new = m) :
    CellsOK ρ l' (vs.take o ++ cellsL ρ new ++ vs.drop (o + m)) ∧ o + m ≤ vs.length := by
  unfold overC at h
  split at h
  · rename_i x y h1 h2
    cases h
    obtain ⟨t1, t2⟩ := takeC_ok hc h1
    obtain ⟨d1, d2⟩ := dropC_ok hc h2
    exact ⟨(t1.append (CellsOK.of_cellsL ρ new)).append d1, d2⟩
  · cases h

theorem intCells_set {k : IntKind} {n : Nat} {xs : List Int} {o : Nat} {v : Int} (hl : xs.length = n) (ho : o < n) : intCells k n (xs.set o v) = (intCells k n xs).set o (.int k v) := by
  apply List.ext_getElem?
  intro j
  by_cases hj : j < n
  · rw [intCells_get _ _ _ _ hj]
    by_cases hjo : j = o
    · subst hjo
      rw [List.getElem?_set_self (by simp [intCells_length]; exact hj)]
      simp [List.getD, List.getElem?_set_self (show j < xs.length by omega)]
    · rw [List.getElem?_set_ne (by omega), intCells_get _ _ _ _ hj]
      simp [List.getD, List.getElem?_set_ne (show o ≠ j by omega)]
  · rw [List.getElem?_eq_none (by simp [intCells_length]; omega), List.getElem?_eq_none (by simp [intCells_length]; omega)]

theorem setIn_ok : ∀ {l : List SV} {o : Nat} {k : IntKind} {v : Int} {ps : List Prop} {l' : List SV} {vs : List Value} {n : Nat}, setIn l o k v = some (ps, l') → All ps → CellsOK ρ l vs → okdL W F n l →
    CellsOK ρ l' (vs.set o (.int k v)) ∧ o < vs.length ∧ okdL W F n l'
  | [], o, k, v, ps, l', vs, n, h, hp, hc, ho => by simp [setIn] at h
  | c :: r, o, k, v, ps, l', vs, n, h, hp, hc, ho => by
    by_cases hi : ∃ k n xs, c = .ints k n xs
    · obtain ⟨k0, n0, xs, rfl⟩ := hi
      obtain ⟨t, rfl, h2⟩ := hc
      simp only [setIn] at h
      rcases blt_some h with ⟨e, hx⟩ | ⟨e, hx⟩ <;> clear h
      · rcases cond_some hx with ⟨e2, hy⟩ | ⟨e2, hy⟩ <;> clear hx
        · cases hy
          have e2 : k0 = k := by simpa using e2
          subst e2
          have hl : xs.length = n0 := hp _ (by simp)
          refine ⟨⟨t, ?_, h2⟩, by simp [intCells_length]; omega, ⟨trivial, ho.2⟩⟩
          rw [intCells_set hl e, List.set_append_left _ _ (by simp [intCells_length]; exact e)]
        · cases hy
      · simp only [Option.map_eq_some_iff] at hx
        obtain ⟨⟨p2, l2⟩, hx, hy⟩ := hx
        cases hy
        obtain ⟨i1, i2, i3⟩ := setIn_ok hx hp h2 ho.2
        refine ⟨⟨_, ?_, i1⟩, by simp [intCells_length]; omega, ⟨trivial, i3⟩⟩
        rw [List.set_append_right _ _ (by simp [intCells_length]; omega), intCells_length]
    · have e1 : setIn (c :: r) o k v = bif Nat.beq o 0 then none else (setIn r (o - 1) k v).map fun (p, l) => (p, c :: l) := by cases c <;> first | rfl | exact absurd ⟨_, _, _, rfl⟩ hi
      rw [e1] at h
      rcases beq_some h with ⟨e, hx⟩ | ⟨e, hx⟩ <;> clear h
      · cases hx
      · simp only [Option.map_eq_some_iff] at hx
        obtain ⟨⟨p2, l2⟩, hx, hy⟩ := hx
        cases hy
        obtain ⟨m, rfl⟩ : ∃ m, o = m + 1 := ⟨o - 1, by omega⟩
        simp only [Nat.add_sub_cancel] at hx
        cases hs : single c with
        | true =>
          obtain ⟨t, rfl, h2⟩ := hc.one hs
          obtain ⟨i1, i2, i3⟩ := setIn_ok hx hp h2 ho.2
          exact ⟨by simpa using CellsOK.mk_one hs i1, by simp; omega, ho.1, i3⟩
        | false =>
          cases c <;> simp [single] at hs
          · obtain ⟨u, t, rfl, h2⟩ := hc
            obtain ⟨i1, i2, i3⟩ := setIn_ok hx hp h2 ho.2
            exact ⟨⟨u, _, by simp, i1⟩, by simp; omega, ho.1, i3⟩
          · exact absurd ⟨_, _, _, rfl⟩ hi

theorem setE_ok : ∀ {l : List SV} {o : Nat} {e : Int} {k : IntKind} {v : Int} {ps : List Prop} {l' : List SV} {vs : List Value} {n : Nat} {z : IntKind × Nat × List Int}, setE l o e k v = some (ps, l') → intsAt l o = some z → 0 ≤ e → e < z.2.1 → All ps → CellsOK ρ l vs → okdL W F n l →
    CellsOK ρ l' (vs.set (o + e.toNat) (.int k v)) ∧ o + e.toNat < vs.length ∧ okdL W F n l'
  | [], o, e, k, v, ps, l', vs, n, z, h, hz, h0, h1, hp, hc, ho => by simp [setE] at h
  | c :: r, o, e, k, v, ps, l', vs, n, z, h, hz, h0, h1, hp, hc, ho => by
    by_cases hi : ∃ k n xs, c = .ints k n xs
    · obtain ⟨k0, n0, xs, rfl⟩ := hi
      obtain ⟨t, rfl, h2⟩ := hc
      simp only [setE] at h
      simp only [intsAt] at hz
      rcases beq_some h with ⟨eo, hx⟩ | ⟨eo, hx⟩ <;> clear h
      · subst eo
        simp at hz
        subst hz
        rcases cond_some hx with ⟨e2, hy⟩ | ⟨e2, hy⟩ <;> clear hx
        · cases hy
          have e2 : k0 = k := by simpa using e2
          subst e2
          have hl : xs.length = n0 := hp _ (by simp)
          have hlt : e.toNat < n0 := by simp at h1; omega
          refine ⟨⟨t, ?_, h2⟩, by simp [intCells_length]; omega, ⟨trivial, ho.2⟩⟩
          rw [intCells_set hl hlt, Nat.zero_add, List.set_append_left _ _ (by simp [intCells_length]; exact hlt)]
        · cases hy
      · rcases beq_some hz with ⟨eo2, hz2⟩ | ⟨eo2, hz2⟩ <;> clear hz
        · exact absurd eo2 eo
        · rcases ble_some hx with ⟨e2, hy⟩ | ⟨e2, hy⟩ <;> clear hx
          · rcases ble_some hz2 with ⟨e3, hz3⟩ | ⟨e3, hz3⟩ <;> clear hz2
            · simp only [Option.map_eq_some_iff] at hy
              obtain ⟨⟨p2, l2⟩, hx, hy⟩ := hy
              cases hy
              obtain ⟨i1, i2, i3⟩ := setE_ok hx hz3 h0 h1 hp h2 ho.2
              refine ⟨⟨_, ?_, i1⟩, by simp [intCells_length]; omega, ⟨trivial, i3⟩⟩
              rw [List.set_append_right _ _ (by simp [intCells_length]; omega), intCells_length]
              congr 2
              omega
            · omega
          · cases hy
    · have e1 : setE (c :: r) o e k v = bif Nat.beq o 0 then none else (setE r (o - 1) e k v).map fun (p, l) => (p, c :: l) := by cases c <;> first | rfl | exact absurd ⟨_, _, _, rfl⟩ hi
      have e2 : intsAt (c :: r) o = bif Nat.beq o 0 then none else intsAt r (o - 1) := by cases c <;> first | rfl | exact absurd ⟨_, _, _, rfl⟩ hi
      rw [e1] at h
      rw [e2] at hz
      rcases beq_some h with ⟨eo, hx⟩ | ⟨eo, hx⟩ <;> clear h
      · cases hx
      · rcases beq_some hz with ⟨eo2, hz2⟩ | ⟨eo2, hz2⟩ <;> clear hz
        · exact absurd eo2 eo
        · simp only [Option.map_eq_some_iff] at hx
          obtain ⟨⟨p2, l2⟩, hx, hy⟩ := hx
          cases hy
          obtain ⟨m, rfl⟩ : ∃ m, o = m + 1 := ⟨o - 1, by omega⟩
          simp only [Nat.add_sub_cancel] at hx hz2
          rw [show m + 1 + e.toNat = (m + e.toNat) + 1 by omega]
          cases hs : single c with
          | true =>
            obtain ⟨t, rfl, h2⟩ := hc.one hs
            obtain ⟨i1, i2, i3⟩ := setE_ok hx hz2 h0 h1 hp h2 ho.2
            exact ⟨by simpa using CellsOK.mk_one hs i1, by simp; omega, ho.1, i3⟩
          | false =>
            cases c <;> simp [single] at hs
            · obtain ⟨u, t, rfl, h2⟩ := hc
              obtain ⟨i1, i2, i3⟩ := setE_ok hx hz2 h0 h1 hp h2 ho.2
              exact ⟨⟨u, _, by simp, i1⟩, by simp; omega, ho.1, i3⟩
            · exact absurd ⟨_, _, _, rfl⟩ hi

theorem run_storeVar_of {t : TypeId} {i : TyI} (hi : TyOK P t i) {b o : Nat} {c : Array Value} {ty : TypeId} (hc : w.heap[b]? = some (.cells c ty (0, 0))) {v : Value} {vs : List Value} (hv : v.cells.toList = vs) (hn : vs.length = i.size) (hl : o + vs.length ≤ c.size) (h1 : ∀ x ∈ vs, x.oneCell' = true) :
    (storeVar t ⟨b, o, none⟩ v).run P w = .ok () (w.setRow b (c.toList.take o ++ vs ++ c.toList.drop (o + vs.length)).toArray) := by
  have hs := hi.run_size w
  have := run_storeCells_at P b o ty vs 0 c w hc (by simpa using hl) h1
  have hsz : v.cells.size = i.size := by rw [← hn, ← hv]; simp
  simp only [Nat.add_zero] at this
  simp [storeVar, hs, hsz, hv, this]

theorem set_eq_take_drop {α : Type} (l : List α) (o : Nat) (v : α) (h : o < l.length) : l.set o v = l.take o ++ [v] ++ l.drop (o + 1) := by
  rw [List.set_eq_take_append_cons_drop]
  simp [h]

theorem storeS_ok (hT : TabOK P T) {rows : List (Option Row)} (hm : MemOK W F ρ rows w) {t : TypeId} {x v : SV} {ps : List Prop} {b : Nat} {r' : Row} (h : storeS T rows t x v = some (ps, b, r')) (hp : All ps) (ov : okd W F rows.length v) :
    ∃ w', (Instr.storeAt t (den ρ x) (den ρ v)).run P w = .ok () w' ∧ MemOK W F ρ (rows.set b (some r')) w' := by
  simp only [storeS, Option.bind_eq_some_iff] at h
  obtain ⟨i, hi, h⟩ := h
  have ty := hT t i hi
  split at h
  · rename_i b off
    simp only [Option.bind_eq_some_iff] at h
    obtain ⟨r, hr, new, hv, h⟩ := h
    obtain ⟨v1, v2, v3⟩ := valueCells_ok (ρ := ρ) hv ov
    obtain ⟨c, g1, g2, g3, _, _, hb⟩ := rowOf_ok hm hr
    have h1 := cellsB_one (ρ := ρ) v3 v2
    rcases beq_some h with ⟨e, hx⟩ | ⟨e, hx⟩ <;> clear h
    · have hn : (cellsL ρ new).length = i.size := by rw [widthL_cells, e]
      split at hx
      · rename_i cs hcs
        cases hx
        obtain ⟨o1, o2⟩ := overC_cells hcs g2 e
        have hst := run_storeVar_of (w := w) ty g1 (o := off) v1 hn (by simp at o2; omega) h1
        refine ⟨_, by simp only [Instr.storeAt, Instr.sureAddr, den]; simpa using hst, hm.set hr ?_ (overC_okd hcs g3 v2)⟩
        rw [hn]; simpa using o1
      · rcases cond_some hx with ⟨ea, hy⟩ | ⟨ea, hy⟩ <;> clear hx
        · cases hy
        · simp only [Option.bind_eq_some_iff, Option.map_eq_some_iff] at hy
          obtain ⟨⟨k, n, cl⟩, hq, ⟨p2, l2⟩, hs, hy⟩ := hy
          cases hy
          obtain ⟨s1, s2, s3⟩ := setIn_ok hs hp g2 g3
          have hd := asI_ok hq ρ
          have hnew : cellsL ρ new = [.int k n] := by rw [← v1, hd]; rfl
          have hst := run_storeVar_of (w := w) ty g1 (o := off) v1 hn (by rw [hnew]; simp at s2 ⊢; omega) h1
          refine ⟨_, by simp only [Instr.storeAt, Instr.sureAddr, den]; simpa using hst, hm.set hr ?_ s3⟩
          rw [hnew]
          rw [set_eq_take_drop _ _ _ s2] at s1
          simpa using s1
    · cases hx
  · rename_i b off e
    rcases cond_some h with ⟨ea, hx⟩ | ⟨ea, hx⟩ <;> clear h
    · cases hx
    · rcases beq_some hx with ⟨es, hy⟩ | ⟨es, hy⟩ <;> clear hx
      · simp only [Option.bind_eq_some_iff, Option.map_eq_some_iff] at hy
        obtain ⟨r, hr, z, hz, ⟨k, n, cl⟩, hq, ⟨p2, l2⟩, hs, hy⟩ := hy
        cases hy
        obtain ⟨c, g1, g2, g3, _, _, hb⟩ := rowOf_ok hm hr
        have e0 : 0 ≤ e := hp _ (by simp)
        have e1 : e < z.2.1 := hp (e < z.2.1) (by simp)
        obtain ⟨s1, s2, s3⟩ := setE_ok hs hz e0 e1 (fun p hq => hp p (by simp [hq])) g2 g3
        have hd := asI_ok hq ρ
        have hst := run_storeVar_of (w := w) ty g1 (o := off + e.toNat) (v := den ρ v) (vs := [.int k n]) (by rw [hd]; rfl) (by simp [es]) (by simp at s2 ⊢; omega) (by simp [Value.oneCell'])
        refine ⟨_, by simp only [Instr.storeAt, Instr.sureAddr, den]; simpa using hst, hm.set hr ?_ s3⟩
        rw [set_eq_take_drop _ _ _ s2] at s1
        simpa using s1
      · cases hy
  · cases h
end Sx
end Go.Proofs.Ytmmejomalfjcnaa
