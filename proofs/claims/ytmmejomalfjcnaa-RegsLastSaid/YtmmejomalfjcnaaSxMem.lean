/- The operations that make or write memory do what the executor says. No condition. -/
import Derived.Test.YtmmejomalfjcnaaSxPure6
import Derived.Laws.CopyRow
namespace Go.Proofs.Ytmmejomalfjcnaa
open Go.RowKit
set_option linter.unusedVariables false
set_option linter.unusedSimpArgs false
namespace Sx
variable {P : Program} {T : Tab} {W : World} {F : Nat → Prop} {nt : Nat} {ρ ρ' : Num} {s : SS} {a : Act} {w : World}


theorem CellsOK.congr {n : Nat} (h : ∀ i, i < n → ρ' i = ρ i) : ∀ {l : List SV} {vs : List Value}, okdL W F n l → CellsOK ρ l vs → CellsOK ρ' l vs
  | [], vs, _, hc => hc
  | c :: l, vs, ho, hc => by
    cases hs : single c with
    | true =>
      obtain ⟨t, rfl, h2⟩ := hc.one hs
      rw [← den_congr h ho.1]
      exact .mk_one hs (h2.congr h ho.2)
    | false =>
      cases c <;> simp [single] at hs
      · obtain ⟨v, t, rfl, h2⟩ := hc
        exact ⟨v, t, rfl, h2.congr h ho.2⟩
      · obtain ⟨t, rfl, h2⟩ := hc
        exact ⟨t, rfl, h2.congr h ho.2⟩

/-- The blocks' numbers with one more. -/
def ext (ρ : Num) (n : Nat) (b : Nat × Nat) : Num := fun i => if i = n then b else ρ i
theorem ext_old (ρ : Num) (n : Nat) (b : Nat × Nat) : ∀ i, i < n → ext ρ n b i = ρ i := fun i h => by simp [ext]; omega
theorem ext_new (ρ : Num) (n : Nat) (b : Nat × Nat) : ext ρ n b n = b := by simp [ext]

theorem get_push {rows : List (Option Row)} {r r' : Row} {i : Nat} (h : (rows ++ [some r])[i]? = some (some r')) : (rows[i]? = some (some r') ∧ i < rows.length) ∨ (i = rows.length ∧ r = r') := by
  by_cases hi : i < rows.length
  · rw [List.getElem?_append_left hi] at h; exact .inl ⟨h, hi⟩
  · rw [List.getElem?_append_right (by omega)] at h
    by_cases h0 : i - rows.length = 0
    · rw [h0] at h; simp at h; exact .inr ⟨by omega, h⟩
    · rw [List.getElem?_eq_none (by simp; omega)] at h; cases h

/-- A row that has cells of its own now. -/
theorem RowOK.new {r : Row} {i : Nat} (c : Array Value) (l rest : List Value) (hh : Has ρ i r) (hb : w.heap[(ρ i).1]? = some (.cells c r.ty (0, 0))) (hl : c.toList = l ++ rest) (hc : CellsOK ρ r.cs l) (h0 : r.sz = 0 → rest = []) (h1 : r.sz ≠ 0 → c.size = (ρ i).2 * r.sz) : RowOK ρ w i r :=
  .inl ⟨hh, c, l, rest, hb, hl, hc, h0, h1⟩
theorem RowOK.plain {r : Row} {i : Nat} (c : Array Value) (hz : r.sz = 0) (hb : w.heap[(ρ i).1]? = some (.cells c r.ty (0, 0))) (hc : CellsOK ρ r.cs c.toList) : RowOK ρ w i r :=
  .inl ⟨.inl hz, c, c.toList, [], hb, by simp, hc, fun _ => rfl, fun h => absurd hz h⟩

theorem get_set {rows : List (Option Row)} {r r' : Row} {b i : Nat} (h : (rows.set b (some r))[i]? = some (some r')) : (i = b ∧ r = r') ∨ (i ≠ b ∧ rows[i]? = some (some r')) := by
  by_cases hib : i = b
  · subst hib
    by_cases hl : i < rows.length
    · rw [List.getElem?_set_self hl] at h; cases h; exact .inl ⟨rfl, rfl⟩
    · rw [List.getElem?_eq_none (by simp; omega)] at h; cases h
  · rw [List.getElem?_set_ne (by omega)] at h; exact .inr ⟨hib, h⟩
/-- A row written. -/
theorem MemOK.set {rows : List (Option Row)} (hm : MemOK W F ρ rows w) {b : Nat} {r : Row} (hr : rowOf rows b = some r) (hh : Has ρ b r) {cs : List SV} {c : Array Value} (hc : RowOK ρ (w.setRow (ρ b).1 c) b ⟨r.ty, cs, r.sz⟩) (ho : okdL W F rows.length cs) :
    MemOK W F ρ (rows.set b (some ⟨r.ty, cs, r.sz⟩)) (w.setRow (ρ b).1 c) := by
  have hb := rowOf_get hr
  have hmine := hm.mine b _ hb hh
  refine ⟨⟨hm.frame.os, hm.frame.tape, hm.frame.output, by simpa using hm.frame.size, fun k hk hf => ?_⟩, hm.glob, ?_, ?_, ?_⟩
  · rw [setRow_other, hm.frame.block k hk hf]
    rintro rfl
    rcases hmine with h | h
    · exact hf h
    · omega
  · intro i r' hi
    rcases get_set hi with ⟨rfl, rfl⟩ | ⟨hib, hi⟩
    · exact ⟨hc, by simpa using ho⟩
    · obtain ⟨h1, h2⟩ := hm.row i r' hi
      refine ⟨h1.map rfl rfl rfl (fun hh2 => ?_) (fun _ h => h), by simpa using h2⟩
      rw [setRow_other _ _ _ _ (fun h => hib (hm.inj i b _ _ hi hb hh2 hh h))]
  · intro i j r1 r2 hi hj h1 h2 he
    have live : ∀ (i : Nat) (r1 : Row), (rows.set b (some ⟨r.ty, cs, r.sz⟩))[i]? = some (some r1) → Has ρ i r1 → ∃ q, rows[i]? = some (some q) ∧ Has ρ i q := by
      intro i r1 hi h1
      rcases get_set hi with ⟨rfl, rfl⟩ | ⟨hib, hi⟩
      · exact ⟨_, hb, hh⟩
      · exact ⟨_, hi, h1⟩
    obtain ⟨q1, g1, g2⟩ := live i r1 hi h1
    obtain ⟨q2, g3, g4⟩ := live j r2 hj h2
    exact hm.inj i j _ _ g1 g3 g2 g4 he
  · intro i r' hi h1
    rcases get_set hi with ⟨rfl, rfl⟩ | ⟨hib, hi⟩
    · exact hm.mine i _ hb hh
    · exact hm.mine i _ hi h1

/-- Nothing that was there has changed. -/
theorem MemOK.step {rows : List (Option Row)} (hm : MemOK W F ρ rows w) {w' : World} (hf : Frm (fun _ => False) w w') : MemOK W F ρ rows w' := by
  refine ⟨⟨hf.os.trans hm.frame.os, hf.tape.trans hm.frame.tape, hf.output.trans hm.frame.output, Nat.le_trans hm.frame.size hf.size, fun b hb hn => ?_⟩, hm.glob, fun i r hi => ?_, hm.inj, hm.mine⟩
  · rw [hf.block b (Nat.lt_of_lt_of_le hb hm.frame.size) id, hm.frame.block b hb hn]
  · obtain ⟨h1, h2⟩ := hm.row i r hi
    exact ⟨h1.map rfl rfl rfl (fun hh => hf.block _ (hm.lt hi hh) id) (fun _ h => h), h2⟩

/-- A row's cells, of which some are written. -/
theorem MemOK.write {rows : List (Option Row)} (hm : MemOK W F ρ rows w) {b : Nat} {r : Row} (hr : rowOf rows b = some r) {c : Array Value} {l rest : List Value} (hh : Has ρ b r) (hc : w.heap[(ρ b).1]? = some (.cells c r.ty (0, 0))) (hl : c.toList = l ++ rest) (h0 : r.sz = 0 → rest = []) (h1 : r.sz ≠ 0 → c.size = (ρ b).2 * r.sz)
    {cs : List SV} {l' : List Value} (hn : l'.length = l.length) (hcs : CellsOK ρ cs l') (ho : okdL W F rows.length cs) : MemOK W F ρ (rows.set b (some ⟨r.ty, cs, r.sz⟩)) (w.setRow (ρ b).1 (l' ++ rest).toArray) := by
  refine hm.set hr hh (.inl ⟨hh, (l' ++ rest).toArray, l', rest, setRow_heap _ _ _ _ _ _ hc, by simp, hcs, h0, fun hz => ?_⟩) ho
  have : c.size = l.length + rest.length := by rw [← Array.length_toList, hl, List.length_append]
  have := h1 hz
  simp [hn]; omega

theorem overC_cells {l new l' : List SV} {o m : Nat} {vs : List Value} (h : overC l o m new = some l') (hc : CellsOK ρ l vs) (hw : widthL new = m) :
    CellsOK ρ l' (vs.take o ++ cellsL ρ new ++ vs.drop (o + m)) ∧ o + m ≤ vs.length := by
  unfold overC at h
  split at h
  · rename_i x y h1 h2
    cases h
    obtain ⟨t1, t2⟩ := takeC_ok hc h1
    obtain ⟨d1, d2⟩ := dropC_ok hc h2
    exact ⟨(t1.append (CellsOK.of_cellsL ρ new)).append d1, d2⟩
  · cases h

theorem setE_ok : ∀ {l : List SV} {o : Nat} {e : Int} {k : IntKind} {v : Int} {ps : List Prop} {l' : List SV} {vs : List Value} {n : Nat} {z : IntKind × Nat × List Int}, setE l o e k v = some (ps, l') → intsAt l o = some z → 0 ≤ e → e < z.2.1 → All ps → CellsOK ρ l vs → okdL W F n l →
    CellsOK ρ l' (vs.set (o + e.toNat) (.int k v)) ∧ o + e.toNat < vs.length ∧ okdL W F n l'
  | [], o, e, k, v, ps, l', vs, n, z, h, hz, h0, h1, hp, hc, ho => by simp [setE] at h
  | c :: r, o, e, k, v, ps, l', vs, n, z, h, hz, h0, h1, hp, hc, ho => by
    by_cases hi : ∃ k n xs, c = .ints k n xs
    · obtain ⟨k0, n0, xs, rfl⟩ := hi
      obtain ⟨t, rfl, h2⟩ := hc
      simp only [setE] at h
      simp only [intsAt] at hz
      rcases beq_some h with ⟨eo, hx⟩ | ⟨eo, hx⟩ <;> clear h
      · subst eo
        simp at hz
        subst hz
        rcases cond_some hx with ⟨e2, hy⟩ | ⟨e2, hy⟩ <;> clear hx
        · cases hy
          have e2 : k0 = k := by simpa using e2
          subst e2
          have hl : xs.length = n0 := hp _ (by simp)
          have hlt : e.toNat < n0 := by simp at h1; omega
          refine ⟨⟨t, ?_, h2⟩, by simp [intCells_length]; omega, ⟨trivial, ho.2⟩⟩
          rw [intCells_set hl hlt, Nat.zero_add, List.set_append_left _ _ (by simp [intCells_length]; exact hlt)]
        · cases hy
      · rcases beq_some hz with ⟨eo2, hz2⟩ | ⟨eo2, hz2⟩ <;> clear hz
        · exact absurd eo2 eo
        · rcases ble_some hx with ⟨e2, hy⟩ | ⟨e2, hy⟩ <;> clear hx
          · rcases ble_some hz2 with ⟨e3, hz3⟩ | ⟨e3, hz3⟩ <;> clear hz2
            · simp only [Option.map_eq_some_iff] at hy
              obtain ⟨⟨p2, l2⟩, hx, hy⟩ := hy
              cases hy
              obtain ⟨i1, i2, i3⟩ := setE_ok hx hz3 h0 h1 hp h2 ho.2
              refine ⟨⟨_, ?_, i1⟩, by simp [intCells_length]; omega, ⟨trivial, i3⟩⟩
              rw [List.set_append_right _ _ (by simp [intCells_length]; omega), intCells_length]
              congr 2
              omega
            · omega
          · cases hy
    · have e1 : setE (c :: r) o e k v = bif Nat.beq o 0 then none else (setE r (o - 1) e k v).map fun (p, l) => (p, c :: l) := by cases c <;> first | rfl | exact absurd ⟨_, _, _, rfl⟩ hi
      have e2 : intsAt (c :: r) o = bif Nat.beq o 0 then none else intsAt r (o - 1) := by cases c <;> first | rfl | exact absurd ⟨_, _, _, rfl⟩ hi
      rw [e1] at h
      rw [e2] at hz
      rcases beq_some h with ⟨eo, hx⟩ | ⟨eo, hx⟩ <;> clear h
      · cases hx
      · rcases beq_some hz with ⟨eo2, hz2⟩ | ⟨eo2, hz2⟩ <;> clear hz
        · exact absurd eo2 eo
        · simp only [Option.map_eq_some_iff] at hx
          obtain ⟨⟨p2, l2⟩, hx, hy⟩ := hx
          cases hy
          obtain ⟨m, rfl⟩ : ∃ m, o = m + 1 := ⟨o - 1, by omega⟩
          simp only [Nat.add_sub_cancel] at hx hz2
          rw [show m + 1 + e.toNat = (m + e.toNat) + 1 by omega]
          cases hs : single c with
          | true =>
            obtain ⟨t, rfl, h2⟩ := hc.one hs
            obtain ⟨i1, i2, i3⟩ := setE_ok hx hz2 h0 h1 hp h2 ho.2
            exact ⟨by simpa using CellsOK.mk_one hs i1, by simp; omega, ho.1, i3⟩
          | false =>
            cases c <;> simp [single] at hs
            · obtain ⟨u, t, rfl, h2⟩ := hc
              obtain ⟨i1, i2, i3⟩ := setE_ok hx hz2 h0 h1 hp h2 ho.2
              exact ⟨⟨u, _, by simp, i1⟩, by simp; omega, ho.1, i3⟩
            · exact absurd ⟨_, _, _, rfl⟩ hi

theorem run_storeVar_of {t : TypeId} {i : TyI} (hi : TyOK P t i) {b o : Nat} {c : Array Value} {ty : TypeId} (hc : w.heap[b]? = some (.cells c ty (0, 0))) {v : Value} {vs : List Value} (hv : v.cells.toList = vs) (hn : vs.length = i.size) (hl : o + vs.length ≤ c.size) (h1 : ∀ x ∈ vs, x.oneCell' = true) :
    (storeVar t ⟨b, o, none⟩ v).run P w = .ok () (w.setRow b (c.toList.take o ++ vs ++ c.toList.drop (o + vs.length)).toArray) := by
  have hs := hi.run_size w
  have := run_storeCells_at P b o ty vs 0 c w hc (by simpa using hl) h1
  have hsz : v.cells.size = i.size := by rw [← hn, ← hv]; simp
  simp only [Nat.add_zero] at this
  simp [storeVar, hs, hsz, hv, this]

theorem storeS_ok (hT : TabOK P T) {rows : List (Option Row)} (hm : MemOK W F ρ rows w) {t : TypeId} {x v : SV} {ps : List Prop} {b : Nat} {r' : Row} (h : storeS T rows t x v = some (ps, b, r')) (hp : All ps) (ov : okd W F rows.length v) :
    ∃ w', (Instr.storeAt t (den ρ x) (den ρ v)).run P w = .ok () w' ∧ MemOK W F ρ (rows.set b (some r')) w' := by
  simp only [storeS, Option.bind_eq_some_iff] at h
  obtain ⟨i, hi, h⟩ := h
  have ty := hT t i hi
  -- a row of which something is written
  have core : ∀ (b off : Nat) (r : Row) (cs : List SV) (new : List Value) (g : List Value → List Value), rowOf rows b = some r → (den ρ v).cells.toList = new → new.length = i.size → 0 < new.length → (∀ y ∈ new, y.oneCell' = true) →
      (∀ l, CellsOK ρ r.cs l → CellsOK ρ cs (l.take off ++ new ++ l.drop (off + new.length)) ∧ off + new.length ≤ l.length) → okdL W F rows.length cs →
      ∃ w', (Instr.storeAt t (.pointer (some ⟨(ρ b).1, off, none⟩)) (den ρ v)).run P w = .ok () w' ∧ MemOK W F ρ (rows.set b (some ⟨r.ty, cs, r.sz⟩)) w' := by
    intro b off r cs new g hr hv hn hpos h1 hcs ho
    rcases rowOf_block hm hr with ⟨hh, c, l, rest, g1, g2, g3, g4, g5⟩ | ⟨_, g1⟩
    · obtain ⟨e1, e2⟩ := hcs l g3
      have hsz : c.size = l.length + rest.length := by rw [← Array.length_toList, g2, List.length_append]
      have hst := run_storeVar_of (w := w) ty g1 (o := off) (v := den ρ v) (vs := new) hv hn (by omega) h1
      refine ⟨_, by simp only [Instr.storeAt, Instr.sureAddr]; simpa using hst, ?_⟩
      have e3 : c.toList.take off ++ new ++ c.toList.drop (off + new.length) = (l.take off ++ new ++ l.drop (off + new.length)) ++ rest := by
        rw [g2, List.take_append_of_le_length (by omega), List.drop_append_of_le_length e2]
        simp [List.append_assoc]
      rw [← List.append_assoc, e3]
      exact hm.write hr hh g1 g2 g4 g5 (by simp; omega) e1 ho
    · have := (hcs [] g1).2
      have h5 : off + new.length ≤ 0 := this
      omega
  split at h
  · rename_i b off
    simp only [Option.bind_eq_some_iff] at h
    obtain ⟨r, hr, new, hv, h⟩ := h
    obtain ⟨v1, v2, v3⟩ := valueCells_ok (ρ := ρ) hv ov
    have h1 := cellsB_one (ρ := ρ) v3 v2
    obtain ⟨_, _, g3, _⟩ := rowOf_ok hm hr
    rcases cond_some h with ⟨e0, hx⟩ | ⟨e0, hx⟩ <;> clear h
    · simp only [Bool.and_eq_true] at e0
      have e := Nat.eq_of_beq_eq_true e0.1
      have epos : 0 < i.size := Nat.le_of_ble_eq_true e0.2
      have hn : (cellsL ρ new).length = i.size := by rw [widthL_cells, e]
      split at hx
      · rename_i cs hcs
        cases hx
        refine core b off r cs (cellsL ρ new) id hr v1 hn (by omega) h1 (fun l hl => ?_) (overC_okd hcs g3 v2)
        obtain ⟨o1, o2⟩ := overC_cells hcs hl e
        rw [hn]; exact ⟨o1, o2⟩
      · rcases cond_some hx with ⟨ea, hy⟩ | ⟨ea, hy⟩ <;> clear hx
        · cases hy
        · simp only [Option.bind_eq_some_iff, Option.map_eq_some_iff] at hy
          obtain ⟨⟨k, n, cl⟩, hq, ⟨p2, l2⟩, hs, hy⟩ := hy
          cases hy
          have hd := asI_ok hq ρ
          have hnew : cellsL ρ new = [.int k n] := by rw [← v1, hd]; rfl
          obtain ⟨l0, hl0, _⟩ := rowOf_ok hm hr
          refine core b off r l2 [.int k n] id hr (by rw [v1, hnew]) (by rw [← hn, hnew]) (by simp) (by simp [Value.oneCell']) (fun l hl => ?_) (setIn_ok hs hp hl0 g3).2.2
          obtain ⟨s1, s2, s3⟩ := setIn_ok hs hp hl g3
          rw [set_eq_take_drop _ _ _ s2] at s1
          exact ⟨by simpa using s1, by simp; omega⟩
    · cases hx
  · rename_i b off e
    rcases cond_some h with ⟨ea, hx⟩ | ⟨ea, hx⟩ <;> clear h
    · cases hx
    · rcases beq_some hx with ⟨es, hy⟩ | ⟨es, hy⟩ <;> clear hx
      · simp only [Option.bind_eq_some_iff, Option.map_eq_some_iff] at hy
        obtain ⟨r, hr, z, hz, ⟨k, n, cl⟩, hq, ⟨p2, l2⟩, hs, hy⟩ := hy
        cases hy
        obtain ⟨l0, hl0, g3, _⟩ := rowOf_ok hm hr
        have e0 : 0 ≤ e := hp _ (by simp)
        have e1 : e < z.2.1 := hp (e < z.2.1) (by simp)
        have hd := asI_ok hq ρ
        have hp2 : All p2 := fun p hq => hp p (by simp [hq])
        refine core b (off + e.toNat) r l2 [.int k n] id hr (by rw [hd]; rfl) (by simp [es]) (by simp) (by simp [Value.oneCell']) (fun l hl => ?_) (setE_ok hs hz e0 e1 hp2 hl0 g3).2.2
        obtain ⟨s1, s2, s3⟩ := setE_ok hs hz e0 e1 hp2 hl g3
        rw [set_eq_take_drop _ _ _ s2] at s1
        exact ⟨by simpa using s1, by simp; omega⟩
      · cases hy
  · cases h
end Sx
end Go.Proofs.Ytmmejomalfjcnaa
