/- The operations that leave the memory alone do what the executor says: loads, addresses, conversions. No condition. -/
import Derived.Test.YtmmejomalfjcnaaSxPure3
import Derived.Laws.Cells
namespace Go.Proofs.Ytmmejomalfjcnaa
open Go.RowKit
set_option linter.unusedVariables false
set_option linter.unusedSimpArgs false
namespace Sx
variable {P : Program} {T : Tab} {W : World} {F : Nat → Prop} {nt : Nat} {ρ : Nat → Nat} {s : SS} {a : Act} {w : World}

theorem un_ok {op : UnOp} {x : SV} {ps : List Prop} {v : SV} {m : Nat} (h : un op x = some (ps, v)) (hp : All ps) : ∃ u, (Op.unary op (den ρ x)).run P w = .ok u w ∧ Good W F ρ m v u := by
  cases op <;> simp only [un, Option.map_eq_some_iff, reduceCtorEq] at h
  · obtain ⟨⟨k, n, c⟩, h1, h2⟩ := h
    rw [asI_ok h1 ρ]
    exact ⟨.int k (k.wrap (0 - n)), by simp [Op.unary, Op.intArith], arith_ok' h2 hp⟩
  · obtain ⟨⟨k, n, c⟩, h1, h2⟩ := h
    simp at h2; obtain ⟨rfl, rfl⟩ := h2
    rw [asI_ok h1 ρ]
    exact ⟨_, rfl, by rw [mkI_den]; rfl, mkI_okd .., mkI_top _ _ _⟩
  · obtain ⟨⟨b, c⟩, h1, h2⟩ := h
    simp at h2; obtain ⟨rfl, rfl⟩ := h2
    rw [asB_ok h1 ρ]
    exact ⟨.bool !b, rfl, by rw [mkB_den], mkB_okd .., mkB_top _ _⟩

theorem wider_wrap {k k' : IntKind} {n : Int} (h : wider k k' = true) (hn : InK k n) : k'.wrap n = n := by
  apply wrap_in
  cases k <;> cases k' <;> first | (simp [wider] at h; done) | (simp only [InK] at hn ⊢; omega)

theorem intD_ok {t : TypeId} {i : TyI} (h : TyOK P t i) {k : IntKind} (hk : intD i = some k) : P.underlying t = some (.int k) := by
  obtain ⟨d, hu, _, hd⟩ := h.desc
  unfold intD at hk
  split at hk <;> simp at hk
  rename_i e
  rw [e] at hd
  cases d <;> simp [DescOK] at hd
  rw [hu, hd, hk]
theorem arrD_ok {t : TypeId} {i : TyI} (h : TyOK P t i) {q : Nat × TypeId} (hk : arrD i = some q) : P.underlying t = some (.array q.1 q.2) ∧ i.agg = true := by
  obtain ⟨d, hu, ha, hd⟩ := h.desc
  unfold arrD at hk
  split at hk <;> simp at hk
  rename_i e
  rw [e] at hd
  cases d <;> simp [DescOK] at hd
  subst hk
  exact ⟨by rw [hu, hd.1, hd.2], by rw [← ha]; rfl⟩
theorem slD_ok {t : TypeId} {i : TyI} (h : TyOK P t i) {e : TypeId} (hk : slD i = some e) : P.underlying t = some (.slice e) := by
  obtain ⟨d, hu, _, hd⟩ := h.desc
  unfold slD at hk
  split at hk <;> simp at hk
  rename_i e
  rw [e] at hd
  cases d <;> simp [DescOK] at hd
  rw [hu, hd, hk]
theorem stD_ok {t : TypeId} {i : TyI} (h : TyOK P t i) {l : List (Nat × TypeId)} (hk : stD i = some l) : ∃ fs : Array Field, P.underlying t = some (.struct fs) ∧ fs.toList.map (fun f => (f.offset, f.type)) = l := by
  obtain ⟨d, hu, _, hd⟩ := h.desc
  unfold stD at hk
  split at hk <;> simp at hk
  rename_i e
  rw [e] at hd
  cases d <;> simp [DescOK] at hd
  exact ⟨_, hu, by rw [hd, hk]⟩
theorem isStrD_ok {t : TypeId} {i : TyI} (h : TyOK P t i) (hk : isStrD i = true) : P.underlying t = some .string := by
  obtain ⟨d, hu, _, hd⟩ := h.desc
  unfold isStrD at hk
  split at hk <;> simp at hk
  rename_i e
  rw [e] at hd
  cases d <;> simp [DescOK] at hd
  exact hu

theorem conv_ok (hT : TabOK P T) {src dst : TypeId} {x : SV} {ps : List Prop} {v : SV} {m : Nat} (h : conv T dst x = some (ps, v)) (hp : All ps) (hsrc : (T.at src).isSome = true) :
    ∃ u, (convert src dst (den ρ x)).run P w = .ok u w ∧ Good W F ρ m v u := by
  simp only [conv, Option.bind_eq_some_iff] at h
  obtain ⟨i, hi, k', hk, ⟨k, n, c⟩, hx, h⟩ := h
  have hu := intD_ok (hT dst i hi) hk
  obtain ⟨j, hs⟩ := Option.isSome_iff_exists.1 hsrc
  obtain ⟨sd, hsu, _, _⟩ := (hT src j hs).desc
  rw [asI_ok hx ρ]
  refine ⟨.int k' (k'.wrap n), by simp [convert, run_underlying hsu, run_underlying hu, Conv.intToInt], ?_⟩
  cases c with
  | true => simp at h; obtain ⟨rfl, rfl⟩ := h; exact ⟨rfl, trivial, fun h => by cases h⟩
  | false =>
    simp at h
    cases hw : wider k k' with
    | true =>
      simp [hw] at h; obtain ⟨rfl, rfl⟩ := h
      have := wider_wrap hw (hp (InK k n) (by simp))
      exact ⟨by simp [den, this], trivial, fun h => by cases h⟩
    | false => simp [hw] at h; obtain ⟨rfl, rfl⟩ := h; exact ⟨rfl, trivial, fun h => by cases h⟩

/-- The cells of a row. -/
theorem rowOf_ok {rows : List (Option Row)} {b : Nat} {r : Row} (hm : MemOK W F ρ rows w) (h : rowOf rows b = some r) :
    ∃ c : Array Value, w.heap[ρ b]? = some (.cells c r.ty (0, 0)) ∧ CellsOK ρ r.cs c.toList ∧ okdL W F rows.length r.cs ∧ (∀ o, w.cell? ⟨ρ b, o, none⟩ = c.toList[o]?) ∧ (∀ o, w.frozen? ⟨ρ b, o, none⟩ = false) ∧ b < rows.length := by
  unfold rowOf at h
  split at h
  · rename_i hr
    cases h
    obtain ⟨c, h1, h2, h3⟩ := hm.row b _ hr
    exact ⟨c, h1, h2, h3, fun o => by simp [World.cell?, h1], fun o => by simp [World.frozen?, h1], (List.getElem?_eq_some_iff.1 hr).1⟩
  · cases h

theorem addr_add (b o j : Nat) : (⟨b, o, none⟩ : Addr).add j = ⟨b, o + j, none⟩ := by unfold Addr.add; split <;> simp_all

theorem run_loadVar_of {t : TypeId} {i : TyI} (hi : TyOK P t i) (b o : Nat) (vs : List Value) (hc : ∀ j, j < i.size ∨ i.agg = false → w.cell? ⟨b, o + j, none⟩ = vs[o + j]?) (hl : i.agg = true → o + i.size ≤ vs.length) (u : Value)
    (hu : if i.agg then u = .agg ((vs.drop o).take i.size).toArray else vs[o]? = some u) : (loadVar t ⟨b, o, none⟩).run P w = .ok u w := by
  have ha := hi.run_agg w
  have hs := hi.run_size w
  cases hag : i.agg with
  | true =>
    rw [hag] at ha
    simp [hag] at hu hl
    have h1 := run_loadCells_list (P := P) w ⟨b, o, none⟩ ((vs.drop o).take i.size) (fun j v hv => by
      rw [addr_add]
      rw [List.getElem?_take] at hv
      split at hv
      · rw [hc j (.inl (by assumption))]; simpa using hv
      · cases hv)
    have h2 : ((vs.drop o).take i.size).length = i.size := by simp; omega
    rw [h2] at h1
    simp [loadVar, ha, hs, h1, hu]
  | false =>
    rw [hag] at ha
    simp [hag] at hu
    have := hc 0 (.inr hag)
    simp only [Nat.add_zero] at this
    simp [loadVar, ha, this, hu]

theorem run_loadVar_cell {t : TypeId} {i : TyI} (hi : TyOK P t i) (ha : i.agg = false) {b o : Nat} {u : Value} (hc : w.cell? ⟨b, o, none⟩ = some u) : (loadVar t ⟨b, o, none⟩).run P w = .ok u w := by
  have h := hi.run_agg w
  rw [ha] at h
  simp [loadVar, h, hc]

theorem partC_ok {i : TyI} {l : List SV} {off : Nat} {v : SV} {vs : List Value} {m : Nat} (h : partC i l off = some v) (hc : CellsOK ρ l vs) (ho : okdL W F m l) :
    (if i.agg then den ρ v = .agg ((vs.drop off).take i.size).toArray else vs[off]? = some (den ρ v)) ∧ (i.agg = true → off + i.size ≤ vs.length) ∧ okd W F m v ∧ v ≠ .top := by
  unfold partC at h
  rcases cond_some h with ⟨e, h⟩ | ⟨e, h⟩
  · simp only [Option.bind_eq_some_iff] at h
    obtain ⟨c, ⟨r, h1, h2⟩, h3⟩ := h
    rcases cond_some h3 with ⟨e3, h3⟩ | ⟨e3, h3⟩
    · cases h3
      obtain ⟨d1, d2⟩ := dropC_ok hc h1
      obtain ⟨t1, t2⟩ := takeC_ok d1 h2
      have := t1.noTop e3
      refine ⟨by simp [e, den, this], fun _ => by simp at t2; omega, okdL_takeC (okdL_dropC ho h1) h2, fun h => by cases h⟩
    · cases h3
  · have hne : v ≠ .top := by rintro rfl; split at h <;> simp_all
    have h' : cellAt l off = some v := by
      cases hx : cellAt l off with
      | none => simp [hx] at h
      | some u => cases u <;> simp [hx] at h <;> simp [h]
    rcases cellAt_ok hc h' with h2 | h2
    · exact absurd h2 hne
    · exact ⟨by simp [e, h2], (fun h => by rw [e] at h; cases h), okdL_cellAt ho h', hne⟩

theorem intsAt_ok : ∀ {l : List SV} {o : Nat} {q : IntKind × Nat × List Int} {vs : List Value}, intsAt l o = some q → CellsOK ρ l vs → ∀ j, j < q.2.1 → vs[o + j]? = some (.int q.1 (q.2.2.getD j 0))
  | [], o, q, vs, h, hc, j, hj => by simp [intsAt] at h
  | c :: r, o, q, vs, h, hc, j, hj => by
    by_cases hi : ∃ k n xs, c = .ints k n xs
    · obtain ⟨k, n, xs, rfl⟩ := hi
      obtain ⟨t, rfl, h2⟩ := hc
      simp only [intsAt] at h
      rcases beq_some h with ⟨e, h⟩ | ⟨e, h⟩
      · cases h; subst e
        rw [List.getElem?_append_left (by simp [intCells_length]; omega)]
        simpa using intCells_get k n xs j hj
      · rcases ble_some h with ⟨e2, h⟩ | ⟨e2, h⟩
        · have := intsAt_ok h h2 j hj
          rw [List.getElem?_append_right (by simp [intCells_length]; omega), intCells_length, show o + j - n = o - n + j by omega]
          exact this
        · cases h
    · have e1 : intsAt (c :: r) o = bif Nat.beq o 0 then none else intsAt r (o - 1) := by cases c <;> first | rfl | exact absurd ⟨_, _, _, rfl⟩ hi
      rw [e1] at h
      rcases beq_some h with ⟨e, h⟩ | ⟨e, h⟩
      · cases h
      · have : ∃ v t, vs = v :: t ∧ CellsOK ρ r t := by
          cases hs : single c with
          | true => obtain ⟨t, e, h2⟩ := hc.one hs; exact ⟨_, t, e, h2⟩
          | false =>
            cases c <;> simp [single] at hs
            · exact hc
            · exact absurd ⟨_, _, _, rfl⟩ hi
        obtain ⟨v, t, rfl, h2⟩ := this
        have := intsAt_ok h h2 j hj
        rw [show o + j = (o - 1 + j) + 1 by omega]
        simpa using this

/-- Reading what nobody writes. -/
theorem Reads.cell {k : IntKind} {v : Value} {xs : List Int} {rows : List (Option Row)} (h : Reads W F k v xs) (hm : MemOK W F ρ rows w) {j : Nat} (hj : j < xs.length) :
    ∃ b off cap, v = .slice (some ⟨b, off, none⟩) xs.length cap ∧ ∀ i, i < xs.length → w.cell? ⟨b, off + i, none⟩ = some (.int k (xs.getD i 0)) := by
  rcases h with ⟨a, cap, rfl, rfl, _⟩ | ⟨b, off, cap, rfl, h1, h2, h3⟩
  · simp at hj
  · refine ⟨b, off, cap, rfl, fun i hi => ?_⟩
    rw [← h3 i hi]
    exact World.cell?_of_block (w := W) (hm.frame.block b h1 h2)

theorem loadS_ok (hT : TabOK P T) {rows : List (Option Row)} (hm : MemOK W F ρ rows w) {t : TypeId} {x v : SV} {ps : List Prop} (h : loadS T rows t x = some (ps, v)) (hp : All ps) (ox : okd W F rows.length x) :
    ∃ u, (Instr.loadAt t (den ρ x)).run P w = .ok u w ∧ Good W F ρ rows.length v u := by
  simp only [loadS, Option.bind_eq_some_iff] at h
  obtain ⟨i, hi, h⟩ := h
  have ty := hT t i hi
  split at h
  · rename_i b off
    simp only [Option.bind_eq_some_iff, Option.map_eq_some_iff] at h
    obtain ⟨r, hr, v', hv, h⟩ := h
    cases h
    obtain ⟨c, h1, h2, h3, h4, _, _⟩ := rowOf_ok hm hr
    obtain ⟨p1, p2, p3, p4⟩ := partC_ok hv h2 h3
    refine ⟨den ρ v, ?_, rfl, p3, p4⟩
    have := run_loadVar_of (w := w) ty (ρ b) off c.toList (fun j _ => h4 _) p2 (den ρ v) p1
    simp [Instr.loadAt, Instr.sureAddr, den, this]
  · rename_i b off e
    rcases cond_some h with ⟨ea, h⟩ | ⟨ea, h⟩
    · cases h
    · simp only [Option.bind_eq_some_iff, Option.map_eq_some_iff] at h
      obtain ⟨r, hr, q, hq, h⟩ := h
      cases h
      obtain ⟨c, h1, h2, h3, h4, _, _⟩ := rowOf_ok hm hr
      have e0 : 0 ≤ e := hp _ (by simp)
      have e1 : e < q.2.1 := hp _ (by simp)
      have hc := intsAt_ok hq h2 e.toNat (by omega)
      refine ⟨_, ?_, rfl, trivial, fun h => by cases h⟩
      have := run_loadVar_of (w := w) ty (ρ b) (off + e.toNat) c.toList (fun j _ => h4 _) (fun h => by rw [ea] at h; cases h) (.int q.1 (q.2.2.getD e.toNat 0)) (by simp [ea]; simpa using hc)
      simp only [Instr.loadAt, Instr.sureAddr, den]
      simpa using this
  · rename_i k sv xs e
    obtain ⟨ho, e0, e1⟩ := ox
    obtain ⟨b, off, cap, rfl, hc⟩ := ho.cell hm (j := e.toNat) (by omega)
    rcases cond_some h with ⟨ea, h⟩ | ⟨ea, h⟩
    · simp only [Option.bind_eq_some_iff] at h
      obtain ⟨q, hq, h⟩ := h
      rcases beq_some h with ⟨es, h⟩ | ⟨es, h⟩
      · cases h
        have el : e + q.1 ≤ xs.length := hp _ (by simp)
        refine ⟨_, ?_, rfl, ⟨trivial, trivial⟩, fun h => by cases h⟩
        let vs : List Value := List.replicate off (.int k 0) ++ xs.map (Value.int k)
        have hvs : ∀ i, i < xs.length → vs[off + i]? = some (.int k (xs.getD i 0)) := by
          intro i hi
          rw [List.getElem?_append_right (by simp)]
          simp [hi]
        have := run_loadVar_of (w := w) ty b (off + e.toNat) vs (fun j hj => by
          have : j < i.size := by rcases hj with h | h; exact h; rw [ea] at h; cases h
          rw [show off + e.toNat + j = off + (e.toNat + j) by omega, hc _ (by omega), hvs _ (by omega)]) (fun _ => by simp [vs]; omega)
          (den ρ (.agg [.ints k q.1 ((xs.drop e.toNat).take q.1)])) (by
            simp only [ea, if_true, den, cellsL, List.append_nil]
            congr 2
            apply List.ext_getElem?
            intro j
            by_cases hj : j < q.1
            · rw [intCells_get _ _ _ _ hj, List.getElem?_take_of_lt (by omega), List.getElem?_drop, show off + e.toNat + j = off + (e.toNat + j) by omega, hvs _ (by omega)]
              have h1 : j < ((xs.drop e.toNat).take q.1).length := by simp; omega
              have h2 : e.toNat + j < xs.length := by omega
              simp [List.getD, h2, hj]
            · rw [List.getElem?_eq_none (by simp [intCells_length]; omega), List.getElem?_eq_none (by simp [vs]; omega)])
        simp only [Instr.loadAt, Instr.sureAddr, den, elemAddr]
        simpa [den] using this
      · cases h
    · cases h
      refine ⟨_, ?_, rfl, trivial, fun h => by cases h⟩
      have := run_loadVar_cell (w := w) ty ea (hc e.toNat (by omega))
      simp only [Instr.loadAt, Instr.sureAddr, den, elemAddr]
      simpa using this
  · cases h
end Sx
end Go.Proofs.Ytmmejomalfjcnaa
