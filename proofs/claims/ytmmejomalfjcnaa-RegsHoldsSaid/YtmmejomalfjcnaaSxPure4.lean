/- The operations that leave the memory alone do what the executor says: loads, addresses, conversions. No condition. -/
import Derived.Test.YtmmejomalfjcnaaSxPure3
import Derived.Laws.Cells
namespace Go.Proofs.Ytmmejomalfjcnaa
open Go.RowKit
set_option linter.unusedVariables false
set_option linter.unusedSimpArgs false
namespace Sx
variable {P : Program} {T : Tab} {W : World} {F : Nat → Prop} {nt : Nat} {ρ ρ' : Num} {s : SS} {a : Act} {w : World}

theorem un_ok {op : UnOp} {x : SV} {ps : List Prop} {v : SV} {m : Nat} (h : un op x = some (ps, v)) (hp : All ps) : ∃ u, (Op.unary op (den ρ x)).run P w = .ok u w ∧ Good W F ρ m v u := by
  cases op <;> simp only [un, Option.map_eq_some_iff, reduceCtorEq] at h
  · obtain ⟨⟨k, n, c⟩, h1, h2⟩ := h
    rw [asI_ok h1 ρ]
    exact ⟨.int k (k.wrap (0 - n)), by simp [Op.unary, Op.intArith], arith_ok' h2 hp⟩
  · obtain ⟨⟨k, n, c⟩, h1, h2⟩ := h
    simp at h2; obtain ⟨rfl, rfl⟩ := h2
    rw [asI_ok h1 ρ]
    exact ⟨_, rfl, by rw [mkI_den]; rfl, mkI_okd .., mkI_top _ _ _⟩
  · obtain ⟨⟨b, c⟩, h1, h2⟩ := h
    simp at h2; obtain ⟨rfl, rfl⟩ := h2
    rw [asB_ok h1 ρ]
    exact ⟨.bool !b, rfl, by rw [mkB_den], mkB_okd .., mkB_top _ _⟩

theorem wider_wrap {k k' : IntKind} {n : Int} (h : wider k k' = true) (hn : InK k n) : k'.wrap n = n := by
  apply wrap_in
  cases k <;> cases k' <;> first | (simp [wider] at h; done) | (simp only [InK] at hn ⊢; omega)

theorem intD_ok {t : TypeId} {i : TyI} (h : TyOK P t i) {k : IntKind} (hk : intD i = some k) : P.underlying t = some (.int k) := by
  obtain ⟨d, hu, _, hd⟩ := h.desc
  unfold intD at hk
  split at hk <;> simp at hk
  rename_i e
  rw [e] at hd
  cases d <;> simp [DescOK] at hd
  rw [hu, hd, hk]
theorem arrD_ok {t : TypeId} {i : TyI} (h : TyOK P t i) {q : Nat × TypeId} (hk : arrD i = some q) : P.underlying t = some (.array q.1 q.2) ∧ i.agg = true := by
  obtain ⟨d, hu, ha, hd⟩ := h.desc
  unfold arrD at hk
  split at hk <;> simp at hk
  rename_i e
  rw [e] at hd
  cases d <;> simp [DescOK] at hd
  subst hk
  exact ⟨by rw [hu, hd.1, hd.2], by rw [← ha]; rfl⟩
theorem slD_ok {t : TypeId} {i : TyI} (h : TyOK P t i) {e : TypeId} (hk : slD i = some e) : P.underlying t = some (.slice e) := by
  obtain ⟨d, hu, _, hd⟩ := h.desc
  unfold slD at hk
  split at hk <;> simp at hk
  rename_i e
  rw [e] at hd
  cases d <;> simp [DescOK] at hd
  rw [hu, hd, hk]
theorem stD_ok {t : TypeId} {i : TyI} (h : TyOK P t i) {l : List (Nat × TypeId)} (hk : stD i = some l) : ∃ fs : Array Field, P.underlying t = some (.struct fs) ∧ fs.toList.map (fun f => (f.offset, f.type)) = l := by
  obtain ⟨d, hu, _, hd⟩ := h.desc
  unfold stD at hk
  split at hk <;> simp at hk
  rename_i e
  rw [e] at hd
  cases d <;> simp [DescOK] at hd
  exact ⟨_, hu, by rw [hd, hk]⟩
theorem isStrD_ok {t : TypeId} {i : TyI} (h : TyOK P t i) (hk : isStrD i = true) : P.underlying t = some .string := by
  obtain ⟨d, hu, _, hd⟩ := h.desc
  unfold isStrD at hk
  split at hk <;> simp at hk
  rename_i e
  rw [e] at hd
  cases d <;> simp [DescOK] at hd
  exact hu

theorem conv_ok (hT : TabOK P T) {src dst : TypeId} {x : SV} {ps : List Prop} {v : SV} {m : Nat} (h : conv T dst x = some (ps, v)) (hp : All ps) (hsrc : (T.at src).isSome = true) :
    ∃ u, (convert src dst (den ρ x)).run P w = .ok u w ∧ Good W F ρ m v u := by
  simp only [conv, Option.bind_eq_some_iff] at h
  obtain ⟨i, hi, k', hk, ⟨k, n, c⟩, hx, h⟩ := h
  have hu := intD_ok (hT dst i hi) hk
  obtain ⟨j, hs⟩ := Option.isSome_iff_exists.1 hsrc
  obtain ⟨sd, hsu, _, _⟩ := (hT src j hs).desc
  rw [asI_ok hx ρ]
  refine ⟨.int k' (k'.wrap n), by simp [convert, run_underlying hsu, run_underlying hu, Conv.intToInt], ?_⟩
  cases c with
  | true => simp at h; obtain ⟨rfl, rfl⟩ := h; exact ⟨rfl, trivial, fun h => by cases h⟩
  | false =>
    simp at h
    cases hw : wider k k' with
    | true =>
      simp [hw] at h; obtain ⟨rfl, rfl⟩ := h
      have := wider_wrap hw (hp (InK k n) (by simp))
      exact ⟨by simp [den, this], trivial, fun h => by cases h⟩
    | false => simp [hw] at h; obtain ⟨rfl, rfl⟩ := h; exact ⟨rfl, trivial, fun h => by cases h⟩

/-- The cells of a row. -/
theorem rowOf_get {rows : List (Option Row)} {b : Nat} {r : Row} (h : rowOf rows b = some r) : rows[b]? = some (some r) := by
  unfold rowOf at h
  split at h
  · rename_i hr; cases h; exact hr
  · cases h
theorem rowOf_ok {rows : List (Option Row)} {b : Nat} {r : Row} (hm : MemOK W F ρ rows w) (h : rowOf rows b = some r) :
    ∃ l : List Value, CellsOK ρ r.cs l ∧ okdL W F rows.length r.cs ∧ (∀ o, o < l.length → w.cell? ⟨(ρ b).1, o, none⟩ = l[o]?) ∧ b < rows.length := by
  have hr := rowOf_get h
  obtain ⟨h1, h2⟩ := hm.row b r hr
  have hlt := (List.getElem?_eq_some_iff.1 hr).1
  rcases h1 with ⟨_, c, l, rest, h3, h4, h5, _⟩ | ⟨_, h3⟩
  · refine ⟨l, h5, h2, fun o ho => ?_, hlt⟩
    have : c[o]? = c.toList[o]? := by simp
    simp only [World.cell?, h3]
    simp only [Option.isSome_none, Bool.false_eq_true, if_false]
    rw [this, h4, List.getElem?_append_left ho]
  · exact ⟨[], h3, h2, fun o ho => by simp at ho, hlt⟩
/-- The block of a row that holds a cell. -/
theorem rowOf_block {rows : List (Option Row)} {b : Nat} {r : Row} (hm : MemOK W F ρ rows w) (h : rowOf rows b = some r) :
    (Has ρ b r ∧ ∃ (c : Array Value) (l rest : List Value), w.heap[(ρ b).1]? = some (.cells c r.ty (0, 0)) ∧ c.toList = l ++ rest ∧ CellsOK ρ r.cs l ∧ (r.sz = 0 → rest = []) ∧ (r.sz ≠ 0 → c.size = (ρ b).2 * r.sz)) ∨ (¬ Has ρ b r ∧ CellsOK ρ r.cs []) :=
  (hm.row b r (rowOf_get h)).1

theorem addr_add (b o j : Nat) : (⟨b, o, none⟩ : Addr).add j = ⟨b, o + j, none⟩ := by unfold Addr.add; split <;> simp_all

theorem run_loadVar_of {t : TypeId} {i : TyI} (hi : TyOK P t i) (b o : Nat) (vs : List Value) (hc : ∀ j, o + j < vs.length → j < i.size ∨ i.agg = false → w.cell? ⟨b, o + j, none⟩ = vs[o + j]?) (hl : i.agg = true → o + i.size ≤ vs.length) (u : Value)
    (hu : if i.agg then u = .agg ((vs.drop o).take i.size).toArray else vs[o]? = some u) : (loadVar t ⟨b, o, none⟩).run P w = .ok u w := by
  have ha := hi.run_agg w
  have hs := hi.run_size w
  cases hag : i.agg with
  | true =>
    rw [hag] at ha
    simp [hag] at hu hl
    have h1 := run_loadCells_list (P := P) w ⟨b, o, none⟩ ((vs.drop o).take i.size) (fun j v hv => by
      rw [addr_add]
      rw [List.getElem?_take] at hv
      split at hv
      · rw [hc j (by omega) (.inl (by assumption))]; simpa using hv
      · cases hv)
    have h2 : ((vs.drop o).take i.size).length = i.size := by simp; omega
    rw [h2] at h1
    simp [loadVar, ha, hs, h1, hu]
  | false =>
    rw [hag] at ha
    simp [hag] at hu
    have := hc 0 (by simpa using (List.getElem?_eq_some_iff.1 hu).1) (.inr hag)
    simp only [Nat.add_zero] at this
    simp [loadVar, ha, this, hu]

theorem run_loadVar_cell {t : TypeId} {i : TyI} (hi : TyOK P t i) (ha : i.agg = false) {b o : Nat} {u : Value} (hc : w.cell? ⟨b, o, none⟩ = some u) : (loadVar t ⟨b, o, none⟩).run P w = .ok u w := by
  have h := hi.run_agg w
  rw [ha] at h
  simp [loadVar, h, hc]

theorem partC_ok {i : TyI} {l : List SV} {off : Nat} {v : SV} {vs : List Value} {m : Nat} (h : partC i l off = some v) (hc : CellsOK ρ l vs) (ho : okdL W F m l) :
    (if i.agg then den ρ v = .agg ((vs.drop off).take i.size).toArray else vs[off]? = some (den ρ v)) ∧ (i.agg = true → off + i.size ≤ vs.length) ∧ okd W F m v ∧ v ≠ .top := by
  unfold partC at h
  rcases cond_some h with ⟨e, h⟩ | ⟨e, h⟩
  · simp only [Option.bind_eq_some_iff] at h
    obtain ⟨c, ⟨r, h1, h2⟩, h3⟩ := h
    rcases cond_some h3 with ⟨e3, h3⟩ | ⟨e3, h3⟩
    · cases h3
      obtain ⟨d1, d2⟩ := dropC_ok hc h1
      obtain ⟨t1, t2⟩ := takeC_ok d1 h2
      have := t1.noTop e3
      refine ⟨by simp [e, den, this], fun _ => by simp at t2; omega, okdL_takeC (okdL_dropC ho h1) h2, fun h => by cases h⟩
    · cases h3
  · have hne : v ≠ .top := by rintro rfl; split at h <;> simp_all
    have h' : cellAt l off = some v := by
      cases hx : cellAt l off with
      | none => simp [hx] at h
      | some u => cases u <;> simp [hx] at h <;> simp [h]
    rcases cellAt_ok hc h' with h2 | h2
    · exact absurd h2 hne
    · exact ⟨by simp [e, h2], (fun h => by rw [e] at h; cases h), okdL_cellAt ho h', hne⟩

theorem intsAt_ok : ∀ {l : List SV} {o : Nat} {q : IntKind × Nat × List Int} {vs : List Value}, intsAt l o = some q → CellsOK ρ l vs → ∀ j, j < q.2.1 → vs[o + j]? = some (.int q.1 (q.2.2.getD j 0))
  | [], o, q, vs, h, hc, j, hj => by simp [intsAt] at h
  | c :: r, o, q, vs, h, hc, j, hj => by
    by_cases hi : ∃ k n xs, c = .ints k n xs
    · obtain ⟨k, n, xs, rfl⟩ := hi
      obtain ⟨t, rfl, h2⟩ := hc
      simp only [intsAt] at h
      rcases beq_some h with ⟨e, h⟩ | ⟨e, h⟩
      · cases h; subst e
        rw [List.getElem?_append_left (by simp [intCells_length]; omega)]
        simpa using intCells_get k n xs j hj
      · rcases ble_some h with ⟨e2, h⟩ | ⟨e2, h⟩
        · have := intsAt_ok h h2 j hj
          rw [List.getElem?_append_right (by simp [intCells_length]; omega), intCells_length, show o + j - n = o - n + j by omega]
          exact this
        · cases h
    · have e1 : intsAt (c :: r) o = bif Nat.beq o 0 then none else intsAt r (o - 1) := by cases c <;> first | rfl | exact absurd ⟨_, _, _, rfl⟩ hi
      rw [e1] at h
      rcases beq_some h with ⟨e, h⟩ | ⟨e, h⟩
      · cases h
      · have : ∃ v t, vs = v :: t ∧ CellsOK ρ r t := by
          cases hs : single c with
          | true => obtain ⟨t, e, h2⟩ := hc.one hs; exact ⟨_, t, e, h2⟩
          | false =>
            cases c <;> simp [single] at hs
            · exact hc
            · exact absurd ⟨_, _, _, rfl⟩ hi
        obtain ⟨v, t, rfl, h2⟩ := this
        have := intsAt_ok h h2 j hj
        rw [show o + j = (o - 1 + j) + 1 by omega]
        simpa using this

mutual
theorem okd_mono {n m : Nat} (h : n ≤ m) : ∀ {c : SV}, okd W F n c → okd W F m c
  | .ptr i _, hc => Nat.lt_of_lt_of_le hc h
  | .pte i _ _, hc => Nat.lt_of_lt_of_le hc h
  | .sl i _ _ _, hc => Nat.lt_of_lt_of_le hc h
  | .os i _ _ _, hc => Nat.lt_of_lt_of_le hc h
  | .on i _ _, hc => Nat.lt_of_lt_of_le hc h
  | .gpe _ _ _ _ _, hc => hc
  | .gp _ _, _ => trivial
  | .rd _ _ _, hc => hc
  | .rda _ _ _ _, hc => hc
  | .rs _ _ _ _, hc => hc
  | .rsa _ _ _ _ _ _, hc => hc
  | .agg cs, hc => okdL_mono h (l := cs) hc
  | .tup cs, hc => okdL_mono h (l := cs) hc
  | .fn _ x y, hc => ⟨okdL_mono h (l := x) hc.1, okdL_mono h (l := y) hc.2⟩
  | .top, _ | .lit _ _, _ | .int _ _, _ | .litb _, _ | .bool _, _ | .str _, _ | .val _, _ | .hnd _, _ | .ints _ _ _, _ => trivial
theorem okdL_mono {n m : Nat} (h : n ≤ m) : ∀ {l : List SV}, okdL W F n l → okdL W F m l
  | [], _ => trivial
  | c :: l, hc => ⟨okd_mono h hc.1, okdL_mono h hc.2⟩
end

mutual
theorem den_congr {n : Nat} (h : ∀ i, i < n → ρ' i = ρ i) : ∀ {c : SV}, okd W F n c → den ρ' c = den ρ c
  | .ptr i _, hc => by simp [den, h i hc]
  | .pte i _ _, hc => by simp [den, h i hc]
  | .sl i _ _ _, hc => by simp [den, h i hc]
  | .os i _ _ _, hc => by simp [den, h i hc]
  | .on i _ _, hc => by simp [den, h i hc]
  | .gpe _ _ _ _ _, _ => rfl
  | .gp _ _, _ => rfl
  | .agg cs, hc => by simp [den, cellsL_congr h (l := cs) hc]
  | .tup cs, hc => by simp [den, denL_congr h (l := cs) hc]
  | .fn _ x y, hc => by simp [den, denL_congr h (l := x) hc.1, denL_congr h (l := y) hc.2]
  | .rd _ _ _, _ | .rda _ _ _ _, _ | .rs _ _ _ _, _ | .rsa _ _ _ _ _ _, _ | .top, _ | .lit _ _, _ | .int _ _, _ | .litb _, _ | .bool _, _ | .str _, _ | .val _, _ | .hnd _, _ | .ints _ _ _, _ => rfl
theorem denL_congr {n : Nat} (h : ∀ i, i < n → ρ' i = ρ i) : ∀ {l : List SV}, okdL W F n l → denL ρ' l = denL ρ l
  | [], _ => rfl
  | c :: l, hc => by simp [denL, den_congr h hc.1, denL_congr h hc.2]
theorem cellsL_congr {n : Nat} (h : ∀ i, i < n → ρ' i = ρ i) : ∀ {l : List SV}, okdL W F n l → cellsL ρ' l = cellsL ρ l
  | [], _ => rfl
  | c :: l, hc => by
    have h1 := den_congr h hc.1
    have h2 := cellsL_congr h hc.2
    cases c <;> simp_all [cellsL, den]
end

/-- Reading what nobody writes. -/
theorem Reads.cell {k : IntKind} {v : Value} {xs : List Int} {rows : List (Option Row)} (h : Reads W F k v xs) (hm : MemOK W F ρ rows w) {j : Nat} (hj : j < xs.length) :
    ∃ b off cap, v = .slice (some ⟨b, off, none⟩) xs.length cap ∧ ∀ i, i < xs.length → w.cell? ⟨b, off + i, none⟩ = some (.int k (xs.getD i 0)) := by
  rcases h with ⟨a, cap, rfl, rfl, _⟩ | ⟨b, off, cap, rfl, _, h1, h2, h3⟩
  · simp at hj
  · refine ⟨b, off, cap, rfl, fun i hi => ?_⟩
    rw [← h3 i hi]
    exact World.cell?_of_block (w := W) (hm.frame.block b h1 h2)

theorem ReadsS.cell {sz n : Nat} {v : Value} {f : Nat → List Value} {rows : List (Option Row)} (h : ReadsS W F sz v n f) (hm : MemOK W F ρ rows w) {j : Nat} (hj : j < n) :
    ∃ b off cap, v = .slice (some ⟨b, off, none⟩) n cap ∧ ∀ e, e < n → ∀ j, j < sz → w.cell? ⟨b, off + e * sz + j, none⟩ = some ((f e).getD j undef) := by
  rcases h.2 with ⟨a, cap, rfl, rfl, _⟩ | ⟨b, off, cap, rfl, _, h1, h2, h3⟩
  · omega
  · refine ⟨b, off, cap, rfl, fun e he i hi => ?_⟩
    rw [← h3 e he i hi]
    exact World.cell?_of_block (w := W) (hm.frame.block b h1 h2)

/-- What a package's variable holds. -/
theorem glob_row {rows : List (Option Row)} (hm : MemOK W F ρ rows w) {g : Nat} {cs : List SV} (h : globCells g = some cs) : ∀ o, w.cell? ⟨g, o, none⟩ = (cellsL Num.zero cs)[o]? := by
  obtain ⟨h1, c, ty, fr, h2, h3⟩ := hm.glob g cs h
  have hb := hm.frame.block g (Array.getElem?_eq_some_iff.1 h2).1 h1
  intro o
  rw [h2] at hb
  simp only [World.cell?, hb]
  simp [← h3]
theorem globs_plain : globs.all (fun p => plainL p.2) = true := by with_unfolding_all rfl
theorem glob_plain {g : Nat} {cs : List SV} (h : globCells g = some cs) : plainL cs = true := by
  have key : ∀ (l : List (Nat × List SV)), l.all (fun p => plainL p.2) = true → List.lookup g l = some cs → plainL cs = true := by
    intro l
    induction l with
    | nil => intro _ h; simp at h
    | cons p l ih =>
      intro ha h
      simp only [List.all_cons, Bool.and_eq_true] at ha
      obtain ⟨d, v⟩ := p
      simp only [List.lookup] at h
      split at h
      · cases h; exact ha.1
      · exact ih ha.2 h
  exact key _ globs_plain h
theorem plain_cellAt : ∀ {l : List SV} {o : Nat} {v : SV}, plainL l = true → cellAt l o = some v → v ≠ .top
  | [], o, v, h, hv => by simp [cellAt] at hv
  | c :: r, o, v, h, hv => by
    simp only [plainL, Bool.and_eq_true] at h
    have hc : c ≠ .top := by rintro rfl; simp [plain] at h
    cases c <;> simp only [cellAt] at hv <;> rcases cond_some hv with ⟨e, hv⟩ | ⟨e, hv⟩ <;> first
      | exact plain_cellAt h.2 hv
      | (simp at hv; subst hv; first | exact hc | exact fun h => by cases h)
theorem glob_load {rows : List (Option Row)} (hm : MemOK W F ρ rows w) {t : TypeId} {i : TyI} (ty : TyOK P t i) {g : Nat} {cs : List SV} (hcs : globCells g = some cs) {v : SV} {off : Nat} (hv : partC i cs off = some v) (o : Nat) (ho : o = off) :
    ∃ u, (Instr.loadAt t (.pointer (some ⟨g, o, none⟩))).run P w = .ok u w ∧ Good W F ρ rows.length v u := by
  subst ho
  have hp := glob_plain hcs
  obtain ⟨p1, p2, p3, p4⟩ := partC_ok (W := W) (F := F) (m := rows.length) hv (CellsOK.of_cellsL ρ cs) (plainL_okd _ _ _ hp)
  have hc := glob_row hm hcs
  rw [plainL_cells Num.zero ρ hp] at hc
  refine ⟨den ρ v, ?_, rfl, p3, p4⟩
  have := run_loadVar_of (w := w) ty g o (cellsL ρ cs) (fun j hj _ => hc _) p2 (den ρ v) p1
  simp [Instr.loadAt, Instr.sureAddr, this]
theorem glob_cell {rows : List (Option Row)} (hm : MemOK W F ρ rows w) {g : Nat} {cs : List SV} (hcs : globCells g = some cs) {u : SV} {o : Nat} (hu : cellAt cs o = some u) : w.cell? ⟨g, o, none⟩ = some (den ρ u) := by
  have hp := glob_plain hcs
  rw [glob_row hm hcs, plainL_cells Num.zero ρ hp]
  rcases cellAt_ok (CellsOK.of_cellsL ρ cs) hu with h | h
  · exact absurd h (plain_cellAt hp hu)
  · exact h
theorem colC_ok {cs : List SV} {off sz : Nat} : ∀ {n : Nat} {l : List SV}, colC cs off sz n = some l → l.length = n ∧ ∀ j, j < n → ∃ u, l[j]? = some u ∧ cellAt cs (off + j * sz) = some u
  | 0, l, h => by simp [colC] at h; subst h; exact ⟨rfl, fun j hj => by omega⟩
  | n + 1, l, h => by
    simp only [colC] at h
    split at h
    · rename_i l' c h1 h2
      cases h
      obtain ⟨i1, i2⟩ := colC_ok h1
      refine ⟨by simp [i1], fun j hj => ?_⟩
      by_cases hjn : j < n
      · obtain ⟨u, u1, u2⟩ := i2 j hjn
        exact ⟨u, by rw [List.getElem?_append_left (by omega)]; exact u1, u2⟩
      · obtain rfl : j = n := by omega
        exact ⟨c, by rw [List.getElem?_append_right (by omega)]; simp [i1], h2⟩
    · cases h
theorem colI_ok {k : IntKind} : ∀ {l : List SV} {xs : List Int}, colI k l = some xs → xs.length = l.length ∧ ∀ j (u : SV), l[j]? = some u → ∃ cl, asI u = some (k, xs.getD j 0, cl)
  | [], xs, h => by simp [colI] at h; subst h; exact ⟨rfl, fun j u h => by simp at h⟩
  | c :: r, xs, h => by
    simp only [colI] at h
    split at h
    · rename_i q l' h1 h2
      rcases cond_some h with ⟨e, h⟩ | ⟨e, h⟩
      · cases h
        obtain ⟨i1, i2⟩ := colI_ok h2
        refine ⟨by simp [i1], fun j u hu => ?_⟩
        cases j with
        | zero => simp at hu; subst hu; obtain ⟨k', m, cl⟩ := q; simp at e; subst e; exact ⟨cl, h1⟩
        | succ j => simpa using i2 j u (by simpa using hu)
      · cases h
    · cases h
theorem colS_ok : ∀ {l : List SV} {xs : List ByteArray}, colS l = some xs → xs.length = l.length ∧ ∀ j (u : SV), l[j]? = some u → u = .str (xs.getD j ⟨#[]⟩)
  | [], xs, h => by simp [colS] at h; subst h; exact ⟨rfl, fun j u h => by simp at h⟩
  | c :: r, xs, h => by
    cases c <;> simp only [colS, Option.map_eq_some_iff, reduceCtorEq] at h
    obtain ⟨l', h2, h⟩ := h
    cases h
    obtain ⟨i1, i2⟩ := colS_ok h2
    refine ⟨by simp [i1], fun j u hu => ?_⟩
    cases j with
    | zero => simp at hu; subst hu; rfl
    | succ j => simpa using i2 j u (by simpa using hu)
theorem pickC_ok {l : List SV} {e : Int} {v : SV} {m : Nat} (h : pickC l e = some v) (he : e.toNat < l.length) : (l[e.toNat]?).map (den ρ) = some (den ρ v) ∧ okd W F m v ∧ v ≠ .top := by
  have hu : l[e.toNat]? = some l[e.toNat] := by simp
  unfold pickC at h
  cases l with
  | nil => cases h
  | cons c r =>
    simp only at h
    split at h
    · rename_i q hq
      simp only [Option.map_eq_some_iff] at h
      obtain ⟨xs, h1, h⟩ := h
      cases h
      obtain ⟨cl, h2⟩ := (colI_ok h1).2 _ _ hu
      rw [hu]
      exact ⟨by simp [asI_ok h2 ρ, den], trivial, fun h => by cases h⟩
    · simp only [Option.map_eq_some_iff] at h
      obtain ⟨xs, h1, h⟩ := h
      cases h
      have h2 := (colS_ok h1).2 _ _ hu
      rw [hu]
      exact ⟨by rw [Option.map_some, h2], trivial, fun h => by cases h⟩
theorem loadS_ok (hT : TabOK P T) {rows : List (Option Row)} (hm : MemOK W F ρ rows w) {t : TypeId} {x v : SV} {ps : List Prop} (h : loadS T rows t x = some (ps, v)) (hp : All ps) (ox : okd W F rows.length x) :
    ∃ u, (Instr.loadAt t (den ρ x)).run P w = .ok u w ∧ Good W F ρ rows.length v u := by
  simp only [loadS, Option.bind_eq_some_iff] at h
  obtain ⟨i, hi, h⟩ := h
  have ty := hT t i hi
  split at h
  · rename_i b off
    simp only [Option.bind_eq_some_iff, Option.map_eq_some_iff] at h
    obtain ⟨r, hr, v', hv, h⟩ := h
    cases h
    obtain ⟨c, h2, h3, h4, _⟩ := rowOf_ok hm hr
    obtain ⟨p1, p2, p3, p4⟩ := partC_ok hv h2 h3
    refine ⟨den ρ v, ?_, rfl, p3, p4⟩
    have := run_loadVar_of (w := w) ty (ρ b).1 off c (fun j hj _ => h4 _ hj) p2 (den ρ v) p1
    simp [Instr.loadAt, Instr.sureAddr, den, this]
  · rename_i b off e
    rcases cond_some h with ⟨ea, h⟩ | ⟨ea, h⟩
    · simp only [Option.bind_eq_some_iff] at h
      obtain ⟨d, hd, h⟩ := h
      rcases cond_some h with ⟨es, h⟩ | ⟨es, h⟩
      · simp only [Option.bind_eq_some_iff, Option.map_eq_some_iff] at h
        obtain ⟨r, hr, q, hq, h⟩ := h
        cases h
        simp only [Bool.and_eq_true] at es
        have es1 := Nat.eq_of_beq_eq_true es.1
        have es2 : 0 < d.1 := Nat.le_of_ble_eq_true es.2
        obtain ⟨c, h2, h3, h4, _⟩ := rowOf_ok hm hr
        have e0 : 0 ≤ e := hp _ (by simp)
        have e1 : e + d.1 ≤ q.2.1 := hp (e + d.1 ≤ q.2.1) (by simp)
        have e2 : q.2.2.length = q.2.1 := hp (q.2.2.length = q.2.1) (by simp)
        have hc : ∀ j, j < d.1 → c[off + e.toNat + j]? = some (.int q.1 (q.2.2.getD (e.toNat + j) 0)) := fun j hj => by
          have := intsAt_ok hq h2 (e.toNat + j) (by omega)
          rwa [← Nat.add_assoc] at this
        have hlen : off + e.toNat + d.1 ≤ c.length := by
          have := hc (d.1 - 1) (by omega)
          have := (List.getElem?_eq_some_iff.1 this).1
          omega
        refine ⟨_, ?_, rfl, ⟨trivial, trivial⟩, fun h => by cases h⟩
        have := run_loadVar_of (w := w) ty (ρ b).1 (off + e.toNat) c (fun j hj _ => h4 _ hj) (fun _ => by omega) (den ρ (.agg [.ints q.1 d.1 ((q.2.2.drop e.toNat).take d.1)])) (by
          simp only [ea, if_true, den, cellsL, List.append_nil]
          congr 2
          apply List.ext_getElem?
          intro j
          by_cases hj : j < d.1
          · rw [intCells_get _ _ _ _ hj, List.getElem?_take_of_lt (by omega), List.getElem?_drop, hc j hj]
            have h2 : e.toNat + j < q.2.2.length := by omega
            simp [List.getD, h2, hj]
          · rw [List.getElem?_eq_none (by simp [intCells_length]; omega), List.getElem?_eq_none (by simp; omega)])
        simp only [Instr.loadAt, Instr.sureAddr, den]
        simpa [den] using this
      · cases h
    · simp only [Option.bind_eq_some_iff, Option.map_eq_some_iff] at h
      obtain ⟨r, hr, q, hq, h⟩ := h
      cases h
      obtain ⟨c, h2, h3, h4, _⟩ := rowOf_ok hm hr
      have e0 : 0 ≤ e := hp _ (by simp)
      have e1 : e < q.2.1 := hp _ (by simp)
      have hc := intsAt_ok hq h2 e.toNat (by omega)
      refine ⟨_, ?_, rfl, trivial, fun h => by cases h⟩
      have := run_loadVar_of (w := w) ty (ρ b).1 (off + e.toNat) c (fun j hj _ => h4 _ hj) (fun h => by rw [ea] at h; cases h) (.int q.1 (q.2.2.getD e.toNat 0)) (by simp [ea]; simpa using hc)
      simp only [Instr.loadAt, Instr.sureAddr, den]
      simpa using this
  · rename_i g
    simp only [Option.bind_eq_some_iff, Option.map_eq_some_iff] at h
    obtain ⟨cs, hcs, v', hv, h⟩ := h
    cases h
    exact glob_load hm ty hcs hv 0 rfl
  · rename_i g off
    simp only [Option.bind_eq_some_iff, Option.map_eq_some_iff] at h
    obtain ⟨cs, hcs, v', hv, h⟩ := h
    cases h
    exact glob_load hm ty hcs hv off rfl
  · rename_i g off sz n e
    rcases cond_some h with ⟨ea, h⟩ | ⟨ea, h⟩
    · cases h
    · simp only [Option.bind_eq_some_iff, Option.map_eq_some_iff] at h
      obtain ⟨cs, hcs, l, hl, v', hv, h⟩ := h
      cases h
      obtain ⟨e0, e1⟩ := ox
      obtain ⟨g1, g2⟩ := colC_ok (off := off) (sz := sz) hl
      obtain ⟨p1, p2, p3⟩ := pickC_ok (ρ := ρ) (W := W) (F := F) (m := rows.length) hv (by omega)
      have hcell : w.cell? ⟨g, off + e.toNat * sz, none⟩ = some (den ρ v) := by
        rw [← p1]
        obtain ⟨u, u1, u2⟩ := g2 e.toNat (by omega)
        rw [u1]
        simp only [Option.map_some]
        exact glob_cell hm hcs u2
      refine ⟨_, ?_, rfl, p2, p3⟩
      have := run_loadVar_cell (w := w) ty ea hcell
      simp only [Instr.loadAt, Instr.sureAddr, den]
      simpa using this
  · rename_i k sv xs e
    obtain ⟨ho, e0, e1⟩ := ox
    obtain ⟨b, off, cap, rfl, hc⟩ := ho.cell hm (j := e.toNat) (by omega)
    rcases cond_some h with ⟨ea, h⟩ | ⟨ea, h⟩
    · simp only [Option.bind_eq_some_iff] at h
      obtain ⟨q, hq, h⟩ := h
      rcases beq_some h with ⟨es, h⟩ | ⟨es, h⟩
      · cases h
        have el : e + q.1 ≤ xs.length := hp _ (by simp)
        refine ⟨_, ?_, rfl, ⟨trivial, trivial⟩, fun h => by cases h⟩
        let vs : List Value := List.replicate off (.int k 0) ++ xs.map (Value.int k)
        have hvs : ∀ i, i < xs.length → vs[off + i]? = some (.int k (xs.getD i 0)) := by
          intro i hi
          rw [List.getElem?_append_right (by simp)]
          simp [hi]
        have := run_loadVar_of (w := w) ty b (off + e.toNat) vs (fun j _ hj => by
          have : j < i.size := by rcases hj with h | h; exact h; rw [ea] at h; cases h
          rw [show off + e.toNat + j = off + (e.toNat + j) by omega, hc _ (by omega), hvs _ (by omega)]) (fun _ => by simp [vs]; omega)
          (den ρ (.agg [.ints k q.1 ((xs.drop e.toNat).take q.1)])) (by
            simp only [ea, if_true, den, cellsL, List.append_nil]
            congr 2
            apply List.ext_getElem?
            intro j
            by_cases hj : j < q.1
            · rw [intCells_get _ _ _ _ hj, List.getElem?_take_of_lt (by omega), List.getElem?_drop, show off + e.toNat + j = off + (e.toNat + j) by omega, hvs _ (by omega)]
              have h1 : j < ((xs.drop e.toNat).take q.1).length := by simp; omega
              have h2 : e.toNat + j < xs.length := by omega
              simp [List.getD, h2, hj]
            · rw [List.getElem?_eq_none (by simp [intCells_length]; omega), List.getElem?_eq_none (by simp [vs]; omega)])
        simp only [Instr.loadAt, Instr.sureAddr, den, elemAddr]
        simpa [den] using this
      · cases h
    · cases h
      refine ⟨_, ?_, rfl, trivial, fun h => by cases h⟩
      have := run_loadVar_cell (w := w) ty ea (hc e.toNat (by omega))
      simp only [Instr.loadAt, Instr.sureAddr, den, elemAddr]
      simpa using this
  · rename_i sz sv n f e off
    simp only [Option.map_eq_some_iff] at h
    obtain ⟨v', hv, h⟩ := h
    cases h
    obtain ⟨⟨ho, hk⟩, e0, e1, e2⟩ := ox
    have hen : e.toNat < n := by omega
    obtain ⟨b, o, cap, rfl, hc⟩ := ho.cell hm hen
    have hl := ho.1 e.toNat hen
    have hcg : cellsL Num.zero (f e.toNat) = cellsL ρ (f e.toNat) := cellsL_congr (W := W) (F := F) (n := 0) (fun i hi => absurd hi (by omega)) (hk e.toNat hen)
    obtain ⟨p1, p2, p3, p4⟩ := partC_ok hv (CellsOK.of_cellsL ρ (f e.toNat)) (hk e.toNat hen)
    rw [← hcg] at p1 p2
    have hl : (cellsL Num.zero (f e.toNat)).length = sz := hl
    have hcc : ∀ j, j < sz → w.cell? ⟨b, o + e.toNat * sz + j, none⟩ = some ((cellsL Num.zero (f e.toNat)).getD j undef) := hc e.toNat hen
    generalize cellsL Num.zero (f e.toNat) = cl at *
    refine ⟨_, ?_, rfl, okd_mono (Nat.zero_le _) p3, p4⟩
    have key : (loadVar t ⟨b, o + e.toNat * sz + off, none⟩).run P w = .ok (den ρ v) w := by
      cases ha : i.agg with
      | true =>
        simp only [ha, if_true] at p1
        have p2 := p2 ha
        refine run_loadVar_of (w := w) ty b (o + e.toNat * sz + off) (List.replicate (o + e.toNat * sz) (Value.int .i64 0) ++ cl) (fun j _ hj => ?_) (fun ha => by simp [hl]; omega) (den ρ v) ?_
        · have hj : j < i.size := by rcases hj with hj | hj; exact hj; rw [ha] at hj; cases hj
          rw [Nat.add_assoc, hcc (off + j) (by omega), List.getElem?_append_right (by simp)]
          simp only [List.length_replicate]
          rw [show o + e.toNat * sz + (off + j) - (o + e.toNat * sz) = off + j by omega, List.getD_eq_getElem?_getD, List.getElem?_eq_getElem (by omega)]
          rfl
        · simp only [ha, if_true]
          have hd : (List.replicate (o + e.toNat * sz) (Value.int .i64 0) ++ cl).drop (o + e.toNat * sz + off) = cl.drop off := by
            rw [List.drop_append, List.drop_eq_nil_of_le (by simp), List.nil_append]
            congr 1
            simp
          rw [p1, hd]
      | false =>
        simp only [ha, Bool.false_eq_true, if_false] at p1
        have hlt := (List.getElem?_eq_some_iff.1 p1).1
        refine run_loadVar_cell (w := w) ty ha ?_
        rw [hcc off (by omega), List.getD_eq_getElem?_getD, p1]
        rfl
    simp only [Instr.loadAt, Instr.sureAddr, den, elemCell]
    simpa using key
  · cases h
end Sx
end Go.Proofs.Ytmmejomalfjcnaa
