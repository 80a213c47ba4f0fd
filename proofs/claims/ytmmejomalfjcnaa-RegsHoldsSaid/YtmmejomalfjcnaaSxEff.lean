/- The operations that make or write memory do what the executor says, lists too. No condition. -/
import Derived.Test.YtmmejomalfjcnaaSxList
namespace Go.Proofs.Ytmmejomalfjcnaa
open Go.RowKit
set_option linter.unusedVariables false
set_option linter.unusedSimpArgs false
namespace Sx
variable {P : Program} {T : Tab} {W : World} {F : Nat → Prop} {nt : Nat} {ρ ρ' : Num} {s : SS} {a : Act} {w : World}

theorem intCells_map (k : IntKind) (xs : List Int) : intCells k xs.length xs = xs.map (Value.int k) := by
  apply List.ext_getElem?
  intro j
  by_cases hj : j < xs.length
  · rw [intCells_get _ _ _ _ hj]; simp [List.getD, hj]
  · rw [List.getElem?_eq_none (by simp [intCells_length]; omega), List.getElem?_eq_none (by simp; omega)]
theorem intCells_splice {k : IntKind} {n o : Nat} {xs ys : List Int} (hl : xs.length = n) (ho : o + ys.length ≤ n) :
    intCells k n (xs.take o ++ ys ++ xs.drop (o + ys.length)) = (intCells k n xs).take o ++ ys.map (Value.int k) ++ (intCells k n xs).drop (o + ys.length) := by
  have h1 : (xs.take o ++ ys ++ xs.drop (o + ys.length)).length = n := by simp; omega
  have h2 := intCells_map k (xs.take o ++ ys ++ xs.drop (o + ys.length))
  rw [h1] at h2
  have h3 := intCells_map k xs
  rw [hl] at h3
  rw [h2, h3]
  simp [List.map_take, List.map_drop]

theorem spliceC_ok : ∀ {l : List SV} {o : Nat} {k : IntKind} {m : Nat} {ys : List Int} {ps : List Prop} {l' : List SV} {n : Nat}, spliceC l o k m ys = some (ps, l') → All ps → okdL W F n l → okdL W F n l' ∧ (∀ b, noML b l' = noML b l) ∧ ∀ vs, CellsOK ρ l vs →
    CellsOK ρ l' (vs.take o ++ ys.map (Value.int k) ++ vs.drop (o + ys.length)) ∧ o + ys.length ≤ vs.length
  | [], o, k, m, ys, ps, l', n, h, hp, ho => by simp [spliceC] at h
  | c :: r, o, k, m, ys, ps, l', n, h, hp, ho => by
    by_cases hi : ∃ k n xs, c = .ints k n xs
    · obtain ⟨k0, n0, xs, rfl⟩ := hi
      simp only [spliceC] at h
      rcases blt_some h with ⟨e, hx⟩ | ⟨e, hx⟩ <;> clear h
      · rcases cond_some hx with ⟨e2, hy⟩ | ⟨e2, hy⟩ <;> clear hx
        · cases hy
          simp only [Bool.and_eq_true, decide_eq_true_eq] at e2
          obtain ⟨rfl, e3⟩ := e2
          have e3 := Nat.le_of_ble_eq_true e3
          have hl : xs.length = n0 := hp _ (by simp)
          have hy : ys.length ≤ m := hp (ys.length ≤ m) (by simp)
          refine ⟨⟨trivial, ho.2⟩, fun b => rfl, ?_⟩
          rintro vs ⟨t, rfl, h2⟩
          refine ⟨⟨t, ?_, h2⟩, by simp [intCells_length]; omega⟩
          rw [intCells_splice hl (by omega), List.take_append_of_le_length (by simp [intCells_length]; omega), List.drop_append_of_le_length (by simp [intCells_length]; omega)]
          simp [List.append_assoc]
        · cases hy
      · simp only [Option.map_eq_some_iff] at hx
        obtain ⟨⟨p2, l2⟩, hx, hy⟩ := hx
        cases hy
        obtain ⟨i1, i3, i2⟩ := spliceC_ok hx hp ho.2
        refine ⟨⟨trivial, i1⟩, fun b => by simp only [noML, i3 b], ?_⟩
        rintro vs ⟨t, rfl, h2⟩
        obtain ⟨j1, j2⟩ := i2 t h2
        refine ⟨⟨_, ?_, j1⟩, by simp [intCells_length]; omega⟩
        rw [List.take_append, List.take_of_length_le (by simp [intCells_length]; omega), intCells_length, List.drop_append, List.drop_eq_nil_of_le (by simp [intCells_length]; omega), intCells_length, show o + ys.length - n0 = o - n0 + ys.length by omega]
        simp [List.append_assoc]
    · have e1 : spliceC (c :: r) o k m ys = bif Nat.beq o 0 then none else (spliceC r (o - 1) k m ys).map fun q => (q.1, c :: q.2) := by cases c <;> first | rfl | exact absurd ⟨_, _, _, rfl⟩ hi
      rw [e1] at h
      rcases beq_some h with ⟨e, hx⟩ | ⟨e, hx⟩ <;> clear h
      · cases hx
      · simp only [Option.map_eq_some_iff] at hx
        obtain ⟨⟨p2, l2⟩, hx, hy⟩ := hx
        cases hy
        obtain ⟨o, rfl⟩ : ∃ m, o = m + 1 := ⟨o - 1, by omega⟩
        simp only [Nat.add_sub_cancel] at hx
        obtain ⟨i1, i3, i2⟩ := spliceC_ok hx hp ho.2
        refine ⟨⟨ho.1, i1⟩, fun b => by simp only [noML, i3 b], fun vs hc => ?_⟩
        cases hs : single c with
        | true =>
          obtain ⟨t, rfl, h2⟩ := hc.one hs
          obtain ⟨j1, j2⟩ := i2 t h2
          rw [show o + 1 + ys.length = (o + ys.length) + 1 by omega]
          have j3 := CellsOK.mk_one hs j1
          exact ⟨by simpa using j3, by simp; omega⟩
        | false =>
          cases c <;> simp [single] at hs
          · obtain ⟨u, t, rfl, h2⟩ := hc
            obtain ⟨j1, j2⟩ := i2 t h2
            rw [show o + 1 + ys.length = (o + ys.length) + 1 by omega]
            exact ⟨⟨u, t.take o ++ ys.map (Value.int k) ++ t.drop (o + ys.length), by simp, j1⟩, by simp; omega⟩
          · exact absurd ⟨_, _, _, rfl⟩ hi

theorem spliceE_ok {l : List SV} {o : Nat} {k : IntKind} {ys : List Int} {ps : List Prop} {l' : List SV} {n : Nat} (h : spliceE l o k ys = some (ps, l')) (hp : All ps) (ho : okdL W F n l) : okdL W F n l' ∧ (∀ b, noML b l' = noML b l) ∧ ∀ vs, CellsOK ρ l vs →
    CellsOK ρ l' (vs.take o ++ ys.map (Value.int k) ++ vs.drop (o + ys.length)) ∧ o + ys.length ≤ vs.length := by
  unfold spliceE at h
  split at h
  · rename_i k0 n0 xs
    rcases cond_some h with ⟨e, h⟩ | ⟨e, h⟩
    · cases h
      have e : k0 = k := by simpa using e
      subst e
      have hl : xs.length = n0 := hp _ (by simp)
      have hy : o + ys.length ≤ n0 := hp (o + ys.length ≤ n0) (by simp)
      refine ⟨⟨trivial, ho.2⟩, fun b => rfl, ?_⟩
      rintro vs ⟨t, rfl, h2⟩
      have : t = [] := h2
      subst this
      refine ⟨⟨[], ?_, h2⟩, by simp [intCells_length]; omega⟩
      simp only [List.append_nil]
      exact (intCells_splice hl hy).symm
    · cases h
  · cases h

/-- Where integers are laid. -/
theorem layInts_ok {rows : List (Option Row)} (hm : MemOK W F ρ rows w) {k : IntKind} {dst : SV} {ys : List Int} {ps : List Prop} {b : Nat} {r' : Row} (h : layInts rows k dst ys = some (ps, b, r')) (hp : All ps) {len : Nat} (hlen : lenN dst = some len) :
    ∃ (base : Option Addr) (cap : Nat) (w' : World), den ρ dst = .slice base len cap ∧ (match base with
      | some a => storeCells a (ys.map (Value.int k))
      | none => pure ()).run P w = .ok () w' ∧ MemOK W F ρ (rows.set b (some r')) w' ∧ ys.length ≤ len := by
  have core : ∀ (b off : Nat) (r : Row) (cs : List SV) (q : List Prop), rowOf rows b = some r → okdL W F rows.length cs → (∀ vs, CellsOK ρ r.cs vs → CellsOK ρ cs (vs.take off ++ ys.map (Value.int k) ++ vs.drop (off + ys.length)) ∧ off + ys.length ≤ vs.length) →
      (Has ρ b r ∧ ∃ w', (storeCells ⟨(ρ b).1, off, none⟩ (ys.map (Value.int k))).run P w = .ok () w' ∧ MemOK W F ρ (rows.set b (some ⟨r.ty, cs, r.sz⟩)) w') ∨ (¬ Has ρ b r ∧ ys = [] ∧ MemOK W F ρ (rows.set b (some ⟨r.ty, cs, r.sz⟩)) w) := by
    intro b off r cs q hr ho hcs
    rcases rowOf_block hm hr with ⟨hh, c, l, rest, g1, g2, g3, g4, g5⟩ | ⟨hh, g1⟩
    · left
      obtain ⟨e1, e2⟩ := hcs l g3
      have hsz : c.size = l.length + rest.length := by rw [← Array.length_toList, g2, List.length_append]
      have hst := run_storeCells_at P (ρ b).1 off r.ty (ys.map (Value.int k)) 0 c w g1 (by simp; omega) (by simp [Value.oneCell'])
      simp only [Nat.add_zero, List.length_map] at hst
      have e3 : c.toList.take off ++ ys.map (Value.int k) ++ c.toList.drop (off + ys.length) = (l.take off ++ ys.map (Value.int k) ++ l.drop (off + ys.length)) ++ rest := by
        rw [g2, List.take_append_of_le_length (by omega), List.drop_append_of_le_length e2]
        simp [List.append_assoc]
      rw [e3] at hst
      exact ⟨hh, _, hst, hm.write hr hh g1 g2 g4 g5 (by simp; omega) e1 ho⟩
    · right
      obtain ⟨e1, e2⟩ := hcs [] g1
      have hy : ys = [] := List.eq_nil_of_length_eq_zero (by have h9 : off + ys.length ≤ 0 := e2; omega)
      subst hy
      refine ⟨hh, rfl, ?_⟩
      have hb := rowOf_get hr
      have hnh : ¬ Has ρ b ⟨r.ty, cs, r.sz⟩ := hh
      have live : ∀ (i : Nat) (r1 : Row), (rows.set b (some ⟨r.ty, cs, r.sz⟩))[i]? = some (some r1) → Has ρ i r1 → i ≠ b ∧ rows[i]? = some (some r1) := by
        intro i r1 hi h1
        rcases get_set hi with ⟨rfl, rfl⟩ | ⟨hib, hi⟩
        · exact absurd h1 hnh
        · exact ⟨hib, hi⟩
      refine ⟨hm.frame, hm.glob, fun i r1 hi => ?_, fun i j r1 r2 hi hj h1 h2 he => hm.inj i j _ _ (live i r1 hi h1).2 (live j r2 hj h2).2 h1 h2 he, fun i r1 hi h1 => hm.mine i _ (live i r1 hi h1).2 h1⟩
      rcases get_set hi with ⟨rfl, rfl⟩ | ⟨hib, hi⟩
      · exact ⟨.inr ⟨hnh, by simpa using e1⟩, by simpa using ho⟩
      · simpa using hm.row i r1 hi
  have nil : ∀ (a : Addr), (storeCells a ([] : List Value)).run P w = .ok () w := fun a => by simp [storeCells]
  unfold layInts at h
  split at h
  · rename_i b off len' cap
    simp only [Option.bind_eq_some_iff, Option.map_eq_some_iff] at h
    obtain ⟨r, hr, ⟨q1, q2⟩, hs, h⟩ := h
    cases h
    cases hlen
    obtain ⟨_, _, g3, _⟩ := rowOf_ok hm hr
    have hp2 : All q1 := fun p hq => hp p (by simp [hq])
    have hle : ys.length ≤ len := hp (ys.length ≤ len) (by simp)
    obtain ⟨s1, _, s2⟩ := spliceC_ok (ρ := ρ) hs hp2 g3
    rcases core b off r q2 q1 hr s1 s2 with ⟨_, w', h1, h2⟩ | ⟨_, h1, h2⟩
    · exact ⟨_, _, w', rfl, h1, h2, hle⟩
    · subst h1; exact ⟨_, _, w, rfl, nil _, h2, hle⟩
  · rename_i b off len' cap
    simp only [Option.bind_eq_some_iff, Option.map_eq_some_iff] at h
    obtain ⟨r, hr, ⟨q1, q2⟩, hs, h⟩ := h
    cases h
    cases hlen
    obtain ⟨_, _, g3, _⟩ := rowOf_ok hm hr
    have hp2 : All q1 := fun p hq => hp p (by simp [hq])
    have hle : ys.length ≤ len := hp (ys.length ≤ len) (by simp)
    obtain ⟨s1, _, s2⟩ := spliceE_ok (ρ := ρ) hs hp2 g3
    rcases core b off r q2 q1 hr s1 s2 with ⟨_, w', h1, h2⟩ | ⟨_, h1, h2⟩
    · exact ⟨_, _, w', rfl, h1, h2, hle⟩
    · subst h1; exact ⟨_, _, w, rfl, nil _, h2, hle⟩
  · rename_i b len' z
    simp only [Option.bind_eq_some_iff] at h
    obtain ⟨r, hr, h⟩ := h
    rcases beq_some h with ⟨ez, hx⟩ | ⟨ez, hx⟩ <;> clear h
    · cases hx
    simp only [Option.map_eq_some_iff] at hx
    obtain ⟨⟨q1, q2⟩, hs, hx⟩ := hx
    cases hx
    cases hlen
    obtain ⟨_, _, g3, _⟩ := rowOf_ok hm hr
    have hp2 : All q1 := fun p hq => hp p (by simp [hq])
    have hle : ys.length ≤ len := hp (ys.length ≤ len) (by simp)
    obtain ⟨s1, _, s2⟩ := spliceE_ok (ρ := ρ) hs hp2 g3
    simp only [den]
    rcases core b 0 r q2 q1 hr s1 s2 with ⟨hh, w', h1, h2⟩ | ⟨hh, h1, h2⟩
    · unfold listV
      split
      · rename_i hz
        rcases hh with h | h
        · exact absurd h ez
        · exact absurd hz.2 h
      · exact ⟨_, _, w', rfl, h1, h2, hle⟩
    · subst h1
      unfold listV
      split
      · exact ⟨_, _, w, rfl, rfl, h2, hle⟩
      · exact ⟨_, _, w, rfl, nil _, h2, hle⟩
  · cases h

theorem gives_ints {rows : List (Option Row)} (hm : MemOK W F ρ rows w) {k : IntKind} {v : SV} {ps : List Prop} {n : Nat} {xs : List Int} (h : sliceInts rows k v = some (ps, n, xs)) (hp : All ps) (ov : okd W F rows.length v) : xs.length = n ∧ Gives P w 1 (den ρ v) n (intCells k n xs) := by
  obtain ⟨h1, h2, _⟩ := sliceInts_ok hm h hp ov
  refine ⟨h1, by simp [intCells_length], ?_, fun w' hw => ⟨h2.lenOf w', h2.first h1 (Nat.le_refl _) hw⟩⟩
  intro y hy
  simp only [intCells, List.mem_map] at hy
  obtain ⟨j, _, rfl⟩ := hy
  rfl

theorem noML_takeC {b : Nat} : ∀ {l l' : List SV} {o : Nat}, noML b l = true → takeC l o = some l' → noML b l' = true
  | [], l', o, h, hv => by
    simp only [takeC] at hv
    rcases cond_some hv with ⟨e, hv⟩ | ⟨e, hv⟩ <;> simp at hv
    subst hv; rfl
  | c :: r, l', o, h, hv => by
    simp only [noML, Bool.and_eq_true] at h
    cases c <;> simp only [takeC] at hv <;> rcases cond_some hv with ⟨e, hv⟩ | ⟨e, hv⟩ <;> first
      | (simp at hv; subst hv; rfl)
      | (rcases cond_some hv with ⟨e2, hv⟩ | ⟨e2, hv⟩
         · simp only [Option.map_eq_some_iff] at hv
           obtain ⟨l2, hx, rfl⟩ := hv
           simp only [noML, Bool.and_eq_true]
           exact ⟨h.1, noML_takeC h.2 hx⟩
         · simp at hv)
      | (simp only [Option.map_eq_some_iff] at hv
         obtain ⟨l2, hx, rfl⟩ := hv
         simp only [noML, Bool.and_eq_true]
         exact ⟨h.1, noML_takeC h.2 hx⟩)
theorem noML_dropC {b : Nat} : ∀ {l l' : List SV} {o : Nat}, noML b l = true → dropC l o = some l' → noML b l' = true
  | [], l', o, h, hv => by
    simp only [dropC] at hv
    rcases cond_some hv with ⟨e, hv⟩ | ⟨e, hv⟩ <;> simp at hv
    subst hv; rfl
  | c :: r, l', o, h, hv => by
    have h' := h
    simp only [noML, Bool.and_eq_true] at h
    cases c <;> simp only [dropC] at hv <;> rcases cond_some hv with ⟨e, hv⟩ | ⟨e, hv⟩ <;> first
      | (simp at hv; subst hv; exact h')
      | exact noML_dropC h.2 hv
      | (rcases cond_some hv with ⟨e2, hv⟩ | ⟨e2, hv⟩
         · exact noML_dropC h.2 hv
         · simp at hv)
theorem noML_append {b : Nat} : ∀ {x y : List SV}, noML b x = true → noML b y = true → noML b (x ++ y) = true
  | [], y, _, h => h
  | c :: r, y, h, k => by simp only [noML, Bool.and_eq_true, List.cons_append] at *; exact ⟨h.1, noML_append h.2 k⟩

theorem gives_cells {rows : List (Option Row)} (hm : MemOK W F ρ rows w) {sz : Nat} {v : SV} {n : Nat} {l : List SV} (h : sliceCells rows sz v = some (n, l)) (hB : cellsB l = true) (hsz : 0 < sz) :
    Gives P w sz (den ρ v) n (cellsL ρ l) ∧ okdL W F rows.length l ∧ ∀ b, (∀ (i : Nat) (x : Row), rows[i]? = some (some x) → noML b x.cs = true) → noML b l = true := by
  have mk : ∀ (b off n cap : Nat) (l : List SV) (z : Option Bool), okdL W F rows.length l → widthL l = n * sz → (∀ j, j < n * sz → w.cell? ⟨b, off + j, none⟩ = (cellsL ρ l)[j]?) → cellsB l = true → Gives P w sz (.slice (some ⟨b, off, none⟩) n cap) n (cellsL ρ l) := by
    intro b off n cap l z ho hw hc hB
    have hl : (cellsL ρ l).length = n * sz := by rw [widthL_cells, hw]
    refine ⟨hl, cellsB_one hB ho, fun w' hw' => ⟨by simp [Builtin.lenOf], ?_⟩⟩
    have := run_loadCells_list (P := P) w' ⟨b, off, none⟩ (cellsL ρ l) (fun j u hu => by
      rw [addr_add]
      refine hw' _ _ ?_
      rw [hc j (by have := (List.getElem?_eq_some_iff.1 hu).1; omega), hu])
    rw [hl] at this
    simp [Builtin.firstCells, this]
  unfold sliceCells at h
  split at h
  · rename_i b off len cap
    simp only [Option.bind_eq_some_iff] at h
    obtain ⟨r, hr, d, hd, l', hl, h⟩ := h
    rcases cond_some h with ⟨e, h⟩ | ⟨e, h⟩
    · cases h
      obtain ⟨c, c2, c3, c4, _⟩ := rowOf_ok hm hr
      obtain ⟨d1, d2⟩ := dropC_ok c2 hd
      obtain ⟨t1, t2⟩ := takeC_ok d1 hl
      have hn := t1.noTop e
      have hok := okdL_takeC (okdL_dropC c3 hd) hl
      refine ⟨mk _ off n cap l none hok ?_ (fun j hj => ?_) hB, hok, fun b hb => noML_takeC (noML_dropC (hb _ _ (rowOf_get hr)) hd) hl⟩
      · have := t1.length
        simp at this t2
        omega
      · simp at t2
        rw [← hn, c4 _ (by omega), List.getElem?_take_of_lt hj, List.getElem?_drop]
    · cases h
  · rename_i b len z
    simp only [Option.bind_eq_some_iff] at h
    obtain ⟨⟨r, kk⟩, hr, h⟩ := h
    rcases cond_some h with ⟨e, h⟩ | ⟨e, h⟩
    · cases h
      simp only [Bool.and_eq_true] at e
      have e1 := Nat.eq_of_beq_eq_true e.1
      obtain ⟨hr, hz0, hkk, hpos, _⟩ := onLen_ok hm hr
      obtain ⟨c, c2, c3, c4, _⟩ := rowOf_ok hm hr
      have hn := c2.noTop e.2
      have hcl := c2.length
      refine ⟨?_, c3, fun b hb => hb _ _ (rowOf_get hr)⟩
      simp only [den, listV]
      split
      · rename_i hz
        have hw0 : kk = 0 := by
          cases hq : kk with
          | zero => rfl
          | succ j => exact absurd hz.2 (hpos (by omega))
        have hn0 : n = 0 := by
          have : n * sz = 0 := by omega
          rcases Nat.mul_eq_zero.1 this with h | h
          · exact h
          · omega
        subst hn0
        have hl0 : cellsL ρ r.cs = [] := List.eq_nil_of_length_eq_zero (by rw [widthL_cells, ← hkk, hw0])
        exact ⟨by simp [hl0], by simp [hl0], fun w' _ => ⟨by simp [Builtin.lenOf], by simp [Builtin.firstCells, hl0]⟩⟩
      · exact mk _ 0 n _ r.cs none c3 e1.symm (fun j hj => by rw [Nat.zero_add, c4 _ (by omega), hn]) hB
    · cases h
  · rename_i u
    rcases cond_some h with ⟨e, h⟩ | ⟨e, h⟩
    · cases h
      unfold isNilSlice at e
      split at e
      · exact ⟨⟨by simp [cellsL], by simp [cellsL], fun w' _ => ⟨by simp [den, Builtin.lenOf], by simp [den, Builtin.firstCells, cellsL]⟩⟩, trivial, fun b _ => rfl⟩
      · cases e
    · cases h
  · cases h

theorem isZero1_ok {k : IntKind} {l : List SV} (h : isZero1 k l = true) : l = [.lit k 0] := by
  unfold isZero1 at h
  split at h
  · simp only [Bool.and_eq_true, decide_eq_true_eq] at h
    obtain ⟨rfl, rfl⟩ := h; rfl
  · cases h

/-- What an operation on lists leads to. -/
theorem listOp_ok (hT : TabOK P T) (st : Sat W F nt ρ s a w) {o : Oper} {b : Nat} {e : Eff} (h : listOp T s b o.op = some e) (hp : All e.ps) (hb : isNew o.op = true → Free s.rows b) :
    ∃ (ρ' : Num) (w' : World), (execOp a.eval o).run P w = .ok (.value (den ρ' e.v)) w' ∧ MemOK W F ρ' (putsL e.puts s.rows) w' ∧ (∀ j, j ≠ b ∨ isNew o.op = false → ρ' j = ρ j) ∧ okd W F s.rows.length e.v ∧ e.v ≠ .top := by
  unfold listOp at h
  split at h
  · rename_i t len cap hop
    have hfree := hb (by rw [hop]; rfl)
    simp only [Option.bind_eq_some_iff] at h
    obtain ⟨l', h1, c', h2, h⟩ := h
    obtain ⟨e1, _, _⟩ := ev_ok st h1
    obtain ⟨f1, _, _⟩ := ev_ok st h2
    simp only [makeS, Option.bind_eq_some_iff] at h
    obtain ⟨i, hi, te, hte, ei, hei, k, hk, ⟨kl, l, cl⟩, hl, ⟨kc, c, cc⟩, hc, h⟩ := h
    have hq0 := cond_some h
    clear h
    rcases hq0 with ⟨ec, h⟩ | ⟨ec, h⟩
    · cases h
      simp only [Bool.and_eq_true] at ec
      obtain ⟨⟨c1, c2⟩, c3⟩ := ec
      have c1 := Nat.eq_of_beq_eq_true c1
      have c2 := Nat.le_of_ble_eq_true c2
      have c3 := isZero1_ok c3
      have g0 : 0 ≤ l := hp _ (by simp)
      have g1 : l ≤ c := hp (l ≤ c) (by simp)
      have g2 : c ≤ (most : Nat) := hp (c ≤ (most : Nat)) (by simp)
      have hu := slD_ok (hT t i hi) hte
      obtain ⟨it, z, i1, i2, i3, i4, i5, _⟩ := (hT te ei hei).info
      rw [asI_ok hl ρ] at e1
      rw [asI_ok hc ρ] at f1
      have hby : (it.bytes : Int) * c ≤ 281474976710656 := by
        have h1 : (it.bytes : Int) * c ≤ 1024 * c := Int.mul_le_mul_of_nonneg_right (by omega) (by omega)
        unfold most at g2
        omega
      have hz : z.cells = #[.int k 0] := by apply Array.ext'; rw [i5, c3]; rfl
      have hcells : madeCells z.cells (c.toNat * it.size) = (intCells k l.toNat (List.replicate l.toNat 0) ++ List.replicate (c.toNat - l.toNat) (Value.int k 0)).toArray := by
        rw [i2, c1, hz]
        apply Array.ext'
        apply List.ext_getElem?
        intro j
        by_cases hj : j < l.toNat
        · rw [List.getElem?_append_left (by simp [intCells_length]; omega), intCells_get _ _ _ _ hj]
          have : j < c.toNat := by omega
          simp [madeCells, this, Nat.mod_one, List.getD, hj]
        · by_cases hj2 : j < c.toNat
          · rw [List.getElem?_append_right (by simp [intCells_length]; omega), intCells_length]
            have : j - l.toNat < c.toNat - l.toNat := by omega
            simp [madeCells, hj2, Nat.mod_one, List.getElem?_replicate, this]
          · rw [List.getElem?_eq_none (by simp [madeCells]; omega), List.getElem?_eq_none (by simp [intCells_length]; omega)]
      have hr := run_make (P := P) w t te it z hu i1 i4 kl kc l c g0 g1 hby (by unfold most at g2; omega)
      rw [hcells] at hr
      have hcs : CellsOK ρ [.ints k l.toNat (List.replicate l.toNat 0)] (intCells k l.toNat (List.replicate l.toNat 0)) := ⟨[], by simp, rfl⟩
      refine ⟨ext ρ b (w.heap.size, c.toNat), w.alloc (.cells (intCells k l.toNat (List.replicate l.toNat 0) ++ List.replicate (c.toNat - l.toNat) (Value.int k 0)).toArray te), ?_, ?_, fun j hj => ext_off _ _ _ j (by rcases hj with h | h; exact h; simp [hop, isNew] at h), ?_, fun h => by cases h⟩
      · simp only [execOp, hop, e1, f1, Sem.run_bind, hr, Result.andThen_ok, den, ext_new]
        simp [listV]
      · simp only [putsL]
        by_cases h0 : c.toNat = 0
        · have hl0 : l.toNat = 0 := by omega
          have hoff := ext_off ρ b (w.heap.size, c.toNat)
          refine st.mem.gen (b := b) (by simp) (st.mem.frame.trans ⟨rfl, rfl, rfl, by simp, fun b hb _ => Below.heap_alloc _ _ _ hb⟩) hoff (fun i r hib hi => ?_) (fun r hi => ?_)
          · rw [List.getElem?_set_ne (by omega)] at hi
            exact ⟨hi, hfree.off i r hi, fun hh => Below.heap_alloc _ _ _ (st.mem.lt hi hh)⟩
          · rw [List.getElem?_set_self hfree.lt] at hi
            cases hi
            have hno : ¬ Has (ext ρ b (w.heap.size, c.toNat)) b ⟨te, [.ints k l.toNat (List.replicate l.toNat 0)], 1⟩ := by unfold Has; rw [ext_new]; simp; omega
            exact ⟨.inr ⟨hno, ⟨[], by simp [hl0, intCells], rfl⟩⟩, ⟨trivial, trivial⟩, fun h => absurd h hno⟩
        · refine st.mem.fill hfree (r := ⟨te, [.ints k l.toNat (List.replicate l.toNat 0)], 1⟩) (.inl rfl) (l := intCells k l.toNat (List.replicate l.toNat 0)) (rest := List.replicate (c.toNat - l.toNat) (Value.int k 0)) (cap := c.toNat) (by simp) hcs ⟨trivial, trivial⟩ rfl (fun h => by simp at h) (fun _ => by simp [intCells_length]; omega) (fun _ => h0)
      · exact hfree.lt
    · cases h
  · rename_i x y t u hop
    have hfree := hb (by rw [hop]; rfl)
    have hq0 := cond_some h
    clear h
    rcases hq0 with ⟨eu, h⟩ | ⟨eu, h⟩
    · have hu := appTy_ok hT eu
      simp only [Option.bind_eq_some_iff] at h
      obtain ⟨x', h1, y', h2, h⟩ := h
      obtain ⟨e1, ox, nx⟩ := ev_ok st h1
      obtain ⟨f1, oy, ny⟩ := ev_ok st h2
      simp only [appendS, Option.bind_eq_some_iff] at h
      obtain ⟨i, hi, te, hte, ei, hei, h⟩ := h
      have ht := slD_ok (hT t i hi) hte
      have hq0 := cond_some h
      clear h
      rcases hq0 with ⟨ec, h⟩ | ⟨ec, h⟩
      · simp only [Bool.and_eq_true] at ec
        obtain ⟨⟨c1, c2⟩, c3⟩ := ec
        have c1 := Nat.le_of_ble_eq_true c1
        have c2 : 0 < ei.size := Nat.le_of_ble_eq_true c2
        have c3 := Nat.eq_of_beq_eq_true c3
        have fin : ∀ (ρ' : Num) (w' : World) (v : SV) (pl : List (Nat × Option Row)), (Builtin.append_ #[t, u] o.type #[den ρ x', den ρ y']).run P w = .ok (den ρ' v) w' → MemOK W F ρ' (putsL pl s.rows) w' → (∀ j, j ≠ b → ρ' j = ρ j) → (∃ n z, v = .on b n z) →
            ∃ (ρ' : Num) (w' : World), (execOp a.eval o).run P w = .ok (.value (den ρ' v)) w' ∧ MemOK W F ρ' (putsL pl s.rows) w' ∧ (∀ j, j ≠ b ∨ isNew o.op = false → ρ' j = ρ j) ∧ okd W F s.rows.length v ∧ v ≠ .top := by
          rintro ρ' w' v pl hr hm hoff ⟨n, z, rfl⟩
          refine ⟨ρ', w', ?_, hm, fun j hj => hoff j (by rcases hj with h | h; exact h; simp [hop, isNew] at h), hfree.lt, fun h => by cases h⟩
          simp only [execOp, hop, resolve, invoke, builtin, Sem.run_bind, Sem.run_pure, Result.andThen_ok, List.map_toArray, List.map_cons, List.map_nil, e1, f1, hr]
        split at h
        · rename_i k hk
          have hq0 := beq_some h
          clear h
          rcases hq0 with ⟨es, h⟩ | ⟨es, h⟩
          · simp only [Option.bind_eq_some_iff] at h
            obtain ⟨⟨p2, m, ys⟩, hq, h⟩ := h
            have hp2 : ∀ {l : List Prop}, All (p2 ++ l) → All p2 := fun hl p hp => hl p (by simp [hp])
            split at h
            · rename_i v
              have hq0 := cond_some h
              clear h
              rcases hq0 with ⟨ev, h⟩ | ⟨ev, h⟩
              · cases h
                have hv : v = .slice none 0 0 := by
                  unfold isNilSlice at ev
                  split at ev
                  · rfl
                  · cases ev
                subst hv
                obtain ⟨l1, g⟩ := gives_ints st.mem hq (hp2 hp) oy
                rw [← es] at g
                obtain ⟨ρ', w', r1, r2, r3⟩ := app_nil (ty := o.type) hT st.mem ht hu hei c1 c2 c3 g hfree (cs := [.ints k m ys]) ⟨[], by simp, rfl⟩ ⟨trivial, trivial⟩ rfl (hp (m ≤ most) (by simp))
                rw [es] at r2
                exact fin ρ' w' _ _ r1 r2 r3 ⟨_, _, rfl⟩
              · cases h
            · rename_i j len z
              simp only [Option.bind_eq_some_iff] at h
              obtain ⟨r, hr, ⟨k2, n, xs⟩, hpi, h⟩ := h
              have hq0 := cond_some h
              clear h
              rcases hq0 with ⟨ek, h⟩ | ⟨ek, h⟩
              · cases h
                simp only [Bool.and_eq_true, decide_eq_true_eq] at ek
                obtain ⟨⟨rfl, k3⟩, k4⟩ := ek
                have k3 := Nat.eq_of_beq_eq_true k3
                have l2 : len = n := hp (len = n) (by simp)
                have l3 : xs.length = n := hp (xs.length = n) (by simp)
                have l4 : n + m ≤ most := hp (n + m ≤ most) (by simp)
                subst l2
                obtain ⟨l1, g⟩ := gives_ints st.mem hq (hp2 hp) oy
                rw [← es] at g
                have hop1 := onePiece_ok hpi
                obtain ⟨ρ', w', r1, r2, r3⟩ := app_on (ty := o.type) (z0 := z) (len := len) hT st.mem ht hu hei c1 c2 c3 hr (by omega) k4 (by rw [hop1, es]; simp [widthL, width]) g hfree (cs := [.ints k2 (len + m) (xs ++ ys)]) (by
                  rw [hop1]
                  rintro l ⟨tl, rfl, htl⟩
                  have : tl = [] := htl
                  subst this
                  refine ⟨[], ?_, rfl⟩
                  have h1 := intCells_map k2 (xs ++ ys)
                  rw [List.length_append, l3, l1] at h1
                  have h2 := intCells_map k2 xs
                  rw [l3] at h2
                  have h3 := intCells_map k2 ys
                  rw [l1] at h3
                  simp [h1, h2, h3]) ⟨trivial, trivial⟩ rfl l4
                rw [es] at r2
                exact fin ρ' w' _ [(j, none), (b, _)] r1 r2 r3 ⟨_, _, rfl⟩
              · cases h
            · cases h
          · cases h
        · simp only [Option.bind_eq_some_iff] at h
          obtain ⟨⟨m, cs⟩, hq, h⟩ := h
          split at h
          · rename_i v
            have hq0 := cond_some h
            clear h
            rcases hq0 with ⟨ev, h⟩ | ⟨ev, h⟩
            · cases h
              simp only [Bool.and_eq_true] at ev
              have hv : v = .slice none 0 0 := by
                have ev := ev.1
                unfold isNilSlice at ev
                split at ev
                · rfl
                · cases ev
              subst hv
              obtain ⟨g, g2, g3⟩ := gives_cells st.mem hq ev.2 c2
              obtain ⟨ρ', w', r1, r2, r3⟩ := app_nil (ty := o.type) hT st.mem ht hu hei c1 c2 c3 g hfree (cs := cs) (CellsOK.of_cellsL ρ cs) g2 (g3 b hfree.off) (hp (m ≤ most) (by simp))
              exact fin ρ' w' _ _ r1 r2 r3 ⟨_, _, rfl⟩
            · cases h
          · rename_i j len z
            simp only [Option.bind_eq_some_iff] at h
            obtain ⟨r, hr, h⟩ := h
            have hq0 := cond_some h
            clear h
            rcases hq0 with ⟨ek, h⟩ | ⟨ek, h⟩
            · cases h
              simp only [Bool.and_eq_true, decide_eq_true_eq] at ek
              obtain ⟨⟨⟨k1, k2⟩, k3⟩, k4⟩ := ek
              have k2 := Nat.eq_of_beq_eq_true k2
              have k4 := Nat.eq_of_beq_eq_true k4
              have l4 : len + m ≤ most := hp (len + m ≤ most) (by simp)
              obtain ⟨g, g2, g3⟩ := gives_cells st.mem hq k1 c2
              obtain ⟨_, _, o3, _⟩ := rowOf_ok st.mem hr
              obtain ⟨ρ', w', r1, r2, r3⟩ := app_on (ty := o.type) (z0 := z) (len := len) hT st.mem ht hu hei c1 c2 c3 hr k2 k3 k4.symm g hfree (cs := r.cs ++ cs) (fun l hl => hl.append (CellsOK.of_cellsL ρ cs)) (okdL_append o3 g2) (noML_append (hfree.off _ _ (rowOf_get hr)) (g3 b hfree.off)) l4
              exact fin ρ' w' _ [(j, none), (b, _)] r1 r2 r3 ⟨_, _, rfl⟩
            · cases h
          · cases h
      · cases h
    · cases h
  · rename_i x y t us hop
    have hnn : isNew o.op = false := by rw [hop]; rfl
    simp only [Option.bind_eq_some_iff] at h
    obtain ⟨x', h1, y', h2, h⟩ := h
    obtain ⟨e1, ox, nx⟩ := ev_ok st h1
    obtain ⟨f1, oy, ny⟩ := ev_ok st h2
    simp only [copyS, Option.bind_eq_some_iff] at h
    obtain ⟨i, hi, te, hte, ei, hei, k, hk, h⟩ := h
    have ht := slD_ok (hT t i hi) hte
    have hq0 := beq_some h
    clear h
    rcases hq0 with ⟨es, h⟩ | ⟨es, h⟩
    · simp only [Option.bind_eq_some_iff, Option.map_eq_some_iff] at h
      obtain ⟨⟨p2, m, ys⟩, hq, len, hlen, ⟨p3, c, r'⟩, hlay, h⟩ := h
      cases h
      obtain ⟨l1, l2, _⟩ := sliceInts_ok st.mem hq (fun p hh => hp p (by simp [hh])) oy
      obtain ⟨base, cap, w', g1, g2, g3, g4⟩ := layInts_ok st.mem hlay (fun p hh => hp p (by simp [hh])) hlen
      refine ⟨ρ, w', ?_, g3, fun _ _ => rfl, trivial, fun h => by cases h⟩
      have hmin : Nat.min m len ≤ m := Nat.min_le_left _ _
      have hf := l2.first (P := P) l1 hmin (w' := w) (fun _ _ h => h)
      have hys : (ys.take len).map (Value.int k) = intCells k (Nat.min m len) ys := by
        have h5 := intCells_map k (ys.take len)
        rw [← h5]
        have h6 : (ys.take len).length = Nat.min m len := by rw [List.length_take, l1, Nat.min_comm]
        rw [h6]
        apply List.ext_getElem?
        intro j
        by_cases hj : j < Nat.min m len
        · rw [intCells_get _ _ _ _ hj, intCells_get _ _ _ _ hj]
          have : j < len := Nat.lt_of_lt_of_le hj (Nat.min_le_right _ _)
          simp [List.getD, this]
        · rw [List.getElem?_eq_none (by simp only [intCells_length]; omega), List.getElem?_eq_none (by simp only [intCells_length]; omega)]
      rw [hys] at g2
      have hl := l2.lenOf (P := P) w
      have ts := (hT te ei hei).run_size w
      rw [es] at ts
      have hcopy : (Builtin.copy_ (t :: us).toArray o.type #[den ρ x', den ρ y']).run P w = .ok (goInt (Nat.min m len)) w' := by
        simp only [Builtin.copy_, List.getElem?_toArray, List.getElem?_cons_zero, g1]
        simp only [Sem.run_bind, run_underlying ht, Result.andThen_ok, hl, ts, hf, List.getElem?_cons_succ, List.getElem?_cons_zero]
        cases base with
        | none => simp at g2; subst g2; simp
        | some ad =>
          have g5 : (storeCells ad (intCells k (Nat.min m len) ys)).run P w = .ok () w' := g2
          simp [g5]
      simp only [execOp, hop, resolve, invoke, builtin, Sem.run_bind, Sem.run_pure, Result.andThen_ok, List.map_toArray, List.map_cons, List.map_nil, e1, f1, hcopy]
      simp [den, goInt]
    · cases h
  · rename_i x t hop
    simp only [Option.bind_eq_some_iff] at h
    obtain ⟨x', h1, h⟩ := h
    obtain ⟨e1, ox, nx⟩ := ev_ok st h1
    simp only [clearS, Option.bind_eq_some_iff] at h
    obtain ⟨i, hi, te, hte, ei, hei, k, hk, h⟩ := h
    have ht := slD_ok (hT t i hi) hte
    have hq0 := cond_some h
    clear h
    rcases hq0 with ⟨ez, h⟩ | ⟨ez, h⟩
    · simp only [Bool.and_eq_true] at ez
      have es := Nat.eq_of_beq_eq_true ez.1
      have hz0 := isZero1_ok ez.2
      simp only [Option.bind_eq_some_iff, Option.map_eq_some_iff] at h
      obtain ⟨len, hlen, ⟨p3, c, r'⟩, hlay, h⟩ := h
      cases h
      obtain ⟨base, cap, w', g1, g2, g3, g4⟩ := layInts_ok (P := P) st.mem hlay hp hlen
      obtain ⟨it, z, i1, i2, i3, i4, i5, _⟩ := (hT te ei hei).info
      have hz : z.cells = #[.int k 0] := by apply Array.ext'; rw [i5, hz0]; rfl
      have hzc : (Builtin.zeroCells z.cells len).toList = (List.replicate len 0).map (Value.int k) := by
        rw [hz]
        apply List.ext_getElem?
        intro j
        by_cases hj : j < len
        · simp [Builtin.zeroCells, Nat.mod_one, hj]
        · rw [List.getElem?_eq_none (by simp [Builtin.zeroCells]; omega), List.getElem?_eq_none (by simp; omega)]
      have hclear : (Builtin.clear_ #[t] o.type #[den ρ x']).run P w = .ok (.tuple #[]) w' := by
        rw [g1]
        cases base with
        | none =>
          have g5 : (pure () : Sem Unit).run P w = .ok () w' := g2
          simp at g5; subst g5
          simp [Builtin.clear_, run_underlying ht]
        | some ad =>
          have g5 : (storeCells ad ((List.replicate len 0).map (Value.int k))).run P w = .ok () w' := g2
          cases len with
          | zero =>
            simp [storeCells] at g5
            subst g5
            simp [Builtin.clear_, run_underlying ht]
          | succ n =>
            rw [← hzc] at g5
            simp [Builtin.clear_, run_underlying ht, zeroValue, typeInfo, i1, i4, g5]
      refine ⟨ρ, w', ?_, g3, fun _ _ => rfl, trivial, fun h => by cases h⟩
      simp only [execOp, hop, resolve, invoke, builtin, Sem.run_bind, Sem.run_pure, Result.andThen_ok, List.map_toArray, List.map_cons, List.map_nil, e1, hclear]
      simp [den, denL]
    · cases h
  · cases h

theorem plainL_noML {b : Nat} : ∀ {l : List SV}, plainL l = true → noML b l = true
  | [], _ => rfl
  | c :: r, h => by
    simp only [plainL, Bool.and_eq_true] at h
    simp only [noML, Bool.and_eq_true]
    exact ⟨by cases c <;> first | rfl | simp [plain] at h, plainL_noML h.2⟩
theorem ev_noM {tm : List (Nat × SV)} {b : Nat} (hb : ∀ d sv, tm.lookup d = some sv → sv = .top ∨ noM b sv = true) {x : Operand} {v : SV} (h : ev tm x = some v) : noM b v = true := by
  cases x with
  | tmp t =>
    simp only [ev] at h
    cases hl : tm.lookup t with
    | none => simp [hl] at h
    | some sv =>
      have hne : sv ≠ .top := by rintro rfl; simp [hl] at h
      have hv : sv = v := by
        rw [hl] at h
        cases sv <;> first | exact (Option.some.inj h) | exact absurd rfl hne
      subst hv
      rcases hb t sv hl with h | h
      · exact absurd h hne
      · exact h
  | const u => simp [ev] at h; subst h; cases u <;> rfl
  | global g => simp [ev] at h; subst h; rfl
  | func f => simp [ev] at h; subst h; rfl
theorem valueCells_noM {b : Nat} {v : SV} {l : List SV} (h : valueCells v = some l) (hv : noM b v = true) : noML b l = true := by
  cases v <;> simp only [valueCells] at h <;> first
    | (rcases cond_some h with ⟨e, h⟩ | ⟨e, h⟩
       · cases h; first | exact hv | (simp only [noML, hv]; rfl)
       · cases h)
    | cases h
theorem overC_noML {b : Nat} {l new l' : List SV} {o m : Nat} (h : overC l o m new = some l') (hl : noML b l = true) (hn : noML b new = true) : noML b l' = true := by
  unfold overC at h
  split at h
  · rename_i x y h1 h2
    cases h
    exact noML_append (noML_append (noML_takeC hl h1) hn) (noML_dropC hl h2)
  · cases h
theorem setIn_noML {b : Nat} : ∀ {l : List SV} {o : Nat} {k : IntKind} {v : Int} {ps : List Prop} {l' : List SV}, setIn l o k v = some (ps, l') → noML b l = true → noML b l' = true
  | [], o, k, v, ps, l', h, ht => by simp [setIn] at h
  | c :: r, o, k, v, ps, l', h, ht => by
    simp only [noML, Bool.and_eq_true] at ht
    cases c <;> simp only [setIn] at h <;> first
      | (rcases beq_some h with ⟨e, h⟩ | ⟨e, h⟩
         · cases h
         · simp only [Option.map_eq_some_iff] at h
           obtain ⟨⟨p2, l2⟩, h9, hy⟩ := h
           cases hy
           simp only [noML, Bool.and_eq_true]
           exact ⟨ht.1, setIn_noML h9 ht.2⟩)
      | (rcases cond_some h with ⟨e, h⟩ | ⟨e, h⟩
         · rcases cond_some h with ⟨e2, h⟩ | ⟨e2, h⟩
           · cases h; simp only [noML, Bool.and_eq_true]; exact ⟨rfl, ht.2⟩
           · cases h
         · simp only [Option.map_eq_some_iff] at h
           obtain ⟨⟨p2, l2⟩, h9, hy⟩ := h
           cases hy
           simp only [noML, Bool.and_eq_true]; exact ⟨rfl, setIn_noML h9 ht.2⟩)
theorem layC_noML {b : Nat} {l new l' : List SV} {o m : Nat} (h : layC l o m new = some l') (hl : noML b l = true) (hn : noML b new = true) : noML b l' = true := by
  unfold layC at h
  split at h
  · rename_i c hc
    cases h
    exact overC_noML hc hl hn
  · split at h
    · simp only [Option.bind_eq_some_iff] at h
      obtain ⟨q, hq, h⟩ := h
      rcases beq_some h with ⟨e, h⟩ | ⟨e, h⟩
      · obtain ⟨ps, h1, _⟩ := setD_ok h
        exact setIn_noML h1 hl
      · cases h
    · cases h
theorem fillC_noML {b : Nat} {place : Nat → Option (Nat × Nat)} : ∀ {ps : List (Nat × SV)} {l l' : List SV}, fillC place l ps = some l' → noML b l = true → (∀ p ∈ ps, noM b p.2 = true) → noML b l' = true
  | [], l, l', h, hl, _ => by simp [fillC] at h; subst h; exact hl
  | (i, v) :: r, l, l', h, hl, hp => by
    simp only [fillC] at h
    split at h
    · cases h
    · simp only [Option.bind_eq_some_iff] at h
      obtain ⟨new, hv, h⟩ := h
      rcases beq_some h with ⟨e, h⟩ | ⟨e, h⟩
      · simp only [Option.bind_eq_some_iff] at h
        obtain ⟨c, hc, h⟩ := h
        exact fillC_noML h (layC_noML hc hl (valueCells_noM hv (hp (i, v) (by simp)))) (fun p hq => hp p (by simp [hq]))
      · cases h
theorem zerosL_noML {b : Nat} (n : Nat) {z : List SV} (h : noML b z = true) : noML b (zerosL n z) = true := by
  induction n with
  | zero => rfl
  | succ n ih => exact noML_append h ih
theorem evP_noM {tm : List (Nat × SV)} {b : Nat} (hb : ∀ d sv, tm.lookup d = some sv → sv = .top ∨ noM b sv = true) : ∀ {xs : List (Nat × Operand)} {vs : List (Nat × SV)}, evP tm xs = some vs → ∀ p ∈ vs, noM b p.2 = true
  | [], vs, h => by simp [evP] at h; subst h; intro p hp; cases hp
  | (i, x) :: xs, vs, h => by
    simp only [evP] at h
    split at h
    · rename_i v us h1 h2
      cases h
      intro p hp
      rcases List.mem_cons.1 hp with rfl | hp
      · exact ev_noM hb h1
      · exact evP_noM hb h2 p hp
    · cases h
theorem newOp_noML (hT : TabOK P T) {op : Op} {b : Nat} {mk : Nat → SV} {r : Row} (h : newOp T s op = some (mk, r)) (hb : ∀ d sv, s.tm.lookup d = some sv → sv = .top ∨ noM b sv = true) : noML b r.cs = true := by
  cases op <;> simp only [newOp, reduceCtorEq] at h
  case alloc t =>
    simp only [Option.map_eq_some_iff] at h
    obtain ⟨i, hi, h⟩ := h
    cases h
    exact plainL_noML (hT t i hi).zero
  case box t x =>
    simp only [Option.bind_eq_some_iff, Option.map_eq_some_iff] at h
    obtain ⟨u, h1, l, h2, h⟩ := h
    cases h
    exact valueCells_noM h2 (ev_noM hb h1)
  case buildSlice t len parts =>
    simp only [Option.bind_eq_some_iff] at h
    obtain ⟨i, hi, e, he, ei, hei, ps', hps, h⟩ := h
    rcases cond_some h with ⟨ec, h⟩ | ⟨ec, h⟩
    · simp only [Option.map_eq_some_iff] at h
      obtain ⟨l, hl, h⟩ := h
      cases h
      exact fillC_noML hl (zerosL_noML _ (plainL_noML (hT e ei hei).zero)) (evP_noM hb hps)
    · cases h

/-- What an operation that makes or writes rows leads to. -/
theorem effOp_ok (hT : TabOK P T) (st : Sat W F nt ρ s a w) {o : Oper} {b : Nat} {e : Eff} (h : effOp T s b o.op = some e) (hp : All e.ps) (hb : isNew o.op = true → Free s.rows b) (hbm : isNew o.op = true → ∀ d sv, s.tm.lookup d = some sv → sv = .top ∨ noM b sv = true) :
    ∃ (ρ' : Num) (w' : World), (∀ (K : Act → World → Prop) (Q : Exit → Act → World → Prop), K (a.put o.dst (den ρ' e.v)) w' → o.wp P a w K Q) ∧ MemOK W F ρ' (putsL e.puts s.rows) w' ∧ (∀ j, j ≠ b ∨ isNew o.op = false → ρ' j = ρ j) ∧ okd W F s.rows.length e.v ∧ e.v ≠ .top := by
  unfold effOp at h
  split at h
  · rename_i mk r hn
    cases h
    have hnew : isNew o.op = true := by
      cases hop : o.op <;> first | rfl | (simp [hop, newOp] at hn)
    have hfree := hb hnew
    obtain ⟨⟨c, c1, c2, c3, c4⟩, c5⟩ := newOp_ok hT st hn
    have hnm : noML b r.cs = true := newOp_noML hT hn (hbm hnew)
    refine ⟨ext ρ b (w.heap.size, 0), w.alloc (.cells c r.ty), fun K Q hK => ?_, ?_, fun j hj => ext_off _ _ _ j (by rcases hj with h | h; exact h; rw [hnew] at h; cases h), (c5 b _ hfree.lt).1, (c5 b _ hfree.lt).2⟩
    · unfold Oper.wp
      rw [c4 b (ext ρ b (w.heap.size, 0)) (by rw [ext_new])]
      exact hK
    · exact st.mem.fill hfree (.inl rfl) (l := c.toList) (rest := []) (by simp) c1 c2 hnm (fun _ => rfl) (fun h => absurd c3 h) (fun h => absurd c3 h)
  · split at h
    · rename_i ps c r hs
      cases h
      obtain ⟨w', g1, g2⟩ := storeOp_ok hT st hs hp
      refine ⟨ρ, w', fun K Q hK => ?_, g2, fun _ _ => rfl, trivial, fun h => by cases h⟩
      unfold Oper.wp
      rw [g1]
      exact hK
    · obtain ⟨ρ', w', g1, g2, g3, g4, g5⟩ := listOp_ok hT st h hp hb
      refine ⟨ρ', w', fun K Q hK => ?_, g2, g3, g4, g5⟩
      unfold Oper.wp
      rw [g1]
      exact hK
end Sx
end Go.Proofs.Ytmmejomalfjcnaa
