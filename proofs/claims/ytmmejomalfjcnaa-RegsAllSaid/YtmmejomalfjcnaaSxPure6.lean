/- The operations that leave the memory alone do what the executor says. No condition. -/
import Derived.Test.YtmmejomalfjcnaaSxCut
namespace Go.Proofs.Ytmmejomalfjcnaa
open Go.RowKit
set_option linter.unusedVariables false
set_option linter.unusedSimpArgs false
namespace Sx
variable {P : Program} {T : Tab} {W : World} {F : Nat → Prop} {nt : Nat} {ρ : Num} {s : SS} {a : Act} {w : World}

theorem take_set_last : ∀ (l : List Value) (n : Nat) (v : Value), n < l.length → (l.take (n + 1)).set n v = l.take n ++ [v]
  | [], n, v, h => by simp at h
  | x :: l, 0, v, h => by simp
  | x :: l, n + 1, v, h => by simpa using take_set_last l n v (by simpa using h)

theorem foldl_set (off : Nat) : ∀ (vs : List Value) (k : Nat) (cells : Array Value), off + k + vs.length ≤ cells.size →
    ((vs.zipIdx k).foldl (fun (cs : Array Value) (p : Value × Nat) => cs.setIfInBounds (off + p.2) p.1) cells).toList = cells.toList.take (off + k) ++ vs ++ cells.toList.drop (off + k + vs.length)
  | [], k, cells, h => by simp
  | v :: vs, k, cells, h => by
    simp only [List.zipIdx_cons, List.foldl_cons]
    rw [foldl_set off vs (k + 1) _ (by simp at h ⊢; omega)]
    simp at h
    have h1 : off + k < cells.size := by omega
    have h1' : cells.toList.length = cells.size := by simp
    simp only [Array.toList_setIfInBounds, List.length_cons]
    rw [List.take_set, List.drop_set_of_lt (by omega)]
    have e1 : (cells.toList.take (off + (k + 1))).set (off + k) v = cells.toList.take (off + k) ++ [v] := take_set_last _ _ _ (by rw [h1']; exact h1)
    rw [e1]
    simp only [List.append_assoc, List.singleton_append, List.cons_append]
    rw [show off + (k + 1) + vs.length = off + k + (vs.length + 1) by omega]
    simp

theorem cellsL_append (x y : List SV) : cellsL ρ (x ++ y) = cellsL ρ x ++ cellsL ρ y := by
  induction x with
  | nil => rfl
  | cons c x ih => cases c <;> simp_all [cellsL]
theorem noTop_append : ∀ {x y : List SV}, noTop x = true → noTop y = true → noTop (x ++ y) = true
  | [], y, _, h => h
  | c :: x, y, h, k => by cases c <;> simp_all [noTop, noTop_append (x := x) (y := y)]
theorem cellsB_noTop : ∀ {l : List SV}, cellsB l = true → noTop l = true
  | [], _ => rfl
  | c :: r, h => by
    simp [cellsB] at h
    have := cellsB_noTop h.2
    cases c <;> simp_all [noTop, cellB]
theorem noTop_takeC : ∀ {l l' : List SV} {o : Nat}, noTop l = true → takeC l o = some l' → noTop l' = true
  | [], l', o, h, hv => by
    simp only [takeC] at hv
    rcases beq_some hv with ⟨e, hx⟩ | ⟨e, hx⟩ <;> cases hx; rfl
  | c :: r, l', o, h, hv => by
    have hr : noTop r = true := by cases c <;> simp_all [noTop]
    cases c <;> simp only [takeC] at hv <;> rcases beq_some hv with ⟨e, hx⟩ | ⟨e, hx⟩ <;> first
      | (cases hx; rfl)
      | (simp [noTop] at h; done)
      | (rcases ble_some hx with ⟨e2, hy⟩ | ⟨e2, hy⟩
         · simp only [Option.map_eq_some_iff] at hy
           obtain ⟨l2, hz, rfl⟩ := hy
           simpa [noTop] using noTop_takeC hr hz
         · cases hy)
      | (simp only [Option.map_eq_some_iff] at hx
         obtain ⟨l2, hz, rfl⟩ := hx
         simpa [noTop] using noTop_takeC hr hz)
theorem noTop_dropC : ∀ {l l' : List SV} {o : Nat}, noTop l = true → dropC l o = some l' → noTop l' = true
  | [], l', o, h, hv => by
    simp only [dropC] at hv
    rcases beq_some hv with ⟨e, hx⟩ | ⟨e, hx⟩ <;> cases hx; rfl
  | c :: r, l', o, h, hv => by
    have hr : noTop r = true := by cases c <;> simp_all [noTop]
    cases c <;> simp only [dropC] at hv <;> rcases beq_some hv with ⟨e, hx⟩ | ⟨e, hx⟩ <;> first
      | (cases hx; exact h)
      | (simp [noTop] at h; done)
      | (rcases ble_some hx with ⟨e2, hy⟩ | ⟨e2, hy⟩
         · exact noTop_dropC hr hy
         · cases hy)
      | exact noTop_dropC hr hx

theorem overC_ok {l new l' : List SV} {o m : Nat} (h : overC l o m new = some l') (hw : (cellsL ρ new).length = m) (ht : noTop l = true) (hn : noTop new = true) :
    cellsL ρ l' = (cellsL ρ l).take o ++ cellsL ρ new ++ (cellsL ρ l).drop (o + m) ∧ o + m ≤ (cellsL ρ l).length ∧ noTop l' = true := by
  unfold overC at h
  split at h
  · rename_i x y h1 h2
    cases h
    obtain ⟨t1, t2⟩ := takeC_ok (CellsOK.of_cellsL ρ l) h1
    obtain ⟨d1, d2⟩ := dropC_ok (CellsOK.of_cellsL ρ l) h2
    have n1 := noTop_takeC ht h1
    have n2 := noTop_dropC ht h2
    rw [cellsL_append, cellsL_append, ← t1.noTop n1, ← d1.noTop n2]
    exact ⟨rfl, d2, noTop_append (noTop_append n1 hn) n2⟩
  · cases h
theorem overC_okd {l new l' : List SV} {o m n : Nat} (h : overC l o m new = some l') (ho : okdL W F n l) (hn : okdL W F n new) : okdL W F n l' := by
  unfold overC at h
  split at h
  · rename_i x y h1 h2
    cases h
    exact okdL_append (okdL_append (okdL_takeC ho h1) hn) (okdL_dropC ho h2)
  · cases h
theorem widthL_cells : ∀ (l : List SV), (cellsL ρ l).length = widthL l := fun l => (CellsOK.of_cellsL ρ l).length

theorem intCells_set {k : IntKind} {n : Nat} {xs : List Int} {o : Nat} {v : Int} (hl : xs.length = n) (ho : o < n) : intCells k n (xs.set o v) = (intCells k n xs).set o (.int k v) := by
  apply List.ext_getElem?
  intro j
  by_cases hj : j < n
  · rw [intCells_get _ _ _ _ hj]
    by_cases hjo : j = o
    · subst hjo
      rw [List.getElem?_set_self (by simp [intCells_length]; exact hj)]
      simp [List.getD, List.getElem?_set_self (show j < xs.length by omega)]
    · rw [List.getElem?_set_ne (by omega), intCells_get _ _ _ _ hj]
      simp [List.getD, List.getElem?_set_ne (show o ≠ j by omega)]
  · rw [List.getElem?_eq_none (by simp [intCells_length]; omega), List.getElem?_eq_none (by simp [intCells_length]; omega)]

theorem setIn_ok : ∀ {l : List SV} {o : Nat} {k : IntKind} {v : Int} {ps : List Prop} {l' : List SV} {vs : List Value} {n : Nat}, setIn l o k v = some (ps, l') → All ps → CellsOK ρ l vs → okdL W F n l →
    CellsOK ρ l' (vs.set o (.int k v)) ∧ o < vs.length ∧ okdL W F n l'
  | [], o, k, v, ps, l', vs, n, h, hp, hc, ho => by simp [setIn] at h
  | c :: r, o, k, v, ps, l', vs, n, h, hp, hc, ho => by
    by_cases hi : ∃ k n xs, c = .ints k n xs
    · obtain ⟨k0, n0, xs, rfl⟩ := hi
      obtain ⟨t, rfl, h2⟩ := hc
      simp only [setIn] at h
      rcases blt_some h with ⟨e, hx⟩ | ⟨e, hx⟩ <;> clear h
      · rcases cond_some hx with ⟨e2, hy⟩ | ⟨e2, hy⟩ <;> clear hx
        · cases hy
          have e2 : k0 = k := by simpa using e2
          subst e2
          have hl : xs.length = n0 := hp _ (by simp)
          refine ⟨⟨t, ?_, h2⟩, by simp [intCells_length]; omega, ⟨trivial, ho.2⟩⟩
          rw [intCells_set hl e, List.set_append_left _ _ (by simp [intCells_length]; exact e)]
        · cases hy
      · simp only [Option.map_eq_some_iff] at hx
        obtain ⟨⟨p2, l2⟩, hx, hy⟩ := hx
        cases hy
        obtain ⟨i1, i2, i3⟩ := setIn_ok hx hp h2 ho.2
        refine ⟨⟨_, ?_, i1⟩, by simp [intCells_length]; omega, ⟨trivial, i3⟩⟩
        rw [List.set_append_right _ _ (by simp [intCells_length]; omega), intCells_length]
    · have e1 : setIn (c :: r) o k v = bif Nat.beq o 0 then none else (setIn r (o - 1) k v).map fun (p, l) => (p, c :: l) := by cases c <;> first | rfl | exact absurd ⟨_, _, _, rfl⟩ hi
      rw [e1] at h
      rcases beq_some h with ⟨e, hx⟩ | ⟨e, hx⟩ <;> clear h
      · cases hx
      · simp only [Option.map_eq_some_iff] at hx
        obtain ⟨⟨p2, l2⟩, hx, hy⟩ := hx
        cases hy
        obtain ⟨m, rfl⟩ : ∃ m, o = m + 1 := ⟨o - 1, by omega⟩
        simp only [Nat.add_sub_cancel] at hx
        cases hs : single c with
        | true =>
          obtain ⟨t, rfl, h2⟩ := hc.one hs
          obtain ⟨i1, i2, i3⟩ := setIn_ok hx hp h2 ho.2
          exact ⟨by simpa using CellsOK.mk_one hs i1, by simp; omega, ho.1, i3⟩
        | false =>
          cases c <;> simp [single] at hs
          · obtain ⟨u, t, rfl, h2⟩ := hc
            obtain ⟨i1, i2, i3⟩ := setIn_ok hx hp h2 ho.2
            exact ⟨⟨u, _, by simp, i1⟩, by simp; omega, ho.1, i3⟩
          · exact absurd ⟨_, _, _, rfl⟩ hi

theorem set_eq_take_drop {α : Type} (l : List α) (o : Nat) (v : α) (h : o < l.length) : l.set o v = l.take o ++ [v] ++ l.drop (o + 1) := by
  rw [List.set_eq_take_append_cons_drop]
  simp [h]

theorem setD_ok : ∀ {l : List SV} {o : Nat} {k : IntKind} {v : Int} {l' : List SV}, setD l o k v = some l' → ∃ ps, setIn l o k v = some (ps, l') ∧ All ps
  | [], o, k, v, l', h => by simp [setD] at h
  | c :: r, o, k, v, l', h => by
    cases c <;> simp only [setD] at h <;> simp only [setIn] <;> first
      | (rcases beq_some h with ⟨e, h⟩ | ⟨e, h⟩
         · cases h
         · simp only [Option.map_eq_some_iff] at h
           obtain ⟨l2, h9, rfl⟩ := h
           obtain ⟨ps, h1, h2⟩ := setD_ok h9
           have : Nat.beq o 0 = false := by cases hq : Nat.beq o 0 with
             | false => rfl
             | true => exact absurd (Nat.eq_of_beq_eq_true hq) e
           exact ⟨ps, by simp [this, h1], h2⟩)
      | (rcases cond_some h with ⟨e, h⟩ | ⟨e, h⟩
         · rcases cond_some h with ⟨e2, h⟩ | ⟨e2, h⟩
           · cases h
             simp only [Bool.and_eq_true] at e2
             refine ⟨_, by rw [e, e2.1]; rfl, fun p hp => ?_⟩
             rcases List.mem_singleton.1 hp with rfl
             exact Nat.eq_of_beq_eq_true e2.2
           · cases h
         · simp only [Option.map_eq_some_iff] at h
           obtain ⟨l2, h9, rfl⟩ := h
           obtain ⟨ps, h1, h2⟩ := setD_ok h9
           exact ⟨ps, by simp [e, h1], h2⟩)
theorem noTop_setIn : ∀ {l : List SV} {o : Nat} {k : IntKind} {v : Int} {ps : List Prop} {l' : List SV}, setIn l o k v = some (ps, l') → noTop l = true → noTop l' = true
  | [], o, k, v, ps, l', h, ht => by simp [setIn] at h
  | c :: r, o, k, v, ps, l', h, ht => by
    have ht2 : noTop r = true := by cases c <;> simp_all [noTop]
    cases c <;> simp only [setIn] at h <;> first
      | (rcases beq_some h with ⟨e, h⟩ | ⟨e, h⟩
         · cases h
         · simp only [Option.map_eq_some_iff] at h
           obtain ⟨⟨p2, l2⟩, h9, hy⟩ := h
           cases hy
           have := noTop_setIn h9 ht2
           first | (simp [noTop] at ht; done) | (simp only [noTop]; exact this))
      | (rcases cond_some h with ⟨e, h⟩ | ⟨e, h⟩
         · rcases cond_some h with ⟨e2, h⟩ | ⟨e2, h⟩
           · cases h; simp only [noTop]; exact ht2
           · cases h
         · simp only [Option.map_eq_some_iff] at h
           obtain ⟨⟨p2, l2⟩, h9, hy⟩ := h
           cases hy
           simp only [noTop]; exact noTop_setIn h9 ht2)
/-- A part laid at its place. -/
theorem layC_ok {l new l' : List SV} {o m n : Nat} (h : layC l o m new = some l') (hw : (cellsL ρ new).length = m) (ht : noTop l = true) (hn : noTop new = true) (hl : okdL W F n l) (ho : okdL W F n new) :
    cellsL ρ l' = (cellsL ρ l).take o ++ cellsL ρ new ++ (cellsL ρ l).drop (o + m) ∧ o + m ≤ (cellsL ρ l).length ∧ noTop l' = true ∧ okdL W F n l' := by
  unfold layC at h
  split at h
  · rename_i c hc
    cases h
    obtain ⟨a1, a2, a3⟩ := overC_ok (ρ := ρ) hc hw ht hn
    exact ⟨a1, a2, a3, overC_okd hc hl ho⟩
  · rename_i hov
    clear hov
    split at h
    · rename_i c
      simp only [Option.bind_eq_some_iff] at h
      obtain ⟨⟨k, x, cl⟩, hq, h⟩ := h
      rcases beq_some h with ⟨e, h⟩ | ⟨e, h⟩
      · obtain ⟨ps, h1, h2⟩ := setD_ok h
        obtain ⟨s1, s2, s3⟩ := setIn_ok h1 h2 (CellsOK.of_cellsL ρ l) hl
        have hs : single c = true := by cases c <;> simp [asI] at hq <;> rfl
        have hc : cellsL ρ [c] = [.int k x] := by rw [cellsL_one hs, asI_ok hq ρ]; rfl
        have ht2 := noTop_setIn h1 ht
        have := s1.noTop ht2
        rw [hc, e, ← this, set_eq_take_drop _ _ _ s2]
        exact ⟨rfl, by omega, ht2, s3⟩
      · cases h
    · cases h

theorem fillC_ok {place : Nat → Option (Nat × Nat)} {n : Nat} : ∀ {ps : List (Nat × SV)} {l l' : List SV}, fillC place l ps = some l' → noTop l = true → okdL W F n l → (∀ p ∈ ps, okd W F n p.2) →
    Instr.fill place (cellsL ρ l).toArray (ps.map fun p => (p.1, den ρ p.2)) = some (cellsL ρ l').toArray ∧ okdL W F n l' ∧ noTop l' = true
  | [], l, l', h, ht, ho, _ => by simp [fillC] at h; subst h; exact ⟨rfl, ho, ht⟩
  | (i, v) :: ps, l, l', h, ht, ho, hp => by
    simp only [fillC] at h
    cases hpl : place i with
    | none => simp [hpl] at h
    | some q =>
      obtain ⟨off, size⟩ := q
      simp only [hpl, Option.bind_eq_some_iff] at h
      obtain ⟨new, hv, h⟩ := h
      rcases beq_some h with ⟨e, h⟩ | ⟨e, h⟩
      · simp only [Option.bind_eq_some_iff] at h
        obtain ⟨c, hc, h⟩ := h
        obtain ⟨v1, v2, v3⟩ := valueCells_ok (ρ := ρ) hv (hp (i, v) (by simp))
        have hlen : (cellsL ρ new).length = size := by rw [widthL_cells, e]
        obtain ⟨o1, o2, o3, o4⟩ := layC_ok (ρ := ρ) hc hlen ht (cellsB_noTop v3) ho v2
        obtain ⟨f1, f2, f3⟩ := fillC_ok h o3 o4 (fun p hq => hp p (by simp [hq]))
        refine ⟨?_, f2, f3⟩
        rw [← f1]
        have hsz : (den ρ v).cells.size = size := by rw [← hlen, ← v1]; simp
        simp only [List.map_cons, Instr.fill, hpl, hsz]
        rw [if_neg (by simp; omega)]
        congr 1
        apply Array.ext'
        have hz : (den ρ v).cells.zipIdx.foldl (fun cs (p : Value × Nat) => cs.setIfInBounds (off + p.2) p.1) (cellsL ρ l).toArray
            = ((cellsL ρ new).zipIdx 0).foldl (fun (cs : Array Value) (p : Value × Nat) => cs.setIfInBounds (off + p.2) p.1) (cellsL ρ l).toArray := by
          rw [← Array.foldl_toList, Array.toList_zipIdx, v1]
        have := foldl_set off (cellsL ρ new) 0 (cellsL ρ l).toArray (by simp; omega)
        simp only [Nat.add_zero] at this
        rw [o1, show off + size = off + (cellsL ρ new).length by rw [hlen]]
        rw [hz, this]
      · cases h

theorem placesL_ok (hT : TabOK P T) : ∀ {fs : List Field} {pl : List (Nat × Nat)}, placesL T (fs.map fun f => (f.offset, f.type)) = some pl → fs.mapM (fun f => (P.info? f.type).map fun i => (f.offset, i.size)) = some pl
  | [], pl, h => by simp [placesL] at h; subst h; rfl
  | f :: fs, pl, h => by
    simp only [List.map_cons, placesL] at h
    cases hi : T.at f.type with
    | none => simp [hi] at h
    | some i =>
      cases hr : placesL T (fs.map fun f => (f.offset, f.type)) with
      | none => simp [hi, hr] at h
      | some l =>
        simp [hi, hr] at h; subst h
        obtain ⟨it, z, h1, h2, _⟩ := (hT _ i hi).info
        have := placesL_ok hT hr
        simp [List.mapM_cons, h1, h2, this]

theorem buildS_ok (hT : TabOK P T) {t : TypeId} {ps : List (Nat × SV)} {v : SV} {m : Nat} (h : buildS T t ps = some v) (ho : ∀ p ∈ ps, okd W F m p.2) :
    ∃ u, (Instr.build t (ps.map fun p => (p.1, den ρ p.2)).toArray).run P w = .ok u w ∧ Good W F ρ m v u := by
  simp only [buildS, Option.bind_eq_some_iff] at h
  obtain ⟨i, hi, h⟩ := h
  have ty := hT t i hi
  obtain ⟨it, z, i1, i2, _, i3, i4, i5⟩ := ty.info
  obtain ⟨d, d1, d2, d3⟩ := ty.desc
  rcases cond_some h with ⟨ea, h⟩ | ⟨ea, h⟩
  · have hz : z.cells = (cellsL ρ i.zero).toArray := by
      apply Array.ext'
      rw [i4]; simpa using plainL_cells _ _ ty.zero
    split at h
    · rename_i fs hd
      simp only [Option.bind_eq_some_iff, Option.map_eq_some_iff] at h
      obtain ⟨pl, hpl, c, hc, rfl⟩ := h
      obtain ⟨f1, f2, f3⟩ := fillC_ok (ρ := ρ) hc (plain_noTop ty.zero) (plainL_okd W F m ty.zero) ho
      rw [hd] at d3
      cases d <;> simp [DescOK] at d3
      subst d3
      refine ⟨_, run_build w t _ (cellsL ρ c).toArray ?_, rfl, f2, fun h => by cases h⟩
      simp only [Program.built, i1, d1, i3, placesL_ok hT hpl, hz]
      simpa using f1
    · rename_i n e hd
      simp only [Option.bind_eq_some_iff, Option.map_eq_some_iff] at h
      obtain ⟨ei, he, c, hc, rfl⟩ := h
      obtain ⟨f1, f2, f3⟩ := fillC_ok (ρ := ρ) hc (plain_noTop ty.zero) (plainL_okd W F m ty.zero) ho
      rw [hd] at d3
      cases d <;> simp [DescOK] at d3
      obtain ⟨rfl, rfl⟩ := d3
      obtain ⟨et, ez, e1, e2, _⟩ := (hT _ ei he).info
      refine ⟨_, run_build w t _ (cellsL ρ c).toArray ?_, rfl, f2, fun h => by cases h⟩
      simp only [Program.built, i1, d1, i3, e1, e2, hz]
      simpa using f1
    · cases h
  · cases h

theorem pickS_ok {c : Bool} {x y v : SV} {m : Nat} (h : pickS c x y = some v) : (if c then den ρ x else den ρ y) = den ρ v ∧ okd W F m v ∧ v ≠ .top := by
  unfold pickS at h
  split at h
  · rename_i p q h1 h2
    cases h
    rw [asB_ok (c := p.2) (b := p.1) h1 ρ, asB_ok (c := q.2) (b := q.1) h2 ρ]
    cases c <;> exact ⟨rfl, trivial, fun h => by cases h⟩
  · split at h
    · rename_i p q h1 h2
      rcases cond_some h with ⟨e, h⟩ | ⟨e, h⟩
      · cases h
        simp at e
        rw [asI_ok (k := p.1) (n := p.2.1) (c := p.2.2) h1 ρ, asI_ok (k := q.1) (n := q.2.1) (c := q.2.2) h2 ρ, ← e]
        cases c <;> exact ⟨rfl, trivial, fun h => by cases h⟩
      · cases h
    · cases h

theorem extractS_ok {x v : SV} {i m : Nat} (h : extractS x i = some v) (ox : okd W F m x) : (Instr.extract (den ρ x) i).run P w = .ok (den ρ v) w ∧ okd W F m v ∧ v ≠ .top := by
  unfold extractS at h
  split at h
  · rename_i vs
    simp only [Option.bind_eq_some_iff] at h
    obtain ⟨u, hu, h⟩ := h
    rcases cond_some h with ⟨e, h⟩ | ⟨e, h⟩
    · cases h
      have hd : (denL ρ vs)[i]? = some (den ρ v) := by rw [denL_eq]; simp [hu]
      have ho : ∀ (l : List SV) (i : Nat), okdL W F m l → l[i]? = some v → okd W F m v := by
        intro l
        induction l with
        | nil => intro i _ h; simp at h
        | cons c l ih =>
          intro i h1 h2
          cases i with
          | zero => simp at h2; subst h2; exact h1.1
          | succ i => exact ih i h1.2 (by simpa using h2)
      exact ⟨by simp [Instr.extract, den, hd], ho vs i ox hu, by rintro rfl; cases e⟩
    · cases h
  · cases h

/-- An operation that leaves the memory alone yields what the executor says. -/
theorem pureOp_ok (hT : TabOK P T) (st : Sat W F nt ρ s a w) {o : Oper} {ps : List Prop} {v : SV} (h : pureOp T s o.op = some (ps, v)) (hp : All ps) :
    ∃ u, (execOp a.eval o).run P w = .ok (.value u) w ∧ Good W F ρ s.rows.length v u := by
  cases hop : o.op <;> simp only [hop, pureOp, reduceCtorEq] at h
  case move x =>
    simp only [Option.map_eq_some_iff] at h
    obtain ⟨v', h1, h⟩ := h; cases h
    obtain ⟨e1, e2, e3⟩ := ev_ok st h1
    exact ⟨_, by simp [execOp, hop], e1, e2, e3⟩
  case assign x =>
    simp only [Option.map_eq_some_iff] at h
    obtain ⟨v', h1, h⟩ := h; cases h
    obtain ⟨e1, e2, e3⟩ := ev_ok st h1
    exact ⟨_, by simp [execOp, hop], e1, e2, e3⟩
  case pick c x y =>
    simp only [Option.bind_eq_some_iff] at h
    obtain ⟨c', h1, ⟨b, cl⟩, h2, h⟩ := h
    obtain ⟨e1, _, _⟩ := ev_ok st h1
    rw [asB_ok h2 ρ] at e1
    rcases cond_some h with ⟨e, h⟩ | ⟨e, h⟩
    · simp only [Option.map_eq_some_iff] at h
      obtain ⟨v', h3, h⟩ := h; cases h
      obtain ⟨f1, f2, f3⟩ := ev_ok st h3
      refine ⟨den ρ v, ?_, rfl, f2, f3⟩
      cases b <;> simp at f1 <;> simp [execOp, hop, e1, asBool, f1]
    · simp only [Option.bind_eq_some_iff, Option.map_eq_some_iff] at h
      obtain ⟨x', hx, y', hy, v', hv, h⟩ := h; cases h
      obtain ⟨f1, _, _⟩ := ev_ok st hx
      obtain ⟨g1, _, _⟩ := ev_ok st hy
      obtain ⟨p1, p2, p3⟩ := pickS_ok (ρ := ρ) (W := W) (F := F) (m := s.rows.length) hv
      refine ⟨den ρ v, ?_, rfl, p2, p3⟩
      rw [← p1]
      cases b <;> simp [execOp, hop, e1, asBool, f1, g1]
  case build t parts =>
    simp only [Option.bind_eq_some_iff, Option.map_eq_some_iff] at h
    obtain ⟨ps', h1, v', h2, h⟩ := h; cases h
    obtain ⟨e1, e2⟩ := evP_ok st h1
    obtain ⟨u, hu, hg⟩ := buildS_ok (W := W) (F := F) (ρ := ρ) (w := w) (m := s.rows.length) hT h2 e2
    refine ⟨u, ?_, hg⟩
    have : (parts.map fun (i, x) => (i, a.eval x)) = (ps'.map fun p => (p.1, den ρ p.2)).toArray := by
      apply Array.ext'
      rw [Array.toList_map, e1]
    simp [execOp, hop, this, hu]
  case load t x =>
    simp only [Option.bind_eq_some_iff] at h
    obtain ⟨x', h1, h⟩ := h
    obtain ⟨e1, e2, _⟩ := ev_ok st h1
    obtain ⟨u, hu, hg⟩ := loadS_ok hT st.mem h hp e2
    exact ⟨u, by simp [execOp, hop, e1, hu], hg⟩
  case binOp op t x y yt =>
    simp only [Option.bind_eq_some_iff] at h
    obtain ⟨x', h1, y', h2, h⟩ := h
    obtain ⟨e1, _, _⟩ := ev_ok st h1
    obtain ⟨f1, _, _⟩ := ev_ok st h2
    obtain ⟨u, g1, g2, g3⟩ := bin_ok (W := W) (F := F) (ρ := ρ) (w := w) (m := s.rows.length) hT h hp x y
    exact ⟨u, run_bin_of op t x y yt o hop (by rw [e1, f1]; exact g1) (by rw [e1, f1]; exact g2), g3⟩
  case unOp op t x =>
    simp only [Option.bind_eq_some_iff] at h
    obtain ⟨x', h1, h⟩ := h
    obtain ⟨e1, _, _⟩ := ev_ok st h1
    obtain ⟨u, hu, hg⟩ := un_ok (P := P) (W := W) (F := F) (ρ := ρ) (w := w) (m := s.rows.length) h hp
    exact ⟨u, by simp [execOp, hop, e1, hu], hg⟩
  case convert src dst x =>
    rcases cond_some h with ⟨e, h⟩ | ⟨e, h⟩
    · simp only [Option.bind_eq_some_iff] at h
      obtain ⟨x', h1, h⟩ := h
      obtain ⟨e1, e2, _⟩ := ev_ok st h1
      split at h
      · rename_i r hr
        cases h
        obtain ⟨u, hu, hg⟩ := conv_ok (W := W) (F := F) (ρ := ρ) (w := w) (m := s.rows.length) hT hr hp e
        exact ⟨u, by simp [execOp, hop, e1, hu], hg⟩
      · obtain ⟨u, hu, hg⟩ := convS_ok hT st.mem h hp e2
        exact ⟨u, by simp [execOp, hop, e1, hu], hg⟩
    · cases h
  case sliceToArrayPointer t x =>
    simp only [Option.bind_eq_some_iff] at h
    obtain ⟨x', h1, h⟩ := h
    obtain ⟨e1, e2, _⟩ := ev_ok st h1
    obtain ⟨u, hu, hg⟩ := toArr_ok hT st.mem h hp e2
    exact ⟨u, by simp [execOp, hop, e1, hu], hg⟩
  case slice t x lo hi mx =>
    simp only [Option.bind_eq_some_iff] at h
    obtain ⟨x', h1, lo', h2, hi', h3, mx', h4, h⟩ := h
    obtain ⟨e1, e2, _⟩ := ev_ok st h1
    obtain ⟨kl, f1⟩ := optI_ok st h2
    obtain ⟨kh, f2⟩ := optI_ok st h3
    obtain ⟨km, f3⟩ := optI_ok st h4
    obtain ⟨u, hu, hg⟩ := sliceS_ok hT st.mem h hp e2 kl kh km
    exact ⟨u, by simp [execOp, hop, e1, f1, f2, f3, hu], hg⟩
  case makeFunc f first cap =>
    simp only [Option.bind_eq_some_iff, Option.map_eq_some_iff] at h
    obtain ⟨x', h1, y', h2, h⟩ := h; cases h
    obtain ⟨e1, e2⟩ := evL_ok st h1
    obtain ⟨f1, f2⟩ := evL_ok st h2
    have g1 : first.map a.eval = (denL ρ x').toArray := by apply Array.ext'; rw [Array.toList_map, e1]
    have g2 : cap.map a.eval = (denL ρ y').toArray := by apply Array.ext'; rw [Array.toList_map, f1]
    exact ⟨_, by simp [execOp, hop, Instr.makeFunc, g1, g2]; rfl, rfl, ⟨e2, f2⟩, fun h => by cases h⟩
  case fieldAddr t x f =>
    simp only [Option.bind_eq_some_iff, Option.map_eq_some_iff] at h
    obtain ⟨x', h1, v', h2, h⟩ := h; cases h
    obtain ⟨e1, e2, _⟩ := ev_ok st h1
    obtain ⟨u, hu, hg⟩ := fieldA_ok (ρ := ρ) (w := w) hT h2 e2
    exact ⟨u, by simp [execOp, hop, e1, hu], hg⟩
  case field t x f =>
    simp only [Option.bind_eq_some_iff, Option.map_eq_some_iff] at h
    obtain ⟨x', h1, v', h2, h⟩ := h; cases h
    obtain ⟨e1, e2, _⟩ := ev_ok st h1
    obtain ⟨u, hu, hg⟩ := fieldV_ok (ρ := ρ) (w := w) hT h2 e2
    exact ⟨u, by simp [execOp, hop, e1, hu], hg⟩
  case indexAddr t x i =>
    simp only [Option.bind_eq_some_iff] at h
    obtain ⟨x', h1, i', h2, h⟩ := h
    obtain ⟨e1, e2, _⟩ := ev_ok st h1
    obtain ⟨f1, _, _⟩ := ev_ok st h2
    obtain ⟨u, hu, hg⟩ := indexA_ok hT st.mem h hp e2
    exact ⟨u, by simp [execOp, hop, e1, f1, hu], hg⟩
  case index t x i =>
    simp only [Option.bind_eq_some_iff] at h
    obtain ⟨x', h1, i', h2, h⟩ := h
    obtain ⟨e1, e2, _⟩ := ev_ok st h1
    obtain ⟨f1, _, _⟩ := ev_ok st h2
    obtain ⟨u, hu, hg⟩ := indexV_ok (ρ := ρ) (w := w) hT h hp e2
    exact ⟨u, by simp [execOp, hop, e1, f1, hu], hg⟩
  case extract x i =>
    simp only [Option.bind_eq_some_iff, Option.map_eq_some_iff] at h
    obtain ⟨x', h1, v', h2, h⟩ := h; cases h
    obtain ⟨e1, e2, _⟩ := ev_ok st h1
    obtain ⟨u1, u2, u3⟩ := extractS_ok (P := P) (ρ := ρ) (w := w) h2 e2
    exact ⟨_, by simp [execOp, hop, e1, u1], rfl, u2, u3⟩
  case nilCheck x =>
    simp only [Option.bind_eq_some_iff] at h
    obtain ⟨x', h1, h⟩ := h
    obtain ⟨e1, e2, e3⟩ := ev_ok st h1
    rcases cond_some h with ⟨e, h⟩ | ⟨e, h⟩
    · cases h
      refine ⟨den ρ v, ?_, rfl, e2, e3⟩
      cases v <;> simp [isPtr] at e <;> simp [execOp, hop, e1, den]
    · cases h
  case call c =>
    unfold lenCall at h
    split at h
    · rename_i x t
      simp only [Option.bind_eq_some_iff] at h
      obtain ⟨i, hi, x', h1, h⟩ := h
      obtain ⟨e1, e2, _⟩ := ev_ok st h1
      rcases cond_some h with ⟨e, h⟩ | ⟨e, h⟩
      · simp only [Option.map_eq_some_iff] at h
        obtain ⟨v', h2, h⟩ := h; cases h
        obtain ⟨u, hu, hg⟩ := lenS_ok (ρ := ρ) (w := w) hT hi e h2 e2 o.type
        refine ⟨u, ?_, hg⟩
        simp [execOp, hop, resolve, invoke, builtin, e1, hu]
      · cases h
    · cases h
end Sx
end Go.Proofs.Ytmmejomalfjcnaa
