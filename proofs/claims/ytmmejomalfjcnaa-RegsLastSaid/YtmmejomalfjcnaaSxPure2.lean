/- The operations that leave the memory alone do what the executor says: comparisons, conversions, loads. No condition. -/
import Derived.Test.YtmmejomalfjcnaaSxPure
namespace Go.Proofs.Ytmmejomalfjcnaa
open Go.RowKit
set_option linter.unusedVariables false
set_option linter.unusedSimpArgs false
namespace Sx
variable {P : Program} {T : Tab} {W : World} {F : Nat → Prop} {nt : Nat} {ρ : Num} {s : SS} {a : Act} {w : World}

theorem getD_eq {k : IntKind} {n : Nat} {xs ys : List Int} (h : xs.length = ys.length) : (intCells k n xs = intCells k n ys ↔ ∀ j, j < n → xs.getD j 0 = ys.getD j 0) := by
  constructor
  · intro he j hj
    have h1 := intCells_get k n xs j hj
    have h2 := intCells_get k n ys j hj
    rw [he, h2] at h1
    simpa using h1.symm
  · intro hh
    apply List.ext_getElem?
    intro j
    by_cases hj : j < n
    · rw [intCells_get k n xs j hj, intCells_get k n ys j hj, hh j hj]
    · rw [List.getElem?_eq_none (by simp [intCells_length]; omega), List.getElem?_eq_none (by simp [intCells_length]; omega)]

theorem intCells_inj {k : IntKind} {n : Nat} {xs ys : List Int} (hx : xs.length = n) (hy : ys.length = n) : intCells k n xs = intCells k n ys ↔ xs = ys := by
  rw [getD_eq (by omega)]
  constructor
  · intro h
    apply List.ext_getElem (by omega)
    intro j h1 h2
    have := h j (by omega)
    simpa [List.getD, h1, h2] using this
  · rintro rfl _ _; rfl

theorem sameKinds_eq : ∀ {a b : List (Option IntKind)}, sameKinds a b = true → a = b
  | [], [], _ => rfl
  | x :: xs, y :: ys, h => by
    simp only [sameKinds] at h
    cases hd : decide (x = y) with
    | false => simp [hd] at h
    | true => simp [hd] at h; simp at hd; rw [hd, sameKinds_eq h]
  | [], _ :: _, h => by simp [sameKinds] at h
  | _ :: _, [], h => by simp [sameKinds] at h

theorem fitsCells {W : Num} : ∀ {a b : List SV} {ps : List Prop} {r : Bool}, eqCells a b = some (ps, r) → All ps →
    Fits (kindsOf a) (cellsL W a) ∧ Fits (kindsOf a) (cellsL W b) ∧ (r = true ↔ cellsL W a = cellsL W b)
  | [], [], ps, r, h, hp => by simp [eqCells] at h; obtain ⟨rfl, rfl⟩ := h; exact ⟨trivial, trivial, by simp⟩
  | [], b :: bs, ps, r, h, hp => by simp [eqCells] at h
  | a :: as', [], ps, r, h, hp => by cases a <;> simp [eqCells] at h
  | c :: cs, d :: ds, ps, r, h, hp => by
    have step : ∀ (x y : Value) (f : FT) (q : Bool) (p2 : List Prop) (r2 : Bool), single c = true → single d = true → den W c = x → den W d = y → kindsOf (c :: cs) = f :: kindsOf cs → f.fit x → f.fit y → (q = true ↔ x = y) →
        eqCells cs ds = some (p2, r2) → All p2 → Fits (kindsOf (c :: cs)) (cellsL W (c :: cs)) ∧ Fits (kindsOf (c :: cs)) (cellsL W (d :: ds)) ∧ ((q && r2) = true ↔ cellsL W (c :: cs) = cellsL W (d :: ds)) := by
      intro x y f q p2 r2 hc hd hx hy hk fx fy hq he hp2
      obtain ⟨k1, k2, k3⟩ := fitsCells (W := W) he hp2
      rw [cellsL_one hc, cellsL_one hd, hx, hy, hk]
      exact ⟨⟨fx, k1⟩, ⟨fy, k2⟩, by simp [hq, k3]⟩
    by_cases hi : (∃ k n xs, c = .ints k n xs) ∧ ∃ k n xs, d = .ints k n xs
    · obtain ⟨⟨k, n, xs, rfl⟩, ⟨k', n', ys, rfl⟩⟩ := hi
      simp only [eqCells] at h
      rcases cond_some h with ⟨e, h⟩ | ⟨e, h⟩
      · simp only [Bool.and_eq_true, decide_eq_true_eq] at e
        obtain ⟨rfl, e2⟩ := e
        have e2 := Nat.eq_of_beq_eq_true e2
        subst e2
        cases hr : eqCells cs ds with
        | none => simp [hr] at h
        | some q =>
          obtain ⟨p2, r2⟩ := q
          simp [hr] at h
          obtain ⟨rfl, rfl⟩ := h
          have l1 : xs.length = n := hp _ (by simp)
          have l2 : ys.length = n := hp _ (by simp)
          obtain ⟨k1, k2, k3⟩ := fitsCells (W := W) hr (fun p hq => hp p (by simp [hq]))
          have fi : ∀ zs, Fits (List.replicate n (some k)) (intCells k n zs) := by
            intro zs
            have : ∀ (l : List Nat), Fits (List.replicate l.length (some k)) (l.map fun j => Value.int k (zs.getD j 0)) := by
              intro l
              induction l with
              | nil => trivial
              | cons x l ih => exact ⟨⟨_, rfl⟩, ih⟩
            simpa [intCells] using this (List.range n)
          refine ⟨Fits.append (fi xs) k1, Fits.append (fi ys) k2, ?_⟩
          simp only [cellsL, Bool.and_eq_true, beq_iff_eq]
          constructor
          · rintro ⟨rfl, e⟩; rw [k3.1 e]
          · intro e
            obtain ⟨e1, e2⟩ := List.append_inj e (by simp [intCells_length])
            exact ⟨(intCells_inj l1 l2).1 e1, k3.2 e2⟩
      · cases h
    · have hcs : (single c = true ∧ single d = true) ∧ ((∃ k x u y v p2 r2, asI c = some (k, x, u) ∧ asI d = some (k, y, v) ∧ eqCells cs ds = some (p2, r2) ∧ ps = p2 ∧ r = (x == y && r2)) ∨
          (∃ x u y v p2 r2, asB c = some (x, u) ∧ asB d = some (y, v) ∧ eqCells cs ds = some (p2, r2) ∧ ps = p2 ∧ r = (x == y && r2))) := by
        have hform : eqCells (c :: cs) (d :: ds) = (match asI c, asI d with
          | some (k, x, _), some (k', y, _) =>
            bif decide (k = k') then
              match eqCells cs ds with
              | some (p, b) => some (p, x == y && b)
              | none => none
            else none
          | _, _ =>
            match asB c, asB d with
            | some (x, _), some (y, _) =>
              match eqCells cs ds with
              | some (p, b) => some (p, x == y && b)
              | none => none
            | _, _ => none) := by
          cases c <;> cases d <;> first | rfl | exact absurd ⟨⟨_, _, _, rfl⟩, ⟨_, _, _, rfl⟩⟩ hi
        rw [hform] at h
        cases hi1 : asI c with
        | some q =>
          obtain ⟨k, x, u⟩ := q
          cases hi2 : asI d with
          | some q2 =>
            obtain ⟨k', y, v⟩ := q2
            simp only [hi1, hi2] at h
            rcases cond_some h with ⟨e, h⟩ | ⟨e, h⟩
            · simp at e; subst e
              cases hr : eqCells cs ds with
              | none => simp [hr] at h
              | some q =>
                simp [hr] at h
                refine ⟨⟨by cases c <;> simp [asI] at hi1 <;> rfl, by cases d <;> simp [asI] at hi2 <;> rfl⟩, .inl ⟨k, x, u, y, v, q.1, q.2, rfl, rfl, rfl, h.1.symm, h.2.symm⟩⟩
            · cases h
          | none =>
            have : asB c = none := by cases c <;> simp_all [asI, asB]
            simp [hi1, hi2, this] at h
        | none =>
          cases hb1 : asB c with
          | none => simp [hi1, hb1] at h
          | some q =>
            obtain ⟨x, u⟩ := q
            cases hb2 : asB d with
            | none => simp [hi1, hb1, hb2] at h
            | some q2 =>
              obtain ⟨y, v⟩ := q2
              cases hr : eqCells cs ds with
              | none => simp [hi1, hb1, hb2, hr] at h
              | some q =>
                simp [hi1, hb1, hb2, hr] at h
                refine ⟨⟨by cases c <;> simp [asB] at hb1 <;> rfl, by cases d <;> simp [asB] at hb2 <;> rfl⟩, .inr ⟨x, u, y, v, q.1, q.2, rfl, rfl, rfl, h.1.symm, h.2.symm⟩⟩
      obtain ⟨⟨h1, h2⟩, h3 | h3⟩ := hcs
      · obtain ⟨k, x, u, y, v, p2, r2, i1, i2, i3, rfl, rfl⟩ := h3
        exact step (.int k x) (.int k y) (some k) (x == y) ps r2 h1 h2 (asI_ok i1 W) (asI_ok i2 W) (by cases c <;> simp [asI] at i1 <;> simp [kindsOf, asI, i1]) ⟨_, rfl⟩ ⟨_, rfl⟩ (by simp) i3 hp
      · obtain ⟨x, u, y, v, p2, r2, i1, i2, i3, rfl, rfl⟩ := h3
        exact step (.bool x) (.bool y) none (x == y) ps r2 h1 h2 (asB_ok i1 W) (asB_ok i2 W) (by cases c <;> simp [asB] at i1 <;> simp [kindsOf, asI]) ⟨_, rfl⟩ ⟨_, rfl⟩ (by simp) i3 hp
end Sx
end Go.Proofs.Ytmmejomalfjcnaa
