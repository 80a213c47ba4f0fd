/- Laws on symbolic cells. No condition. -/
import Derived.Test.YtmmejomalfjcnaaSxExec
namespace Go.Proofs.Ytmmejomalfjcnaa
open Go.RowKit
set_option linter.unusedVariables false
set_option linter.unusedSimpArgs false
namespace Sx
variable {ρ : Num}

theorem intCells_length (k : IntKind) (n : Nat) (xs : List Int) : (intCells k n xs).length = n := by simp [intCells]
theorem intCells_get (k : IntKind) (n : Nat) (xs : List Int) (j : Nat) (h : j < n) : (intCells k n xs)[j]? = some (.int k (xs.getD j 0)) := by
  simp [intCells, h]

theorem denL_eq (l : List SV) : denL ρ l = l.map (den ρ) := by
  induction l with
  | nil => rfl
  | cons c l ih => simp [denL, ih]

/-- How a list of cells holds: a cell that is no piece and no top. -/
theorem CellsOK.ints {k n xs} {r : List SV} {vs : List Value} (h : CellsOK ρ (.ints k n xs :: r) vs) : ∃ t, vs = intCells k n xs ++ t ∧ CellsOK ρ r t := h
theorem CellsOK.top {r : List SV} {vs : List Value} (h : CellsOK ρ (.top :: r) vs) : ∃ v t, vs = v :: t ∧ CellsOK ρ r t := h

def single : SV → Bool
  | .top => false
  | .ints _ _ _ => false
  | _ => true
theorem CellsOK.one {c : SV} {r : List SV} {vs : List Value} (hc : single c = true) (h : CellsOK ρ (c :: r) vs) : ∃ t, vs = den ρ c :: t ∧ CellsOK ρ r t := by
  cases c <;> first | exact h | simp [single] at hc
theorem CellsOK.mk_one {c : SV} {r : List SV} {t : List Value} (hc : single c = true) (h : CellsOK ρ r t) : CellsOK ρ (c :: r) (den ρ c :: t) := by
  cases c <;> first | exact ⟨_, rfl, h⟩ | simp [single] at hc
theorem cellsL_one {c : SV} {r : List SV} (hc : single c = true) : cellsL ρ (c :: r) = den ρ c :: cellsL ρ r := by
  cases c <;> first | rfl | simp [single] at hc

theorem CellsOK.length : ∀ {l : List SV} {vs : List Value}, CellsOK ρ l vs → vs.length = widthL l
  | [], vs, h => by simp [CellsOK] at h; simp [h, widthL]
  | c :: r, vs, h => by
    cases hc : single c with
    | true =>
      obtain ⟨t, rfl, h2⟩ := h.one hc
      have := CellsOK.length h2
      cases c <;> simp [widthL, width, this] <;> first | omega | simp [single] at hc
    | false =>
      cases c <;> simp [single] at hc
      · obtain ⟨v, t, rfl, h2⟩ := h
        have := CellsOK.length h2
        simp [widthL, width, this]; omega
      · obtain ⟨t, rfl, h2⟩ := h
        have := CellsOK.length h2
        simp [widthL, width, this, intCells_length]

theorem CellsOK.of_cellsL (ρ : Num) : ∀ (l : List SV), CellsOK ρ l (cellsL ρ l)
  | [] => rfl
  | c :: r => by
    have ih := CellsOK.of_cellsL ρ r
    cases hc : single c with
    | true => rw [cellsL_one hc]; exact .mk_one hc ih
    | false =>
      cases c <;> simp [single] at hc
      · exact ⟨_, _, rfl, ih⟩
      · exact ⟨_, rfl, ih⟩

theorem CellsOK.noTop : ∀ {l : List SV} {vs : List Value}, CellsOK ρ l vs → noTop l = true → vs = cellsL ρ l
  | [], vs, h, _ => h
  | c :: r, vs, h, ht => by
    have ht2 : Sx.noTop r = true := by cases c <;> simp_all [Sx.noTop]
    cases hc : single c with
    | true =>
      obtain ⟨t, rfl, h2⟩ := h.one hc
      rw [cellsL_one hc, h2.noTop ht2]
    | false =>
      cases c <;> simp [single] at hc
      · simp [Sx.noTop] at ht
      · obtain ⟨t, rfl, h2⟩ := h
        simp [cellsL, h2.noTop ht2]

theorem CellsOK.append : ∀ {a b : List SV} {vs us : List Value}, CellsOK ρ a vs → CellsOK ρ b us → CellsOK ρ (a ++ b) (vs ++ us)
  | [], b, vs, us, h, k => by simp [CellsOK] at h; simpa [h] using k
  | c :: r, b, vs, us, h, k => by
    cases hc : single c with
    | true =>
      obtain ⟨t, rfl, h2⟩ := h.one hc
      exact .mk_one hc (h2.append k)
    | false =>
      cases c <;> simp [single] at hc
      · obtain ⟨v, t, rfl, h2⟩ := h
        exact ⟨v, _, rfl, h2.append k⟩
      · obtain ⟨t, rfl, h2⟩ := h
        exact ⟨_, by rw [List.append_assoc], h2.append k⟩

theorem cond_some {α : Type} {b : Bool} {x y : Option α} {z : α} (h : (bif b then x else y) = some z) : (b = true ∧ x = some z) ∨ (b = false ∧ y = some z) := by
  cases b <;> simp_all
theorem beq_some {α : Type} {a b : Nat} {x y : Option α} {z : α} (h : (bif Nat.beq a b then x else y) = some z) : (a = b ∧ x = some z) ∨ (a ≠ b ∧ y = some z) := by
  rcases cond_some h with ⟨e, h⟩ | ⟨e, h⟩
  · exact .inl ⟨Nat.eq_of_beq_eq_true e, h⟩
  · exact .inr ⟨Nat.ne_of_beq_eq_false e, h⟩
theorem ble_some {α : Type} {a b : Nat} {x y : Option α} {z : α} (h : (bif Nat.ble a b then x else y) = some z) : (a ≤ b ∧ x = some z) ∨ (b < a ∧ y = some z) := by
  rcases cond_some h with ⟨e, h⟩ | ⟨e, h⟩
  · exact .inl ⟨Nat.le_of_ble_eq_true e, h⟩
  · exact .inr ⟨Nat.lt_of_not_le (fun h2 => by rw [Nat.ble_eq_true_of_le h2] at e; exact absurd e (by decide)), h⟩
theorem blt_some {α : Type} {a b : Nat} {x y : Option α} {z : α} (h : (bif Nat.blt a b then x else y) = some z) : (a < b ∧ x = some z) ∨ (b ≤ a ∧ y = some z) := by
  rcases ble_some (a := a + 1) (b := b) h with ⟨e, h⟩ | ⟨e, h⟩
  · exact .inl ⟨e, h⟩
  · exact .inr ⟨by omega, h⟩

theorem cellAt_single {c : SV} {r : List SV} {o : Nat} (hc : single c = true ∨ c = .top) : cellAt (c :: r) o = bif Nat.beq o 0 then some c else cellAt r (o - 1) := by
  cases c <;> first | rfl | simp [single] at hc
theorem dropC_single {c : SV} {r : List SV} {o : Nat} (hc : single c = true ∨ c = .top) : dropC (c :: r) o = bif Nat.beq o 0 then some (c :: r) else dropC r (o - 1) := by
  cases c <;> first | rfl | simp [single] at hc
theorem takeC_single {c : SV} {r : List SV} {o : Nat} (hc : single c = true ∨ c = .top) : takeC (c :: r) o = bif Nat.beq o 0 then some [] else (takeC r (o - 1)).map (c :: ·) := by
  cases c <;> first | rfl | simp [single] at hc

theorem cellAt_ok : ∀ {l : List SV} {vs : List Value} {o : Nat} {v : SV}, CellsOK ρ l vs → cellAt l o = some v → v = .top ∨ vs[o]? = some (den ρ v)
  | [], vs, o, v, h, hv => by simp [cellAt] at hv
  | c :: r, vs, o, v, h, hv => by
    cases hc : single c with
    | true =>
      rw [cellAt_single (.inl hc)] at hv
      obtain ⟨t, rfl, h2⟩ := h.one hc
      rcases beq_some hv with ⟨e, hx⟩ | ⟨e, hx⟩ <;> clear hv
      · cases hx; subst e; simp
      · rcases cellAt_ok h2 hx with h3 | h3
        · exact .inl h3
        · right; rw [show o = (o - 1) + 1 by omega]; simpa using h3
    | false =>
      cases c <;> simp [single] at hc
      · rw [cellAt_single (.inr rfl)] at hv
        obtain ⟨u, t, rfl, h2⟩ := h
        rcases beq_some hv with ⟨e, hx⟩ | ⟨e, hx⟩ <;> clear hv
        · cases hx; exact .inl rfl
        · rcases cellAt_ok h2 hx with h3 | h3
          · exact .inl h3
          · right; rw [show o = (o - 1) + 1 by omega]; simpa using h3
      · rename_i k n xs
        obtain ⟨t, rfl, h2⟩ := h
        simp only [cellAt] at hv
        rcases blt_some hv with ⟨e, hx⟩ | ⟨e, hx⟩ <;> clear hv
        · cases hx
          right
          rw [List.getElem?_append_left (by simp [intCells_length, e]), intCells_get _ _ _ _ e]; rfl
        · rcases cellAt_ok h2 hx with h3 | h3
          · exact .inl h3
          · right; rw [List.getElem?_append_right (by simp [intCells_length, e]), intCells_length]; exact h3

theorem dropC_ok : ∀ {l l' : List SV} {vs : List Value} {o : Nat}, CellsOK ρ l vs → dropC l o = some l' → CellsOK ρ l' (vs.drop o) ∧ o ≤ vs.length
  | [], l', vs, o, h, hv => by
    simp only [dropC] at hv
    rcases beq_some hv with ⟨e, hx⟩ | ⟨e, hx⟩ <;> clear hv <;> cases hx
    subst e; simpa using h
  | c :: r, l', vs, o, h, hv => by
    cases hc : single c with
    | true =>
      rw [dropC_single (.inl hc)] at hv
      rcases beq_some hv with ⟨e, hx⟩ | ⟨e, hx⟩ <;> clear hv
      · cases hx; subst e; simpa using h
      · obtain ⟨t, rfl, h2⟩ := h.one hc
        obtain ⟨h3, h4⟩ := dropC_ok h2 hx
        rw [show o = (o - 1) + 1 by omega]
        exact ⟨by simpa using h3, by simp; omega⟩
    | false =>
      cases c <;> simp [single] at hc
      · rw [dropC_single (.inr rfl)] at hv
        rcases beq_some hv with ⟨e, hx⟩ | ⟨e, hx⟩ <;> clear hv
        · cases hx; subst e; simpa using h
        · obtain ⟨u, t, rfl, h2⟩ := h
          obtain ⟨h3, h4⟩ := dropC_ok h2 hx
          rw [show o = (o - 1) + 1 by omega]
          exact ⟨by simpa using h3, by simp; omega⟩
      · rename_i k n xs
        simp only [dropC] at hv
        rcases beq_some hv with ⟨e, hx⟩ | ⟨e, hx⟩ <;> clear hv
        · cases hx; subst e; simpa using h
        · rcases ble_some hx with ⟨e2, hy⟩ | ⟨e2, hy⟩ <;> clear hx
          · obtain ⟨t, rfl, h2⟩ := h
            obtain ⟨h3, h4⟩ := dropC_ok h2 hy
            rw [List.drop_append, List.drop_eq_nil_of_le (by rw [intCells_length]; exact e2), intCells_length]
            exact ⟨by simpa using h3, by simp [intCells_length]; omega⟩
          · cases hy

theorem takeC_ok : ∀ {l l' : List SV} {vs : List Value} {o : Nat}, CellsOK ρ l vs → takeC l o = some l' → CellsOK ρ l' (vs.take o) ∧ o ≤ vs.length
  | [], l', vs, o, h, hv => by
    simp only [takeC] at hv
    rcases beq_some hv with ⟨e, hx⟩ | ⟨e, hx⟩ <;> clear hv <;> cases hx
    subst e; exact ⟨by simp [CellsOK], by omega⟩
  | c :: r, l', vs, o, h, hv => by
    cases hc : single c with
    | true =>
      rw [takeC_single (.inl hc)] at hv
      rcases beq_some hv with ⟨e, hx⟩ | ⟨e, hx⟩ <;> clear hv
      · cases hx; subst e; exact ⟨by simp [CellsOK], by omega⟩
      · obtain ⟨t, rfl, h2⟩ := h.one hc
        simp only [Option.map_eq_some_iff] at hx
        obtain ⟨l2, hx, rfl⟩ := hx
        obtain ⟨h3, h4⟩ := takeC_ok h2 hx
        rw [show o = (o - 1) + 1 by omega]
        exact ⟨by simpa using CellsOK.mk_one hc h3, by simp; omega⟩
    | false =>
      cases c <;> simp [single] at hc
      · rw [takeC_single (.inr rfl)] at hv
        rcases beq_some hv with ⟨e, hx⟩ | ⟨e, hx⟩ <;> clear hv
        · cases hx; subst e; exact ⟨by simp [CellsOK], by omega⟩
        · obtain ⟨u, t, rfl, h2⟩ := h
          simp only [Option.map_eq_some_iff] at hx
          obtain ⟨l2, hx, rfl⟩ := hx
          obtain ⟨h3, h4⟩ := takeC_ok h2 hx
          rw [show o = (o - 1) + 1 by omega]
          exact ⟨⟨u, _, by simp, h3⟩, by simp; omega⟩
      · rename_i k n xs
        simp only [takeC] at hv
        rcases beq_some hv with ⟨e, hx⟩ | ⟨e, hx⟩ <;> clear hv
        · cases hx; subst e; exact ⟨by simp [CellsOK], by omega⟩
        · rcases ble_some hx with ⟨e2, hy⟩ | ⟨e2, hy⟩ <;> clear hx
          · obtain ⟨t, rfl, h2⟩ := h
            simp only [Option.map_eq_some_iff] at hy
            obtain ⟨l2, hx, rfl⟩ := hy
            obtain ⟨h3, h4⟩ := takeC_ok h2 hx
            rw [List.take_append, List.take_of_length_le (by rw [intCells_length]; exact e2), intCells_length]
            exact ⟨⟨_, rfl, h3⟩, by simp [intCells_length]; omega⟩
          · cases hy

/-- okd of parts. -/
theorem okdL_dropC {W : World} {F : Nat → Prop} {m : Nat} : ∀ {l l' : List SV} {o : Nat}, okdL W F m l → dropC l o = some l' → okdL W F m l'
  | [], l', o, h, hv => by
    simp only [dropC] at hv
    rcases cond_some hv with ⟨e, hv⟩ | ⟨e, hv⟩ <;> simp at hv
    subst hv; trivial
  | c :: r, l', o, h, hv => by
    cases c <;> simp only [dropC] at hv <;> rcases cond_some hv with ⟨e, hv⟩ | ⟨e, hv⟩ <;> first
      | (simp at hv; subst hv; exact h)
      | exact okdL_dropC h.2 hv
      | (rcases cond_some hv with ⟨e2, hv⟩ | ⟨e2, hv⟩
         · exact okdL_dropC h.2 hv
         · simp at hv)
theorem okdL_takeC {W : World} {F : Nat → Prop} {m : Nat} : ∀ {l l' : List SV} {o : Nat}, okdL W F m l → takeC l o = some l' → okdL W F m l'
  | [], l', o, h, hv => by
    simp only [takeC] at hv
    rcases cond_some hv with ⟨e, hv⟩ | ⟨e, hv⟩ <;> simp at hv
    subst hv; trivial
  | c :: r, l', o, h, hv => by
    cases c <;> simp only [takeC] at hv <;> rcases cond_some hv with ⟨e, hv⟩ | ⟨e, hv⟩ <;> first
      | (simp at hv; subst hv; trivial)
      | (rcases cond_some hv with ⟨e2, hv⟩ | ⟨e2, hv⟩
         · simp only [Option.map_eq_some_iff] at hv
           obtain ⟨l2, hx, rfl⟩ := hv
           exact ⟨h.1, okdL_takeC h.2 hx⟩
         · simp at hv)
      | (simp only [Option.map_eq_some_iff] at hv
         obtain ⟨l2, hx, rfl⟩ := hv
         exact ⟨h.1, okdL_takeC h.2 hx⟩)
theorem okdL_cellAt {W : World} {F : Nat → Prop} {m : Nat} : ∀ {l : List SV} {o : Nat} {v : SV}, okdL W F m l → cellAt l o = some v → okd W F m v
  | [], o, v, h, hv => by simp [cellAt] at hv
  | c :: r, o, v, h, hv => by
    cases c <;> simp only [cellAt] at hv <;> rcases cond_some hv with ⟨e, hv⟩ | ⟨e, hv⟩ <;> first
      | (simp at hv; subst hv; exact h.1)
      | exact okdL_cellAt h.2 hv
theorem okdL_append {W : World} {F : Nat → Prop} {m : Nat} : ∀ {a b : List SV}, okdL W F m a → okdL W F m b → okdL W F m (a ++ b)
  | [], b, h, k => k
  | c :: r, b, h, k => ⟨h.1, okdL_append h.2 k⟩
end Sx
end Go.Proofs.Ytmmejomalfjcnaa
