/- Plain laws, over any program, on values whose cells are all integers or bools (arrays and structs of such): they are opened cell by cell, and '==' of two of them is equality of their cells. Conditions: the type's table says so ('flatAt', a closed fact). -/
import Derived.ChangeKeysEq
import Derived.OpenShut
import Derived.WalkKit
namespace Go.Proofs.Ytmmejomalfjcnaa
open Go.RowKit Go.ChangeShapes

/-- A cell's kind: none: a bool; some k: an integer of that kind. -/
abbrev FT := Option IntKind

def FT.fit : FT → Value → Prop
  | some k, v => ∃ n : Int, v = .int k n ∧ (Lit.int k n).wf = true
  | none, v => ∃ x : Bool, v = .bool x

def Fits : List FT → List Value → Prop
  | [], [] => True
  | f :: fs, v :: vs => FT.fit f v ∧ Fits fs vs
  | _, _ => False

def fieldsAt (P : Program) (g : TypeId → Option (List FT)) : List Field → Nat → Option (List FT)
  | [], _ => some []
  | f :: fs, off =>
    match g f.type with
    | none => none
    | some l => if f.name ≠ "_" ∧ f.offset = off ∧ P.cellsOf f.type = l.length then (fieldsAt P g fs (off + l.length)).map (l ++ ·) else none

/-- The cells' kinds of a type that holds integers and bools alone. -/
def flatAt (P : Program) : Nat → TypeId → Option (List FT)
  | 0, _ => none
  | n + 1, t =>
    match P.underlying t with
    | some .bool => if P.cellsOf t = 1 then some [none] else none
    | some (.int k) => if P.cellsOf t = 1 then some [some k] else none
    | some (.array m e) =>
      match flatAt P n e with
      | none => none
      | some l => if P.cellsOf e = l.length ∧ P.cellsOf t = m * l.length then some (List.replicate m l).flatten else none
    | some (.struct fs) =>
      if P.stoodInHeld t = false then
        match fieldsAt P (flatAt P n) fs.toList 0 with
        | none => none
        | some l => if P.cellsOf t = l.length then some l else none
      else none
    | _ => none

theorem Fits.length : ∀ {ks : List FT} {cs : List Value}, Fits ks cs → cs.length = ks.length
  | [], [], _ => rfl
  | _ :: _, _ :: _, h => by simp [Fits.length h.2]
  | [], _ :: _, h => h.elim
  | _ :: _, [], h => h.elim

theorem Fits.append : ∀ {ks ls : List FT} {cs ds : List Value}, Fits ks cs → Fits ls ds → Fits (ks ++ ls) (cs ++ ds)
  | [], _, [], _, _, h => h
  | _ :: _, _, _ :: _, _, h, k => ⟨h.1, Fits.append h.2 k⟩
  | [], _, _ :: _, _, h, _ => h.elim
  | _ :: _, _, [], _, h, _ => h.elim

theorem Fits.split : ∀ {ks ls : List FT} {cs : List Value}, Fits (ks ++ ls) cs → Fits ks (cs.take ks.length) ∧ Fits ls (cs.drop ks.length)
  | [], _, _, h => ⟨by simp [Fits], by simpa using h⟩
  | _ :: ks, ls, c :: cs, h => by
    obtain ⟨a, b⟩ := Fits.split (ks := ks) (ls := ls) h.2
    exact ⟨⟨h.1, a⟩, b⟩
  | _ :: _, _, [], h => h.elim

theorem fits_chunks (l : List FT) : ∀ (m : Nat) (cs : List Value), cs.length = m * l.length → (∀ i, i < m → Fits l ((cs.drop (i * l.length)).take l.length)) → Fits (List.replicate m l).flatten cs
  | 0, cs, h, _ => by
    have : cs = [] := by simpa using h
    subst this
    simp [Fits]
  | m + 1, cs, h, hi => by
    have h0 := hi 0 (by omega)
    simp only [Nat.zero_mul, List.drop_zero] at h0
    have hr := fits_chunks l m (cs.drop l.length) (by simp [h, Nat.succ_mul]) (fun i hlt => by
      have := hi (i + 1) (by omega)
      rw [List.drop_drop]
      rwa [Nat.succ_mul, Nat.add_comm] at this)
    have := Fits.append h0 hr
    rw [List.take_append_drop] at this
    simpa [List.replicate_succ] using this

theorem chunks_of_fits (l : List FT) : ∀ (m : Nat) (cs : List Value), Fits (List.replicate m l).flatten cs → ∀ i, i < m → Fits l ((cs.drop (i * l.length)).take l.length)
  | 0, _, _, _, h => by omega
  | m + 1, cs, h, i, hi => by
    simp only [List.replicate_succ, List.flatten_cons] at h
    obtain ⟨a, b⟩ := Fits.split h
    cases i with
    | zero => simpa using a
    | succ i =>
      have := chunks_of_fits l m _ b i (by omega)
      rw [List.drop_drop] at this
      rwa [Nat.succ_mul, Nat.add_comm]

/-- The integers of one kind, written as cells. -/
theorem fits_ints {k : IntKind} : ∀ (m : Nat) (cs : List Value), Fits (List.replicate m (some k)) cs → ∃ xs : List Int, xs.length = m ∧ cs = xs.map (Value.int k) ∧ ∀ n ∈ xs, (Lit.int k n).wf = true
  | 0, [], _ => ⟨[], rfl, rfl, by simp⟩
  | 0, _ :: _, h => h.elim
  | m + 1, [], h => h.elim
  | m + 1, c :: cs, h => by
    obtain ⟨⟨n, rfl, hn⟩, h⟩ := h
    obtain ⟨xs, h1, rfl, h3⟩ := fits_ints m cs h
    exact ⟨n :: xs, by simp [h1], rfl, by simpa using ⟨hn, h3⟩⟩

theorem fits_of_ints {k : IntKind} : ∀ (xs : List Int), (∀ n ∈ xs, (Lit.int k n).wf = true) → Fits (List.replicate xs.length (some k)) (xs.map (Value.int k))
  | [], _ => by simp [Fits]
  | x :: xs, h => ⟨⟨x, rfl, h x (by simp)⟩, fits_of_ints xs (fun n hn => h n (by simp [hn]))⟩

section
variable {H : Type} {enc : TypeId × Value → H} {P : Program} {w : World} {base : Nat} {spare : Nat → Bool} {held : Bool}

theorem fits_fields {n : Nat} {g : TypeId → Option (List FT)} (hg : ∀ (t : TypeId) (ks : List FT) (cs : List Value) (x : DataW H × List MemPlace), g t = some ks → DataW.trod enc P w base spare held n t cs = some x → Fits ks cs) :
    ∀ (fs : List Field) (off : Nat) (ks : List FT) (cs : List Value) (xs : List (DataW H × List MemPlace)), fieldsAt P g fs off = some ks → xs.length = fs.length →
      (∀ (i : Nat) (f : Field), fs[i]? = some f → DataW.trod enc P w base spare held n f.type ((cs.drop f.offset).take (P.cellsOf f.type)) = xs[i]?) → cs.length = off + ks.length → Fits ks (cs.drop off)
  | [], off, ks, cs, xs, hk, _, _, hl => by
    simp [fieldsAt] at hk
    subst hk
    have : cs.drop off = [] := by simpa using Nat.le_of_eq hl
    rw [this]
    simp [Fits]
  | f :: fs, off, ks, cs, xs, hk, hx, hi, hl => by
    simp only [fieldsAt] at hk
    cases hgt : g f.type with
    | none => simp [hgt] at hk
    | some l =>
      simp only [hgt] at hk
      split at hk
      · rename_i hc
        obtain ⟨hn, ho, hcl⟩ := hc
        cases hr : fieldsAt P g fs (off + l.length) with
        | none => simp [hr] at hk
        | some ks' =>
          simp [hr] at hk
          subst hk
          match xs, hx with
          | x :: xs, hx =>
            have h0 := hi 0 f rfl
            rw [ho, hcl] at h0
            have f0 := hg f.type l _ x hgt (by simpa using h0)
            have fr := fits_fields hg fs (off + l.length) ks' cs xs hr (by simpa using hx) (fun i f' hf => by simpa using hi (i + 1) f' hf) (by simp at hl; omega)
            have := Fits.append f0 fr
            rwa [← List.drop_drop, List.take_append_drop] at this
      · simp at hk

/-- OPENED: what is read at such a type is cells of those kinds. -/
theorem fits_of_trod : ∀ (n : Nat) (fuel : Nat) (t : TypeId) (ks : List FT) (cs : List Value) (x : DataW H × List MemPlace), flatAt P n t = some ks → DataW.trod enc P w base spare held fuel t cs = some x → Fits ks cs
  | 0, _, _, _, _, _, h, _ => by simp [flatAt] at h
  | n + 1, fuel, t, ks, cs, x, h, hd => by
    unfold flatAt at h
    cases hu : P.underlying t with
    | none => simp [hu] at h
    | some d =>
      cases d with
      | bool =>
        simp [hu] at h
        obtain ⟨_, rfl⟩ := h
        obtain ⟨b, e0, _⟩ := DataW.trod_bool hu hd
        subst e0
        exact ⟨⟨b, rfl⟩, trivial⟩
      | int k =>
        simp [hu] at h
        obtain ⟨_, rfl⟩ := h
        obtain ⟨b, e0, _, hw⟩ := DataW.trod_int hu hd
        subst e0
        exact ⟨⟨b, rfl, hw⟩, trivial⟩
      | array m e =>
        simp only [hu] at h
        cases hl : flatAt P n e with
        | none => simp [hl] at h
        | some l =>
          simp only [hl] at h
          split at h
          · rename_i hc
            obtain ⟨h1, h2⟩ := hc
            simp at h
            subst h
            obtain ⟨xs, q, rfl, _, hcl, hxl, hi⟩ := DataW.trod_array hu hd
            refine fits_chunks l m cs (by rw [hcl, h2]) (fun i hlt => ?_)
            have := hi i hlt
            rw [h1] at this
            exact fits_of_trod n q e l _ xs[i] hl (this.trans (List.getElem?_eq_getElem (by omega)))
          · simp at h
      | struct fs =>
        simp only [hu] at h
        split at h
        · cases hf : fieldsAt P (flatAt P n) fs.toList 0 with
          | none => simp [hf] at h
          | some l =>
            simp only [hf] at h
            split at h
            · rename_i hc
              simp at h
              subst h
              obtain ⟨xs, q, rfl, _, hcl, hxl, hi⟩ := DataW.trod_struct hu hd
              have := fits_fields (n := q) (g := flatAt P n) (fun t ks cs x ht hx => fits_of_trod n q t ks cs x ht hx) fs.toList 0 l cs xs hf (by simpa using hxl) (fun i f hf' => hi i f (by simpa using hf')) (by omega)
              simpa using this
            · simp at h
        · simp at h
      | _ => simp [hu] at h
end
end Go.Proofs.Ytmmejomalfjcnaa
