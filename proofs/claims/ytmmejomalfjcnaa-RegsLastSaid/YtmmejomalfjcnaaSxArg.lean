/- A law's arguments opened: integers, bools, texts, structs, arrays, slices of these, by their type's shape. No condition. -/
import Derived.Test.YtmmejomalfjcnaaSxLaw
import Derived.Deep.Slices
namespace Go.Proofs.Ytmmejomalfjcnaa
open Go.RowKit Go.ChangeShapes Go.WideShapes
set_option linter.unusedVariables false
set_option linter.unusedSimpArgs false
set_option linter.constructorNameAsVariable false
namespace Sx

/-- The shape of a cell: an integer, a bool, a text, a slice of elements of so many cells. -/
inductive Sh where
  | i (k : IntKind)
  | b
  | s
  | l (sz : Nat) (ss : List Sh)

def shFields (P : Program) (g : TypeId → Option (List Sh)) : List Field → Nat → Option (List Sh)
  | [], _ => some []
  | f :: fs, off =>
    match g f.type with
    | none => none
    | some l => if f.offset = off ∧ P.cellsOf f.type = l.length then (shFields P g fs (off + l.length)).map (l ++ ·) else none
def shAt (P : Program) : Nat → TypeId → Option (List Sh)
  | 0, _ => none
  | n + 1, t =>
    match P.underlying t with
    | some .bool => if P.cellsOf t = 1 then some [.b] else none
    | some (.int k) => if P.cellsOf t = 1 then some [.i k] else none
    | some .string => if P.cellsOf t = 1 then some [.s] else none
    | some (.slice e) =>
      match shAt P n e with
      | none => none
      | some l => if P.cellsOf t = 1 ∧ P.cellsOf e = l.length ∧ 0 < l.length then some [.l l.length l] else none
    | some (.array m e) =>
      match shAt P n e with
      | none => none
      | some l => if P.cellsOf e = l.length ∧ P.cellsOf t = m * l.length then some (List.replicate m l).flatten else none
    | some (.struct fs) =>
      match shFields P (shAt P n) fs.toList 0 with
      | none => none
      | some l => if P.cellsOf t = l.length then some l else none
    | _ => none

mutual
def ShOK (w : World) : Sh → Value → Prop
  | .i k, v => ∃ n, v = .int k n ∧ InK k n
  | .b, v => ∃ x, v = .bool x
  | .s, v => ∃ x, v = .string x
  | .l sz ss, v => (∃ a cap, v = .slice a 0 cap ∧ (a = none → cap = 0)) ∨
      ∃ b off len cap, v = .slice (some ⟨b, off, none⟩) len cap ∧ len ≤ cap ∧ cap ≤ maxLen ∧ b < w.heap.size ∧ ∀ e, e < len → ∃ cs, ShOKs w ss cs ∧ cs.length = sz ∧ ∀ j, j < sz → w.cell? ⟨b, off + e * sz + j, none⟩ = cs[j]?
def ShOKs (w : World) : List Sh → List Value → Prop
  | [], vs => vs = []
  | s :: ss, vs => ∃ v t, vs = v :: t ∧ ShOK w s v ∧ ShOKs w ss t
end
variable {w : World}
theorem ShOKs.length : ∀ {ss : List Sh} {vs : List Value}, ShOKs w ss vs → vs.length = ss.length
  | [], vs, h => by have h : vs = [] := h; simp [h]
  | s :: ss, vs, h => by obtain ⟨v, t, rfl, _, h2⟩ := h; simp [h2.length]
theorem ShOKs.append : ∀ {ss ts : List Sh} {vs us : List Value}, ShOKs w ss vs → ShOKs w ts us → ShOKs w (ss ++ ts) (vs ++ us)
  | [], ts, vs, us, h, k => by have h : vs = [] := h; simpa [h] using k
  | s :: ss, ts, vs, us, h, k => by obtain ⟨v, t, rfl, h1, h2⟩ := h; exact ⟨v, t ++ us, rfl, h1, h2.append k⟩
theorem sh_chunks (l : List Sh) : ∀ (m : Nat) (cs : List Value), cs.length = m * l.length → (∀ i, i < m → ShOKs w l ((cs.drop (i * l.length)).take l.length)) → ShOKs w (List.replicate m l).flatten cs
  | 0, cs, h, _ => by
    have : cs = [] := by simpa using h
    subst this
    rfl
  | m + 1, cs, h, hi => by
    have h0 := hi 0 (by omega)
    simp only [Nat.zero_mul, List.drop_zero] at h0
    have hr := sh_chunks l m (cs.drop l.length) (by simp [h, Nat.succ_mul]) (fun i hlt => by
      have := hi (i + 1) (by omega)
      rw [List.drop_drop]
      rwa [Nat.succ_mul, Nat.add_comm] at this)
    have := ShOKs.append h0 hr
    rw [List.take_append_drop] at this
    simpa [List.replicate_succ] using this

section
variable {H : Type} {enc : TypeId × Value → H} {P : Program} {base : Nat} {spare : Nat → Bool} {held : Bool}
theorem sh_fields {n : Nat} {g : TypeId → Option (List Sh)} (hg : ∀ (t : TypeId) (ks : List Sh) (cs : List Value) (x : DataW H × List MemPlace), g t = some ks → DataW.trod enc P w base spare held n t cs = some x → ShOKs w ks cs) :
    ∀ (fs : List Field) (off : Nat) (ks : List Sh) (cs : List Value) (xs : List (DataW H × List MemPlace)), shFields P g fs off = some ks → xs.length = fs.length →
      (∀ (i : Nat) (f : Field), fs[i]? = some f → DataW.trod enc P w base spare held n f.type ((cs.drop f.offset).take (P.cellsOf f.type)) = xs[i]?) → cs.length = off + ks.length → ShOKs w ks (cs.drop off)
  | [], off, ks, cs, xs, hk, _, _, hl => by
    simp [shFields] at hk
    subst hk
    have : cs.drop off = [] := by simpa using Nat.le_of_eq hl
    rw [this]
    rfl
  | f :: fs, off, ks, cs, xs, hk, hx, hi, hl => by
    simp only [shFields] at hk
    cases hgt : g f.type with
    | none => simp [hgt] at hk
    | some l =>
      simp only [hgt] at hk
      split at hk
      · rename_i hc
        obtain ⟨ho, hcl⟩ := hc
        cases hr : shFields P g fs (off + l.length) with
        | none => simp [hr] at hk
        | some ks' =>
          simp [hr] at hk
          subst hk
          match xs, hx with
          | x :: xs, hx =>
            have h0 := hi 0 f rfl
            rw [ho, hcl] at h0
            have f0 := hg f.type l _ x hgt (by simpa using h0)
            have fr := sh_fields hg fs (off + l.length) ks' cs xs hr (by simpa using hx) (fun i f' hf => by simpa using hi (i + 1) f' hf) (by simp at hl; omega)
            have := ShOKs.append f0 fr
            rwa [← List.drop_drop, List.take_append_drop] at this
      · simp at hk

/-- OPENED: what is read at such a type is cells of those shapes. -/
theorem sh_of_trod : ∀ (n : Nat) (fuel : Nat) (t : TypeId) (ks : List Sh) (cs : List Value) (x : DataW H × List MemPlace), shAt P n t = some ks → DataW.trod enc P w base spare held fuel t cs = some x → ShOKs w ks cs
  | 0, _, _, _, _, _, h, _ => by simp [shAt] at h
  | n + 1, fuel, t, ks, cs, x, h, hd => by
    unfold shAt at h
    cases hu : P.underlying t with
    | none => simp [hu] at h
    | some d =>
      cases d with
      | bool =>
        simp [hu] at h
        obtain ⟨_, rfl⟩ := h
        obtain ⟨b, e0, _⟩ := DataW.trod_bool hu hd
        subst e0
        exact ⟨_, _, rfl, ⟨b, rfl⟩, rfl⟩
      | int k =>
        simp [hu] at h
        obtain ⟨_, rfl⟩ := h
        obtain ⟨b, e0, _, hw⟩ := DataW.trod_int hu hd
        subst e0
        exact ⟨_, _, rfl, ⟨b, rfl, InK_of_wf hw⟩, rfl⟩
      | string =>
        simp [hu] at h
        obtain ⟨_, rfl⟩ := h
        obtain ⟨b, e0, _⟩ := DataW.trod_string hu hd
        subst e0
        exact ⟨_, _, rfl, ⟨b, rfl⟩, rfl⟩
      | slice e =>
        simp only [hu] at h
        cases hl : shAt P n e with
        | none => simp [hl] at h
        | some l =>
          simp only [hl] at h
          split at h
          · rename_i hc
            obtain ⟨_, h1, h2⟩ := hc
            simp at h
            subst h
            rcases Go.Deep.open_slice hu hd with ⟨rfl, _⟩ | ⟨a, len, cap, m, q, D, Pl, rfl, hb, hle, hm, hmm, _, hx⟩
            · exact ⟨_, _, rfl, .inl ⟨none, 0, rfl, fun _ => rfl⟩, rfl⟩
            · refine ⟨_, _, rfl, ?_, rfl⟩
              by_cases h0 : len = 0
              · subst h0; exact .inl ⟨some a, cap, rfl, fun h => by cases h⟩
              · right
                have hle2 : len ≤ m := by rw [hmm]; split <;> omega
                obtain ⟨c0, g0, _⟩ := hx 0 (by omega)
                obtain ⟨_, gl, g1⟩ := World.cells?_some g0
                have hspot : a.spot = none := by
                  have := g1 0 (by omega)
                  rw [List.getElem?_eq_getElem (by omega)] at this
                  cases hs : a.spot with
                  | none => rfl
                  | some sp =>
                    exfalso
                    have ha : ((a.add (0 * P.cellsOf e)).add 0).spot = some sp := by simp [Addr.add, hs]
                    simp only [World.cell?, ha] at this
                    split at this <;> simp at this
                obtain ⟨b, off, sp⟩ := a
                simp only at hspot
                subst hspot
                refine ⟨b, off, len, cap, rfl, hle, hm, ?_, fun i hi => ?_⟩
                · have := g1 0 (by omega)
                  rw [List.getElem?_eq_getElem (by omega), addr_add, addr_add] at this
                  simp only [World.cell?] at this
                  split at this
                  · rename_i hq; exact (Array.getElem?_eq_some_iff.1 hq).1
                  · cases this
                · obtain ⟨cs', k1, k2⟩ := hx i (by omega)
                  obtain ⟨_, kl, k3⟩ := World.cells?_some k1
                  refine ⟨cs', sh_of_trod n q e l cs' _ hl k2, by omega, fun j hj => ?_⟩
                  have := k3 j (by omega)
                  rw [addr_add, addr_add, h1] at this
                  exact this
          · simp at h
      | array m e =>
        simp only [hu] at h
        cases hl : shAt P n e with
        | none => simp [hl] at h
        | some l =>
          simp only [hl] at h
          split at h
          · rename_i hc
            obtain ⟨h1, h2⟩ := hc
            simp at h
            subst h
            obtain ⟨xs, q, rfl, _, hcl, hxl, hi⟩ := DataW.trod_array hu hd
            refine sh_chunks l m cs (by rw [hcl, h2]) (fun i hlt => ?_)
            have := hi i hlt
            rw [h1] at this
            exact sh_of_trod n q e l _ xs[i] hl (this.trans (List.getElem?_eq_getElem (by omega)))
          · simp at h
      | struct fs =>
        simp only [hu] at h
        cases hf : shFields P (shAt P n) fs.toList 0 with
        | none => simp [hf] at h
        | some l =>
          simp only [hf] at h
          split at h
          · rename_i hc
            simp at h
            subst h
            obtain ⟨xs, q, rfl, _, hcl, hxl, hi⟩ := DataW.trod_struct hu hd
            have := sh_fields (n := q) (g := shAt P n) (fun t ks cs x ht hx => sh_of_trod n q t ks cs x ht hx) fs.toList 0 l cs xs hf (by simpa using hxl) (fun i f hf' => hi i f (by simpa using hf')) (by omega)
            simpa using this
          · simp at h
      | _ => simp [hu] at h
end

/-- One cell more. -/
theorem sh_i {k : IntKind} {ss : List Sh} {c : List Value} (h : ShOKs w (.i k :: ss) c) : ∃ x c', c = .int k x :: c' ∧ InK k x ∧ ShOKs w ss c' := by
  obtain ⟨v, t, rfl, ⟨x, rfl, hx⟩, h2⟩ := h
  exact ⟨x, t, rfl, hx, h2⟩
theorem sh_b {ss : List Sh} {c : List Value} (h : ShOKs w (.b :: ss) c) : ∃ x c', c = .bool x :: c' ∧ ShOKs w ss c' := by
  obtain ⟨v, t, rfl, ⟨x, rfl⟩, h2⟩ := h
  exact ⟨x, t, rfl, h2⟩
theorem sh_s {ss : List Sh} {c : List Value} (h : ShOKs w (.s :: ss) c) : ∃ x c', c = .string x :: c' ∧ ShOKs w ss c' := by
  obtain ⟨v, t, rfl, ⟨x, rfl⟩, h2⟩ := h
  exact ⟨x, t, rfl, h2⟩
theorem sh_e {c : List Value} (h : ShOKs w [] c) : c = [] := h
theorem sh_r {k : IntKind} : ∀ (n : Nat) {ss : List Sh} {c : List Value}, ShOKs w (List.replicate n (.i k) ++ ss) c → ∃ xs c', c = intCells k n xs ++ c' ∧ xs.length = n ∧ (∀ x ∈ xs, InK k x) ∧ ShOKs w ss c'
  | 0, ss, c, h => ⟨[], c, by simp [intCells], rfl, by simp, by simpa using h⟩
  | n + 1, ss, c, h => by
    obtain ⟨x, c1, rfl, hx, h1⟩ := sh_i (ss := List.replicate n (.i k) ++ ss) h
    obtain ⟨xs, c2, rfl, hl, hr, h2⟩ := sh_r n h1
    refine ⟨x :: xs, c2, ?_, by simp [hl], ?_, h2⟩
    · simp [intCells, List.range_succ_eq_map, Function.comp_def]
    · intro y hy
      rcases List.mem_cons.mp hy with rfl | hy
      · exact hx
      · exact hr y hy
/-- A slice of integers. -/
theorem sh_rd {k : IntKind} {ss : List Sh} {c : List Value} (h : ShOKs w (.l 1 [.i k] :: ss) c) : ∃ v xs c', c = v :: c' ∧ Reads w (fun _ => False) k v xs ∧ (∀ x ∈ xs, InK k x) ∧ xs.length ≤ maxLen ∧ ShOKs w ss c' := by
  obtain ⟨v, t, rfl, h1, h2⟩ := h
  rcases h1 with ⟨a, cap, rfl, hn⟩ | ⟨b, off, len, cap, rfl, hle, hmx, hb, hx⟩
  · exact ⟨_, [], t, rfl, .inl ⟨a, cap, rfl, rfl, hn⟩, by simp, by simp, h2⟩
  · have : ∀ e, ∃ x : Int, e < len → w.cell? ⟨b, off + e, none⟩ = some (.int k x) ∧ InK k x := by
      intro e
      by_cases he : e < len
      · obtain ⟨cs, g1, g2, g3⟩ := hx e he
        obtain ⟨x, c', rfl, hi, _⟩ := sh_i g1
        have := g3 0 (by omega)
        exact ⟨x, fun _ => ⟨by simpa using this, hi⟩⟩
      · exact ⟨0, fun h => absurd h he⟩
    obtain ⟨f, hf⟩ := Classical.axiomOfChoice this
    refine ⟨_, (List.range len).map f, t, rfl, .inr ⟨b, off, cap, by simp, by simpa using hle, hb, id, fun j hj => ?_⟩, ?_, ?_, h2⟩
    · have hj : j < len := by simpa using hj
      rw [(hf j hj).1]
      simp [List.getD, hj]
    rotate_left
    · simp; omega
    · intro x hx
      simp only [List.mem_map, List.mem_range] at hx
      obtain ⟨j, hj, rfl⟩ := hx
      exact (hf j hj).2
/-- A slice of elements. -/
theorem sh_rs {sz : Nat} {es ss : List Sh} {c : List Value} (h : ShOKs w (.l sz es :: ss) c) (hsz : es.length = sz) : ∃ v n f c', c = v :: c' ∧ ReadsS w (fun _ => False) sz v n f ∧ (∀ e, e < n → ShOKs w es (f e)) ∧ n ≤ maxLen ∧ ShOKs w ss c' := by
  obtain ⟨v, t, rfl, h1, h2⟩ := h
  rcases h1 with ⟨a, cap, rfl, hn⟩ | ⟨b, off, len, cap, rfl, hle, hmx, hb, hx⟩
  · exact ⟨_, 0, fun _ => [], t, rfl, ⟨fun e he => by omega, .inl ⟨a, cap, rfl, rfl, hn⟩⟩, fun e he => by omega, by omega, h2⟩
  · have : ∀ e, ∃ cs : List Value, e < len → ShOKs w es cs ∧ cs.length = sz ∧ ∀ j, j < sz → w.cell? ⟨b, off + e * sz + j, none⟩ = cs[j]? := by
      intro e
      by_cases he : e < len
      · obtain ⟨cs, g⟩ := hx e he; exact ⟨cs, fun _ => g⟩
      · exact ⟨[], fun h => absurd h he⟩
    obtain ⟨f, hf⟩ := Classical.axiomOfChoice this
    refine ⟨_, len, f, t, rfl, ⟨fun e he => (hf e he).2.1, .inr ⟨b, off, cap, rfl, hle, hb, id, fun e he j hj => ?_⟩⟩, fun e he => (hf e he).1, by omega, h2⟩
    obtain ⟨_, g2, g3⟩ := hf e he
    rw [g3 j hj, List.getD_eq_getElem?_getD, List.getElem?_eq_getElem (by omega)]
    rfl
/-- Elements named. -/
theorem ReadsS.as {F : Nat → Prop} {sz n : Nat} {v : Value} {f g : Nat → List Value} (h : ReadsS w F sz v n f) (he : ∀ e, e < n → f e = g e) : ReadsS w F sz v n g := by
  refine ⟨fun e hl => by rw [← he e hl]; exact h.1 e hl, ?_⟩
  rcases h.2 with h2 | ⟨b, off, cap, h1, h0, h2, h3, h4⟩
  · exact .inl h2
  · exact .inr ⟨b, off, cap, h1, h0, h2, h3, fun e hl j hj => by rw [← he e hl]; exact h4 e hl j hj⟩
end Sx
section
variable {H : Type} {enc : TypeId × Value → H} {P : Program} {w : World} {base : Nat} {spare : Nat → Bool} {held : Bool}
/-- An argument, opened: a struct or an array. -/
theorem open_agg {r : Reach} {b0 n : Nat} {t : TypeId} {ks : List Sx.Sh} {v : Value} {d : DataW H} {p : List MemPlace} (ha : isAggT P t = true) (hk : Sx.shAt P n t = some ks)
    (hv : Value.okWide P w r b0 t v) (h : DataW.Trod enc P w base spare held t v d p) : ∃ cs : List Value, v = .agg cs.toArray ∧ Sx.ShOKs w ks cs := by
  obtain ⟨cs, rfl⟩ : ∃ cs, v = .agg cs := by
    unfold Value.okWide at hv
    unfold isAggT at ha
    split at hv
    · obtain ⟨cs, h, _⟩ := hv; exact ⟨cs, h⟩
    · obtain ⟨cs, h, _⟩ := hv; exact ⟨cs, h⟩
    · split at ha <;> simp_all
  obtain ⟨fuel, hf⟩ := h
  exact ⟨cs.toList, by simp, Sx.sh_of_trod n fuel t ks _ _ hk hf⟩
/-- An argument, opened: any other. -/
theorem open_one {n : Nat} {t : TypeId} {ks : List Sx.Sh} {v : Value} {d : DataW H} {p : List MemPlace} (hk : Sx.shAt P n t = some ks) (h : DataW.Trod enc P w base spare held t v d p) : Sx.ShOKs w ks v.cells.toList := by
  obtain ⟨fuel, hf⟩ := h
  exact Sx.sh_of_trod n fuel t ks _ _ hk hf
theorem cells_one {r : Reach} {b0 : Nat} {t e : TypeId} {v u : Value} (ht : P.underlying t = some (.slice e)) (hv : Value.okWide P w r b0 t v) (h : v.cells.toList = u :: []) : v = u := by
  obtain ⟨a, len, cap, rfl⟩ := okWide_slice ht hv
  simpa [Value.cells] using h
end
end Go.Proofs.Ytmmejomalfjcnaa
