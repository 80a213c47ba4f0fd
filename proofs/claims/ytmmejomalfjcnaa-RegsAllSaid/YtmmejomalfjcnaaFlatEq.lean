/- A plain law, over any program: '==' of two values whose cells are all integers or bools answers whether all cells are alike. Condition: the type's table says so ('flatAt', a closed fact). -/
import Derived.Test.YtmmejomalfjcnaaFlat
namespace Go.Proofs.Ytmmejomalfjcnaa
open Go.RowKit

/-- The value at a type that has these cells. -/
def packAt (P : Program) (t : TypeId) (cs : List Value) : Value :=
  match P.underlying t with
  | some (.array _ _) | some (.struct _) => .agg cs.toArray
  | _ => cs.headD undef

section
variable {P : Program} (w : World)

theorem flat_size {n : Nat} {t : TypeId} {ks : List FT} (h : flatAt P n t = some ks) : P.cellsOf t = ks.length := by
  cases n with
  | zero => simp [flatAt] at h
  | succ n =>
    unfold flatAt at h
    split at h
    · split at h <;> simp_all; subst h; rfl
    · split at h <;> simp_all; subst h; rfl
    · split at h
      · simp at h
      · split at h
        · rename_i hc; simp at h; subst h; simp [hc.2, List.length_flatten, List.map_replicate, List.sum_replicate_nat]
        · simp at h
    · split at h
      · split at h
        · simp at h
        · split at h
          · rename_i hc; simp at h; subst h; exact hc
          · simp at h
      · simp at h
    · simp at h

theorem run_part_flat {n : Nat} {t : TypeId} {ks : List FT} (h : flatAt P n t = some ks) (xs : List Value) (off : Nat) (hf : Fits ks ((xs.drop off).take ks.length)) :
    (part t xs.toArray off).run P w = .ok (packAt P t ((xs.drop off).take ks.length)) w := by
  have hs := flat_size h
  cases n with
  | zero => simp [flatAt] at h
  | succ n =>
    cases hu : P.underlying t with
    | none => simp [flatAt, hu] at h
    | some d =>
      obtain ⟨i, hi⟩ := info_of_underlying hu
      have hsz := run_sizeOf w hi
      cases d with
      | bool =>
        simp [flatAt, hu] at h
        obtain ⟨_, rfl⟩ := h
        cases hx : xs[off]? with
        | none => have := Fits.length hf; simp at this; simp at hx; omega
        | some v =>
          have : (xs.drop off).take 1 = [v] := by
            obtain ⟨hlt, hv⟩ := List.getElem?_eq_some_iff.1 hx
            rw [List.drop_eq_getElem_cons hlt, hv]; rfl
          simp [part, isAgg, run_underlying hu, hx, packAt, hu, this]
      | int k =>
        simp [flatAt, hu] at h
        obtain ⟨_, rfl⟩ := h
        cases hx : xs[off]? with
        | none => have := Fits.length hf; simp at this; simp at hx; omega
        | some v =>
          have : (xs.drop off).take 1 = [v] := by
            obtain ⟨hlt, hv⟩ := List.getElem?_eq_some_iff.1 hx
            rw [List.drop_eq_getElem_cons hlt, hv]; rfl
          simp [part, isAgg, run_underlying hu, hx, packAt, hu, this]
      | array m e =>
        simp [part, isAgg, run_underlying hu, packAt, hu, hsz, hs]
      | struct fs =>
        simp [part, isAgg, run_underlying hu, packAt, hu, hsz, hs]
      | _ => simp [flatAt, hu] at h

theorem eqItems_flat {d L : Nat} {e : TypeId} {l : List FT} {n : Nat} (hl : flatAt P n e = some l) (hL : l.length = L)
    (IH : ∀ (xs ys : List Value), Fits l xs → Fits l ys → ∃ r : Bool, (Op.equalIn d e (packAt P e xs) (packAt P e ys)).run P w = .ok r w ∧ (r = true ↔ xs = ys)) (xs ys : List Value) :
    ∀ (m j : Nat), Fits (List.replicate m l).flatten (xs.drop (j * L)) → Fits (List.replicate m l).flatten (ys.drop (j * L)) →
      ∃ r : Bool, (Op.eqItems d e L xs.toArray ys.toArray (List.range' j m)).run P w = .ok r w ∧ (r = true ↔ xs.drop (j * L) = ys.drop (j * L))
  | 0, j, hx, hy => by
    have h1 : xs.drop (j * L) = [] := by have := Fits.length hx; simp at this ⊢; omega
    have h2 : ys.drop (j * L) = [] := by have := Fits.length hy; simp at this ⊢; omega
    exact ⟨true, by simp [Op.eqItems], by simp [h1, h2]⟩
  | m + 1, j, hx, hy => by
    simp only [List.replicate_succ, List.flatten_cons] at hx hy
    obtain ⟨a1, b1⟩ := Fits.split hx
    obtain ⟨a2, b2⟩ := Fits.split hy
    rw [List.drop_drop] at b1 b2
    obtain ⟨r, hr, hiff⟩ := IH _ _ a1 a2
    have e1 := run_part_flat w hl xs (j * L) a1
    have e2 := run_part_flat w hl ys (j * L) a2
    rw [hL] at hr hiff e1 e2 b1 b2
    have ej : j * L + L = (j + 1) * L := by rw [Nat.succ_mul]
    rw [ej] at b1 b2
    obtain ⟨r', hr', hiff'⟩ := eqItems_flat hl hL IH xs ys m (j + 1) b1 b2
    simp only [List.range'_succ, Op.eqItems, Sem.run_bind, e1, e2, hr, Result.andThen_ok]
    have hcat : (xs.drop (j * L) = ys.drop (j * L)) ↔ ((xs.drop (j * L)).take L = (ys.drop (j * L)).take L ∧ xs.drop ((j + 1) * L) = ys.drop ((j + 1) * L)) := by
      rw [← ej, ← List.drop_drop, ← List.drop_drop]
      constructor
      · intro h; rw [h]; simp
      · rintro ⟨h1, h2⟩
        rw [← List.take_append_drop L (xs.drop (j * L)), h1, h2, List.take_append_drop]
    cases r
    · refine ⟨false, by simp, ?_⟩
      simp only [Bool.false_eq_true, false_iff] at hiff ⊢
      exact fun h => hiff (hcat.1 h).1
    · refine ⟨r', by simpa using hr', ?_⟩
      rw [hiff', hcat]
      simp at hiff
      simp [hiff]

theorem eqFields_flat {d n : Nat}
    (IH : ∀ (t : TypeId) (l : List FT) (xs ys : List Value), flatAt P n t = some l → Fits l xs → Fits l ys → ∃ r : Bool, (Op.equalIn d t (packAt P t xs) (packAt P t ys)).run P w = .ok r w ∧ (r = true ↔ xs = ys)) (xs ys : List Value) :
    ∀ (fs : List Field) (off : Nat) (ks : List FT), fieldsAt P (flatAt P n) fs off = some ks → Fits ks (xs.drop off) → Fits ks (ys.drop off) →
      ∃ r : Bool, (Op.eqFields d xs.toArray ys.toArray fs).run P w = .ok r w ∧ (r = true ↔ xs.drop off = ys.drop off)
  | [], off, ks, hk, hx, hy => by
    simp [fieldsAt] at hk
    subst hk
    have h1 : xs.drop off = [] := by have := Fits.length hx; simp at this ⊢; omega
    have h2 : ys.drop off = [] := by have := Fits.length hy; simp at this ⊢; omega
    exact ⟨true, by simp [Op.eqFields], by simp [h1, h2]⟩
  | f :: fs, off, ks, hk, hx, hy => by
    simp only [fieldsAt] at hk
    cases hgt : flatAt P n f.type with
    | none => simp [hgt] at hk
    | some l =>
      simp only [hgt] at hk
      split at hk
      · rename_i hc
        obtain ⟨hn, ho, hcl⟩ := hc
        cases hr : fieldsAt P (flatAt P n) fs (off + l.length) with
        | none => simp [hr] at hk
        | some ks' =>
          simp [hr] at hk
          subst hk
          obtain ⟨a1, b1⟩ := Fits.split hx
          obtain ⟨a2, b2⟩ := Fits.split hy
          rw [List.drop_drop] at b1 b2
          obtain ⟨r, hrr, hiff⟩ := IH f.type l _ _ hgt a1 a2
          have e1 := run_part_flat w hgt xs off a1
          have e2 := run_part_flat w hgt ys off a2
          obtain ⟨r', hr', hiff'⟩ := eqFields_flat IH xs ys fs (off + l.length) ks' hr b1 b2
          simp only [Op.eqFields, hn, ne_eq, not_false_eq_true, if_true, ho, Sem.run_bind, e1, e2, hrr, Result.andThen_ok]
          have hcat : (xs.drop off = ys.drop off) ↔ ((xs.drop off).take l.length = (ys.drop off).take l.length ∧ xs.drop (off + l.length) = ys.drop (off + l.length)) := by
            rw [← List.drop_drop, ← List.drop_drop]
            constructor
            · intro h; rw [h]; simp
            · rintro ⟨h1, h2⟩
              rw [← List.take_append_drop l.length (xs.drop off), h1, h2, List.take_append_drop]
          cases r
          · refine ⟨false, by simp, ?_⟩
            simp only [Bool.false_eq_true, false_iff] at hiff ⊢
            exact fun h => hiff (hcat.1 h).1
          · refine ⟨r', by simpa using hr', ?_⟩
            rw [hiff', hcat]
            simp at hiff
            simp [hiff]
      · simp at hk

theorem equalIn_flat : ∀ (n d : Nat) (t : TypeId) (ks : List FT) (xs ys : List Value), n ≤ d → flatAt P n t = some ks → Fits ks xs → Fits ks ys →
    ∃ r : Bool, (Op.equalIn d t (packAt P t xs) (packAt P t ys)).run P w = .ok r w ∧ (r = true ↔ xs = ys)
  | 0, _, _, _, _, _, _, h, _, _ => by simp [flatAt] at h
  | n + 1, 0, _, _, _, _, h, _, _, _ => by omega
  | n + 1, d + 1, t, ks, xs, ys, hd, h, hx, hy => by
    cases hu : P.underlying t with
    | none => simp [flatAt, hu] at h
    | some q =>
      obtain ⟨i, hi⟩ := info_of_underlying hu
      cases q with
      | bool =>
        simp [flatAt, hu] at h
        obtain ⟨_, rfl⟩ := h
        match xs, ys, hx, hy with
        | [x], [y], ⟨⟨a, ha⟩, _⟩, ⟨⟨b, hb⟩, _⟩ =>
          subst ha; subst hb
          exact ⟨a == b, by simp [packAt, hu, run_equalIn_bool' w d t a b hu], by simp⟩
      | int k =>
        simp [flatAt, hu] at h
        obtain ⟨_, rfl⟩ := h
        match xs, ys, hx, hy with
        | [x], [y], ⟨⟨a, ha, _⟩, _⟩, ⟨⟨b, hb, _⟩, _⟩ =>
          subst ha; subst hb
          exact ⟨a == b, by simp [packAt, hu, run_equalIn_int w d t k k a b hu], by simp⟩
      | array m e =>
        simp only [flatAt, hu] at h
        cases hl : flatAt P n e with
        | none => simp [hl] at h
        | some l =>
          simp only [hl] at h
          split at h
          · rename_i hc
            obtain ⟨h1, h2⟩ := hc
            simp at h
            subst h
            obtain ⟨ie, hie⟩ : ∃ ie, P.info? e = some ie := by
              cases hq : P.info? e with
              | none =>
                cases n with
                | zero => simp [flatAt] at hl
                | succ n => simp [flatAt, Program.underlying, hq] at hl
              | some ie => exact ⟨ie, rfl⟩
            have hp : ∀ cs : List Value, packAt P t cs = .agg cs.toArray := fun cs => by simp [packAt, hu]
            rw [hp, hp, run_equalIn_array w d xs.toArray ys.toArray hu hie, h1]
            have := eqItems_flat w hl rfl (fun a b fa fb => equalIn_flat n d e l a b (by omega) hl fa fb) xs ys m 0 (by simpa using hx) (by simpa using hy)
            simpa [List.range_eq_range'] using this
          · simp at h
      | struct fs =>
        simp only [flatAt, hu] at h
        split at h
        · rename_i hst
          cases hf : fieldsAt P (flatAt P n) fs.toList 0 with
          | none => simp [hf] at h
          | some l =>
            simp only [hf] at h
            split at h
            · simp at h
              subst h
              have hp : ∀ cs : List Value, packAt P t cs = .agg cs.toArray := fun cs => by simp [packAt, hu]
              have hfo : P.fieldsOf t = fs := by simp [Program.fieldsOf, hu]
              rw [hp, hp, run_equalIn_struct w d t xs.toArray ys.toArray (by rw [hfo]; exact hu) hst, hfo]
              have := eqFields_flat w (d := d) (n := n) (fun t l a b ht fa fb => equalIn_flat n d t l a b (by omega) ht fa fb) xs ys fs.toList 0 l hf (by simpa using hx) (by simpa using hy)
              simpa using this
            · simp at h
        · simp at h
      | _ => simp [flatAt, hu] at h

/-- '==' at such a type. -/
def isAggT (P : Program) (t : TypeId) : Bool :=
  match P.underlying t with
  | some (.array _ _) | some (.struct _) => true
  | _ => false

theorem packAt_agg {t : TypeId} (h : isAggT P t = true) (cs : List Value) : packAt P t cs = .agg cs.toArray := by
  unfold isAggT at h
  unfold packAt
  split at h <;> simp_all

/-- The same in the walk's own spelling. -/
theorem run_equalIn_flat {n : Nat} {t : TypeId} {ks : List FT} {xs ys : List Value} (ha : isAggT P t = true) (h : flatAt P n t = some ks) (hn : n ≤ 10000) (hx : Fits ks xs) (hy : Fits ks ys) (r : Bool) (hr : r = true ↔ xs = ys) :
    (Op.equalIn 10000 t (.agg xs.toArray) (.agg ys.toArray)).run P w = .ok r w := by
  obtain ⟨r', h1, h2⟩ := equalIn_flat w n 10000 t ks xs ys hn h hx hy
  have : r' = r := by rw [Bool.eq_iff_iff, h2, hr]
  subst this
  rwa [packAt_agg ha, packAt_agg ha] at h1

theorem run_eql_flat {n : Nat} {t : TypeId} {ks : List FT} {xs ys : List Value} (ha : isAggT P t = true) (h : flatAt P n t = some ks) (hn : n ≤ Op.maxDepth) (hx : Fits ks xs) (hy : Fits ks ys) (r : Bool) (hr : r = true ↔ xs = ys) :
    (binOp .eql t (.agg xs.toArray) (.agg ys.toArray)).run P w = .ok (.bool r) w := by
  obtain ⟨r', h1, h2⟩ := equalIn_flat w n Op.maxDepth t ks xs ys hn h hx hy
  have : r' = r := by rw [Bool.eq_iff_iff, h2, hr]
  subst this
  rw [packAt_agg ha, packAt_agg ha] at h1
  simp only [binOp]
  simp [Op.equal, h1]

theorem run_neq_flat {n : Nat} {t : TypeId} {ks : List FT} {xs ys : List Value} (ha : isAggT P t = true) (h : flatAt P n t = some ks) (hn : n ≤ Op.maxDepth) (hx : Fits ks xs) (hy : Fits ks ys) (r : Bool) (hr : r = true ↔ xs = ys) :
    (binOp .neq t (.agg xs.toArray) (.agg ys.toArray)).run P w = .ok (.bool !r) w := by
  obtain ⟨r', h1, h2⟩ := equalIn_flat w n Op.maxDepth t ks xs ys hn h hx hy
  have : r' = r := by rw [Bool.eq_iff_iff, h2, hr]
  subst this
  rw [packAt_agg ha, packAt_agg ha] at h1
  simp only [binOp]
  simp [Op.equal, h1]
end
end Go.Proofs.Ytmmejomalfjcnaa
