/- The symbolic executor is right: code. No condition. -/
import Derived.Test.YtmmejomalfjcnaaSxSound
namespace Go.Proofs.Ytmmejomalfjcnaa
open Go.RowKit
set_option linter.unusedVariables false
set_option linter.unusedSimpArgs false
namespace Sx
variable {P : Program} {W : World} {F : Nat → Prop} {ρ ρ0 : Num} {s : SS} {a : Act} {w : World} {cx : Ctx}

def isPiece : SV → Bool
  | .ints _ _ _ => true
  | _ => false

theorem cond_prop {b : Bool} {p : Prop} (h : bif b then p else False) : b = true ∧ p := by
  cases b
  · exact h.elim
  · exact ⟨rfl, h⟩
theorem eqv_ints {x : SV} {k : IntKind} {m : Nat} {xs : List Int} (h : eqv x (.ints k m xs)) : x = .ints k m xs := by
  cases x <;> simp only [eqv] at h
  obtain ⟨h1, h2⟩ := cond_prop h
  simp only [Bool.and_eq_true, decide_eq_true_eq] at h1
  rw [h1.1, Nat.eq_of_beq_eq_true h1.2, h2]

mutual
theorem eqv_ok (ρ : Num) {n : Nat} : ∀ {x y : SV}, eqv x y → okd W F n x → y ≠ .top → den ρ x = den ρ y ∧ okd W F n y ∧ x ≠ .top ∧ isPiece x = isPiece y
  | x, .top, _, _, ht => absurd rfl ht
  | x, .int k m, h, ho, _ => by
    simp only [eqv] at h
    cases hx : asI x with
    | none => simp [hx] at h
    | some q =>
      obtain ⟨k', m', c⟩ := q
      simp only [hx] at h
      cases hk : decide (k' = k) with
      | false => simp [hk] at h
      | true =>
      simp only [hk, cond_true] at h
      simp at hk
      subst hk h
      exact ⟨asI_ok hx ρ, trivial, by rintro rfl; simp [asI] at hx, by cases x <;> simp [asI] at hx <;> rfl⟩
  | x, .bool b, h, ho, _ => by
    simp only [eqv] at h
    cases hx : asB x with
    | none => simp [hx] at h
    | some q =>
      obtain ⟨b', c⟩ := q
      simp [hx] at h
      subst h
      exact ⟨asB_ok hx ρ, trivial, by rintro rfl; simp [asB] at hx, by cases x <;> simp [asB] at hx <;> rfl⟩
  | x, .ints k m xs, h, ho, _ => by
    have := eqv_ints h
    subst this
    exact ⟨rfl, trivial, (fun h => by cases h), rfl⟩
  | x, .agg bs, h, ho, _ => by
    cases x <;> simp only [eqv] at h
    rename_i cs
    cases hn : noTop bs with
    | false => simp [hn] at h
    | true =>
      simp [hn] at h
      obtain ⟨h1, h2, h3⟩ := eqvL_ok ρ h ho hn
      exact ⟨by simp [den, h1], h3, (fun h => by cases h), rfl⟩
  | x, .tup bs, h, ho, _ => by
    cases x <;> simp only [eqv] at h
    rename_i cs
    cases hn : noTop bs with
    | false => simp [hn] at h
    | true =>
      simp [hn] at h
      obtain ⟨h1, h2, h3⟩ := eqvL_ok ρ h ho hn
      exact ⟨by simp [den, h2], h3, (fun h => by cases h), rfl⟩
  | x, .pte i o e, h, ho, _ => by
    cases x <;> simp only [eqv] at h
    obtain ⟨h1, rfl⟩ := cond_prop h
    simp only [Bool.and_eq_true] at h1
    obtain rfl := Nat.eq_of_beq_eq_true h1.1
    obtain rfl := Nat.eq_of_beq_eq_true h1.2
    exact ⟨rfl, ho, (fun h => by cases h), rfl⟩
  | x, .rd k v xs, h, ho, _ => by
    cases x <;> simp only [eqv] at h
    obtain ⟨h1, rfl, rfl⟩ := cond_prop h
    simp at h1
    subst h1
    exact ⟨rfl, ho, (fun h => by cases h), rfl⟩
  | x, .lit k m, h, ho, _ => by simp only [eqv] at h; subst h; exact ⟨rfl, ho, (fun h => by cases h), rfl⟩
  | x, .litb b, h, ho, _ => by simp only [eqv] at h; subst h; exact ⟨rfl, ho, (fun h => by cases h), rfl⟩
  | x, .str b, h, ho, _ => by simp only [eqv] at h; subst h; exact ⟨rfl, ho, (fun h => by cases h), rfl⟩
  | x, .val b, h, ho, _ => by simp only [eqv] at h; subst h; exact ⟨rfl, ho, (fun h => by cases h), rfl⟩
  | x, .hnd b, h, ho, _ => by simp only [eqv] at h; subst h; exact ⟨rfl, ho, (fun h => by cases h), rfl⟩
  | x, .ptr i o, h, ho, _ => by simp only [eqv] at h; subst h; exact ⟨rfl, ho, (fun h => by cases h), rfl⟩
  | x, .sl i o l c, h, ho, _ => by simp only [eqv] at h; subst h; exact ⟨rfl, ho, (fun h => by cases h), rfl⟩
  | x, .os i o l c, h, ho, _ => by
    cases x <;> simp only [eqv] at h
    · obtain ⟨h1, rfl, rfl, rfl⟩ := cond_prop h
      obtain rfl := Nat.eq_of_beq_eq_true h1
      exact ⟨rfl, ho, (fun h => by cases h), rfl⟩
    · obtain ⟨h1, rfl, rfl, rfl⟩ := cond_prop h
      obtain rfl := Nat.eq_of_beq_eq_true h1
      exact ⟨rfl, ho, (fun h => by cases h), rfl⟩
  | x, .on i l z, h, ho, _ => by
    cases x <;> simp only [eqv] at h
    obtain ⟨h1, rfl, rfl⟩ := cond_prop h
    obtain rfl := Nat.eq_of_beq_eq_true h1
    exact ⟨rfl, ho, (fun h => by cases h), rfl⟩
  | x, .gp _ _, h, ho, _ => by simp only [eqv] at h; subst h; exact ⟨rfl, ho, (fun h => by cases h), rfl⟩
  | x, .gpe _ _ _ _ _, h, ho, _ => by simp only [eqv] at h; subst h; exact ⟨rfl, ho, (fun h => by cases h), rfl⟩
  | x, .rda k v xs e, h, ho, _ => by simp only [eqv] at h; subst h; exact ⟨rfl, ho, (fun h => by cases h), rfl⟩
  | x, .rs _ _ _ _, h, ho, _ => by simp only [eqv] at h; subst h; exact ⟨rfl, ho, (fun h => by cases h), rfl⟩
  | x, .rsa _ _ _ _ _ _, h, ho, _ => by simp only [eqv] at h; subst h; exact ⟨rfl, ho, (fun h => by cases h), rfl⟩
  | x, .fn f u v, h, ho, _ => by simp only [eqv] at h; subst h; exact ⟨rfl, ho, (fun h => by cases h), rfl⟩
theorem eqvL_ok (ρ : Num) {n : Nat} : ∀ {l m : List SV}, eqvL l m → okdL W F n l → noTop m = true → cellsL ρ l = cellsL ρ m ∧ denL ρ l = denL ρ m ∧ okdL W F n m
  | l, [], h, ho, _ => by
    cases l <;> simp only [eqvL] at h
    exact ⟨rfl, rfl, trivial⟩
  | l, b :: bs, h, ho, ht => by
    cases l with
    | nil => simp only [eqvL] at h
    | cons c cs =>
      simp only [eqvL] at h
      have ht2 : noTop bs = true := by cases b <;> simp_all [noTop]
      have hb : b ≠ .top := by rintro rfl; simp [noTop] at ht
      obtain ⟨h1, h2, h4⟩ := eqvL_ok ρ h.2 ho.2 ht2
      obtain ⟨e1, e2, e3, e4⟩ := eqv_ok ρ h.1 ho.1 hb
      refine ⟨?_, by simp [denL, e1, h2], e2, h4⟩
      cases hp : isPiece b with
      | true =>
        cases b <;> simp [isPiece] at hp
        have h3 := eqv_ints h.1
        subst h3
        simp [cellsL, h1]
      | false =>
        rw [hp] at e4
        have s1 : single b = true := by cases b <;> first | rfl | (exact absurd rfl hb) | (simp [isPiece] at hp)
        have s2 : single c = true := by cases c <;> first | rfl | (exact absurd rfl e3) | (simp [isPiece] at e4)
        rw [cellsL_one s1, cellsL_one s2, e1, h1]
end

theorem eqvL_cells (ρ : Num) {n : Nat} : ∀ {l m : List SV} {vs : List Value}, eqvL l m → okdL W F n l → CellsOK ρ l vs → CellsOK ρ m vs ∧ okdL W F n m
  | l, [], vs, h, ho, hc => by
    cases l <;> simp only [eqvL] at h
    exact ⟨hc, trivial⟩
  | l, b :: bs, vs, h, ho, hc => by
    cases l with
    | nil => simp only [eqvL] at h
    | cons c cs =>
      simp only [eqvL] at h
      by_cases hb : b = .top
      · subst hb
        have h1 := h.1
        by_cases hs : single c = true
        · obtain ⟨t, rfl, h2⟩ := hc.one hs
          obtain ⟨i1, i2⟩ := eqvL_cells ρ h.2 ho.2 h2
          exact ⟨⟨_, t, rfl, i1⟩, trivial, i2⟩
        · cases c <;> first
            | (exact absurd rfl hs)
            | (simp only [eqv] at h1; done)
            | (obtain ⟨u, t, rfl, h2⟩ := hc
               obtain ⟨i1, i2⟩ := eqvL_cells ρ h.2 ho.2 h2
               exact ⟨⟨u, t, rfl, i1⟩, trivial, i2⟩)
      · obtain ⟨e1, e2, e3, e4⟩ := eqv_ok ρ h.1 ho.1 hb
        cases hp : isPiece b with
        | true =>
          cases b <;> simp [isPiece] at hp
          have h3 := eqv_ints h.1
          subst h3
          obtain ⟨t, rfl, h2⟩ := hc
          obtain ⟨i1, i2⟩ := eqvL_cells ρ h.2 ho.2 h2
          exact ⟨⟨t, rfl, i1⟩, trivial, i2⟩
        | false =>
          rw [hp] at e4
          have s1 : single b = true := by cases b <;> first | rfl | (exact absurd rfl hb) | (simp [isPiece] at hp)
          have s2 : single c = true := by cases c <;> first | rfl | (exact absurd rfl e3) | (simp [isPiece] at e4)
          obtain ⟨t, rfl, h2⟩ := hc.one s2
          obtain ⟨i1, i2⟩ := eqvL_cells ρ h.2 ho.2 h2
          rw [e1]
          exact ⟨.mk_one s1 i1, e2, i2⟩

mutual
theorem okB_mono {n m : Nat} (h : n ≤ m) : ∀ {c : SV}, okB n c = true → okB m c = true
  | .ptr i _, hc => by simp only [okB] at *; exact Nat.ble_eq_true_of_le (Nat.le_trans (Nat.le_of_ble_eq_true hc) h)
  | .pte i _ _, hc => by simp only [okB] at *; exact Nat.ble_eq_true_of_le (Nat.le_trans (Nat.le_of_ble_eq_true hc) h)
  | .sl i _ _ _, hc => by simp only [okB] at *; exact Nat.ble_eq_true_of_le (Nat.le_trans (Nat.le_of_ble_eq_true hc) h)
  | .os i _ _ _, hc => by simp only [okB] at *; exact Nat.ble_eq_true_of_le (Nat.le_trans (Nat.le_of_ble_eq_true hc) h)
  | .on i _ _, hc => by simp only [okB] at *; exact Nat.ble_eq_true_of_le (Nat.le_trans (Nat.le_of_ble_eq_true hc) h)
  | .agg cs, hc => by simp only [okB] at *; exact okBL_mono h hc
  | .tup cs, hc => by simp only [okB] at *; exact okBL_mono h hc
  | .fn _ x y, hc => by simp only [okB, Bool.and_eq_true] at *; exact ⟨okBL_mono h hc.1, okBL_mono h hc.2⟩
  | .top, _ | .lit _ _, _ | .int _ _, _ | .litb _, _ | .bool _, _ | .str _, _ | .val _, _ | .hnd _, _ | .ints _ _ _, _ | .gp _ _, _ | .gpe _ _ _ _ _, _ | .rd _ _ _, _ | .rda _ _ _ _, _ | .rs _ _ _ _, _ | .rsa _ _ _ _ _ _, _ => rfl
theorem okBL_mono {n m : Nat} (h : n ≤ m) : ∀ {l : List SV}, okBL n l = true → okBL m l = true
  | [], _ => rfl
  | c :: l, hc => by simp only [okBL, Bool.and_eq_true] at *; exact ⟨okB_mono h hc.1, okBL_mono h hc.2⟩
end

mutual
/-- Fewer rows serve, if its blocks are among them. -/
theorem okd_less {n m : Nat} : ∀ {c : SV}, okd W F n c → okB m c = true → okd W F m c
  | .ptr i _, _, hb => by simp only [okB] at hb; exact Nat.le_of_ble_eq_true hb
  | .pte i _ _, _, hb => by simp only [okB] at hb; exact Nat.le_of_ble_eq_true hb
  | .sl i _ _ _, _, hb => by simp only [okB] at hb; exact Nat.le_of_ble_eq_true hb
  | .os i _ _ _, _, hb => by simp only [okB] at hb; exact Nat.le_of_ble_eq_true hb
  | .on i _ _, _, hb => by simp only [okB] at hb; exact Nat.le_of_ble_eq_true hb
  | .gpe _ _ _ _ _, ho, _ => ho
  | .gp _ _, _, _ => trivial
  | .agg cs, ho, hb => by simp only [okB] at hb; exact okdL_less (l := cs) ho hb
  | .tup cs, ho, hb => by simp only [okB] at hb; exact okdL_less (l := cs) ho hb
  | .fn _ x y, ho, hb => by simp only [okB, Bool.and_eq_true] at hb; exact ⟨okdL_less (l := x) ho.1 hb.1, okdL_less (l := y) ho.2 hb.2⟩
  | .rd _ _ _, ho, _ => ho
  | .rda _ _ _ _, ho, _ => ho
  | .rs _ _ _ _, ho, _ => ho
  | .rsa _ _ _ _ _ _, ho, _ => ho
  | .top, _, _ | .lit _ _, _, _ | .int _ _, _, _ | .litb _, _, _ | .bool _, _, _ | .str _, _, _ | .val _, _, _ | .hnd _, _, _ | .ints _ _ _, _, _ => trivial
theorem okdL_less {n m : Nat} : ∀ {l : List SV}, okdL W F n l → okBL m l = true → okdL W F m l
  | [], _, _ => trivial
  | c :: l, ho, hb => by simp only [okBL, Bool.and_eq_true] at hb; exact ⟨okd_less ho.1 hb.1, okdL_less ho.2 hb.2⟩
end

theorem fitsTm_ok {tm : List (Nat × SV)} : ∀ {t : List (Nat × SV)}, fitsTm tm t → ∀ d v, t.lookup d = some v → ∃ u, tm.lookup d = some u ∧ eqv u v
  | [], _, d, v, h => by simp at h
  | (e, x) :: t, hf, d, v, h => by
    rw [lookup_cons] at h
    obtain ⟨h1, h2⟩ := hf
    by_cases hd : d = e
    · subst hd
      simp at h; subst h
      cases hl : tm.lookup d with
      | none => simp [hl] at h1
      | some u => exact ⟨u, rfl, by simpa [hl] using h1⟩
    · simp [hd] at h
      exact fitsTm_ok h2 d v h
theorem okTm_ok {n : Nat} : ∀ {t : List (Nat × SV)}, okTm n t = true → ∀ d v, t.lookup d = some v → okB n v = true
  | [], _, d, v, h => by simp at h
  | (e, x) :: t, hf, d, v, h => by
    simp [okTm] at hf
    rw [lookup_cons] at h
    by_cases hd : d = e
    · simp [hd] at h; subst h; exact hf.1
    · simp [hd] at h; exact okTm_ok hf.2 d v h
theorem okRows_ok {n : Nat} : ∀ {r : List (Option Row)}, okRows n r = true → ∀ (i : Nat) (x : Row), r[i]? = some (some x) → okBL n x.cs = true
  | [], _, i, x, h => by simp at h
  | none :: r, hf, i, x, h => by
    simp [okRows] at hf
    cases i with
    | zero => simp at h
    | succ i => exact okRows_ok hf i x (by simpa using h)
  | some y :: r, hf, i, x, h => by
    simp [okRows] at hf
    cases i with
    | zero => simp at h; subst h; exact hf.1
    | succ i => exact okRows_ok hf.2 i x (by simpa using h)
theorem fitsRows_ok : ∀ {r t : List (Option Row)}, fitsRows r t → t.length ≤ r.length ∧ ∀ (i : Nat) (y : Row), t[i]? = some (some y) → ∃ x : Row, r[i]? = some (some x) ∧ x.ty = y.ty ∧ x.sz = y.sz ∧ eqvL x.cs y.cs
  | r, [], _ => ⟨by simp, fun i y h => by simp at h⟩
  | [], _ :: _, h => h.elim
  | a :: r, none :: t, h => by
    have h' : fitsRows r t := by cases a <;> exact h
    obtain ⟨h1, h2⟩ := fitsRows_ok h'
    refine ⟨by simp; omega, fun i y hy => ?_⟩
    cases i with
    | zero => simp at hy
    | succ i => simpa using h2 i y (by simpa using hy)
  | some a :: r, some b :: t, h => by
    obtain ⟨⟨h1, h1', h2⟩, h3⟩ := h
    obtain ⟨h4, h5⟩ := fitsRows_ok h3
    refine ⟨by simp; omega, fun i y hy => ?_⟩
    cases i with
    | zero => simp at hy; subst hy; exact ⟨a, rfl, h1, h1', h2⟩
    | succ i => simpa using h5 i y (by simpa using hy)
  | none :: _, some _ :: _, h => h.elim

theorem At.fits {t : SS} (h : At W F ρ0 cx s a w) (hf : Sx.fits s t) (hw : wellB cx.n0 t = true) : At W F ρ0 cx t a w := by
  obtain ⟨ρ, st, h1, h2⟩ := h
  obtain ⟨f1, f2⟩ := hf
  simp only [wellB, Bool.and_eq_true] at hw
  obtain ⟨⟨w1, w2⟩, w3⟩ := hw
  obtain ⟨r1, r2⟩ := fitsRows_ok f2
  refine ⟨ρ, ⟨st.size, st.defers, fun d v hv => ?_, ⟨st.mem.frame, st.mem.glob, fun i y hy => ?_, fun i j x y hi hj g1 g2 he => ?_, fun i y hi g1 => ?_⟩⟩, h1, Nat.le_of_ble_eq_true w1⟩
  · obtain ⟨u, hu, he⟩ := fitsTm_ok f1 d v hv
    by_cases hvt : v = .top
    · exact .inl hvt
    · rcases st.tm d u hu with h | ⟨g1, g2⟩
      · subst h
        exfalso
        cases v <;> simp_all [eqv, asI, asB]
      · obtain ⟨e1, e2, e3, e4⟩ := eqv_ok ρ he g2 hvt
        exact .inr ⟨by rw [g1, e1], okd_less e2 (okTm_ok w2 d v hv)⟩
  · obtain ⟨x, hx, hty, hsz, he⟩ := r2 i y hy
    obtain ⟨c1, c3⟩ := st.mem.row i x hx
    refine ⟨c1.map rfl hty.symm hsz.symm (fun _ => rfl) (fun vs hv => (eqvL_cells ρ he c3 hv).1), ?_⟩
    rcases c1 with ⟨_, c, l, rest, _, _, g3, _⟩ | ⟨_, g3⟩
    · exact okdL_less (eqvL_cells ρ he c3 g3).2 (okRows_ok w3 i y hy)
    · exact okdL_less (eqvL_cells ρ he c3 g3).2 (okRows_ok w3 i y hy)
  · obtain ⟨x', hx, _, s1, _⟩ := r2 i x hi
    obtain ⟨y', hy, _, s2, _⟩ := r2 j y hj
    exact st.mem.inj i j _ _ hx hy (g1.map rfl s1.symm) (g2.map rfl s2.symm) he
  · obtain ⟨x', hx, _, s1, _⟩ := r2 i y hi
    exact st.mem.mine i _ hx (g1.map rfl s1.symm)
end Sx
end Go.Proofs.Ytmmejomalfjcnaa
