/- What a slice's elements are; slices cut; bytes as a text. No condition. -/
import Derived.Test.YtmmejomalfjcnaaSxPure5
import Derived.Laws.BytesString
import Derived.Laws.Slices
namespace Go.Proofs.Ytmmejomalfjcnaa
open Go.RowKit
set_option linter.unusedVariables false
set_option linter.unusedSimpArgs false
namespace Sx
variable {P : Program} {T : Tab} {W : World} {F : Nat → Prop} {nt : Nat} {ρ : Num} {s : SS} {a : Act} {w : World}

/-- A value whose elements are integers. -/
def Src (w : World) (k : IntKind) (u : Value) (n : Nat) (xs : List Int) : Prop :=
  (∃ a cap, u = .slice a n cap ∧ n = 0) ∨ (∃ b off cap, u = .slice (some ⟨b, off, none⟩) n cap ∧ ∀ j, j < n → w.cell? ⟨b, off + j, none⟩ = some (.int k (xs.getD j 0))) ∨
  (∃ s : ByteArray, u = .string s ∧ n = s.size ∧ xs = bytesI s ∧ k = .u8)

theorem toInts_ok {k : IntKind} : ∀ {l : List SV} {ps : List Prop} {n : Nat} {xs : List Int} {vs : List Value}, toInts k l = some (ps, n, xs) → All ps → CellsOK ρ l vs → xs.length = n ∧ vs = intCells k n xs
  | [], ps, n, xs, vs, h, hp, hc => by
    simp only [toInts, Option.some.injEq, Prod.mk.injEq] at h
    obtain ⟨rfl, rfl, rfl⟩ := h
    exact ⟨rfl, hc⟩
  | c :: r, ps, n, xs, vs, h, hp, hc => by
    have app : ∀ (a b : Nat) (ys zs : List Int), ys.length = a → intCells k (a + b) (ys ++ zs) = intCells k a ys ++ intCells k b zs := by
      intro a b ys zs hl
      apply List.ext_getElem?
      intro j
      by_cases hj : j < a
      · rw [intCells_get _ _ _ _ (by omega), List.getElem?_append_left (by simp [intCells_length]; omega), intCells_get _ _ _ _ hj]
        simp [List.getD, List.getElem?_append_left (show j < ys.length by omega)]
      · by_cases hj2 : j < a + b
        · rw [intCells_get _ _ _ _ hj2, List.getElem?_append_right (by simp [intCells_length]; omega), intCells_length, intCells_get _ _ _ _ (by omega)]
          simp [List.getD, List.getElem?_append_right (show ys.length ≤ j by omega), hl]
        · rw [List.getElem?_eq_none (by simp [intCells_length]; omega), List.getElem?_eq_none (by simp [intCells_length]; omega)]
    by_cases hi : ∃ k n xs, c = .ints k n xs
    · obtain ⟨k', n', xs', rfl⟩ := hi
      obtain ⟨t, rfl, h2⟩ := hc
      simp only [toInts] at h
      rcases cond_some h with ⟨e, h⟩ | ⟨e, h⟩
      · have e : k' = k := by simpa using e
        subst e
        split at h
        · cases h
          have : t = [] := h2
          subst this
          exact ⟨hp (xs.length = n) (by simp), by simp⟩
        · simp only [Option.map_eq_some_iff] at h
          obtain ⟨⟨p2, n2, x2⟩, hh, he⟩ := h
          cases he
          obtain ⟨i1, i2⟩ := toInts_ok hh (fun p hq => hp p (by simp [hq])) h2
          have l1 : xs'.length = n' := hp (xs'.length = n') (by simp)
          refine ⟨by simp [l1, i1], ?_⟩
          simp only
          rw [app _ _ _ _ l1, i2]
      · cases h
    · have hform : toInts k (c :: r) = (match asI c, toInts k r with
        | some q, some p => bif decide (q.1 = k) then some (p.1, p.2.1 + 1, q.2.1 :: p.2.2) else none
        | _, _ => none) := by cases c <;> first | rfl | exact absurd ⟨_, _, _, rfl⟩ hi
      rw [hform] at h
      split at h
      · rename_i q p h1 h2
        rcases cond_some h with ⟨e, h⟩ | ⟨e, h⟩
        · have e : q.1 = k := by simpa using e
          cases h
          obtain ⟨p2, n2, x2⟩ := p
          have hs : single c = true := by cases c <;> simp [asI] at h1 <;> rfl
          obtain ⟨t, rfl, h3⟩ := hc.one hs
          obtain ⟨i1, i2⟩ := toInts_ok h2 hp h3
          refine ⟨by simp [i1], ?_⟩
          have := app 1 n2 [q.2.1] x2 rfl
          simp only [List.singleton_append] at this
          simp only
          rw [Nat.add_comm n2 1, this, asI_ok (k := q.1) (n := q.2.1) (c := q.2.2) (by rw [h1]) ρ, e, i2]
          simp [intCells]
        · cases h
      · cases h

theorem onePiece_ok {l : List SV} {q : IntKind × Nat × List Int} (h : onePiece l = some q) : l = [.ints q.1 q.2.1 q.2.2] := by
  unfold onePiece at h
  split at h
  · cases h; rfl
  · cases h

theorem sliceInts_ok {rows : List (Option Row)} (hm : MemOK W F ρ rows w) {k : IntKind} {v : SV} {ps : List Prop} {n : Nat} {xs : List Int} (h : sliceInts rows k v = some (ps, n, xs)) (hp : All ps) (ov : okd W F rows.length v) :
    xs.length = n ∧ Src w k (den ρ v) n xs ∧ ((∃ a c, den ρ v = .slice a n c) ∨ ∃ s, v = .str s) := by
  unfold sliceInts at h
  split at h
  · rename_i k' u ys
    rcases cond_some h with ⟨e, h⟩ | ⟨e, h⟩
    · cases h
      have e : k' = k := by simpa using e
      subst e
      refine ⟨rfl, ?_⟩
      rcases ov with ⟨a, cap, rfl, rfl, _⟩ | ⟨b, off, cap, rfl, _, h1, h2, h3⟩
      · exact ⟨.inl ⟨a, cap, rfl, rfl⟩, .inl ⟨_, _, rfl⟩⟩
      · refine ⟨.inr (.inl ⟨b, off, cap, rfl, fun j hj => ?_⟩), .inl ⟨_, _, rfl⟩⟩
        rw [← h3 j hj]
        exact World.cell?_of_block (w := W) (hm.frame.block b h1 h2)
    · cases h
  · rename_i b off len cap
    simp only [Option.bind_eq_some_iff] at h
    obtain ⟨r, hr, q, hq, h⟩ := h
    rcases cond_some h with ⟨e, h⟩ | ⟨e, h⟩
    · cases h
      have e : q.1 = k := by simpa using e
      subst e
      have h1 : off + n ≤ q.2.1 := hp (off + n ≤ q.2.1) (by simp)
      have h2 : q.2.2.length = q.2.1 := hp (q.2.2.length = q.2.1) (by simp)
      obtain ⟨l, c2, c3, c4, _⟩ := rowOf_ok hm hr
      rw [onePiece_ok hq] at c2
      obtain ⟨t, rfl, h3⟩ := c2
      have : t = [] := h3
      subst this
      refine ⟨by simp; omega, .inr (.inl ⟨_, _, _, rfl, fun j hj => ?_⟩), .inl ⟨_, _, rfl⟩⟩
      rw [c4 (off + j) (by simp [intCells_length]; omega), List.append_nil, intCells_get _ _ _ _ (by omega)]
      simp [List.getD, hj]
    · cases h
  · rename_i b len z
    simp only [Option.bind_eq_some_iff] at h
    obtain ⟨⟨r, kk⟩, hr, q, hq, h⟩ := h
    rcases cond_some h with ⟨e, h⟩ | ⟨e, h⟩
    · cases h
      have e : q.1 = k := by simpa using e
      subst e
      have h1 : n = q.2.1 := hp (n = q.2.1) (by simp)
      have h2 : q.2.2.length = q.2.1 := hp (q.2.2.length = q.2.1) (by simp)
      obtain ⟨hr, hz, hkk, hpos, _⟩ := onLen_ok hm hr
      obtain ⟨l, c2, c3, c4, _⟩ := rowOf_ok hm hr
      have hop := onePiece_ok hq
      simp only at hop
      rw [hop] at c2 hkk
      obtain ⟨t, rfl, h3⟩ := c2
      have : t = [] := h3
      subst this
      refine ⟨by omega, ?_, .inl ?_⟩
      · simp only [den]
        by_cases hn : n = 0
        · left
          unfold listV
          split
          · exact ⟨_, _, rfl, hn⟩
          · exact ⟨_, _, rfl, hn⟩
        · right; left
          rw [listV_some (hpos (by simp [widthL, width] at hkk; omega))]
          refine ⟨_, _, _, rfl, fun j hj => ?_⟩
          rw [Nat.zero_add, c4 j (by simp [intCells_length]; omega), List.append_nil, intCells_get _ _ _ _ (by omega)]
      · simp only [den, listV]
        split <;> exact ⟨_, _, rfl⟩
    · cases h
  · rename_i b off len cap
    simp only [Option.bind_eq_some_iff] at h
    obtain ⟨r, hr, d, hd, l, hl, h⟩ := h
    obtain ⟨c, c2, c3, c4, _⟩ := rowOf_ok hm hr
    obtain ⟨d1, d2⟩ := dropC_ok c2 hd
    obtain ⟨t1, t2⟩ := takeC_ok d1 hl
    obtain ⟨i1, i2⟩ := toInts_ok h hp t1
    have hlen : n = len := by
      have := congrArg List.length i2
      simp [intCells_length] at this t2
      omega
    subst hlen
    refine ⟨i1, .inr (.inl ⟨_, _, _, rfl, fun j hj => ?_⟩), .inl ⟨_, _, rfl⟩⟩
    have : ((c.drop off).take n)[j]? = some (.int k (xs.getD j 0)) := by rw [i2]; exact intCells_get _ _ _ _ hj
    rw [List.getElem?_take_of_lt hj, List.getElem?_drop] at this
    rw [c4 _ (List.getElem?_eq_some_iff.1 this).1, this]
  · rename_i str
    rcases cond_some h with ⟨e, h⟩ | ⟨e, h⟩
    · cases h
      exact ⟨by simp [bytesI], .inr (.inr ⟨str, rfl, rfl, rfl, by simpa using e⟩), .inr ⟨_, rfl⟩⟩
    · cases h
  · rename_i u
    rcases cond_some h with ⟨e, h⟩ | ⟨e, h⟩
    · cases h
      unfold isNilSlice at e
      split at e
      · exact ⟨rfl, .inl ⟨none, 0, rfl, rfl⟩, .inl ⟨_, _, rfl⟩⟩
      · cases e
    · cases h
  · cases h

theorem Src.lenOf {k : IntKind} {u : Value} {n : Nat} {xs : List Int} (h : Src w k u n xs) (w' : World) : (Builtin.lenOf u).run P w' = .ok n w' := by
  rcases h with ⟨a, cap, rfl, rfl⟩ | ⟨b, off, cap, rfl, _⟩ | ⟨s, rfl, rfl, _⟩ <;> simp [Builtin.lenOf]
theorem intCells_take {k : IntKind} {n m : Nat} {xs : List Int} (h : m ≤ n) : (intCells k n xs).take m = intCells k m xs := by
  apply List.ext_getElem?
  intro j
  by_cases hj : j < m
  · rw [List.getElem?_take_of_lt hj, intCells_get _ _ _ _ (by omega), intCells_get _ _ _ _ hj]
  · rw [List.getElem?_eq_none (by simp [intCells_length]; omega), List.getElem?_eq_none (by simp [intCells_length]; omega)]
theorem Src.first {k : IntKind} {u : Value} {n : Nat} {xs : List Int} (h : Src w k u n xs) (hl : xs.length = n) {m : Nat} (hm : m ≤ n) {w' : World} (hw : ∀ a v, w.cell? a = some v → w'.cell? a = some v) : (Builtin.firstCells 1 m u).run P w' = .ok (intCells k m xs).toArray w' := by
  rcases h with ⟨a, cap, rfl, rfl⟩ | ⟨b, off, cap, rfl, hc⟩ | ⟨s, rfl, rfl, rfl, rfl⟩
  · obtain rfl : m = 0 := by omega
    cases a with
    | none => simp [Builtin.firstCells, intCells]
    | some a =>
      have := run_loadCells_list (P := P) w' a [] (by simp)
      simp at this
      simp [Builtin.firstCells, intCells, this]
  · have := run_loadCells_list (P := P) w' ⟨b, off, none⟩ (intCells k m xs) (fun j v hv => by
      rw [addr_add]
      have hj : j < m := by have := (List.getElem?_eq_some_iff.1 hv).1; simpa [intCells_length] using this
      rw [intCells_get _ _ _ _ hj] at hv
      cases hv
      exact hw _ _ (hc j (by omega)))
    rw [intCells_length] at this
    simp [Builtin.firstCells, this]
  · simp only [Builtin.firstCells, Sem.run_pure]
    congr 1
    apply Array.ext'
    apply List.ext_getElem?
    intro j
    by_cases hj : j < m
    · have h2 : j < s.data.size := by have : s.size = s.data.size := rfl; omega
      have h3 : (s.extract 0 m).data = s.data.extract 0 m := by simp [ByteArray.data_extract]
      simp [h3, intCells, bytesI, hj, h2, List.getD, hm, Array.getElem?_eq_getElem h2]
    · have h3 : (s.extract 0 m).data = s.data.extract 0 m := by simp [ByteArray.data_extract]
      rw [List.getElem?_eq_none, List.getElem?_eq_none]
      · simp [intCells_length]; omega
      · simp [h3]; omega

theorem convS_ok (hT : TabOK P T) {rows : List (Option Row)} (hm : MemOK W F ρ rows w) {src dst : TypeId} {x : SV} {ps : List Prop} {v : SV} (h : convS T rows src dst x = some (ps, v)) (hp : All ps) (ox : okd W F rows.length x) :
    ∃ u, (convert src dst (den ρ x)).run P w = .ok u w ∧ Good W F ρ rows.length v u := by
  simp only [convS, Option.bind_eq_some_iff] at h
  obtain ⟨si, hs, di, hd, h⟩ := h
  rcases cond_some h with ⟨ed, h⟩ | ⟨ed, h⟩
  · have ud := isStrD_ok (hT dst di hd) ed
    rcases cond_some h with ⟨es, h⟩ | ⟨es, h⟩
    · have us := isStrD_ok (hT src si hs) es
      simp only [Option.map_eq_some_iff] at h
      obtain ⟨st, h1, h⟩ := h
      cases h
      have : x = .str st := by unfold asS at h1; split at h1 <;> simp_all
      subst this
      exact ⟨.string st, by simp [convert, run_underlying us, run_underlying ud, den], rfl, trivial, fun h => by cases h⟩
    · simp only [Option.bind_eq_some_iff] at h
      obtain ⟨e, he, ei, hei, k, hk, h⟩ := h
      have us := slD_ok (hT src si hs) he
      have ue := intD_ok (hT e ei hei) hk
      rcases cond_some h with ⟨ek, h⟩ | ⟨ek, h⟩
      · simp only [Option.bind_eq_some_iff] at h
        obtain ⟨⟨p2, n, xs⟩, h1, h⟩ := h
        rcases cond_some h with ⟨ens, h⟩ | ⟨ens, h⟩
        · cases h
        cases h
        have ek : k = .u8 := by simpa using ek
        subst ek
        obtain ⟨l1, l2, l3⟩ := sliceInts_ok hm h1 hp ox
        have l3 : ∃ a c, den ρ x = .slice a n c := by
          rcases l3 with l3 | ⟨st, rfl⟩
          · exact l3
          · simp [asS] at ens
        refine ⟨.string (strOf xs), ?_, rfl, trivial, fun h => by cases h⟩
        have hnil : ∀ ys : List Int, ys.length = 0 → strOf ys = ByteArray.empty := by
          intro ys h
          have : ys = [] := List.eq_nil_of_length_eq_zero h
          subst this; rfl
        rcases l2 with ⟨a, cap, hu, rfl⟩ | ⟨b, off, cap, hu, hc⟩ | ⟨s, hu, _⟩
        · rw [hu]
          cases a with
          | none => simp [convert, run_underlying us, run_underlying ud, run_underlying ue, Conv.bytesToString, hnil xs l1]
          | some a =>
            have hx : xs = [] := List.eq_nil_of_length_eq_zero l1
            have := run_loadCells_list (P := P) w a [] (by simp)
            have := run_bytesToString (P := P) w a 0 cap [] (by simpa using this)
            simp [convert, run_underlying us, run_underlying ud, run_underlying ue, this, hnil xs l1]
        · rw [hu]
          have h2 := run_loadCells_list (P := P) w ⟨b, off, none⟩ (xs.map (Value.int .u8)) (fun j v hv => by
            rw [addr_add]
            rw [List.getElem?_map, Option.map_eq_some_iff] at hv
            obtain ⟨y, hy, rfl⟩ := hv
            have hj := (List.getElem?_eq_some_iff.1 hy).1
            rw [hc j (by omega)]
            simp [List.getD, hy])
          simp only [List.length_map, l1] at h2
          have := run_bytesToString (P := P) w ⟨b, off, none⟩ n cap xs h2
          simp [convert, run_underlying us, run_underlying ud, run_underlying ue, this, strOf]
        · obtain ⟨a, c, h5⟩ := l3
          rw [h5] at hu; cases hu
      · cases h
  · cases h

theorem cutV_slice (a : Option Addr) (len cap lo hi : Nat) (mx : Option Nat) : cutV (.slice a len cap) lo hi mx = .slice (if mx.getD cap = lo then a else a.map (·.add lo)) (hi - lo) (mx.getD cap - lo) := rfl
/-- The bounds as the model finds them. -/
theorem bounds_ok (isSlice : Bool) (len cap : Nat) (lo hi mx : Option (Int × Bool)) (kl kh km : IntKind) (h0 : 0 ≤ lowB lo) (h1 : lowB lo ≤ highB len hi) (h2 : highB len hi ≤ highB cap mx) (h3 : highB cap mx ≤ cap) (hn : mx ≠ none → hi ≠ none) :
    (Instr.sliceBounds isSlice len cap (lo.map fun q => .int kl q.1) (hi.map fun q => .int kh q.1) (mx.map fun q => .int km q.1)).run P w = .ok ((lowB lo).toNat, (highB len hi).toNat, (highB cap mx).toNat) w := by
  have key : ∀ (k : IntKind) (i : Int) (y : Nat) (c : BoundsCode), 0 ≤ i → i ≤ y → (Instr.sliceBound (.int k i) y c).run P w = .ok i.toNat w := fun k i y c a b => run_sliceBound w k i y c a b
  have e1 : ∀ n : Int, 0 ≤ n → ((n.toNat : Nat) : Int) = n := fun n h => Int.toNat_of_nonneg h
  cases mx with
  | none =>
    cases hi with
    | none =>
      cases lo with
      | none => simp [Instr.sliceBounds, lowB, highB]
      | some l => simp only [lowB, highB] at *; simp [Instr.sliceBounds, key _ _ _ _ h0 h1]
    | some h =>
      simp only [highB] at *
      have h5 : (0 : Int) ≤ h.1 := Int.le_trans h0 h1
      cases lo with
      | none => simp only [lowB] at *; simp [Instr.sliceBounds, key _ _ _ _ h5 h2]
      | some l => simp only [lowB] at *; simp [Instr.sliceBounds, key _ _ _ _ h5 h2, key _ l.1 h.1.toNat _ h0 (by rw [e1 _ h5]; exact h1)]
  | some m =>
    cases hi with
    | none => exact absurd rfl (hn (by simp))
    | some h =>
      simp only [highB] at *
      have h5 : (0 : Int) ≤ h.1 := Int.le_trans h0 h1
      have h6 : (0 : Int) ≤ m.1 := Int.le_trans h5 h2
      cases lo with
      | none => simp only [lowB] at *; simp [Instr.sliceBounds, key _ _ _ _ h6 h3, key _ h.1 m.1.toNat _ h5 (by rw [e1 _ h6]; exact h2)]
      | some l => simp only [lowB] at *; simp [Instr.sliceBounds, key _ _ _ _ h6 h3, key _ h.1 m.1.toNat _ h5 (by rw [e1 _ h6]; exact h2), key _ l.1 h.1.toNat _ h0 (by rw [e1 _ h5]; exact h1)]

theorem optI_ok (st : Sat W F nt ρ s a w) {x : Option Operand} {q : Option (Int × Bool)} (h : optI s.tm x = some q) : ∃ k, x.map a.eval = q.map fun q => .int k q.1 := by
  cases x with
  | none => simp [optI] at h; subst h; exact ⟨.i64, rfl⟩
  | some x =>
    simp only [optI, Option.bind_eq_some_iff, Option.map_eq_some_iff] at h
    obtain ⟨v, hv, ⟨k, n, c⟩, hq, h⟩ := h
    subst h
    exact ⟨k, by simp [(ev_ok st hv).1, asI_ok hq ρ]⟩

theorem sliceS_ok (hT : TabOK P T) {rows : List (Option Row)} (hm : MemOK W F ρ rows w) {t : TypeId} {x : SV} {lo hi mx : Option (Int × Bool)} {ps : List Prop} {v : SV} (h : sliceS T rows t x lo hi mx = some (ps, v)) (hp : All ps) (ox : okd W F rows.length x) (kl kh km : IntKind) :
    ∃ u, (Instr.sliceAt t (den ρ x) (lo.map fun q => .int kl q.1) (hi.map fun q => .int kh q.1) (mx.map fun q => .int km q.1)).run P w = .ok u w ∧ Good W F ρ rows.length v u := by
  unfold sliceS at h
  rcases cond_some h with ⟨en, h1⟩ | ⟨en, h1⟩ <;> clear h
  · cases h1
  have h := h1
  clear h1
  have hn : mx ≠ none → hi ≠ none := by
    rintro h1 rfl
    cases mx with
    | none => exact h1 rfl
    | some m => simp at en
  simp only [Option.bind_eq_some_iff] at h
  obtain ⟨i, hi', h⟩ := h
  have ty := hT t i hi'
  have nat : ∀ {a b : Int} {c : Nat}, 0 ≤ a → a ≤ b → b ≤ c → (b.toNat = a.toNat ↔ b = a) ∧ b.toNat - a.toNat = (b - a).toNat := fun h1 h2 h3 => by omega
  have mk : ∀ (b off size len cap : Nat) (e : TypeId) (c : Bool), P.underlying t = some (.slice e) → (∀ w : World, (sizeOf e).run P w = .ok size w) → 0 ≤ lowB lo → lowB lo ≤ highB len hi → highB len hi ≤ highB cap mx → highB cap mx ≤ cap →
      (Instr.sliceAt t (.slice (some ⟨b, off, none⟩) len cap) (lo.map fun q => .int kl q.1) (hi.map fun q => .int kh q.1) (mx.map fun q => .int km q.1)).run P w =
        .ok (.slice (some ⟨b, if highB cap mx = lowB lo then off else off + (lowB lo).toNat * size, none⟩) (highB len hi - lowB lo).toNat (highB cap mx - lowB lo).toNat) w := by
    intro b off size len cap e c hu hs h0 h1 h2 h3
    have hb := bounds_ok (P := P) (w := w) true len cap lo hi mx kl kh km h0 h1 h2 h3 hn
    have e1 := (nat h0 (Int.le_trans h1 h2) h3)
    have e2 := (nat h0 h1 (Int.le_trans h2 h3)).2
    simp only [Instr.sliceAt, Sem.run_bind, run_underlying hu, Result.andThen_ok, Instr.slice, hb, hs, Sem.run_pure, e2, e1.2]
    by_cases he : highB cap mx = lowB lo
    · rw [if_pos (e1.1.2 he), if_pos he]
    · rw [if_neg (fun h => he (e1.1.1 h)), if_neg he]; simp [addr_add]
  split at h
  · rename_i b off
    simp only [Option.bind_eq_some_iff] at h
    obtain ⟨⟨n, e⟩, hd, ei, he, h⟩ := h
    obtain ⟨hu, _⟩ := arrD_ok ty hd
    have ts := (hT e ei he).run_size w
    have arr : 0 ≤ lowB lo → lowB lo ≤ highB n hi → highB n hi ≤ highB n mx → highB n mx ≤ n →
        (Instr.sliceAt t (.pointer (some ⟨(ρ b).1, off, none⟩)) (lo.map fun q => .int kl q.1) (hi.map fun q => .int kh q.1) (mx.map fun q => .int km q.1)).run P w =
          .ok (.slice (some ⟨(ρ b).1, if highB n mx = lowB lo then off else off + (lowB lo).toNat * ei.size, none⟩) (highB n hi - lowB lo).toNat (highB n mx - lowB lo).toNat) w := by
      intro h0 h1 h2 h3
      have hb := bounds_ok (P := P) (w := w) false n n lo hi mx kl kh km h0 h1 h2 h3 hn
      have e1 := (nat h0 (Int.le_trans h1 h2) h3)
      have e2 := (nat h0 h1 (Int.le_trans h2 h3)).2
      simp only [Instr.sliceAt, Sem.run_bind, run_underlying hu, Result.andThen_ok, Instr.sureAddr, hb, ts, Sem.run_pure, e2, e1.2]
      by_cases he : highB n mx = lowB lo
      · rw [if_pos (e1.1.2 he), if_pos he]
      · rw [if_neg (fun h => he (e1.1.1 h)), if_neg he]; simp [addr_add]
    rcases cond_some h with ⟨ec, h⟩ | ⟨ec, h⟩
    · rcases cond_some h with ⟨eb, h⟩ | ⟨eb, h⟩
      · cases h
        simp only [Bool.and_eq_true, decide_eq_true_eq] at eb
        obtain ⟨⟨⟨h0, h1⟩, h2⟩, h3⟩ := eb
        refine ⟨_, arr h0 h1 h2 h3, ?_, ox, fun h => by cases h⟩
        simp only [den]
        by_cases hq : highB n mx = lowB lo <;> simp [hq]
      · cases h
    · rcases cond_some h with ⟨eb, h⟩ | ⟨eb, h⟩
      · cases h
        simp only [Bool.and_eq_true] at eb
        have e1 := Nat.eq_of_beq_eq_true eb.1
        have e2 := Nat.eq_of_beq_eq_true eb.2
        refine ⟨_, arr (hp _ (by simp)) (hp (lowB lo ≤ highB n hi) (by simp)) (hp (highB n hi ≤ highB n mx) (by simp)) (hp (highB n mx ≤ n) (by simp)), ?_, ox, fun h => by cases h⟩
        simp only [den]
        by_cases hq : highB n mx = lowB lo <;> simp [hq, e1, e2]
      · cases h
  · rename_i b off len cap
    simp only [Option.bind_eq_some_iff] at h
    obtain ⟨e, hd, ei, he, h⟩ := h
    have hu := slD_ok ty hd
    have ts := fun w => (hT e ei he).run_size w
    rcases cond_some h with ⟨ec, h⟩ | ⟨ec, h⟩
    · rcases cond_some h with ⟨eb, h⟩ | ⟨eb, h⟩
      · cases h
        simp only [Bool.and_eq_true, decide_eq_true_eq] at eb
        obtain ⟨⟨⟨h0, h1⟩, h2⟩, h3⟩ := eb
        refine ⟨_, mk _ off ei.size len cap e true hu ts h0 h1 h2 h3, ?_, ox, fun h => by cases h⟩
        simp only [den]
        by_cases hq : highB cap mx = lowB lo <;> simp [hq]
      · cases h
    · rcases beq_some h with ⟨eb, h⟩ | ⟨eb, h⟩
      · cases h
        refine ⟨_, mk _ off ei.size len cap e true hu ts (hp _ (by simp)) (hp (lowB lo ≤ highB len hi) (by simp)) (hp (highB len hi ≤ highB cap mx) (by simp)) (hp (highB cap mx ≤ cap) (by simp)), ?_, ox, fun h => by cases h⟩
        simp only [den]
        by_cases hq : highB cap mx = lowB lo <;> simp [hq, eb]
      · cases h
  · rename_i b off len cap
    simp only [Option.bind_eq_some_iff] at h
    obtain ⟨e, hd, ei, he, h⟩ := h
    have hu := slD_ok ty hd
    have ts := fun w => (hT e ei he).run_size w
    rcases beq_some h with ⟨eb, h⟩ | ⟨eb, h⟩
    · cases h
      refine ⟨_, mk _ off ei.size len cap e true hu ts (hp _ (by simp)) (hp (lowB lo ≤ highB len hi) (by simp)) (hp (highB len hi ≤ highB cap mx) (by simp)) (hp (highB cap mx ≤ cap) (by simp)), ?_, ox, fun h => by cases h⟩
      simp only [den]
      by_cases hq : highB cap mx = lowB lo <;> simp [hq, eb]
    · cases h
  · rename_i b len z
    simp only [Option.bind_eq_some_iff] at h
    obtain ⟨e, hd, h⟩ := h
    have hu := slD_ok ty hd
    split at h
    · simp only [Option.bind_eq_some_iff] at h
      obtain ⟨⟨r, k⟩, hr, ei, he, h⟩ := h
      rcases beq_some h with ⟨eb, h⟩ | ⟨eb, h⟩
      · cases h
        have h0 : 0 ≤ highB len hi := hp _ (by simp)
        have h1 : (highB len hi).toNat * ei.size ≤ k := hp ((highB len hi).toNat * ei.size ≤ k) (by simp)
        obtain ⟨_, _, _, _, _, hcap⟩ := onLen_ok hm hr
        have hcap := hcap (highB len hi).toNat (by simp only at eb; rw [eb]; exact h1)
        have ts := fun w => (hT e ei he).run_size w
        have hle : highB len hi ≤ ((ρ b).2 : Nat) := by rcases hcap with h | ⟨h, h2⟩ <;> omega
        refine ⟨_, ?_, rfl, ox, fun h => by cases h⟩
        simp only [den, listV]
        split
        · rename_i hz
          have hz0 : highB len hi = 0 := by rcases hcap with h | ⟨h, h2⟩ <;> omega
          have hb := bounds_ok (P := P) (w := w) true len 0 none hi none kl kh km (by simp [lowB]) (by simpa [lowB] using h0) (by simp [highB] at hz0 ⊢; cases hi <;> simp_all) (by simp [highB]) (fun h => absurd rfl h)
          simp only [Option.map_none] at hb ⊢
          simp [Instr.sliceAt, run_underlying hu, Instr.slice, hb, ts, lowB, hz0, highB]
        · have := mk (ρ b).1 0 ei.size len (ρ b).2 e true hu ts (by simp [lowB]) (by simpa [lowB] using h0) (by simpa [highB] using hle) (by simp [highB])
          rw [this]
          simp [lowB, highB]
      · cases h
    · cases h
  · rename_i k u xs
    simp only [Option.bind_eq_some_iff] at h
    obtain ⟨e, hd, ei, he, h⟩ := h
    have hu := slD_ok ty hd
    have ts := fun w => (hT e ei he).run_size w
    rcases beq_some h with ⟨eb, h⟩ | ⟨eb, h⟩
    · obtain ⟨m2, h0, h1, h2, h3, hv⟩ : ∃ m2 : Option Nat, 0 ≤ lowB lo ∧ lowB lo ≤ highB xs.length hi ∧ (∀ cap : Nat, xs.length ≤ cap → highB xs.length hi ≤ highB cap mx ∧ highB cap mx ≤ cap ∧ (highB cap mx).toNat = m2.getD cap) ∧ highB xs.length hi ≤ xs.length ∧
          v = .rd k (cutV u (lowB lo).toNat (highB xs.length hi).toNat m2) ((xs.drop (lowB lo).toNat).take (highB xs.length hi - lowB lo).toNat) := by
        cases mx with
        | none =>
          cases h
          have h3 : highB xs.length hi ≤ xs.length := hp (highB xs.length hi ≤ xs.length) (by simp)
          exact ⟨none, hp _ (by simp), hp (lowB lo ≤ highB xs.length hi) (by simp), fun cap hc => ⟨by simp [highB] at h3 ⊢; omega, by simp [highB], by simp [highB]⟩, h3, rfl⟩
        | some m =>
          cases h
          have h3 : highB xs.length hi ≤ m.1 := hp (highB xs.length hi ≤ m.1) (by simp)
          have h4 : m.1 ≤ xs.length := hp (m.1 ≤ xs.length) (by simp)
          exact ⟨some m.1.toNat, hp _ (by simp), hp (lowB lo ≤ highB xs.length hi) (by simp), fun cap hc => ⟨h3, by simp [highB]; omega, by simp [highB]⟩, by omega, rfl⟩
      subst hv
      have hl : ((xs.drop (lowB lo).toNat).take (highB xs.length hi - lowB lo).toNat).length = (highB xs.length hi).toNat - (lowB lo).toNat := by simp; omega
      have run : ∀ (a : Option Addr) (cap : Nat), xs.length ≤ cap → (Instr.sliceAt t (.slice a xs.length cap) (lo.map fun q => .int kl q.1) (hi.map fun q => .int kh q.1) (mx.map fun q => .int km q.1)).run P w = .ok (cutV (.slice a xs.length cap) (lowB lo).toNat (highB xs.length hi).toNat m2) w := by
        intro a cap hc
        obtain ⟨g1, g2, g3⟩ := h2 cap hc
        have hb := bounds_ok (P := P) (w := w) true xs.length cap lo hi mx kl kh km h0 h1 g1 g2 hn
        simp [Instr.sliceAt, run_underlying hu, Instr.slice, hb, ts, cutV_slice, g3, eb]
      rcases ox with ⟨a, cap, rfl, rfl, hcap⟩ | ⟨b, off, cap, rfl, b0, b1, b2, b3⟩
      · refine ⟨_, run a cap (by simp), rfl, ?_, fun h => by cases h⟩
        obtain ⟨g1, g2, g3⟩ := h2 cap (by simp)
        left
        simp only [List.length_nil] at *
        have e1 : (lowB lo).toNat = 0 := by simp at h3; omega
        have e2 : (highB 0 hi).toNat = 0 := by simp at h3; omega
        refine ⟨if m2.getD cap = (lowB lo).toNat then a else a.map (·.add (lowB lo).toNat), m2.getD cap - (lowB lo).toNat, ?_, by simp, fun hn => ?_⟩
        · rw [cutV_slice, e1, e2]; simp
        · have : a = none := by split at hn <;> simpa using hn
          have := hcap this
          omega
      · refine ⟨_, run _ cap ?_, rfl, ?_, fun h => by cases h⟩
        · exact b0
        · obtain ⟨g1, g2, g3⟩ := h2 cap b0
          have g4 : (highB xs.length hi).toNat ≤ m2.getD cap := by omega
          right
          refine ⟨b, if m2.getD cap = (lowB lo).toNat then off else off + (lowB lo).toNat, m2.getD cap - (lowB lo).toNat, ?_, by rw [hl]; omega, b1, b2, fun j hj => ?_⟩
          · rw [cutV_slice, hl]
            by_cases hq : m2.getD cap = (lowB lo).toNat <;> simp [hq, addr_add]
          · rw [hl] at hj
            rw [if_neg (by omega), Nat.add_assoc, b3 _ (by omega)]
            simp only [List.getD, List.getElem?_take, List.getElem?_drop]
            rw [if_pos (by omega)]
    · cases h
  · rename_i st
    rcases cond_some h with ⟨eb, h⟩ | ⟨eb, h⟩
    · have hu := isStrD_ok ty eb
      cases mx with
      | none =>
        cases h
        have h0 : 0 ≤ lowB lo := hp _ (by simp)
        have h1 : lowB lo ≤ highB st.size hi := hp (lowB lo ≤ highB st.size hi) (by simp)
        have h2 : highB st.size hi ≤ st.size := hp (highB st.size hi ≤ st.size) (by simp)
        have hb := bounds_ok (P := P) (w := w) false st.size st.size lo hi none kl kh km h0 h1 h2 (by simp [highB]) (fun h => absurd rfl h)
        refine ⟨_, ?_, rfl, trivial, fun h => by cases h⟩
        simp only [Option.map_none] at hb ⊢
        simp [Instr.sliceAt, run_underlying hu, Instr.slice, den, hb]
      | some m => cases h
    · cases h
  · cases h
end Sx
end Go.Proofs.Ytmmejomalfjcnaa
