/- Regions that draw their order: states behind any set of operations. No condition. -/
import Derived.Test.YtmmejomalfjcnaaSxDraw
import Derived.Orders
namespace Go.Proofs.Ytmmejomalfjcnaa
open Go.RowKit
set_option linter.unusedVariables false
set_option linter.unusedSimpArgs false
namespace Sx
variable {P : Program} {W : World} {F : Nat → Prop} {ρ ρ0 : Num} {s : SS} {a : Act} {w : World} {cx : Ctx}

/-- The state behind those that S says. -/
def stF (S : Nat → Bool) : Nat → List Rec → SS → SS
  | _, [], s => s
  | i, r :: rs, s => stF S (i + 1) rs (bif S i then applyRec s r else s)

def lastD (S : Nat → Bool) (t : Nat) : Nat → List Rec → Option SV
  | _, [] => none
  | i, r :: rs => match lastD S t (i + 1) rs with
    | some v => some v
    | none => if S i = true ∧ r.dst = some t then some r.v else none
/-- The last that is laid at a place. -/
def lastPut : List (Nat × Option Row) → Nat → Option (Option Row)
  | [], _ => none
  | (c, x) :: l, b => match lastPut l b with
    | some y => some y
    | none => if c = b then some x else none
def lastP (S : Nat → Bool) (b : Nat) : Nat → List Rec → Option (Option Row)
  | _, [] => none
  | i, r :: rs => match lastP S b (i + 1) rs with
    | some v => some v
    | none => if S i = true then lastPut r.puts b else none
theorem touch_iff {l : List (Nat × Option Row)} {b : Nat} : touch l b = true ↔ ∃ x, lastPut l b = some x := by
  unfold touch
  induction l with
  | nil => simp [lastPut]
  | cons p l ih =>
    obtain ⟨c, x⟩ := p
    simp only [List.any_cons, Bool.or_eq_true, lastPut, ih]
    constructor
    · rintro (h | ⟨y, h⟩)
      · have := Nat.eq_of_beq_eq_true h
        cases hl : lastPut l b with
        | some y => exact ⟨y, rfl⟩
        | none => exact ⟨x, by simp [this]⟩
      · exact ⟨y, by rw [h]⟩
    · rintro ⟨y, h⟩
      cases hl : lastPut l b with
      | some z => exact .inr ⟨z, rfl⟩
      | none =>
        rw [hl] at h
        simp only at h
        split at h
        · rename_i hc; left; subst hc; exact Nat.beq_refl _
        · cases h
theorem putsL_get : ∀ (l : List (Nat × Option Row)) (rows : Rows) (b : Nat), (putsL l rows)[b]? = match lastPut l b with
    | some x => if b < rows.length then some x else none
    | none => rows[b]?
  | [], rows, b => rfl
  | (c, x) :: l, rows, b => by
    rw [putsL, putsL_get l]
    simp only [lastPut]
    cases lastPut l b with
    | some y => simp
    | none =>
      simp only
      by_cases h : c = b
      · subst h
        rw [if_pos rfl]
        by_cases hl : c < rows.length
        · rw [List.getElem?_set_self hl]; simp [hl]
        · rw [List.getElem?_eq_none (by simp; omega)]; simp [hl]
      · rw [if_neg h, List.getElem?_set_ne h]

theorem applyRec_tm (s : SS) (r : Rec) (t : Nat) : (applyRec s r).tm.lookup t = if r.dst = some t then some r.v else s.tm.lookup t := by
  unfold applyRec
  cases hd : r.dst with
  | none => simp
  | some e =>
    simp only
    rw [lookup_cons]
    by_cases h : t = e
    · subst h; simp
    · rw [if_neg h, if_neg (by intro h2; exact h (Option.some.inj h2).symm)]
theorem applyRec_len (s : SS) (r : Rec) : (applyRec s r).rows.length = s.rows.length := putsL_len _ _
theorem applyRec_rows (s : SS) (r : Rec) (b : Nat) : (applyRec s r).rows[b]? = match lastPut r.puts b with
    | some x => if b < s.rows.length then some x else none
    | none => s.rows[b]? := putsL_get _ _ _

theorem stF_len (S : Nat → Bool) : ∀ (rs : List Rec) (i : Nat) (s : SS), (stF S i rs s).rows.length = s.rows.length
  | [], i, s => rfl
  | r :: rs, i, s => by
    rw [stF, stF_len S rs]
    cases S i <;> simp [applyRec_len]
theorem stF_tm (S : Nat → Bool) (t : Nat) : ∀ (rs : List Rec) (i : Nat) (s : SS), (stF S i rs s).tm.lookup t = match lastD S t i rs with
    | some v => some v
    | none => s.tm.lookup t
  | [], i, s => rfl
  | r :: rs, i, s => by
    rw [stF, stF_tm S t rs]
    simp only [lastD]
    cases lastD S t (i + 1) rs with
    | some v => rfl
    | none =>
      simp only
      cases hS : S i with
      | false => simp
      | true =>
        simp only [cond_true, true_and]
        rw [applyRec_tm]
        by_cases h : r.dst = some t
        · rw [if_pos h, if_pos h]
        · rw [if_neg h, if_neg h]
theorem stF_rows (S : Nat → Bool) (b : Nat) : ∀ (rs : List Rec) (i : Nat) (s : SS), (stF S i rs s).rows[b]? = match lastP S b i rs with
    | some x => if b < s.rows.length then some x else none
    | none => s.rows[b]?
  | [], i, s => rfl
  | r :: rs, i, s => by
    rw [stF, stF_rows S b rs]
    simp only [lastP]
    cases hl : lastP S b (i + 1) rs with
    | some v =>
      simp only
      cases S i <;> simp [applyRec_len]
    | none =>
      simp only
      cases hS : S i with
      | false => simp
      | true =>
        simp only [cond_true, if_true]
        rw [applyRec_rows]

theorem lastD_congr {S S' : Nat → Bool} {t : Nat} : ∀ {rs : List Rec} {i : Nat}, (∀ j r, rs[j]? = some r → r.dst = some t → S (i + j) = S' (i + j)) → lastD S t i rs = lastD S' t i rs
  | [], i, h => rfl
  | r :: rs, i, h => by
    simp only [lastD]
    rw [lastD_congr (rs := rs) (i := i + 1) (S := S) (S' := S') (fun j x hj hx => by have := h (j + 1) x (by simpa using hj) hx; rw [show i + 1 + j = i + (j + 1) by omega]; exact this)]
    by_cases hd : r.dst = some t
    · have h0 := h 0 r rfl hd
      simp only [Nat.add_zero] at h0
      rw [h0]
    · simp [hd]
theorem lastP_congr {S S' : Nat → Bool} {b : Nat} : ∀ {rs : List Rec} {i : Nat}, (∀ j r, rs[j]? = some r → touch r.puts b = true → S (i + j) = S' (i + j)) → lastP S b i rs = lastP S' b i rs
  | [], i, h => rfl
  | r :: rs, i, h => by
    simp only [lastP]
    rw [lastP_congr (rs := rs) (i := i + 1) (S := S) (S' := S') (fun j x hj hx => by have := h (j + 1) x (by simpa using hj) hx; rw [show i + 1 + j = i + (j + 1) by omega]; exact this)]
    cases hp : lastPut r.puts b with
    | none => simp
    | some q =>
      have h0 := h 0 r rfl (touch_iff.2 ⟨q, hp⟩)
      simp only [Nat.add_zero] at h0
      rw [h0]
theorem lastD_last {S : Nat → Bool} {t : Nat} : ∀ {rs : List Rec} {i k : Nat} {r : Rec}, rs[k]? = some r → r.dst = some t → S (i + k) = true → (∀ j x, rs[j]? = some x → k < j → x.dst = some t → S (i + j) = false) → lastD S t i rs = some r.v
  | [], i, k, r, h, _, _, _ => by simp at h
  | x :: rs, i, 0, r, h, hd, hS, hl => by
    simp at h; subst h
    have : lastD S t (i + 1) rs = lastD (fun _ => false) t (i + 1) rs := lastD_congr fun j y hj hy => by
      rw [show i + 1 + j = i + (j + 1) by omega]; exact hl (j + 1) y (by simpa using hj) (by omega) hy
    have h2 : ∀ (rs : List Rec) (i : Nat), lastD (fun _ => false) t i rs = none := by
      intro rs
      induction rs with
      | nil => intro i; rfl
      | cons y rs ih => intro i; simp [lastD, ih]
    simp only [lastD, this, h2]
    rw [if_pos ⟨by simpa using hS, hd⟩]
  | x :: rs, i, k + 1, r, h, hd, hS, hl => by
    have := lastD_last (rs := rs) (i := i + 1) (k := k) (r := r) (S := S) (by simpa using h) hd (by rw [show i + 1 + k = i + (k + 1) by omega]; exact hS) (fun j y hj hk hy => by
      rw [show i + 1 + j = i + (j + 1) by omega]; exact hl (j + 1) y (by simpa using hj) (by omega) hy)
    simp [lastD, this]
theorem lastP_last {S : Nat → Bool} {b : Nat} : ∀ {rs : List Rec} {i k : Nat} {r : Rec} {x : Option Row}, rs[k]? = some r → lastPut r.puts b = some x → S (i + k) = true → (∀ j y, rs[j]? = some y → k < j → touch y.puts b = true → S (i + j) = false) → lastP S b i rs = some x
  | [], i, k, r, x, h, _, _, _ => by simp at h
  | y :: rs, i, 0, r, x, h, hd, hS, hl => by
    simp at h; subst h
    have : lastP S b (i + 1) rs = lastP (fun _ => false) b (i + 1) rs := lastP_congr fun j y hj hy => by
      rw [show i + 1 + j = i + (j + 1) by omega]; exact hl (j + 1) y (by simpa using hj) (by omega) hy
    have h2 : ∀ (rs : List Rec) (i : Nat), lastP (fun _ => false) b i rs = none := by
      intro rs
      induction rs with
      | nil => intro i; rfl
      | cons y rs ih => intro i; simp [lastP, ih]
    simp only [lastP, this, h2]
    rw [if_pos (by simpa using hS), hd]
  | y :: rs, i, k + 1, r, x, h, hd, hS, hl => by
    have := lastP_last (rs := rs) (i := i + 1) (k := k) (r := r) (S := S) (by simpa using h) hd (by rw [show i + 1 + k = i + (k + 1) by omega]; exact hS) (fun j y hj hk hy => by
      rw [show i + 1 + j = i + (j + 1) by omega]; exact hl (j + 1) y (by simpa using hj) (by omega) hy)
    simp [lastP, this]

theorem stF_prefix (n : Nat) : ∀ (rs : List Rec) (k : Nat) (s : SS), stF (fun j => decide (j < n)) k rs s = (rs.take (n - k)).foldl applyRec s
  | [], k, s => by simp [stF]
  | r :: rs, k, s => by
    rw [stF, stF_prefix n rs]
    by_cases h : k < n
    · simp only [h, decide_true, cond_true]
      rw [show n - k = (n - (k + 1)) + 1 by omega]
      simp
    · simp only [h, decide_false, cond_false]
      rw [show n - k = 0 by omega, show n - (k + 1) = 0 by omega]
      simp

/-- A state is what its slots and rows read as. -/
theorem Sat.of_same {nt : Nat} {s s' : SS} (st : Sat W F nt ρ s a w) (h1 : ∀ t, s'.tm.lookup t = s.tm.lookup t) (h2 : ∀ b : Nat, s'.rows[b]? = s.rows[b]?) : Sat W F nt ρ s' a w := by
  have e : s'.rows = s.rows := List.ext_getElem? h2
  refine ⟨st.size, st.defers, fun d sv hd => ?_, by rw [e]; exact st.mem⟩
  rw [e]
  exact st.tm d sv (by rw [← h1]; exact hd)

theorem Facts.get {all : Array Oper} : ∀ {os : List Oper} {rs : List Rec} {b : Nat} {s : SS}, Facts cx all os rs b s → rs.length = os.length ∧ ∀ i o, os[i]? = some o →
    ∃ r, rs[i]? = some r ∧ Fact cx all (b + countNew (os.take i)) ((rs.take i).foldl applyRec s) o r
  | [], [], b, s, h => ⟨rfl, fun i o h => by simp at h⟩
  | [], _ :: _, b, s, h => h.elim
  | _ :: _, [], b, s, h => h.elim
  | o :: os, r :: rs, b, s, h => by
    obtain ⟨h1, h2⟩ := h
    obtain ⟨i1, i2⟩ := Facts.get h2
    refine ⟨by simp [i1], fun i x hx => ?_⟩
    cases i with
    | zero => simp at hx; subst hx; exact ⟨r, rfl, by simpa [countNew] using h1⟩
    | succ i =>
      obtain ⟨y, hy, hf⟩ := i2 i x (by simpa using hx)
      refine ⟨y, by simpa using hy, ?_⟩
      simp only [List.take_succ_cons, List.foldl_cons, countNew]
      have : (bif isNew o.op then b + 1 else b) + countNew (os.take i) = b + (bif isNew o.op then countNew (os.take i) + 1 else countNew (os.take i)) := by
        cases isNew o.op <;> simp <;> omega
      rw [← this]
      exact hf

/-- Bits of a mask. -/
theorem maskOf_bit (acc : List Nat) (j : Nat) : ∀ (es : List Nat), (maskOf acc es).testBit j = true ↔ ∃ e ∈ es, e = j ∨ (acc.getD e 0).testBit j = true
  | [] => by simp [maskOf]
  | e :: es => by
    simp only [maskOf, Nat.testBit_or, Bool.or_eq_true, maskOf_bit acc j es, Nat.testBit_two_pow, List.mem_cons, decide_eq_true_eq]
    constructor
    · rintro ((h | h) | ⟨x, hx, h⟩)
      · exact ⟨e, .inl rfl, .inl h⟩
      · exact ⟨e, .inl rfl, .inr h⟩
      · exact ⟨x, .inr hx, h⟩
    · rintro ⟨x, rfl | hx, h⟩
      · exact .inl h
      · exact .inr ⟨x, hx, h⟩
theorem befs_len : ∀ (l : List Oper) (acc : List Nat), (befs l acc).length = acc.length + l.length
  | [], acc => by simp [befs]
  | o :: l, acc => by rw [befs, befs_len l]; simp; omega
theorem befs_take : ∀ (l : List Oper) (acc : List Nat), (befs l acc).take acc.length = acc
  | [], acc => by simp [befs]
  | o :: l, acc => by
    rw [befs]
    have := befs_take l (acc ++ [maskOf acc (bindsOn o)])
    have h2 := congrArg (List.take acc.length) this
    rw [List.take_take] at h2
    simp at h2
    simpa using h2
theorem befs_get : ∀ (l : List Oper) (acc : List Nat) (i : Nat) (o : Oper), l[i]? = some o → (befs l acc)[acc.length + i]? = some (maskOf ((befs l acc).take (acc.length + i)) (bindsOn o))
  | [], acc, i, o, h => by simp at h
  | x :: l, acc, 0, o, h => by
    simp at h; subst h
    rw [befs]
    have h1 := befs_take l (acc ++ [maskOf acc (bindsOn x)])
    have h2 : (befs l (acc ++ [maskOf acc (bindsOn x)]))[acc.length]? = some (maskOf acc (bindsOn x)) := by
      have := congrArg (fun z => z[acc.length]?) h1
      simp only [List.length_append, List.length_singleton] at this
      rw [List.getElem?_take_of_lt (by omega)] at this
      simpa using this
    rw [Nat.add_zero, h2]
    have h3 := befs_take (x :: l) acc
    rw [befs] at h3
    rw [h3]
  | x :: l, acc, i + 1, o, h => by
    rw [befs]
    have := befs_get l (acc ++ [maskOf acc (bindsOn x)]) i o (by simpa using h)
    simp only [List.length_append, List.length_singleton] at this
    rw [show acc.length + (i + 1) = acc.length + 1 + i by omega]
    exact this
end Sx
end Go.Proofs.Ytmmejomalfjcnaa
