/- Regions that draw their order: the executor is right about them. No condition. -/
import Derived.Test.YtmmejomalfjcnaaSxDraw4
namespace Go.Proofs.Ytmmejomalfjcnaa
open Go.RowKit
set_option linter.unusedVariables false
set_option linter.unusedSimpArgs false
namespace Sx
variable {P : Program} {W : World} {F : Nat → Prop} {ρ ρ' ρ0 : Num} {s s' : SS} {a : Act} {w : World} {cx : Ctx}

theorem zip3_get : ∀ {os : List Oper} {rs : List Rec} {ms : List Nat} {i : Nat} {o : Oper} {r : Rec} {m : Nat}, os[i]? = some o → rs[i]? = some r → ms[i]? = some m → (zip3 os rs ms)[i]? = some (o, r, m)
  | [], _, _, i, _, _, _, h, _, _ => by simp at h
  | _ :: _, [], _, i, _, _, _, _, h, _ => by simp at h
  | _ :: _, _ :: _, [], i, _, _, _, _, _, h => by simp at h
  | o :: os, r :: rs, m :: ms, 0, _, _, _, h1, h2, h3 => by simp at h1 h2 h3; subst h1 h2 h3; rfl
  | o :: os, r :: rs, m :: ms, i + 1, _, _, _, h1, h2, h3 => by
    simp only [zip3, List.getElem?_cons_succ]
    exact zip3_get (by simpa using h1) (by simpa using h2) (by simpa using h3)
theorem allPairs_get {all : Array Oper} {z : List (Oper × Rec × Nat)} {n : Nat} : ∀ {l : List (Oper × Rec × Nat)} {k : Nat}, allPairs all z n k l = true → ∀ i x, l[i]? = some x → ∀ j, j < n → pairB all z (k + i) x j = true ∧ newB z (k + i) x j = true
  | [], k, h, i, x, hx, j, hj => by simp at hx
  | y :: l, k, h, i, x, hx, j, hj => by
    simp only [allPairs, Bool.and_eq_true, List.all_eq_true, List.mem_range] at h
    cases i with
    | zero => simp at hx; subst hx; exact h.1 j hj
    | succ i =>
      have := allPairs_get h.2 i x (by simpa using hx) j hj
      rw [show k + (i + 1) = k + 1 + i by omega]
      exact this
theorem edgesB_get : ∀ {l : List Oper} {k : Nat}, edgesB k l = true → ∀ (i : Nat) (o : Oper), l[i]? = some o → ∀ e ∈ bindsOn o, e < k + i
  | [], k, h, i, o, ho, e, he => by simp at ho
  | x :: l, k, h, i, o, ho, e, he => by
    simp only [edgesB, Bool.and_eq_true, List.all_eq_true] at h
    cases i with
    | zero => simp at ho; subst ho; have := Nat.le_of_ble_eq_true (show Nat.ble (e + 1) k = true from h.1 e he); omega
    | succ i => have := edgesB_get h.2 i o (by simpa using ho) e he; omega
theorem countNew_take : ∀ {l : List Oper} {i : Nat} {o : Oper}, l[i]? = some o → isNew o.op = true → countNew (l.take i) < countNew l
  | [], i, o, h, _ => by simp at h
  | x :: l, 0, o, h, hn => by simp at h; subst h; simp [countNew, hn]
  | x :: l, i + 1, o, h, hn => by
    have := countNew_take (l := l) (i := i) (by simpa using h) hn
    simp only [List.take_succ_cons, countNew]
    cases isNew x.op <;> simp <;> omega
theorem lastD_mem {S : Nat → Bool} {t : Nat} {v : SV} : ∀ {rs : List Rec} {i : Nat}, lastD S t i rs = some v → ∃ j r, rs[j]? = some r ∧ S (i + j) = true ∧ r.v = v
  | [], i, h => by simp [lastD] at h
  | r :: rs, i, h => by
    simp only [lastD] at h
    cases hl : lastD S t (i + 1) rs with
    | some u =>
      rw [hl] at h; simp at h; subst h
      obtain ⟨j, x, h1, h2, h3⟩ := lastD_mem hl
      exact ⟨j + 1, x, by simpa using h1, by rw [show i + (j + 1) = i + 1 + j by omega]; exact h2, h3⟩
    | none =>
      rw [hl] at h; simp only at h
      split at h
      · rename_i hc; cases h; exact ⟨0, r, rfl, hc.1, rfl⟩
      · cases h
theorem lastP_mem {S : Nat → Bool} {b : Nat} {x : Option Row} : ∀ {rs : List Rec} {i : Nat}, lastP S b i rs = some x → ∃ j r, rs[j]? = some r ∧ S (i + j) = true ∧ lastPut r.puts b = some x
  | [], i, h => by simp [lastP] at h
  | r :: rs, i, h => by
    simp only [lastP] at h
    cases hl : lastP S b (i + 1) rs with
    | some u =>
      rw [hl] at h; simp at h; subst h
      obtain ⟨j, y, h1, h2, h3⟩ := lastP_mem hl
      exact ⟨j + 1, y, by simpa using h1, by rw [show i + (j + 1) = i + 1 + j by omega]; exact h2, h3⟩
    | none =>
      rw [hl] at h; simp only at h
      split at h
      · rename_i hS
        exact ⟨0, r, rfl, hS, h⟩
      · cases h
theorem noMPuts_get {b : Nat} : ∀ {l : List (Nat × Option Row)} {c : Nat} {x : Row}, noMPuts b l = true → lastPut l c = some (some x) → noML b x.cs = true
  | [], c, x, h, hl => by simp [lastPut] at hl
  | (d, none) :: l, c, x, h, hl => by
    simp only [noMPuts] at h
    simp only [lastPut] at hl
    cases hq : lastPut l c with
    | some y => rw [hq] at hl; simp at hl; subst hl; exact noMPuts_get h hq
    | none =>
      rw [hq] at hl
      simp only at hl
      split at hl <;> cases hl
  | (d, some z) :: l, c, x, h, hl => by
    simp only [noMPuts, Bool.and_eq_true] at h
    simp only [lastPut] at hl
    cases hq : lastPut l c with
    | some y => rw [hq] at hl; simp at hl; subst hl; exact noMPuts_get h.2 hq
    | none =>
      rw [hq] at hl
      simp only at hl
      split at hl
      · cases hl; exact h.1
      · cases hl

/-- How many are not yet listed. -/
def left (n : Nat) (listed : Array Bool) : Nat := (List.range n).countP fun i => !(listed.getD i false)

theorem left_set {n : Nat} {listed : Array Bool} {i : Nat} (hi : i < n) (hs : listed.size = n) (hl : listed.getD i false = false) : left n (listed.setIfInBounds i true) < left n listed := by
  unfold left
  have key : ∀ (l : List Nat), i ∈ l → (∀ j ∈ l, j < n) → l.countP (fun j => !((listed.setIfInBounds i true).getD j false)) < l.countP (fun j => !(listed.getD j false)) := by
    have mono : ∀ (l : List Nat), l.countP (fun j => !((listed.setIfInBounds i true).getD j false)) ≤ l.countP (fun j => !(listed.getD j false)) := by
      intro l
      apply List.countP_mono_left
      intro j _ hj
      by_cases h : i = j
      · subst h
        simp [Array.getD, hs, hi] at hj
      · simpa [Array.getElem?_setIfInBounds_ne h] using hj
    intro l
    induction l with
    | nil => intro h; cases h
    | cons x l ih =>
      intro h hb
      rw [List.countP_cons, List.countP_cons]
      by_cases hx : x = i
      · subst hx
        have h1 : (!((listed.setIfInBounds x true).getD x false)) = false := by simp [Array.getD, hs, hi]
        have h2 : (!(listed.getD x false)) = true := by rw [hl]; rfl
        rw [h1, h2]
        have := mono l
        simp only [Bool.false_eq_true, if_false, if_true]
        omega
      · have hm : i ∈ l := by rcases List.mem_cons.1 h with h | h; exact absurd h.symm hx; exact h
        have := ih hm (fun j hj => hb j (by simp [hj]))
        have he : (!((listed.setIfInBounds i true).getD x false)) = (!(listed.getD x false)) := by
          simp [Array.getElem?_setIfInBounds_ne (fun h => hx h.symm)]
        rw [he]
        omega
  exact key _ (by simpa using hi) (fun j hj => by simpa using hj)

theorem ready_spec {all : Array Oper} {listed : Array Bool} {i : Nat} (h : i ∈ Region.ready .any all listed) : i < all.size ∧ listed.getD i true = false ∧ ∃ o, all[i]? = some o ∧ ∀ e ∈ bindsOn o, listed.getD e false = true := by
  unfold Region.ready at h
  rw [List.mem_filter] at h
  obtain ⟨h1, h2⟩ := h
  have h1 : i < all.size := by simpa using h1
  simp only [Bool.and_eq_true, Bool.not_eq_true'] at h2
  obtain ⟨h2, h3⟩ := h2
  refine ⟨h1, h2, all[i], by simp [h1], fun e he => ?_⟩
  rw [show all[i]? = some all[i] by simp [h1]] at h3
  simp only [Option.map_some, Option.getD_some, Array.all_eq_true] at h3
  unfold bindsOn at he
  simp only [List.mem_map, List.mem_filter, Array.mem_toList_iff] at he
  obtain ⟨x, ⟨hx1, hx2⟩, rfl⟩ := he
  obtain ⟨k, hk, rfl⟩ := Array.mem_iff_getElem.1 hx1
  have := h3 k hk
  simp only [hx2, Bool.not_true, Bool.false_or] at this
  exact this
theorem ready_of {all : Array Oper} {listed : Array Bool} {i : Nat} {o : Oper} (hi : all[i]? = some o) (hl : listed.getD i true = false) (he : ∀ e ∈ bindsOn o, listed.getD e false = true) : i ∈ Region.ready .any all listed := by
  unfold Region.ready
  rw [List.mem_filter]
  have hlt : i < all.size := (Array.getElem?_eq_some_iff.1 hi).1
  refine ⟨by simpa using hlt, ?_⟩
  rw [hi]
  simp only [hl, Bool.not_false, Bool.true_and, Option.map_some, Option.getD_some, Array.all_eq_true]
  intro k hk
  cases hb : Region.binds .any o.after[k] with
  | false => rfl
  | true =>
    simp only [Bool.not_true, Bool.false_or]
    apply he
    unfold bindsOn
    simp only [List.mem_map, List.mem_filter, Array.mem_toList_iff]
    exact ⟨o.after[k], ⟨Array.getElem_mem hk, hb⟩, rfl⟩
end Sx
end Go.Proofs.Ytmmejomalfjcnaa
