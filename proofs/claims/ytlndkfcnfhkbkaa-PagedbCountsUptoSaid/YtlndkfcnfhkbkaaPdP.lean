/- Counts of a database's pages, in plain numbers. No condition beyond sizes. -/
import Derived.Test.YtlndkfcnfhkbkaaPdO
namespace Go.Proofs.Ytlndkfcnfhkbkaa
open Go.RowKit Sx
set_option linter.unusedVariables false
set_option linter.unusedSimpArgs false
set_option maxRecDepth 100000
set_option maxHeartbeats 4000000
def sumN : Nat → (Nat → Int) → Int
  | 0, _ => 0
  | n + 1, f => sumN n f + f n
theorem sumN_congr : ∀ {n : Nat} {f g : Nat → Int}, (∀ x, x < n → f x = g x) → sumN n f = sumN n g
  | 0, _, _, _ => rfl
  | n + 1, f, g, h => by
    simp only [sumN, sumN_congr (n := n) (f := f) (g := g) (fun x hx => h x (by omega)), h n (by omega)]
theorem sumN_upd : ∀ {n : Nat} {f g : Nat → Int} {a : Nat}, a < n → (∀ x, x < n → x ≠ a → f x = g x) → sumN n f + g a = sumN n g + f a
  | 0, _, _, _, h, _ => by omega
  | n + 1, f, g, a, h, hh => by
    simp only [sumN]
    by_cases e : a = n
    · subst e
      rw [sumN_congr (n := a) (f := f) (g := g) (fun x hx => hh x (by omega) (by omega))]
      omega
    · have := sumN_upd (n := n) (f := f) (g := g) (a := a) (by omega) (fun x hx => hh x (by omega))
      have := hh n (by omega) (by omega)
      omega
theorem sumN_upd2 {n : Nat} {f g : Nat → Int} {a c : Nat} (ha : a < n) (hc : c < n) (hac : a ≠ c) (hh : ∀ x, x < n → x ≠ a → x ≠ c → f x = g x) : sumN n f + g a + g c = sumN n g + f a + f c := by
  have h1 := sumN_upd (n := n) (f := f) (g := fun x => if x = a then g a else f x) ha (fun x _ hx => by simp [hx])
  have h2 := sumN_upd (n := n) (f := fun x => if x = a then g a else f x) (g := g) hc (fun x hx hx2 => by
    by_cases e : x = a
    · simp [e]
    · simp only [e, if_false]; exact hh x hx e hx2)
  simp only [if_true] at h1
  rw [if_neg (Ne.symm hac)] at h2
  omega
theorem sumN_add : ∀ {n : Nat} {f g : Nat → Int}, sumN n (fun x => f x + g x) = sumN n f + sumN n g
  | 0, _, _ => rfl
  | n + 1, f, g => by simp only [sumN, sumN_add (n := n)]; omega
theorem sumN_zero : ∀ {n : Nat} {f : Nat → Int}, (∀ x, x < n → f x = 0) → sumN n f = 0
  | 0, _, _ => rfl
  | n + 1, f, h => by simp only [sumN, sumN_zero (n := n) (f := f) (fun x hx => h x (by omega)), h n (by omega)]; rfl
theorem sumN_swap : ∀ {n m : Nat} {f : Nat → Nat → Int}, sumN n (fun x => sumN m (f x)) = sumN m (fun y => sumN n (fun x => f x y))
  | 0, m, f => (sumN_zero (fun _ _ => rfl)).symm
  | n + 1, m, f => by
    simp only [sumN, sumN_swap (n := n)]
    exact sumN_add.symm
theorem sumN_one {n : Nat} {f : Nat → Int} {a : Nat} (ha : a < n) (h : ∀ x, x < n → x ≠ a → f x = 0) : sumN n f = f a := by
  have := sumN_upd (n := n) (f := f) (g := fun _ => 0) ha h
  have z : sumN n (fun _ => (0 : Int)) = 0 := sumN_zero (fun _ _ => rfl)
  omega
theorem sumN_nn : ∀ {n : Nat} {f : Nat → Int}, (∀ x, x < n → 0 ≤ f x) → 0 ≤ sumN n f
  | 0, _, _ => Int.le_refl 0
  | n + 1, f, h => by
    have := sumN_nn (n := n) (f := f) (fun x hx => h x (by omega))
    have := h n (by omega)
    simp only [sumN]; omega
theorem sumN_ge : ∀ {n : Nat} {f : Nat → Int} {a : Nat}, a < n → (∀ x, x < n → 0 ≤ f x) → f a ≤ sumN n f
  | 0, _, _, h, _ => by omega
  | n + 1, f, a, h, hh => by
    simp only [sumN]
    have h0 := sumN_nn (n := n) (f := f) (fun x hx => hh x (by omega))
    have h1 := hh n (by omega)
    by_cases e : a = n
    · subst e; omega
    · have := sumN_ge (n := n) (f := f) (a := a) (by omega) (fun x hx => hh x (by omega))
      omega
theorem sumN_const : ∀ {n : Nat}, sumN n (fun _ => 1) = n
  | 0 => rfl
  | n + 1 => by simp only [sumN, sumN_const (n := n)]; omega
theorem len_filter (P : Nat → Bool) : ∀ n : Nat, (((List.range n).filter P).length : Int) = sumN n (fun x => if P x = true then 1 else 0)
  | 0 => rfl
  | n + 1 => by
    rw [List.range_succ, List.filter_append, List.length_append]
    simp only [sumN, ← len_filter P n]
    cases h : P n <;> simp [List.filter_cons, h]
def oc (T O : Int → Int) (s : Int) (x : Nat) : Int := if (x : Int) ≠ s ∧ T x ≠ 0 ∧ O x = s then 1 else 0
def cnt (n : Nat) (T O : Int → Int) (s : Int) : Int := sumN n (oc T O s)
theorem oc_0 {T O : Int → Int} {s : Int} {x : Nat} (h : ¬ ((x : Int) ≠ s ∧ T x ≠ 0 ∧ O x = s)) : oc T O s x = 0 := if_neg h
theorem oc_1 {T O : Int → Int} {s : Int} {x : Nat} (h : (x : Int) ≠ s ∧ T x ≠ 0 ∧ O x = s) : oc T O s x = 1 := if_pos h
theorem oc_nn (T O : Int → Int) (s : Int) (x : Nat) : 0 ≤ oc T O s x := by unfold oc; split <;> omega
theorem cnt_zero {n : Nat} {T O : Int → Int} {s : Int} (h : ∀ x : Nat, x < n → (x : Int) ≠ s → T x ≠ 0 → O x ≠ s) : cnt n T O s = 0 :=
  sumN_zero fun x hx => oc_0 fun ⟨a, b, c⟩ => h x hx a b c
theorem cnt_same {n : Nat} {T O T' O' : Int → Int} {s : Int} (h : ∀ x : Nat, x < n → oc T' O' s x = oc T O s x) : cnt n T' O' s = cnt n T O s := sumN_congr h
structure inv (n : Nat) (T O R : Int → Int) : Prop where
  own : ∀ p : Int, 0 ≤ p → p < n → T p ≠ 0 → (0 ≤ O p ∧ O p < n) ∧ T (O p) = 1
  spc : ∀ p : Int, 0 ≤ p → p < n → T p = 1 → O p = p ∧ R p = cnt n T O p
section
variable {n : Nat} {T O R T' O' R' : Int → Int}
theorem inv.same (h : inv n T O R) (e : ∀ p : Int, 0 ≤ p → p < n → T' p = T p ∧ O' p = O p ∧ R' p = R p) : inv n T' O' R' := by
  refine ⟨fun p h0 h1 ht => ?_, fun p h0 h1 ht => ?_⟩
  · rw [(e p h0 h1).1] at ht
    have := h.own p h0 h1 ht
    rw [(e p h0 h1).2.1]
    exact ⟨this.1, by rw [(e _ this.1.1 this.1.2).1]; exact this.2⟩
  · rw [(e p h0 h1).1] at ht
    have := h.spc p h0 h1 ht
    rw [(e p h0 h1).2.1, (e p h0 h1).2.2]
    refine ⟨this.1, this.2.trans (cnt_same fun x hx => ?_).symm⟩
    unfold oc
    rw [(e x (by omega) (by omega)).1, (e x (by omega) (by omega)).2.1]
theorem cnt_upd2 {s a c : Int} (ha : 0 ≤ a ∧ a < n) (hc : 0 ≤ c ∧ c < n) (hac : a ≠ c) (e : ∀ p : Int, 0 ≤ p → p < n → p ≠ a → p ≠ c → T' p = T p ∧ O' p = O p) :
    cnt n T' O' s + oc T O s a.toNat + oc T O s c.toNat = cnt n T O s + oc T' O' s a.toNat + oc T' O' s c.toNat :=
  sumN_upd2 (by omega) (by omega) (by omega) fun x hx h1 h2 => by
    unfold oc
    rw [(e x (by omega) (by omega) (by omega) (by omega)).1, (e x (by omega) (by omega) (by omega) (by omega)).2]
theorem cnt_upd {s a : Int} (ha : 0 ≤ a ∧ a < n) (e : ∀ p : Int, 0 ≤ p → p < n → p ≠ a → T' p = T p ∧ O' p = O p) :
    cnt n T' O' s + oc T O s a.toNat = cnt n T O s + oc T' O' s a.toNat :=
  sumN_upd (by omega) fun x hx h1 => by
    unfold oc
    rw [(e x (by omega) (by omega) (by omega)).1, (e x (by omega) (by omega) (by omega)).2]
theorem inv.space (h : inv n T O R) {a c : Int} (ha : 0 ≤ a ∧ a < n) (hc : 0 ≤ c ∧ c < n) (hac : a ≠ c) (ta : T a = 0) (tc : T c = 0)
    (a1 : T' a = 1) (a2 : O' a = a) (a3 : R' a = 1) (c1 : T' c = 3) (c2 : O' c = a) (e : ∀ p : Int, 0 ≤ p → p < n → p ≠ a → p ≠ c → T' p = T p ∧ O' p = O p ∧ R' p = R p) : inv n T' O' R' := by
  have ea : ((a.toNat : Nat) : Int) = a := by omega
  have ec : ((c.toNat : Nat) : Int) = c := by omega
  refine ⟨fun p h0 h1 ht => ?_, fun p h0 h1 ht => ?_⟩
  · by_cases pa : p = a
    · subst pa; rw [a2]; exact ⟨ha, a1⟩
    · by_cases pc : p = c
      · subst pc; rw [c2]; exact ⟨ha, a1⟩
      · obtain ⟨e1, e2, e3⟩ := e p h0 h1 pa pc
        rw [e1] at ht
        obtain ⟨k1, k2⟩ := h.own p h0 h1 ht
        rw [e2]
        refine ⟨k1, ?_⟩
        rw [(e _ k1.1 k1.2 (fun q => by rw [q] at k2; omega) (fun q => by rw [q] at k2; omega)).1]
        exact k2
  · have hu := cnt_upd2 (T := T) (O := O) (T' := T') (O' := O') (s := p) ha hc hac (fun q q0 q1 q2 q3 => ⟨(e q q0 q1 q2 q3).1, (e q q0 q1 q2 q3).2.1⟩)
    rw [oc_0 (T := T) (x := a.toNat) (by rw [ea]; omega), oc_0 (T := T) (x := c.toNat) (by rw [ec]; omega)] at hu
    by_cases pa : p = a
    · subst pa
      rw [oc_0 (T := T') (x := p.toNat) (by rw [ea]; omega), oc_1 (T := T') (x := c.toNat) (by rw [ec]; omega)] at hu
      have hz : cnt n T O p = 0 := cnt_zero fun x hx _ ht2 he => by
        have := (h.own x (by omega) (by omega) ht2).2
        rw [he] at this; omega
      exact ⟨a2, by omega⟩
    · by_cases pc : p = c
      · subst pc; omega
      · obtain ⟨e1, e2, e3⟩ := e p h0 h1 pa pc
        rw [e1] at ht
        obtain ⟨k1, k2⟩ := h.spc p h0 h1 ht
        rw [oc_0 (T := T') (x := a.toNat) (by rw [ea]; omega), oc_0 (T := T') (x := c.toNat) (by rw [ec]; omega)] at hu
        exact ⟨by omega, by omega⟩
theorem inv.take (h : inv n T O R) {p f t : Int} (hp : 0 ≤ p ∧ p < n) (hf : 0 ≤ f ∧ f < n) (tp : T p = 0) (tf : T f = 1) (t0 : t ≠ 0) (t1 : t ≠ 1)
    (a1 : T' p = t) (a2 : O' p = f) (c1 : T' f = 1) (c2 : O' f = O f) (c3 : R' f = R f + 1) (e : ∀ q : Int, 0 ≤ q → q < n → q ≠ p → q ≠ f → T' q = T q ∧ O' q = O q ∧ R' q = R q) : inv n T' O' R' := by
  have ea : ((p.toNat : Nat) : Int) = p := by omega
  have ec : ((f.toNat : Nat) : Int) = f := by omega
  have hpf : p ≠ f := fun q => by rw [q] at tp; omega
  obtain ⟨sf1, sf2⟩ := h.spc f hf.1 hf.2 tf
  refine ⟨fun x h0 h1 ht => ?_, fun x h0 h1 ht => ?_⟩
  · by_cases pa : x = p
    · subst pa; rw [a2]; exact ⟨hf, c1⟩
    · by_cases pc : x = f
      · subst pc; rw [c2, sf1]; exact ⟨hf, c1⟩
      · obtain ⟨e1, e2, e3⟩ := e x h0 h1 pa pc
        rw [e1] at ht
        obtain ⟨k1, k2⟩ := h.own x h0 h1 ht
        rw [e2]
        refine ⟨k1, ?_⟩
        by_cases of : O x = f
        · rw [of]; exact c1
        · rw [(e _ k1.1 k1.2 (fun q => by rw [q] at k2; omega) of).1]; exact k2
  · have hu := cnt_upd2 (T := T) (O := O) (T' := T') (O' := O') (s := x) hp hf hpf (fun q q0 q1 q2 q3 => ⟨(e q q0 q1 q2 q3).1, (e q q0 q1 q2 q3).2.1⟩)
    rw [oc_0 (T := T) (x := p.toNat) (by rw [ea]; omega)] at hu
    by_cases pa : x = p
    · subst pa; omega
    · by_cases pc : x = f
      · subst pc
        rw [oc_0 (T := T) (x := x.toNat) (by rw [ec]; omega), oc_0 (T := T') (x := x.toNat) (by rw [ec]; omega), oc_1 (T := T') (x := p.toNat) (by rw [ea]; omega)] at hu
        exact ⟨by omega, by omega⟩
      · obtain ⟨e1, e2, e3⟩ := e x h0 h1 pa pc
        rw [e1] at ht
        obtain ⟨k1, k2⟩ := h.spc x h0 h1 ht
        rw [oc_0 (T := T) (x := f.toNat) (by rw [ec]; omega), oc_0 (T := T') (x := f.toNat) (by rw [ec]; omega), oc_0 (T := T') (x := p.toNat) (by rw [ea]; omega)] at hu
        exact ⟨by omega, by omega⟩
theorem inv.turn (h : inv n T O R) {p t : Int} (hp : 0 ≤ p ∧ p < n) (tp : T p ≠ 0) (tp1 : T p ≠ 1) (t0 : t ≠ 0) (t1 : t ≠ 1)
    (a1 : T' p = t) (a2 : O' p = O p) (e : ∀ q : Int, 0 ≤ q → q < n → q ≠ p → T' q = T q ∧ O' q = O q ∧ R' q = R q) : inv n T' O' R' := by
  have ea : ((p.toNat : Nat) : Int) = p := by omega
  refine ⟨fun x h0 h1 ht => ?_, fun x h0 h1 ht => ?_⟩
  · have hk : T x ≠ 0 ∧ O' x = O x := by
      by_cases pa : x = p
      · subst pa; exact ⟨tp, a2⟩
      · obtain ⟨e1, e2, e3⟩ := e x h0 h1 pa
        exact ⟨by rw [← e1]; exact ht, e2⟩
    obtain ⟨k1, k2⟩ := h.own x h0 h1 hk.1
    rw [hk.2]
    exact ⟨k1, by rw [(e _ k1.1 k1.2 (fun q => by rw [q] at k2; omega)).1]; exact k2⟩
  · have hu := cnt_upd (T := T) (O := O) (T' := T') (O' := O') (s := x) hp (fun q q0 q1 q2 => ⟨(e q q0 q1 q2).1, (e q q0 q1 q2).2.1⟩)
    have ho : oc T' O' x p.toNat = oc T O x p.toNat := by
      unfold oc
      rw [ea, a1, a2]
      simp only [ne_eq, t0, not_false_eq_true, true_and, tp]
    by_cases pa : x = p
    · subst pa; omega
    · obtain ⟨e1, e2, e3⟩ := e x h0 h1 pa
      rw [e1] at ht
      obtain ⟨k1, k2⟩ := h.spc x h0 h1 ht
      exact ⟨by omega, by omega⟩
theorem inv.give1 (h : inv n T O R) {p : Int} (hp : 0 ≤ p ∧ p < n) (tp : T p = 1) (rp : R p = 0)
    (a1 : T' p = 0) (e : ∀ q : Int, 0 ≤ q → q < n → q ≠ p → T' q = T q ∧ O' q = O q ∧ R' q = R q) : inv n T' O' R' := by
  have ea : ((p.toNat : Nat) : Int) = p := by omega
  obtain ⟨s1, s2⟩ := h.spc p hp.1 hp.2 tp
  have hno : ∀ x : Int, 0 ≤ x → x < n → x ≠ p → T x ≠ 0 → O x ≠ p := fun x h0 h1 h2 h3 h4 => by
    have := sumN_ge (n := n) (f := oc T O p) (a := x.toNat) (by omega) (fun y _ => oc_nn _ _ _ _)
    rw [oc_1 (by rw [show ((x.toNat : Nat) : Int) = x by omega]; exact ⟨h2, h3, h4⟩)] at this
    unfold cnt at s2
    omega
  refine ⟨fun x h0 h1 ht => ?_, fun x h0 h1 ht => ?_⟩
  · have pa : x ≠ p := fun q => by rw [q] at ht; omega
    obtain ⟨e1, e2, e3⟩ := e x h0 h1 pa
    rw [e1] at ht
    obtain ⟨k1, k2⟩ := h.own x h0 h1 ht
    rw [e2]
    exact ⟨k1, by rw [(e _ k1.1 k1.2 (hno x h0 h1 pa ht)).1]; exact k2⟩
  · have pa : x ≠ p := fun q => by rw [q] at ht; omega
    obtain ⟨e1, e2, e3⟩ := e x h0 h1 pa
    rw [e1] at ht
    obtain ⟨k1, k2⟩ := h.spc x h0 h1 ht
    have hu := cnt_upd (T := T) (O := O) (T' := T') (O' := O') (s := x) hp (fun q q0 q1 q2 => ⟨(e q q0 q1 q2).1, (e q q0 q1 q2).2.1⟩)
    rw [oc_0 (T := T) (x := p.toNat) (by rw [ea]; omega), oc_0 (T := T') (x := p.toNat) (by rw [ea]; omega)] at hu
    exact ⟨by omega, by omega⟩
theorem inv.pos (h : inv n T O R) {p : Int} (hp : 0 ≤ p ∧ p < n) (tp : T p ≠ 0) (tp1 : T p ≠ 1) : 0 < R (O p) := by
  have ea : ((p.toNat : Nat) : Int) = p := by omega
  obtain ⟨k1, k2⟩ := h.own p hp.1 hp.2 tp
  obtain ⟨s1, s2⟩ := h.spc _ k1.1 k1.2 k2
  have := sumN_ge (n := n) (f := oc T O (O p)) (a := p.toNat) (by omega) (fun y _ => oc_nn _ _ _ _)
  rw [oc_1 (by rw [ea]; exact ⟨fun q => by rw [← q] at k2; omega, tp, rfl⟩)] at this
  unfold cnt at s2
  omega
theorem inv.give2 (h : inv n T O R) {p : Int} (hp : 0 ≤ p ∧ p < n) (tp : T p ≠ 0) (tp1 : T p ≠ 1)
    (a1 : T' p = 0) (c1 : T' (O p) = 1) (c2 : O' (O p) = O (O p)) (c3 : R' (O p) = R (O p) - 1) (e : ∀ q : Int, 0 ≤ q → q < n → q ≠ p → q ≠ O p → T' q = T q ∧ O' q = O q ∧ R' q = R q) : inv n T' O' R' := by
  have ea : ((p.toNat : Nat) : Int) = p := by omega
  obtain ⟨f1, f2⟩ := h.own p hp.1 hp.2 tp
  obtain ⟨s1, s2⟩ := h.spc _ f1.1 f1.2 f2
  have ec : (((O p).toNat : Nat) : Int) = O p := by omega
  have hpf : p ≠ O p := fun q => by rw [← q] at f2; omega
  refine ⟨fun x h0 h1 ht => ?_, fun x h0 h1 ht => ?_⟩
  · have pa : x ≠ p := fun q => by rw [q] at ht; omega
    have hk : T x ≠ 0 ∧ O' x = O x := by
      by_cases pc : x = O p
      · rw [pc]; exact ⟨by omega, c2⟩
      · obtain ⟨e1, e2, e3⟩ := e x h0 h1 pa pc
        exact ⟨by rw [← e1]; exact ht, e2⟩
    obtain ⟨k1, k2⟩ := h.own x h0 h1 hk.1
    rw [hk.2]
    refine ⟨k1, ?_⟩
    by_cases of : O x = O p
    · rw [of]; exact c1
    · rw [(e _ k1.1 k1.2 (fun q => by rw [q] at k2; omega) of).1]; exact k2
  · have pa : x ≠ p := fun q => by rw [q] at ht; omega
    have hu := cnt_upd2 (T := T) (O := O) (T' := T') (O' := O') (s := x) hp f1 hpf (fun q q0 q1 q2 q3 => ⟨(e q q0 q1 q2 q3).1, (e q q0 q1 q2 q3).2.1⟩)
    rw [oc_0 (T := T') (x := p.toNat) (by rw [ea]; omega)] at hu
    by_cases pc : x = O p
    · rw [pc] at hu ⊢
      rw [oc_1 (T := T) (x := p.toNat) (by rw [ea]; exact ⟨hpf, tp, rfl⟩), oc_0 (T := T) (x := (O p).toNat) (by rw [ec]; omega), oc_0 (T := T') (x := (O p).toNat) (by rw [ec]; omega)] at hu
      exact ⟨by omega, by omega⟩
    · obtain ⟨e1, e2, e3⟩ := e x h0 h1 pa pc
      rw [e1] at ht
      obtain ⟨k1, k2⟩ := h.spc x h0 h1 ht
      rw [oc_0 (T := T) (x := p.toNat) (by rw [ea]; omega), oc_0 (T := T) (x := (O p).toNat) (by rw [ec]; omega), oc_0 (T := T') (x := (O p).toNat) (by rw [ec]; omega)] at hu
      exact ⟨by omega, by omega⟩
theorem inv.all (h : inv n T O R) : sumN n (fun x => if T x = 0 then 1 else 0) + sumN n (fun s => if T s = 1 then 1 + cnt n T O s else 0) = n := by
  have h1 : sumN n (fun s => if T s = 1 then 1 + cnt n T O s else 0) = sumN n (fun s => if T s = 1 then 1 else 0) + sumN n (fun s => if T s = 1 then cnt n T O s else 0) := by
    rw [← sumN_add]
    exact sumN_congr fun x _ => by split <;> omega
  have h2 : sumN n (fun s => if T s = 1 then cnt n T O s else 0) = sumN n (fun s => sumN n (fun x => if T (s : Int) = 1 then oc T O s x else 0)) :=
    sumN_congr fun s _ => by
      by_cases e : T (s : Int) = 1
      · simp only [e, if_true]; rfl
      · simp only [e, if_false]; exact (sumN_zero fun _ _ => rfl).symm
  have h3 : sumN n (fun x : Nat => sumN n (fun s => if T (s : Int) = 1 then oc T O s x else 0)) = sumN n (fun x => if T (x : Int) ≠ 0 ∧ T (x : Int) ≠ 1 then 1 else 0) :=
    sumN_congr fun x hx => by
      by_cases e : T (x : Int) ≠ 0
      · obtain ⟨k1, k2⟩ := h.own x (by omega) (by omega) e
        have ek : (((O x).toNat : Nat) : Int) = O x := by omega
        rw [sumN_one (a := (O x).toNat) (by omega) (fun s _ hs => by
          split
          · exact oc_0 (by omega)
          · rfl)]
        rw [ek, if_pos k2]
        by_cases t1 : T (x : Int) = 1
        · rw [if_neg (by omega)]
          exact oc_0 (by have := (h.spc x (by omega) (by omega) t1).1; omega)
        · rw [if_pos ⟨e, t1⟩]
          exact oc_1 ⟨fun q => by rw [← q] at k2; omega, e, rfl⟩
      · rw [if_neg (by omega)]
        refine sumN_zero fun s _ => ?_
        split
        · exact oc_0 (by omega)
        · rfl
  rw [h1, h2, sumN_swap, h3, ← sumN_add, ← sumN_add]
  refine (sumN_congr fun x hx => ?_).trans sumN_const
  by_cases t0 : T (x : Int) = 0
  · simp [t0]
  · by_cases t1 : T (x : Int) = 1
    · simp [t1]
    · simp [t0, t1]
end
end Go.Proofs.Ytlndkfcnfhkbkaa
