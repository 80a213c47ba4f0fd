/- The words of tables that are laid mapping by mapping; what a walk finds there. No condition beyond sizes. -/
import Derived.Test.YtlndkfcnfhkbkaaWlC
namespace Go.Proofs.Ytlndkfcnfhkbkaa
open Go.RowKit Sx
set_option linter.unusedVariables false
set_option linter.unusedSimpArgs false
set_option linter.unusedSectionVars false
set_option maxRecDepth 100000
set_option maxHeartbeats 8000000
theorem hasP_set (t : Bool) (k : Int) (u w : Bool) (a b : Int) (xs ys : List Int) (ps qs : List (List Int)) : hasP t k (setP u a xs ps) (setP w b ys qs) = hasP t k ps qs := by
  unfold hasP; cases t <;> simp [setP_len]
theorem okW_set (t : Bool) (k o : Int) (u w : Bool) (a b : Int) (xs ys : List Int) (ps qs : List (List Int)) : okW t k o (setP u a xs ps) (setP w b ys qs) = okW t k o ps qs := by
  unfold okW; rw [hasP_set]
theorem okW_t {k o : Int} {ps qs : List (List Int)} (h1 : 0 ≤ k) (h2 : k < ps.length) (h3 : 0 ≤ o) (h4 : o < 1024) : okW true k o ps qs = true := by
  unfold okW hasP; simp; omega
theorem rdW_w {t o k off v : Int} {ps qs : List (List Int)} (hw : wfP ps) (h1 : 0 ≤ k) (h2 : k < ps.length) (h3 : 0 ≤ off) (h4 : off < 1024) (a1 : 0 ≤ t) (a2 : t < ps.length) (a3 : 0 ≤ o) (a4 : o < 1024) :
    rdW true t o (setP (true && okW true k off ps qs) k ((pgAt true k ps qs).set off.toNat v) ps) (setP (!true && okW true k off ps qs) k ((pgAt true k ps qs).set off.toNat v) qs) = if k = t ∧ off = o then v else rdW true t o ps qs := by
  unfold rdW
  rw [okW_set, okW_t a1 a2 a3 a4, okW_t h1 h2 h3 h4]
  simp only [if_true, Bool.and_self, Bool.not_true, Bool.false_and, pgAt, setP]
  by_cases hk : k = t
  · subst hk
    have e1 : (ps.set k.toNat ((ps.getD k.toNat []).set off.toNat v)).getD k.toNat [] = (ps.getD k.toNat []).set off.toNat v := by
      rw [List.getD_eq_getElem?_getD, List.getElem?_set_self (by omega)]; rfl
    rw [e1]
    have e2 : (ps.getD k.toNat []).length = 1024 := by
      rw [List.getD_eq_getElem?_getD, List.getElem?_eq_getElem (show k.toNat < ps.length by omega)]
      exact (hw.out _ (List.getElem_mem _)).1
    by_cases ho : off = o
    · subst ho
      rw [if_pos ⟨rfl, rfl⟩, List.getD_eq_getElem?_getD, List.getElem?_set_self (by omega)]; rfl
    · rw [if_neg (fun h => ho h.2), List.getD_eq_getElem?_getD, List.getElem?_set_ne (by omega), ← List.getD_eq_getElem?_getD]
  · rw [if_neg (fun h => hk h.1)]
    have e1 : (ps.set k.toNat ((ps.getD k.toNat []).set off.toNat v)).getD t.toNat [] = ps.getD t.toNat [] := by
      rw [List.getD_eq_getElem?_getD, List.getElem?_set_ne (by omega), ← List.getD_eq_getElem?_getD]
    rw [e1]
section
variable (I J : Nat → Int) (S : Nat → Bool) (P : Nat → Int) (X Y : Nat → Bool)
noncomputable def wdB (k : Nat) (t o : Int) : Int := rdW true t o (bP 8 4 (fun _ => true) (pkK I) (pkO J) (pkV S P X Y) k) (bQ 8 4 (fun _ => true) (pkK I) (pkO J) (pkV S P X Y) k)
theorem pkK_in (e : Nat) : 0 ≤ pkK I e ∧ pkK I e < 4 := by unfold pkK; split <;> omega
theorem pkO_in (e : Nat) : 0 ≤ pkO J e ∧ pkO J e < 1024 := by
  have := ixT_in (e : Int)
  unfold pkO; split <;> omega
theorem wdB_s (k : Nat) (t o : Int) (a1 : 0 ≤ t) (a2 : t < 8) (a3 : 0 ≤ o) (a4 : o < 1024) : wdB I J S P X Y (k + 1) t o = if pkK I k = t ∧ pkO J k = o then pkV S P X Y k else wdB I J S P X Y k t o := by
  have hl := b_len 8 4 (fun _ => true) (pkK I) (pkO J) (pkV S P X Y) k
  have hw := b_wf 8 4 (fun _ => true) (pkK I) (pkO J) (pkV S P X Y) (n := k + 1) (fun e _ => pkV_in S P X Y e) k (by omega)
  have hs := b_s 8 4 (fun _ => true) (pkK I) (pkO J) (pkV S P X Y) k
  have h1 := pkK_in I k
  have h2 := pkO_in J k
  unfold wdB
  rw [hs.1, hs.2.1]
  exact rdW_w hw.1 (by omega) (by omega) (by omega) (by omega) (by omega) (by omega) (by omega) (by omega)
theorem wdB_0 (t o : Int) : wdB I J S P X Y 0 t o = 0 := by
  unfold wdB rdW
  split
  · rw [(b_0 8 4 (fun _ => true) (pkK I) (pkO J) (pkV S P X Y)).1, (b_0 8 4 (fun _ => true) (pkK I) (pkO J) (pkV S P X Y)).2.1]
    have key : ∀ (c a i j : Nat), ((List.replicate a (List.replicate c (0 : Int))).getD i []).getD j 0 = 0 := fun c a i j => by
      rw [List.getD_eq_getElem?_getD, List.getD_eq_getElem?_getD, List.getElem?_replicate]
      split
      · show (List.replicate c (0 : Int))[j]?.getD 0 = 0
        rw [List.getElem?_replicate]; split <;> rfl
      · simp
    unfold pgAt
    split <;> exact key _ _ _ _
  · rfl
theorem wd_top : ∀ (k : Nat) (o : Int), 0 ≤ o → o < 1024 → wdB I J S P X Y (k + 3) 0 o = if o = 5 then 257 else if o = 9 then 513 else if o = 255 then 769 else 0
  | 0, o, h1, h2 => by
    have e0 := wdB_s I J S P X Y 0 0 o (by omega) (by omega) h1 h2
    have e1 := wdB_s I J S P X Y 1 0 o (by omega) (by omega) h1 h2
    have e2 := wdB_s I J S P X Y 2 0 o (by omega) (by omega) h1 h2
    rw [wdB_0] at e0
    simp only [show pkK I 0 = 0 from rfl, show pkO J 0 = 5 from rfl, show pkV S P X Y 0 = 257 from rfl, true_and, Nat.zero_add] at e0
    simp only [show pkK I 1 = 0 from rfl, show pkO J 1 = 9 from rfl, show pkV S P X Y 1 = 513 from rfl, true_and, Nat.reduceAdd] at e1
    simp only [show pkK I 2 = 0 from rfl, show pkO J 2 = 255 from rfl, show pkV S P X Y 2 = 769 from rfl, true_and, Nat.reduceAdd] at e2
    rw [show 0 + 3 = 3 from rfl, e2, e1, e0]
    repeat' split
    all_goals omega
  | k + 1, o, h1, h2 => by
    rw [show k + 1 + 3 = (k + 3) + 1 from rfl, wdB_s I J S P X Y (k + 3) 0 o (by omega) (by omega) h1 h2, pkK_3, if_neg (by omega)]
    exact wd_top k o h1 h2
def hit (e : Nat) (t o : Int) : Prop := I e % 3 = t ∧ J e % 1024 = o
theorem wd_none : ∀ (k : Nat) (t o : Int), 0 ≤ t → t < 3 → 0 ≤ o → o < 1024 → (∀ e, e < k → ¬ hit I J e t o) → wdB I J S P X Y (k + 3) (t + 1) o = 0
  | 0, t, o, a1, a2, a3, a4, _ => by
    have e0 := wdB_s I J S P X Y 0 (t + 1) o (by omega) (by omega) a3 a4
    have e1 := wdB_s I J S P X Y 1 (t + 1) o (by omega) (by omega) a3 a4
    have e2 := wdB_s I J S P X Y 2 (t + 1) o (by omega) (by omega) a3 a4
    rw [wdB_0, if_neg (by show ¬ ((0 : Int) = t + 1 ∧ _); omega)] at e0
    rw [if_neg (by show ¬ ((0 : Int) = t + 1 ∧ _); omega)] at e1 e2
    rw [show 0 + 3 = 2 + 1 from rfl, e2, show 2 = 1 + 1 from rfl, e1, show 1 = 0 + 1 from rfl, e0]
  | k + 1, t, o, a1, a2, a3, a4, h => by
    rw [show k + 1 + 3 = (k + 3) + 1 from rfl, wdB_s I J S P X Y (k + 3) (t + 1) o (by omega) (by omega) a3 a4, pkK_3, pkO_3, if_neg (fun hc => h k (by omega) ⟨by omega, by omega⟩)]
    exact wd_none k t o a1 a2 a3 a4 (fun e he => h e (by omega))
theorem wd_last : ∀ (k : Nat) (t o : Int) (e : Nat), 0 ≤ t → t < 3 → 0 ≤ o → o < 1024 → e < k → hit I J e t o → (∀ e', e < e' → e' < k → ¬ hit I J e' t o) → wdB I J S P X Y (k + 3) (t + 1) o = (secS (S e) (mpP (S e) (P e)) (X e) (S e && Y e)).1
  | 0, t, o, e, a1, a2, a3, a4, he, _, _ => absurd he (Nat.not_lt_zero _)
  | k + 1, t, o, e, a1, a2, a3, a4, he, hh, h => by
    rw [show k + 1 + 3 = (k + 3) + 1 from rfl, wdB_s I J S P X Y (k + 3) (t + 1) o (by omega) (by omega) a3 a4, pkK_3, pkO_3]
    by_cases hk : e = k
    · subst hk
      obtain ⟨h1, h2⟩ := hh
      rw [if_pos ⟨by omega, by omega⟩, pkV_3]
    · rw [if_neg (fun hc => h k (by omega) (by omega) ⟨by omega, by omega⟩)]
      exact wd_last k t o e a1 a2 a3 a4 (by omega) hh (fun e' h1 h2 => h e' h1 (by omega))
end
theorem ps_sec (s : Bool) (p : Int) (x y : Bool) : psS (secS s (mpP s p) x (s && y)).1 = (s, mpP s p, x, s && y, 0) := by
  have h := mpP_in s p
  generalize mpP s p = v at h ⊢
  rcases (by omega : v = 0 ∨ v = 1 ∨ v = 2 ∨ v = 3 ∨ v = 4 ∨ v = 5 ∨ v = 6 ∨ v = 7) with rfl | rfl | rfl | rfl | rfl | rfl | rfl | rfl <;> cases s <;> cases x <;> cases y <;> decide
section
variable {p q : List (List Int)} (hp : p.length = 8) (hq : q.length = 4)
include hp hq
theorem has_pq {t : Int} (h1 : 0 ≤ t) (h2 : t < 8) : hasP true t p q = true := by unfold hasP; simp; omega
theorem err_pq {t o : Int} (h1 : 0 ≤ t) (h2 : t < 8) (h3 : 0 ≤ o) (h4 : o < 1024) : errW true t o p q = 0 := by
  unfold errW; rw [if_pos (has_pq hp hq h1 h2), if_pos ⟨h3, h4⟩]
theorem tb_ok {i t : Int} (hi : 0 ≤ i) (hi2 : i < 1024) (ht : 0 ≤ t) (ht2 : t < 3) (h : rdW true 0 i p q = (t + 1) * 256 + 1) : tbE p q 0 i = 0 ∧ tbP p q 0 i = t + 1 := by
  have e : pfS ((t + 1) * 256 + 1) = (t + 1, 0) := by
    unfold pfS
    rw [if_neg (by omega), if_pos ⟨by omega, by omega⟩]
    congr 1; omega
  have e2 : tbE p q 0 i = 0 := by
    unfold tbE
    rw [err_pq hp hq (by omega) (by omega) hi hi2, if_pos rfl, h, e, if_pos rfl, if_pos (has_pq hp hq (by show 0 ≤ t + 1; omega) (by show t + 1 < 8; omega))]
  refine ⟨e2, ?_⟩
  unfold tbP
  rw [if_pos e2, h, e]
theorem tb_no {i : Int} (hi : 0 ≤ i) (hi2 : i < 1024) (h : rdW true 0 i p q = 0) : tbE p q 0 i = 92 := by
  unfold tbE
  rw [err_pq hp hq (by omega) (by omega) hi hi2, if_pos rfl, h]
  rfl
theorem pl_ok {t j : Int} (ht : 0 ≤ t) (ht2 : t < 8) (hj : 0 ≤ j) (hj2 : j < 1024) (s : Bool) (f : Int) (x y : Bool) (h : rdW true t j p q = (secS s (mpP s f) x (s && y)).1) :
    plE p q t j = 0 ∧ plS p q t j = s ∧ plF p q t j = mpP s f ∧ plW p q t j = x ∧ plX p q t j = (s && y) := by
  have e := ps_sec s f x y
  have hh : hasP s (mpP s f) p q = true := by
    have hm := mpP_in s f
    unfold hasP
    cases s with
    | true => simp; omega
    | false =>
      have : mpP false f < 4 := by show f % 4 < 4; omega
      simp; omega
  have e2 : plE p q t j = 0 := by
    unfold plE
    rw [err_pq hp hq ht ht2 hj hj2, if_pos rfl, h, e, if_pos rfl, if_pos hh]
  refine ⟨e2, ?_, ?_, ?_, ?_⟩
  · unfold plS; rw [if_pos e2, h, e]
  · unfold plF; rw [if_pos e2, h, e]
  · unfold plW; rw [if_pos e2, h, e]
  · unfold plX; rw [if_pos e2, h, e]
theorem pl_no {t j : Int} (ht : 0 ≤ t) (ht2 : t < 8) (hj : 0 ≤ j) (hj2 : j < 1024) (h : rdW true t j p q = 0) : plE p q t j = 92 := by
  unfold plE
  rw [err_pq hp hq ht ht2 hj hj2, if_pos rfl, h]
  rfl
end
end Go.Proofs.Ytlndkfcnfhkbkaa
