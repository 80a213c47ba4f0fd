/- The list of a table laid mapping by mapping: what the law WalkList rests on. No condition beyond sizes. -/
import Derived.Test.YtlndkfcnfhkbkaaWlD
namespace Go.Proofs.Ytlndkfcnfhkbkaa
open Go.RowKit Sx
set_option linter.unusedVariables false
set_option linter.unusedSimpArgs false
set_option linter.unusedSectionVars false
set_option maxRecDepth 100000
set_option maxHeartbeats 8000000
-- the list of places
theorem jI_mem (ps qs : List (List Int)) (l : Int) (i : Nat) : ∀ (b : Nat) (x : Nat × Nat), x ∈ jI ps qs l i b ↔ x.1 = i ∧ x.2 < b ∧ plE ps qs (tbP ps qs l (i : Int)) (x.2 : Int) = 0
  | 0, x => by simp [jI]
  | b + 1, x => by
    rw [jI, List.mem_append, jI_mem ps qs l i b x]
    by_cases hz : plE ps qs (tbP ps qs l (i : Int)) (b : Int) = 0
    · rw [if_pos hz, List.mem_singleton]
      constructor
      · rintro (⟨h1, h2, h3⟩ | rfl)
        · exact ⟨h1, by omega, h3⟩
        · exact ⟨rfl, by simp, hz⟩
      · rintro ⟨h1, h2, h3⟩
        rcases Nat.lt_or_ge x.2 b with h | h
        · exact .inl ⟨h1, h, h3⟩
        · exact .inr (Prod.ext h1 (by simp only []; omega))
    · rw [if_neg hz]
      constructor
      · rintro (⟨h1, h2, h3⟩ | h)
        · exact ⟨h1, by omega, h3⟩
        · cases h
      · rintro ⟨h1, h2, h3⟩
        refine .inl ⟨h1, ?_, h3⟩
        rcases Nat.lt_or_ge x.2 b with h | h
        · exact h
        · have : x.2 = b := by omega
          rw [this] at h3; exact absurd h3 hz
theorem iI_mem (ps qs : List (List Int)) (l : Int) : ∀ (b : Nat) (x : Nat × Nat), x ∈ iI ps qs l b ↔ x.1 < b ∧ x.2 < 1024 ∧ tbE ps qs l (x.1 : Int) = 0 ∧ plE ps qs (tbP ps qs l (x.1 : Int)) (x.2 : Int) = 0
  | 0, x => by simp [iI]
  | b + 1, x => by
    rw [iI, List.mem_append, iI_mem ps qs l b x]
    by_cases hz : tbE ps qs l (b : Int) = 0
    · rw [if_pos hz, jI_mem]
      constructor
      · rintro (⟨h1, h2⟩ | ⟨h1, h2, h3⟩)
        · exact ⟨by omega, h2⟩
        · exact ⟨by omega, h2, by rw [h1]; exact hz, by rw [h1]; exact h3⟩
      · rintro ⟨h1, h2, h3, h4⟩
        rcases Nat.lt_or_ge x.1 b with h | h
        · exact .inl ⟨h, h2, h3, h4⟩
        · have e : x.1 = b := by omega
          exact .inr ⟨e, h2, by rw [e] at h4; exact h4⟩
    · rw [if_neg hz]
      constructor
      · rintro (⟨h1, h2⟩ | h)
        · exact ⟨by omega, h2⟩
        · cases h
      · rintro ⟨h1, h2, h3, h4⟩
        rcases Nat.lt_or_ge x.1 b with h | h
        · exact .inl ⟨h, h2, h3, h4⟩
        · have e : x.1 = b := by omega
          rw [e] at h3; exact absurd h3 hz
theorem jI_sort (ps qs : List (List Int)) (l : Int) (i : Nat) : ∀ b : Nat, b ≤ 1024 → (jI ps qs l i b).Pairwise (fun x y => vaI x.1 x.2 < vaI y.1 y.2)
  | 0, _ => by simp [jI]
  | b + 1, hb => by
    rw [jI, List.pairwise_append]
    refine ⟨jI_sort ps qs l i b (by omega), by split <;> simp, fun x hx y hy => ?_⟩
    have h1 := (jI_mem ps qs l i b x).1 hx
    split at hy
    · rw [List.mem_singleton] at hy
      subst hy
      unfold vaI
      simp only []
      rw [h1.1]
      have := h1.2.1
      omega
    · cases hy
theorem iI_sort (ps qs : List (List Int)) (l : Int) : ∀ b : Nat, (iI ps qs l b).Pairwise (fun x y => vaI x.1 x.2 < vaI y.1 y.2)
  | 0 => by simp [iI]
  | b + 1 => by
    rw [iI, List.pairwise_append]
    refine ⟨iI_sort ps qs l b, by split; exact jI_sort ps qs l b 1024 (Nat.le_refl _); simp, fun x hx y hy => ?_⟩
    have h1 := (iI_mem ps qs l b x).1 hx
    split at hy
    · have h2 := (jI_mem ps qs l b 1024 y).1 hy
      unfold vaI
      omega
    · cases hy
theorem len_le {α : Type} [BEq α] [LawfulBEq α] : ∀ (a b : List α), a.Nodup → (∀ x, x ∈ a → x ∈ b) → a.length ≤ b.length
  | [], b, _, _ => Nat.zero_le _
  | x :: a, b, hn, h => by
    have hx := h x (by simp)
    rw [List.nodup_cons] at hn
    have h2 := len_le a (b.erase x) hn.2 (fun y hy => (List.mem_erase_of_ne (fun e : y = x => hn.1 (by rw [← e]; exact hy))).2 (h y (by simp [hy])))
    rw [List.length_erase_of_mem hx] at h2
    have : 0 < b.length := List.length_pos_of_mem hx
    simp only [List.length_cons]
    omega
theorem cn_len (I J : Nat → Int) (n : Nat) : ∀ k : Nat, cn I J n k = (((List.range k).filter (fun e => decide (la I J e n = e))).length : Int)
  | 0 => by rw [cn_0]; rfl
  | k + 1 => by
    rw [cn_s, cn_len I J n k, List.range_succ, List.filter_append, List.length_append]
    by_cases h : la I J k n = k
    · rw [if_pos h]; simp [h]
    · rw [if_neg h]; simp [h]
-- the last mapping at an address
theorem la_no (I J : Nat → Int) (i : Nat) : ∀ (k e : Nat), la I J i k < e → e < k → adT (I e) (J e) 0 ≠ adT (I i) (J i) 0
  | 0, e, _, h => absurd h (Nat.not_lt_zero _)
  | k + 1, e, h1, h2 => by
    rw [la_s] at h1
    split at h1
    · omega
    · rename_i hc
      rcases Nat.lt_or_ge e k with h | h
      · exact la_no I J i k e h1 h
      · obtain rfl : e = k := by omega
        have := (la_in I J i e).1
        exact fun he => hc ⟨by omega, he⟩
theorem adT_iff (I J I' J' : Int) : adT I J 0 = adT I' J' 0 ↔ I % 3 = I' % 3 ∧ J % 1024 = J' % 1024 := by
  unfold adT ixT
  constructor
  · intro h
    repeat' split at h
    all_goals omega
  · rintro ⟨h1, h2⟩
    rw [h1, h2]
theorem split_ad (I J off : Int) : splitS (adT I J off) = (ixT (I % 3), J % 1024, off % 1024, 0) := by
  have h := ixT_in (I % 3)
  unfold splitS adT
  generalize ixT (I % 3) = a at h ⊢
  rw [if_pos (by omega)]
  refine Prod.ext ?_ (Prod.ext ?_ (Prod.ext ?_ rfl)) <;> simp only [] <;> omega
structure TB (n : Nat) (I J : Nat → Int) (S : Nat → Bool) (P : Nat → Int) (X Y : Nat → Bool) (p q : List (List Int)) : Prop where
  len : p.length = 8 ∧ q.length = 4
  top : ∀ i : Int, 0 ≤ i → i < 1024 → (∃ t : Int, 0 ≤ t ∧ t < 3 ∧ i = ixT t ∧ tbE p q 0 i = 0 ∧ tbP p q 0 i = t + 1) ∨ ((∀ t, 0 ≤ t → t < 3 → i ≠ ixT t) ∧ tbE p q 0 i = 92)
  non : ∀ t o : Int, 0 ≤ t → t < 3 → 0 ≤ o → o < 1024 → (∀ e, e < n → ¬ hit I J e t o) → plE p q (t + 1) o = 92
  som : ∀ (t o : Int) (e : Nat), 0 ≤ t → t < 3 → 0 ≤ o → o < 1024 → e < n → hit I J e t o → (∀ e', e < e' → e' < n → ¬ hit I J e' t o) →
    plE p q (t + 1) o = 0 ∧ plS p q (t + 1) o = S e ∧ plF p q (t + 1) o = mpP (S e) (P e) ∧ plW p q (t + 1) o = X e ∧ plX p q (t + 1) o = (S e && Y e)
theorem TB_of (n : Nat) (I J : Nat → Int) (S : Nat → Bool) (P : Nat → Int) (X Y : Nat → Bool) : TB n I J S P X Y (mP I J S P X Y n) (mQ I J S P X Y n) := by
  have hl := b_len 8 4 (fun _ => true) (pkK I) (pkO J) (pkV S P X Y) (n + 3)
  rw [← mP_eq, ← mQ_eq] at hl
  have hwd : ∀ t o, rdW true t o (mP I J S P X Y n) (mQ I J S P X Y n) = wdB I J S P X Y (n + 3) t o := fun t o => by rw [mP_eq, mQ_eq]; rfl
  refine ⟨hl, fun i h1 h2 => ?_, fun t o a1 a2 a3 a4 h => ?_, fun t o e a1 a2 a3 a4 he hh h => ?_⟩
  · have hw := hwd 0 i
    rw [wd_top I J S P X Y n i h1 h2] at hw
    by_cases c0 : i = 5
    · rw [if_pos c0] at hw
      exact .inl ⟨0, by omega, by omega, by rw [c0]; rfl, tb_ok hl.1 hl.2 h1 h2 (by omega) (by omega) hw⟩
    · rw [if_neg c0] at hw
      by_cases c1 : i = 9
      · rw [if_pos c1] at hw
        exact .inl ⟨1, by omega, by omega, by rw [c1]; rfl, tb_ok hl.1 hl.2 h1 h2 (by omega) (by omega) hw⟩
      · rw [if_neg c1] at hw
        by_cases c2 : i = 255
        · rw [if_pos c2] at hw
          exact .inl ⟨2, by omega, by omega, by rw [c2]; rfl, tb_ok hl.1 hl.2 h1 h2 (by omega) (by omega) hw⟩
        · rw [if_neg c2] at hw
          refine .inr ⟨fun t b1 b2 => ?_, tb_no hl.1 hl.2 h1 h2 hw⟩
          unfold ixT
          repeat' split
          all_goals assumption
  · exact pl_no hl.1 hl.2 (by omega) (by omega) a3 a4 ((hwd _ _).trans (wd_none I J S P X Y n t o a1 a2 a3 a4 h))
  · exact pl_ok hl.1 hl.2 (by omega) (by omega) a3 a4 (S e) (P e) (X e) (Y e) ((hwd _ _).trans (wd_last I J S P X Y n t o e a1 a2 a3 a4 he hh h))
section
variable {n : Nat} {I J : Nat → Int} {S : Nat → Bool} {P : Nat → Int} {X Y : Nat → Bool} {p q : List (List Int)} (h : TB n I J S P X Y p q)
include h
theorem TB.tix {t : Int} (h1 : 0 ≤ t) (h2 : t < 3) : tbE p q 0 (ixT t) = 0 ∧ tbP p q 0 (ixT t) = t + 1 := by
  have hx := ixT_in t
  rcases h.top (ixT t) (by omega) (by omega) with ⟨t', a1, a2, a3, a4, a5⟩ | ⟨a1, _⟩
  · have : t = t' := by
      rcases (by omega : t = 0 ∨ t = 1 ∨ t = 2) with rfl | rfl | rfl <;> rcases (by omega : t' = 0 ∨ t' = 1 ∨ t' = 2) with rfl | rfl | rfl <;> first | rfl | (exact absurd a3 (by decide))
    subst this
    exact ⟨a4, a5⟩
  · exact absurd rfl (a1 t h1 h2)
theorem TB.at {i : Nat} (hi : i < n) : la I J i n < n ∧ I (la I J i n) % 3 = I i % 3 ∧ J (la I J i n) % 1024 = J i % 1024 ∧
    tbE p q 0 (ixT (I i % 3)) = 0 ∧ tbP p q 0 (ixT (I i % 3)) = I i % 3 + 1 ∧
    plE p q (I i % 3 + 1) (J i % 1024) = 0 ∧ plS p q (I i % 3 + 1) (J i % 1024) = S (la I J i n) ∧ plF p q (I i % 3 + 1) (J i % 1024) = mpP (S (la I J i n)) (P (la I J i n)) ∧ plW p q (I i % 3 + 1) (J i % 1024) = X (la I J i n) ∧ plX p q (I i % 3 + 1) (J i % 1024) = (S (la I J i n) && Y (la I J i n)) := by
  have hl := la_in I J i n
  have ha := (adT_iff _ _ _ _).1 hl.2.2
  have ht := h.tix (t := I i % 3) (by omega) (by omega)
  refine ⟨by omega, ha.1, ha.2, ht.1, ht.2, h.som _ _ (la I J i n) (by omega) (by omega) (by omega) (by omega) (by omega) ⟨ha.1, ha.2⟩ (fun e' h1 h2 h3 => la_no I J i n e' h1 h2 ((adT_iff _ _ _ _).2 h3))⟩
theorem TB.mem (x : Nat × Nat) : x ∈ iI p q 0 256 ↔ ∃ e, e < n ∧ la I J e n = e ∧ (x.1 : Int) = ixT (I e % 3) ∧ (x.2 : Int) = J e % 1024 := by
  rw [iI_mem]
  constructor
  · rintro ⟨h1, h2, h3, h4⟩
    rcases h.top (x.1 : Int) (by omega) (by omega) with ⟨t, a1, a2, a3, a4, a5⟩ | ⟨_, a2⟩
    · rw [a5] at h4
      rcases Classical.em (∃ e, e < n ∧ hit I J e t (x.2 : Int)) with ⟨e, he, hh⟩ | hno
      · have hl := la_in I J e n
        have ha := (adT_iff _ _ _ _).1 hl.2.2
        refine ⟨la I J e n, by omega, ?_, by rw [ha.1, hh.1]; exact a3, by rw [ha.2, hh.2]⟩
        have hl2 := la_in I J (la I J e n) n
        rcases Nat.lt_or_ge (la I J e n) (la I J (la I J e n) n) with hlt | hge
        · exact absurd (hl2.2.2.trans hl.2.2) (la_no I J e n _ hlt (by omega))
        · omega
      · rw [h.non t (x.2 : Int) a1 a2 (by omega) (by omega) (fun e he hh => hno ⟨e, he, hh⟩)] at h4
        cases h4
    · rw [a2] at h3; cases h3
  · rintro ⟨e, he, _, h1, h2⟩
    have hx := ixT_in (I e % 3)
    obtain ⟨_, _, _, c1, c2, c3, _⟩ := h.at he
    rw [h1, h2, c2]
    exact ⟨by omega, by omega, c1, c3⟩
theorem TB.cnt : (lsN p q 0 : Int) = cn I J n n := by
  rw [lsN_eq, cn_len]
  have e1 : ∀ e, e ∈ (List.range n).filter (fun e => decide (la I J e n = e)) ↔ e < n ∧ la I J e n = e := fun e => by simp
  have key : (iI p q 0 256).length = (((List.range n).filter (fun e => decide (la I J e n = e))).map (fun e => ((ixT (I e % 3)).toNat, (J e % 1024).toNat))).length := by
    apply Nat.le_antisymm
    · refine len_le _ _ ((iI_sort p q 0 256).imp (fun hlt e => ?_)) (fun x hx => ?_)
      · rw [e] at hlt; omega
      · obtain ⟨e, a1, a2, a3, a4⟩ := (h.mem x).1 hx
        exact List.mem_map.2 ⟨e, (e1 e).2 ⟨a1, a2⟩, Prod.ext (by simp only []; omega) (by simp only []; omega)⟩
    · refine len_le _ _ ?_ (fun x hx => ?_)
      · unfold List.Nodup
        rw [List.pairwise_map]
        refine (List.Pairwise.filter _ List.pairwise_lt_range).imp_of_mem (fun {a b} ha hb hlt e => ?_)
        have ha := (e1 a).1 ha
        have hb := (e1 b).1 hb
        have x1 := ixT_in (I a % 3)
        have x2 := ixT_in (I b % 3)
        have p1 : (ixT (I a % 3)).toNat = (ixT (I b % 3)).toNat := congrArg Prod.fst e
        have p2 : (J a % 1024).toNat = (J b % 1024).toNat := congrArg Prod.snd e
        refine la_no I J a n b (by omega) hb.1 ((adT_iff _ _ _ _).2 ⟨?_, by omega⟩)
        have q1 : ixT (I a % 3) = ixT (I b % 3) := by omega
        unfold ixT at q1
        repeat' split at q1
        all_goals omega
      · obtain ⟨e, he, rfl⟩ := List.mem_map.1 hx
        have he := (e1 e).1 he
        have x1 := ixT_in (I e % 3)
        exact (h.mem _).2 ⟨e, he.1, he.2, by simp only []; omega, by simp only []; omega⟩
  rw [key, List.length_map]
theorem TB.ord {j k : Nat} (h1 : j < k) (h2 : k < lsN p q 0) : lsV p q 0 j < lsV p q 0 k := by
  have hN := lsN_eq p q 0
  have hs := iI_sort p q 0 256
  have hI := lsI_eq p q 0
  generalize iI p q 0 256 = xs at hN hs hI
  rw [hN] at h2
  have e1 : xs.getD j (0, 0) = xs[j] := by rw [List.getD_eq_getElem?_getD, List.getElem?_eq_getElem (by omega)]; rfl
  have e2 : xs.getD k (0, 0) = xs[k] := by rw [List.getD_eq_getElem?_getD, List.getElem?_eq_getElem (by omega)]; rfl
  rw [lsV_eq, lsV_eq, hI, hI, e1, e2]
  exact List.pairwise_iff_getElem.1 hs j k (by omega) h2 h1
theorem TB.num {x : Nat × Nat} (hx : x ∈ iI p q 0 256) : ∃ e, e < lsN p q 0 ∧ lsI p q 0 e = x := by
  obtain ⟨e, he, hx⟩ := List.getElem_of_mem hx
  refine ⟨e, by rw [lsN_eq]; exact he, ?_⟩
  rw [lsI_eq, List.getD_eq_getElem?_getD, List.getElem?_eq_getElem he, hx]; rfl
theorem TB.wk {i : Nat} (hi : i < n) (off : Int) : AlO p q (adT (I i) (J i) off) (S (la I J i n)) (mpP (S (la I J i n)) (P (la I J i n))) (X (la I J i n)) (S (la I J i n) && Y (la I J i n)) off := by
  obtain ⟨_, _, _, c1, c2, c3, c4, c5, c6, c7⟩ := h.at hi
  have hg : wkG (adT (I i) (J i) off) p q 0 = true := by unfold wkG; rw [split_ad]; simp [c1]
  refine ⟨?_, ?_, ?_, ?_, ?_, by rw [split_ad]⟩
  · unfold wkE; rw [split_ad]; simp [c1, c2, c3]
  · unfold wkS; rw [if_pos hg, split_ad]; simp only []; rw [c2, c4]
  · unfold wkF; rw [if_pos hg, split_ad]; simp only []; rw [c2, c5]
  · unfold wkW; rw [if_pos hg, split_ad]; simp only []; rw [c2, c6]
  · unfold wkX; rw [if_pos hg, split_ad]; simp only []; rw [c2, c7]
theorem pg_ad (I J off : Int) : pgN (adT I J off) = ixT (I % 3) * 4194304 + J % 1024 * 4096 := by
  have hx := ixT_in (I % 3)
  rw [pgN_eq]
  unfold adT
  generalize ixT (I % 3) = a at hx ⊢
  have : (a * 4194304 + J % 1024 * 4096 + off % 1024 * 4) - (a * 4194304 + J % 1024 * 4096 + off % 1024 * 4) % 4096 = a * 4194304 + J % 1024 * 4096 := by omega
  rw [this]
  exact wr32 (by omega) (by omega)
theorem TB.ls {i : Nat} (hi : i < n) (off : Int) : HasL (lsN p q 0) (lsV p q 0) (lsS p q 0) (lsF p q 0) (lsW p q 0) (lsX p q 0) (pgN (adT (I i) (J i) off)) (S (la I J i n)) (mpP (S (la I J i n)) (P (la I J i n))) (X (la I J i n)) (S (la I J i n) && Y (la I J i n)) := by
  obtain ⟨d1, d2, d3, c1, c2, c3, c4, c5, c6, c7⟩ := h.at hi
  have hx := ixT_in (I i % 3)
  obtain ⟨a, ha⟩ : ∃ a : Nat, (a : Int) = ixT (I i % 3) := ⟨(ixT (I i % 3)).toNat, by omega⟩
  obtain ⟨b, hb⟩ : ∃ b : Nat, (b : Int) = J i % 1024 := ⟨(J i % 1024).toNat, by omega⟩
  obtain ⟨e, he, hl⟩ := h.num (x := (a, b)) ((iI_mem p q 0 256 _).2 ⟨by simp only []; omega, by simp only []; omega, by simp only []; rw [ha]; exact c1, by simp only []; rw [ha, hb, c2]; exact c3⟩)
  have hV : lsV p q 0 e = pgN (adT (I i) (J i) off) := by rw [lsV_eq, hl, pg_ad h]; unfold vaI; simp only []; rw [ha, hb]
  refine ⟨e, he, hV, ?_, ?_, ?_, ?_, fun k hk hv => ?_⟩
  · rw [lsS_eq, hl]; simp only []; rw [ha, hb, c2, c4]
  · rw [lsF_eq, hl]; simp only []; rw [ha, hb, c2, c5]
  · rw [lsW_eq, hl]; simp only []; rw [ha, hb, c2, c6]
  · rw [lsX_eq, hl]; simp only []; rw [ha, hb, c2, c7]
  · have := h.ord hk he
    omega
theorem TB.no (a : Int) (h1 : 0 ≤ a) (h2 : a < 1073741824) (h3 : a % 4 = 0) (hn : NoL (lsV p q 0) (pgN a) (lsN p q 0)) : wkE p q 0 a = 92 ∧ wkS p q 0 a = false ∧ wkF p q 0 a = 0 ∧ wkW p q 0 a = false ∧ wkX p q 0 a = false := by
  have hs : splitS a = (a / 4194304, a / 4096 % 1024, a / 4 % 1024, 0) := by unfold splitS; rw [if_pos ⟨h2, h3⟩]
  rcases h.top (a / 4194304) (by omega) (by omega) with ⟨t, a1, a2, a3, a4, a5⟩ | ⟨_, a2⟩
  · have hg : wkG a p q 0 = true := by unfold wkG; rw [hs]; simp [a4]
    have hpl : plE p q (t + 1) (a / 4096 % 1024) = 92 := by
      rcases Classical.em (∃ e, e < n ∧ hit I J e t (a / 4096 % 1024)) with ⟨e, he, hh⟩ | hno
      · obtain ⟨i, hi⟩ : ∃ i : Nat, (i : Int) = a / 4194304 := ⟨(a / 4194304).toNat, by omega⟩
        obtain ⟨j, hj⟩ : ∃ j : Nat, (j : Int) = a / 4096 % 1024 := ⟨(a / 4096 % 1024).toNat, by omega⟩
        obtain ⟨_, _, _, c1, c2, c3, _⟩ := h.at he
        rw [hh.1, hh.2] at c3
        obtain ⟨k, hk, hl⟩ := h.num (x := (i, j)) ((iI_mem p q 0 256 _).2 ⟨by simp only []; omega, by simp only []; omega, by simp only []; rw [hi]; exact a4, by simp only []; rw [hi, hj, a5]; exact c3⟩)
        refine absurd ?_ (hn.out k hk)
        rw [lsV_eq, hl, pgN_eq, wr32 (by omega) (by omega)]
        unfold vaI
        simp only []
        omega
      · exact h.non t _ a1 a2 (by omega) (by omega) (fun e he hh => hno ⟨e, he, hh⟩)
    refine ⟨?_, ?_, ?_, ?_, ?_⟩
    · unfold wkE; rw [hs]; simp [a4, a5, hpl]
    · unfold wkS plS; rw [if_pos hg, hs]; simp [a5, hpl]
    · unfold wkF plF; rw [if_pos hg, hs]; simp [a5, hpl]
    · unfold wkW plW; rw [if_pos hg, hs]; simp [a5, hpl]
    · unfold wkX plX; rw [if_pos hg, hs]; simp [a5, hpl]
  · have hg : wkG a p q 0 = false := by unfold wkG; rw [hs]; simp [a2]
    refine ⟨?_, ?_, ?_, ?_, ?_⟩
    · unfold wkE; rw [hs]; simp [a2]
    · unfold wkS; rw [hg]; rfl
    · unfold wkF; rw [hg]; rfl
    · unfold wkW; rw [hg]; rfl
    · unfold wkX; rw [hg]; rfl
end
theorem LF_of {n : Nat} (hn : n ≤ 60) (I J : Nat → Int) (S : Nat → Bool) (P : Nat → Int) (X Y : Nat → Bool) : LF n I J S P X Y (mP I J S P X Y n) (mQ I J S P X Y n) (mM I J S P X Y n) := by
  have hw := b_wf 8 4 (fun _ => true) (pkK I) (pkO J) (pkV S P X Y) (n := n + 3) (fun e _ => pkV_in S P X Y e) (n + 3) (by omega)
  have hM := bM_in 8 4 (fun _ => true) (pkK I) (pkO J) (pkV S P X Y) (n + 3)
  rw [← mP_eq, ← mQ_eq] at hw
  rw [← mM_eq] at hM
  have ht := TB_of n I J S P X Y
  exact ⟨hw.1, hw.2, by omega, has_pq ht.len.1 ht.len.2 (by omega) (by omega), fun i hi off => ht.wk hi off, fun i hi off => ht.ls hi off, ht.cnt, fun k h1 h2 => ht.ord (by omega) h2, fun a h1 h2 h3 h4 => ht.no a h1 h2 h3 h4⟩
end Go.Proofs.Ytlndkfcnfhkbkaa
