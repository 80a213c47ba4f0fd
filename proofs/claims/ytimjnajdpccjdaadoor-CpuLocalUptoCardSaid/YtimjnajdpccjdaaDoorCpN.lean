/- A step hangs on the words that it may read alone. No condition beyond sizes. -/
import Derived.Test.YtimjnajdpccjdaaDoorCpK
namespace Go.Proofs.YtimjnajdpccjdaaDoor
set_option linter.unusedVariables false
set_option linter.unusedSimpArgs false
open Go.RowKit Sx
set_option maxRecDepth 100000
set_option maxHeartbeats 8000000
theorem has_set (t : Bool) (k : Int) (u w : Bool) (a b : Int) (xs ys : List Int) (ps qs : List (List Int)) : hasP t k (setP u a xs ps) (setP w b ys qs) = hasP t k ps qs := by
  unfold hasP; cases t <;> simp [setP_len]
theorem ok_set (t : Bool) (k o : Int) (u w : Bool) (a b : Int) (xs ys : List Int) (ps qs : List (List Int)) : okW t k o (setP u a xs ps) (setP w b ys qs) = okW t k o ps qs := by
  unfold okW; rw [has_set]
theorem rd_writeG {t t' : Bool} {k off k' off' v : Int} {ps qs : List (List Int)} (h : ¬ (t' = t ∧ k' = k ∧ off' = off)) :
    rdW t k off (setP (t' && okW t' k' off' ps qs) k' ((pgAt t' k' ps qs).set off'.toNat v) ps) (setP (!t' && okW t' k' off' ps qs) k' ((pgAt t' k' ps qs).set off'.toNat v) qs) = rdW t k off ps qs := by
  unfold rdW
  rw [ok_set]
  by_cases ho : okW t k off ps qs = true
  · rw [if_pos ho, if_pos ho]
    have key : ∀ (L : List (List Int)) (c : Bool), 0 ≤ k → 0 ≤ off → (c = true → 0 ≤ k' ∧ 0 ≤ off' ∧ ¬ (k' = k ∧ off' = off)) → ((setP c k' ((L.getD k'.toNat []).set off'.toNat v) L).getD k.toNat []).getD off.toNat 0 = (L.getD k.toNat []).getD off.toNat 0 := fun L c h1 h2 h3 => by
      unfold setP
      by_cases hc : c = true
      · rw [if_pos hc]
        obtain ⟨h4, h5, h6⟩ := h3 hc
        by_cases hk : k'.toNat = k.toNat
        · have hk' : k' = k := by omega
          subst hk'
          have hne : ¬ off' = off := fun e => h6 ⟨rfl, e⟩
          by_cases hl : k'.toNat < L.length
          · have e1 : (L.set k'.toNat ((L.getD k'.toNat []).set off'.toNat v)).getD k'.toNat [] = (L.getD k'.toNat []).set off'.toNat v := by
              rw [List.getD_eq_getElem?_getD, List.getElem?_set_self hl]; rfl
            rw [e1, List.getD_eq_getElem?_getD, List.getElem?_set_ne (by omega), ← List.getD_eq_getElem?_getD]
          · rw [List.set_eq_of_length_le (by omega)]
        · have e1 : (L.set k'.toNat ((L.getD k'.toNat []).set off'.toNat v)).getD k.toNat [] = L.getD k.toNat [] := by
            rw [List.getD_eq_getElem?_getD, List.getElem?_set_ne hk, ← List.getD_eq_getElem?_getD]
          rw [e1]
      · rw [if_neg hc]
    have hn : 0 ≤ k ∧ 0 ≤ off := by
      unfold okW hasP at ho
      simp only [Bool.and_eq_true, decide_eq_true_eq] at ho
      exact ⟨ho.1.1, ho.2.1⟩
    have hn' : okW t' k' off' ps qs = true → 0 ≤ k' ∧ 0 ≤ off' := fun ho => by
      unfold okW hasP at ho
      simp only [Bool.and_eq_true, decide_eq_true_eq] at ho
      exact ⟨ho.1.1, ho.2.1⟩
    cases t with
    | true =>
      show ((setP _ k' _ ps).getD k.toNat []).getD off.toNat 0 = (ps.getD k.toNat []).getD off.toNat 0
      cases t' with
      | true => exact key ps _ hn.1 hn.2 fun hc => ⟨(hn' (by simpa using hc)).1, (hn' (by simpa using hc)).2, fun e => h ⟨rfl, e⟩⟩
      | false => rw [Bool.false_and]; rfl
    | false =>
      show ((setP _ k' _ qs).getD k.toNat []).getD off.toNat 0 = (qs.getD k.toNat []).getD off.toNat 0
      cases t' with
      | true => rw [Bool.not_true, Bool.false_and]; rfl
      | false => exact key qs _ hn.1 hn.2 fun hc => ⟨(hn' (by simpa using hc)).1, (hn' (by simpa using hc)).2, fun e => h ⟨rfl, e⟩⟩
  · rw [if_neg ho, if_neg ho]
theorem rd_self {t : Bool} {k off v : Int} {ps qs : List (List Int)} (h1 : wfP ps) (h2 : wfP qs) :
    rdW t k off (setP (t && okW t k off ps qs) k ((pgAt t k ps qs).set off.toNat v) ps) (setP (!t && okW t k off ps qs) k ((pgAt t k ps qs).set off.toNat v) qs) = if okW t k off ps qs = true then v else 0 := by
  unfold rdW
  rw [ok_set]
  by_cases ho : okW t k off ps qs = true
  · rw [if_pos ho, if_pos ho, ho]
    have hh : hasP t k ps qs = true := by unfold okW at ho; simp only [Bool.and_eq_true] at ho; exact ho.1
    have hoff : 0 ≤ off ∧ off < 1024 := by unfold okW at ho; simp only [Bool.and_eq_true, decide_eq_true_eq] at ho; exact ho.2
    have hlen := (pgAt_wf h1 h2 hh).1
    have key : ∀ (L : List (List Int)), k.toNat < L.length → (L.getD k.toNat []).length = 1024 → ((L.set k.toNat ((L.getD k.toNat []).set off.toNat v)).getD k.toNat []).getD off.toNat 0 = v := fun L hl hL => by
      have e1 : (L.set k.toNat ((L.getD k.toNat []).set off.toNat v)).getD k.toNat [] = (L.getD k.toNat []).set off.toNat v := by
        rw [List.getD_eq_getElem?_getD, List.getElem?_set_self hl]; rfl
      rw [e1, List.getD_eq_getElem?_getD, List.getElem?_set_self (by omega)]; rfl
    unfold hasP at hh
    simp only [Bool.and_eq_true, decide_eq_true_eq] at hh
    cases t with
    | true => exact key ps (by have := hh.2; simp only [if_true] at this; omega) hlen
    | false => exact key qs (by have := hh.2; simp only [Bool.false_eq_true, if_false] at this; omega) hlen
  · rw [if_neg ho, if_neg ho]
theorem wk_away {ps qs ps' qs' : List (List Int)} {l va : Int} (hE : ∀ t k o, errW t k o ps' qs' = errW t k o ps qs) (hH : ∀ t k, hasP t k ps' qs' = hasP t k ps qs) (h1 : rdW true l (splitS va).1 ps' qs' = rdW true l (splitS va).1 ps qs)
    (h2 : tbE ps qs l (splitS va).1 = 0 → rdW true (tbP ps qs l (splitS va).1) (splitS va).2.1 ps' qs' = rdW true (tbP ps qs l (splitS va).1) (splitS va).2.1 ps qs) :
    wkE ps' qs' l va = wkE ps qs l va ∧ wkS ps' qs' l va = wkS ps qs l va ∧ wkF ps' qs' l va = wkF ps qs l va ∧ wkW ps' qs' l va = wkW ps qs l va ∧ wkX ps' qs' l va = wkX ps qs l va := by
  have e1 : tbE ps' qs' l (splitS va).1 = tbE ps qs l (splitS va).1 := by unfold tbE; rw [hE, h1, hH]
  have e2 : tbP ps' qs' l (splitS va).1 = tbP ps qs l (splitS va).1 := by unfold tbP; rw [e1, h1]
  by_cases hc : tbE ps qs l (splitS va).1 = 0
  · have h2 := h2 hc
    have e3 : plE ps' qs' (tbP ps qs l (splitS va).1) (splitS va).2.1 = plE ps qs (tbP ps qs l (splitS va).1) (splitS va).2.1 := by unfold plE; rw [hE, h2, hH]
    unfold wkE wkS wkF wkW wkX wkG plS plF plW plX
    rw [e1, e2, e3, h2]
    exact ⟨rfl, rfl, rfl, rfl, rfl⟩
  · unfold wkE wkS wkF wkW wkX wkG
    rw [e1]
    simp [hc]
theorem tb_pf {ps qs : List (List Int)} {l i : Int} (h : tbE ps qs l i = 0) : (pfS (rdW true l i ps qs)).2 = 0 ∧ tbP ps qs l i = (pfS (rdW true l i ps qs)).1 := by
  have h2 : tbP ps qs l i = (pfS (rdW true l i ps qs)).1 := by unfold tbP; rw [if_pos h]
  refine ⟨?_, h2⟩
  unfold tbE at h
  split at h
  · split at h
    · assumption
    · exact h
  · contradiction
section
variable {l1 : Int} {R : List Int} {pc : Int} {z n l : Bool} {ps qs : List (List Int)}
theorem sp_f1 (h : feE ps qs l1 pc ≠ 0) : spR ps qs l1 R pc z n l = R ∧ spC ps qs l1 R pc z n l = pc ∧ spZ ps qs l1 R pc z n l = z ∧ spN ps qs l1 R pc z n l = n ∧ spL ps qs l1 R pc z n l = l ∧ spP ps qs l1 R pc z n l = ps ∧ spQ ps qs l1 R pc z n l = qs ∧ spK ps qs l1 R pc z n l = 3 ∧ spA ps qs l1 R pc z n l = pc := by
  rw [spR_eq, spC_eq, spZ_eq, spN_eq, spL_eq, spP_eq, spQ_eq, spK_eq, spA_eq]
  simp only [h, ne_eq, not_false_eq_true, true_or, if_true, and_self]
theorem sp_f2 (h : feE ps qs l1 pc = 0) (hk : okWi (feW ps qs l1 pc) = false) : spR ps qs l1 R pc z n l = R ∧ spC ps qs l1 R pc z n l = pc ∧ spZ ps qs l1 R pc z n l = z ∧ spN ps qs l1 R pc z n l = n ∧ spL ps qs l1 R pc z n l = l ∧ spP ps qs l1 R pc z n l = ps ∧ spQ ps qs l1 R pc z n l = qs ∧ spK ps qs l1 R pc z n l = 2 ∧ spA ps qs l1 R pc z n l = (feW ps qs l1 pc) := by
  rw [spR_eq, spC_eq, spZ_eq, spN_eq, spL_eq, spP_eq, spQ_eq, spK_eq, spA_eq]
  simp only [h, hk, ne_eq, not_true_eq_false, true_or, or_true, if_true, if_false, and_self]
theorem sp_pq (h : feE ps qs l1 pc = 0) (hk : okWi (feW ps qs l1 pc) = true) : spP ps qs l1 R pc z n l = doP (zB (okWi (feW ps qs l1 pc)) ((feW ps qs l1 pc) / 67108864)) (zB (okWi (feW ps qs l1 pc)) (dK (feW ps qs l1 pc))) (zB (okWi (feW ps qs l1 pc)) (dA (feW ps qs l1 pc))) (zB (okWi (feW ps qs l1 pc)) (dB (feW ps qs l1 pc))) (zB (okWi (feW ps qs l1 pc)) (dC (feW ps qs l1 pc))) (zB (okWi (feW ps qs l1 pc)) (dI (feW ps qs l1 pc))) l1 R (IntKind.u32.wrap (pc + 4)) z n l ps qs ∧ spQ ps qs l1 R pc z n l = doQ (zB (okWi (feW ps qs l1 pc)) ((feW ps qs l1 pc) / 67108864)) (zB (okWi (feW ps qs l1 pc)) (dK (feW ps qs l1 pc))) (zB (okWi (feW ps qs l1 pc)) (dA (feW ps qs l1 pc))) (zB (okWi (feW ps qs l1 pc)) (dB (feW ps qs l1 pc))) (zB (okWi (feW ps qs l1 pc)) (dC (feW ps qs l1 pc))) (zB (okWi (feW ps qs l1 pc)) (dI (feW ps qs l1 pc))) l1 R (IntKind.u32.wrap (pc + 4)) z n l ps qs := by
  rw [spP_eq, spQ_eq]
  simp only [h, hk, ne_eq, not_true_eq_false, Bool.true_eq_false, or_self, if_false, and_self]
end
abbrev rcL_T (F0 : (List (List Int)) → (List (List Int)) → Int → (List Int) → Int → List Plc) : Prop := ∀ ps qs l1 R pc, F0 ps qs l1 R pc = if feE ps qs l1 pc ≠ 0 then tbR ps qs l1 pc else if (okWi (feW ps qs l1 pc) = false ∨ (zB (okWi (feW ps qs l1 pc)) ((feW ps qs l1 pc) / 67108864)) < 15 ∨ 18 < (zB (okWi (feW ps qs l1 pc)) ((feW ps qs l1 pc) / 67108864))) then tbR ps qs l1 pc ++ [(trS ps qs l1 pc 2, trF ps qs l1 pc 2, trO ps qs l1 pc 2)] else if ((zB (okWi (feW ps qs l1 pc)) ((feW ps qs l1 pc) / 67108864)) = 16 ∨ (zB (okWi (feW ps qs l1 pc)) ((feW ps qs l1 pc) / 67108864)) = 18) then (tbR ps qs l1 pc ++ [(trS ps qs l1 pc 2, trF ps qs l1 pc 2, trO ps qs l1 pc 2)]) ++ tbR ps qs l1 (vaC (zB (okWi (feW ps qs l1 pc)) ((feW ps qs l1 pc) / 67108864)) (zB (okWi (feW ps qs l1 pc)) (dB (feW ps qs l1 pc))) (zB (okWi (feW ps qs l1 pc)) (dC (feW ps qs l1 pc))) (zB (okWi (feW ps qs l1 pc)) (dI (feW ps qs l1 pc))) R) else if trE ps qs l1 (vaC (zB (okWi (feW ps qs l1 pc)) ((feW ps qs l1 pc) / 67108864)) (zB (okWi (feW ps qs l1 pc)) (dB (feW ps qs l1 pc))) (zB (okWi (feW ps qs l1 pc)) (dC (feW ps qs l1 pc))) (zB (okWi (feW ps qs l1 pc)) (dI (feW ps qs l1 pc))) R) 0 = 0 then ((tbR ps qs l1 pc ++ [(trS ps qs l1 pc 2, trF ps qs l1 pc 2, trO ps qs l1 pc 2)]) ++ tbR ps qs l1 (vaC (zB (okWi (feW ps qs l1 pc)) ((feW ps qs l1 pc) / 67108864)) (zB (okWi (feW ps qs l1 pc)) (dB (feW ps qs l1 pc))) (zB (okWi (feW ps qs l1 pc)) (dC (feW ps qs l1 pc))) (zB (okWi (feW ps qs l1 pc)) (dI (feW ps qs l1 pc))) R)) ++ [(trS ps qs l1 (vaC (zB (okWi (feW ps qs l1 pc)) ((feW ps qs l1 pc) / 67108864)) (zB (okWi (feW ps qs l1 pc)) (dB (feW ps qs l1 pc))) (zB (okWi (feW ps qs l1 pc)) (dC (feW ps qs l1 pc))) (zB (okWi (feW ps qs l1 pc)) (dI (feW ps qs l1 pc))) R) 0, trF ps qs l1 (vaC (zB (okWi (feW ps qs l1 pc)) ((feW ps qs l1 pc) / 67108864)) (zB (okWi (feW ps qs l1 pc)) (dB (feW ps qs l1 pc))) (zB (okWi (feW ps qs l1 pc)) (dC (feW ps qs l1 pc))) (zB (okWi (feW ps qs l1 pc)) (dI (feW ps qs l1 pc))) R) 0, trO ps qs l1 (vaC (zB (okWi (feW ps qs l1 pc)) ((feW ps qs l1 pc) / 67108864)) (zB (okWi (feW ps qs l1 pc)) (dB (feW ps qs l1 pc))) (zB (okWi (feW ps qs l1 pc)) (dC (feW ps qs l1 pc))) (zB (okWi (feW ps qs l1 pc)) (dI (feW ps qs l1 pc))) R) 0)] else (tbR ps qs l1 pc ++ [(trS ps qs l1 pc 2, trF ps qs l1 pc 2, trO ps qs l1 pc 2)]) ++ tbR ps qs l1 (vaC (zB (okWi (feW ps qs l1 pc)) ((feW ps qs l1 pc) / 67108864)) (zB (okWi (feW ps qs l1 pc)) (dB (feW ps qs l1 pc))) (zB (okWi (feW ps qs l1 pc)) (dC (feW ps qs l1 pc))) (zB (okWi (feW ps qs l1 pc)) (dI (feW ps qs l1 pc))) R)
theorem rcL_ex : ∃ F0, rcL_T F0 := ⟨_, fun _ _ _ _ _ => rfl⟩
noncomputable def rcL : (List (List Int)) → (List (List Int)) → Int → (List Int) → Int → List Plc := Classical.choose rcL_ex
theorem rcL_eq : rcL_T rcL := Classical.choose_spec rcL_ex
abbrev rcB_T (F0 : (List (List Int)) → (List (List Int)) → Int → (List Int) → Int → Bool) : Prop := ∀ ps qs l1 R pc, F0 ps qs l1 R pc = (decide (feE ps qs l1 pc = 0 ∧ ¬ (okWi (feW ps qs l1 pc) = false ∨ (zB (okWi (feW ps qs l1 pc)) ((feW ps qs l1 pc) / 67108864)) < 15 ∨ 18 < (zB (okWi (feW ps qs l1 pc)) ((feW ps qs l1 pc) / 67108864))) ∧ ((zB (okWi (feW ps qs l1 pc)) ((feW ps qs l1 pc) / 67108864)) = 16 ∨ (zB (okWi (feW ps qs l1 pc)) ((feW ps qs l1 pc) / 67108864)) = 18)) && decide (trE ps qs l1 (vaC (zB (okWi (feW ps qs l1 pc)) ((feW ps qs l1 pc) / 67108864)) (zB (okWi (feW ps qs l1 pc)) (dB (feW ps qs l1 pc))) (zB (okWi (feW ps qs l1 pc)) (dC (feW ps qs l1 pc))) (zB (okWi (feW ps qs l1 pc)) (dI (feW ps qs l1 pc))) R) 1 = 0))
theorem rcB_ex : ∃ F0, rcB_T F0 := ⟨_, fun _ _ _ _ _ => rfl⟩
noncomputable def rcB : (List (List Int)) → (List (List Int)) → Int → (List Int) → Int → Bool := Classical.choose rcB_ex
theorem rcB_eq : rcB_T rcB := Classical.choose_spec rcB_ex
abbrev rcS_T (F0 : (List (List Int)) → (List (List Int)) → Int → (List Int) → Int → Bool) : Prop := ∀ ps qs l1 R pc, F0 ps qs l1 R pc = if (feE ps qs l1 pc = 0 ∧ ¬ (okWi (feW ps qs l1 pc) = false ∨ (zB (okWi (feW ps qs l1 pc)) ((feW ps qs l1 pc) / 67108864)) < 15 ∨ 18 < (zB (okWi (feW ps qs l1 pc)) ((feW ps qs l1 pc) / 67108864))) ∧ ((zB (okWi (feW ps qs l1 pc)) ((feW ps qs l1 pc) / 67108864)) = 16 ∨ (zB (okWi (feW ps qs l1 pc)) ((feW ps qs l1 pc) / 67108864)) = 18)) then trS ps qs l1 (vaC (zB (okWi (feW ps qs l1 pc)) ((feW ps qs l1 pc) / 67108864)) (zB (okWi (feW ps qs l1 pc)) (dB (feW ps qs l1 pc))) (zB (okWi (feW ps qs l1 pc)) (dC (feW ps qs l1 pc))) (zB (okWi (feW ps qs l1 pc)) (dI (feW ps qs l1 pc))) R) 1 else false
theorem rcS_ex : ∃ F0, rcS_T F0 := ⟨_, fun _ _ _ _ _ => rfl⟩
noncomputable def rcS : (List (List Int)) → (List (List Int)) → Int → (List Int) → Int → Bool := Classical.choose rcS_ex
theorem rcS_eq : rcS_T rcS := Classical.choose_spec rcS_ex
abbrev rcP_T (F0 : (List (List Int)) → (List (List Int)) → Int → (List Int) → Int → Int) : Prop := ∀ ps qs l1 R pc, F0 ps qs l1 R pc = if (feE ps qs l1 pc = 0 ∧ ¬ (okWi (feW ps qs l1 pc) = false ∨ (zB (okWi (feW ps qs l1 pc)) ((feW ps qs l1 pc) / 67108864)) < 15 ∨ 18 < (zB (okWi (feW ps qs l1 pc)) ((feW ps qs l1 pc) / 67108864))) ∧ ((zB (okWi (feW ps qs l1 pc)) ((feW ps qs l1 pc) / 67108864)) = 16 ∨ (zB (okWi (feW ps qs l1 pc)) ((feW ps qs l1 pc) / 67108864)) = 18)) then trF ps qs l1 (vaC (zB (okWi (feW ps qs l1 pc)) ((feW ps qs l1 pc) / 67108864)) (zB (okWi (feW ps qs l1 pc)) (dB (feW ps qs l1 pc))) (zB (okWi (feW ps qs l1 pc)) (dC (feW ps qs l1 pc))) (zB (okWi (feW ps qs l1 pc)) (dI (feW ps qs l1 pc))) R) 1 else 0
theorem rcP_ex : ∃ F0, rcP_T F0 := ⟨_, fun _ _ _ _ _ => rfl⟩
noncomputable def rcP : (List (List Int)) → (List (List Int)) → Int → (List Int) → Int → Int := Classical.choose rcP_ex
theorem rcP_eq : rcP_T rcP := Classical.choose_spec rcP_ex
abbrev rcO_T (F0 : (List (List Int)) → (List (List Int)) → Int → (List Int) → Int → Int) : Prop := ∀ ps qs l1 R pc, F0 ps qs l1 R pc = if (feE ps qs l1 pc = 0 ∧ ¬ (okWi (feW ps qs l1 pc) = false ∨ (zB (okWi (feW ps qs l1 pc)) ((feW ps qs l1 pc) / 67108864)) < 15 ∨ 18 < (zB (okWi (feW ps qs l1 pc)) ((feW ps qs l1 pc) / 67108864))) ∧ ((zB (okWi (feW ps qs l1 pc)) ((feW ps qs l1 pc) / 67108864)) = 16 ∨ (zB (okWi (feW ps qs l1 pc)) ((feW ps qs l1 pc) / 67108864)) = 18)) then trO ps qs l1 (vaC (zB (okWi (feW ps qs l1 pc)) ((feW ps qs l1 pc) / 67108864)) (zB (okWi (feW ps qs l1 pc)) (dB (feW ps qs l1 pc))) (zB (okWi (feW ps qs l1 pc)) (dC (feW ps qs l1 pc))) (zB (okWi (feW ps qs l1 pc)) (dI (feW ps qs l1 pc))) R) 1 else 0
theorem rcO_ex : ∃ F0, rcO_T F0 := ⟨_, fun _ _ _ _ _ => rfl⟩
noncomputable def rcO : (List (List Int)) → (List (List Int)) → Int → (List Int) → Int → Int := Classical.choose rcO_ex
theorem rcO_eq : rcO_T rcO := Classical.choose_spec rcO_ex
section
variable {l1 : Int} {R : List Int} {pc : Int} {z n l : Bool} {ps qs ps' qs' : List (List Int)} {m m' : Int}
theorem rcL_pc {p : Plc} (h : p ∈ tbR ps qs l1 pc) : p ∈ rcL ps qs l1 R pc := by
  rw [rcL_eq]
  repeat' split
  all_goals (try simp only [List.mem_append])
  all_goals first | exact h | exact .inl h | exact .inl (.inl h) | exact .inl (.inl (.inl h))
theorem rcL_fp (h : feE ps qs l1 pc = 0) : (trS ps qs l1 pc 2, trF ps qs l1 pc 2, trO ps qs l1 pc 2) ∈ rcL ps qs l1 R pc := by
  rw [rcL_eq, if_neg (by simp [h])]
  repeat' split
  all_goals simp
theorem rcL_va {p : Plc} (h : feE ps qs l1 pc = 0) (hn : ¬ (okWi (feW ps qs l1 pc) = false ∨ (zB (okWi (feW ps qs l1 pc)) ((feW ps qs l1 pc) / 67108864)) < 15 ∨ 18 < (zB (okWi (feW ps qs l1 pc)) ((feW ps qs l1 pc) / 67108864)))) (hp : p ∈ tbR ps qs l1 (vaC (zB (okWi (feW ps qs l1 pc)) ((feW ps qs l1 pc) / 67108864)) (zB (okWi (feW ps qs l1 pc)) (dB (feW ps qs l1 pc))) (zB (okWi (feW ps qs l1 pc)) (dC (feW ps qs l1 pc))) (zB (okWi (feW ps qs l1 pc)) (dI (feW ps qs l1 pc))) R)) : p ∈ rcL ps qs l1 R pc := by
  rw [rcL_eq, if_neg (by simp [h]), if_neg hn]
  repeat' split
  all_goals simp only [List.mem_append]
  all_goals first | exact .inr hp | exact .inl (.inr hp)
theorem rcL_lp (h : feE ps qs l1 pc = 0) (hn : ¬ (okWi (feW ps qs l1 pc) = false ∨ (zB (okWi (feW ps qs l1 pc)) ((feW ps qs l1 pc) / 67108864)) < 15 ∨ 18 < (zB (okWi (feW ps qs l1 pc)) ((feW ps qs l1 pc) / 67108864)))) (hs : ¬ ((zB (okWi (feW ps qs l1 pc)) ((feW ps qs l1 pc) / 67108864)) = 16 ∨ (zB (okWi (feW ps qs l1 pc)) ((feW ps qs l1 pc) / 67108864)) = 18)) (ht : trE ps qs l1 (vaC (zB (okWi (feW ps qs l1 pc)) ((feW ps qs l1 pc) / 67108864)) (zB (okWi (feW ps qs l1 pc)) (dB (feW ps qs l1 pc))) (zB (okWi (feW ps qs l1 pc)) (dC (feW ps qs l1 pc))) (zB (okWi (feW ps qs l1 pc)) (dI (feW ps qs l1 pc))) R) 0 = 0) : (trS ps qs l1 (vaC (zB (okWi (feW ps qs l1 pc)) ((feW ps qs l1 pc) / 67108864)) (zB (okWi (feW ps qs l1 pc)) (dB (feW ps qs l1 pc))) (zB (okWi (feW ps qs l1 pc)) (dC (feW ps qs l1 pc))) (zB (okWi (feW ps qs l1 pc)) (dI (feW ps qs l1 pc))) R) 0, trF ps qs l1 (vaC (zB (okWi (feW ps qs l1 pc)) ((feW ps qs l1 pc) / 67108864)) (zB (okWi (feW ps qs l1 pc)) (dB (feW ps qs l1 pc))) (zB (okWi (feW ps qs l1 pc)) (dC (feW ps qs l1 pc))) (zB (okWi (feW ps qs l1 pc)) (dI (feW ps qs l1 pc))) R) 0, trO ps qs l1 (vaC (zB (okWi (feW ps qs l1 pc)) ((feW ps qs l1 pc) / 67108864)) (zB (okWi (feW ps qs l1 pc)) (dB (feW ps qs l1 pc))) (zB (okWi (feW ps qs l1 pc)) (dC (feW ps qs l1 pc))) (zB (okWi (feW ps qs l1 pc)) (dI (feW ps qs l1 pc))) R) 0) ∈ rcL ps qs l1 R pc := by
  rw [rcL_eq, if_neg (by simp [h]), if_neg hn, if_neg hs, if_pos ht]
  simp
structure SZ (ps qs ps' qs' : List (List Int)) : Prop where
  has : ∀ t k, hasP t k ps' qs' = hasP t k ps qs
theorem SZ.err (h : SZ ps qs ps' qs') (t : Bool) (k o : Int) : errW t k o ps' qs' = errW t k o ps qs := by unfold errW; rw [h.has]
theorem SZ.ok (h : SZ ps qs ps' qs') (t : Bool) (k o : Int) : okW t k o ps' qs' = okW t k o ps qs := by unfold okW; rw [h.has]
structure AG (ps qs ps' qs' : List (List Int)) (L : List Plc) : Prop where
  out : ∀ p ∈ L, rdW p.1 p.2.1 p.2.2 ps' qs' = rdW p.1 p.2.1 p.2.2 ps qs
theorem wk_same {va : Int} (hz : SZ ps qs ps' qs') (ha : AG ps qs ps' qs' (tbR ps qs l1 va)) :
    (wkE ps' qs' l1 va = wkE ps qs l1 va ∧ wkS ps' qs' l1 va = wkS ps qs l1 va ∧ wkF ps' qs' l1 va = wkF ps qs l1 va ∧ wkW ps' qs' l1 va = wkW ps qs l1 va ∧ wkX ps' qs' l1 va = wkX ps qs l1 va) ∧ wkL ps' qs' l1 va = wkL ps qs l1 va := by
  have ha := ha.out
  rw [tbR_eq] at ha
  by_cases hs : (splitS va).2.2.2 = 0
  · rw [if_neg (by simp [hs])] at ha
    have h1 : rdW true l1 (splitS va).1 ps' qs' = rdW true l1 (splitS va).1 ps qs := by
      refine ha (true, l1, (splitS va).1) ?_
      split <;> simp
    have h2 : tbE ps qs l1 (splitS va).1 = 0 → rdW true (tbP ps qs l1 (splitS va).1) (splitS va).2.1 ps' qs' = rdW true (tbP ps qs l1 (splitS va).1) (splitS va).2.1 ps qs := fun h => by
      obtain ⟨e1, e2⟩ := tb_pf h
      rw [e2]
      refine ha (true, (pfS (rdW true l1 (splitS va).1 ps qs)).1, (splitS va).2.1) ?_
      rw [if_neg (by simp [e1])]
      simp
    refine ⟨wk_away hz.err hz.has h1 h2, ?_⟩
    have e1 : tbE ps' qs' l1 (splitS va).1 = tbE ps qs l1 (splitS va).1 := by unfold tbE; rw [hz.err, h1, hz.has]
    unfold wkL tbL
    rw [e1, hz.err, hz.err]
    by_cases hc : tbE ps qs l1 (splitS va).1 = 0
    · have e2 : tbP ps' qs' l1 (splitS va).1 = tbP ps qs l1 (splitS va).1 := by unfold tbP; rw [e1, h1]
      rw [e2]
    · simp [hc]
  · unfold wkE wkS wkF wkW wkX wkL wkG
    simp [hs]
theorem tr_same {va : Int} (hz : SZ ps qs ps' qs') (ha : AG ps qs ps' qs' (tbR ps qs l1 va)) (a : Int) :
    trE ps' qs' l1 va a = trE ps qs l1 va a ∧ trS ps' qs' l1 va a = trS ps qs l1 va a ∧ trF ps' qs' l1 va a = trF ps qs l1 va a ∧ trO ps' qs' l1 va a = trO ps qs l1 va a := by
  obtain ⟨⟨a1, a2, a3, a4, a5⟩, _⟩ := wk_same hz ha
  have t1 : trE ps' qs' l1 va a = trE ps qs l1 va a := by unfold trE; rw [a1, a4, a5]
  refine ⟨t1, ?_, ?_, ?_⟩
  · unfold trS; rw [t1, a2]
  · unfold trF; rw [t1, a3]
  · unfold trO; rw [t1]
theorem fe_same (hz : SZ ps qs ps' qs') (ha : AG ps qs ps' qs' (rcL ps qs l1 R pc)) : feE ps' qs' l1 pc = feE ps qs l1 pc ∧ (feE ps qs l1 pc = 0 → feW ps' qs' l1 pc = feW ps qs l1 pc) ∧ wkL ps' qs' l1 pc = wkL ps qs l1 pc ∧ feM ps' qs' l1 pc m' - m' = feM ps qs l1 pc m - m := by
  have hA : AG ps qs ps' qs' (tbR ps qs l1 pc) := ⟨fun p hp => ha.out p (rcL_pc hp)⟩
  obtain ⟨t1, t2, t3, t4⟩ := tr_same hz hA 2
  have hL := (wk_same hz hA).2
  refine ⟨by rw [feE_eq, feE_eq, t1], fun h => ?_, hL, ?_⟩
  · rw [feW_eq, feW_eq, t2, t3, t4]
    exact ha.out _ (rcL_fp h)
  · rw [feM_eq, feM_eq, t2, t3, t4, hz.ok, hL]
    split <;> omega
theorem tc_same {op A B C imm : Int} (hz : SZ ps qs ps' qs') (ha : AG ps qs ps' qs' (tbR ps qs l1 (vaC op B C imm R))) (hl : ¬ acC op = 1 → trE ps qs l1 (vaC op B C imm R) (acC op) = 0 → rdW (trS ps qs l1 (vaC op B C imm R) (acC op)) (trF ps qs l1 (vaC op B C imm R) (acC op)) (trO ps qs l1 (vaC op B C imm R) (acC op)) ps' qs' = rdW (trS ps qs l1 (vaC op B C imm R) (acC op)) (trF ps qs l1 (vaC op B C imm R) (acC op)) (trO ps qs l1 (vaC op B C imm R) (acC op)) ps qs) :
    tcK ps' qs' l1 op A B C imm R = tcK ps qs l1 op A B C imm R ∧ tcA ps' qs' l1 op A B C imm R = tcA ps qs l1 op A B C imm R ∧ tcR ps' qs' l1 op A B C imm R = tcR ps qs l1 op A B C imm R ∧ tcM ps' qs' l1 op A B C imm R m' - m' = tcM ps qs l1 op A B C imm R m - m := by
  obtain ⟨t1, t2, t3, t4⟩ := tr_same hz ha (acC op)
  have hL := (wk_same hz ha).2
  have e : tcE ps' qs' l1 op A B C imm R = tcE ps qs l1 op A B C imm R := by rw [tcE_eq, tcE_eq, t1]
  have e' := tcE_eq ps qs l1 op A B C imm R
  refine ⟨by rw [tcK_eq, tcK_eq, e], by rw [tcA_eq, tcA_eq, e], ?_, ?_⟩
  · rw [tcR_eq, tcR_eq, e, t2, t3, t4]
    split
    · rename_i h
      rw [hl h.2 (by rw [← e']; exact h.1)]
    · rfl
  · rw [tcM_eq, tcM_eq, e, t2, t3, t4, hz.ok, hL]
    repeat' split
    all_goals omega
theorem sp_same2 (hz : SZ ps qs ps' qs') (ha : AG ps qs ps' qs' (rcL ps qs l1 R pc)) :
    (spR ps' qs' l1 R pc z n l = spR ps qs l1 R pc z n l ∧ spC ps' qs' l1 R pc z n l = spC ps qs l1 R pc z n l ∧ spZ ps' qs' l1 R pc z n l = spZ ps qs l1 R pc z n l ∧ spN ps' qs' l1 R pc z n l = spN ps qs l1 R pc z n l ∧ spL ps' qs' l1 R pc z n l = spL ps qs l1 R pc z n l ∧ spK ps' qs' l1 R pc z n l = spK ps qs l1 R pc z n l ∧ spA ps' qs' l1 R pc z n l = spA ps qs l1 R pc z n l) ∧ spM ps' qs' l1 R pc z n l m' - m' = spM ps qs l1 R pc z n l m - m := by
  obtain ⟨f1, f2, f3, f4⟩ := fe_same (m := m) (m' := m') hz ha
  rw [spR_eq, spR_eq, spC_eq, spC_eq, spZ_eq, spZ_eq, spN_eq, spN_eq, spL_eq, spL_eq, spK_eq, spK_eq, spA_eq, spA_eq, spM_eq, spM_eq, f1]
  by_cases h : feE ps qs l1 pc = 0
  · rw [f2 h]
    by_cases hk : okWi (feW ps qs l1 pc) = true
    · have hD : (doK (zB (okWi (feW ps qs l1 pc)) ((feW ps qs l1 pc) / 67108864)) (zB (okWi (feW ps qs l1 pc)) (dK (feW ps qs l1 pc))) (zB (okWi (feW ps qs l1 pc)) (dA (feW ps qs l1 pc))) (zB (okWi (feW ps qs l1 pc)) (dB (feW ps qs l1 pc))) (zB (okWi (feW ps qs l1 pc)) (dC (feW ps qs l1 pc))) (zB (okWi (feW ps qs l1 pc)) (dI (feW ps qs l1 pc))) l1 R (IntKind.u32.wrap (pc + 4)) z n l ps' qs' = doK (zB (okWi (feW ps qs l1 pc)) ((feW ps qs l1 pc) / 67108864)) (zB (okWi (feW ps qs l1 pc)) (dK (feW ps qs l1 pc))) (zB (okWi (feW ps qs l1 pc)) (dA (feW ps qs l1 pc))) (zB (okWi (feW ps qs l1 pc)) (dB (feW ps qs l1 pc))) (zB (okWi (feW ps qs l1 pc)) (dC (feW ps qs l1 pc))) (zB (okWi (feW ps qs l1 pc)) (dI (feW ps qs l1 pc))) l1 R (IntKind.u32.wrap (pc + 4)) z n l ps qs ∧ doA (zB (okWi (feW ps qs l1 pc)) ((feW ps qs l1 pc) / 67108864)) (zB (okWi (feW ps qs l1 pc)) (dK (feW ps qs l1 pc))) (zB (okWi (feW ps qs l1 pc)) (dA (feW ps qs l1 pc))) (zB (okWi (feW ps qs l1 pc)) (dB (feW ps qs l1 pc))) (zB (okWi (feW ps qs l1 pc)) (dC (feW ps qs l1 pc))) (zB (okWi (feW ps qs l1 pc)) (dI (feW ps qs l1 pc))) l1 R (IntKind.u32.wrap (pc + 4)) z n l ps' qs' = doA (zB (okWi (feW ps qs l1 pc)) ((feW ps qs l1 pc) / 67108864)) (zB (okWi (feW ps qs l1 pc)) (dK (feW ps qs l1 pc))) (zB (okWi (feW ps qs l1 pc)) (dA (feW ps qs l1 pc))) (zB (okWi (feW ps qs l1 pc)) (dB (feW ps qs l1 pc))) (zB (okWi (feW ps qs l1 pc)) (dC (feW ps qs l1 pc))) (zB (okWi (feW ps qs l1 pc)) (dI (feW ps qs l1 pc))) l1 R (IntKind.u32.wrap (pc + 4)) z n l ps qs ∧ doR (zB (okWi (feW ps qs l1 pc)) ((feW ps qs l1 pc) / 67108864)) (zB (okWi (feW ps qs l1 pc)) (dK (feW ps qs l1 pc))) (zB (okWi (feW ps qs l1 pc)) (dA (feW ps qs l1 pc))) (zB (okWi (feW ps qs l1 pc)) (dB (feW ps qs l1 pc))) (zB (okWi (feW ps qs l1 pc)) (dC (feW ps qs l1 pc))) (zB (okWi (feW ps qs l1 pc)) (dI (feW ps qs l1 pc))) l1 R (IntKind.u32.wrap (pc + 4)) z n l ps' qs' = doR (zB (okWi (feW ps qs l1 pc)) ((feW ps qs l1 pc) / 67108864)) (zB (okWi (feW ps qs l1 pc)) (dK (feW ps qs l1 pc))) (zB (okWi (feW ps qs l1 pc)) (dA (feW ps qs l1 pc))) (zB (okWi (feW ps qs l1 pc)) (dB (feW ps qs l1 pc))) (zB (okWi (feW ps qs l1 pc)) (dC (feW ps qs l1 pc))) (zB (okWi (feW ps qs l1 pc)) (dI (feW ps qs l1 pc))) l1 R (IntKind.u32.wrap (pc + 4)) z n l ps qs ∧ doC (zB (okWi (feW ps qs l1 pc)) ((feW ps qs l1 pc) / 67108864)) (zB (okWi (feW ps qs l1 pc)) (dK (feW ps qs l1 pc))) (zB (okWi (feW ps qs l1 pc)) (dA (feW ps qs l1 pc))) (zB (okWi (feW ps qs l1 pc)) (dB (feW ps qs l1 pc))) (zB (okWi (feW ps qs l1 pc)) (dC (feW ps qs l1 pc))) (zB (okWi (feW ps qs l1 pc)) (dI (feW ps qs l1 pc))) l1 R (IntKind.u32.wrap (pc + 4)) z n l ps' qs' = doC (zB (okWi (feW ps qs l1 pc)) ((feW ps qs l1 pc) / 67108864)) (zB (okWi (feW ps qs l1 pc)) (dK (feW ps qs l1 pc))) (zB (okWi (feW ps qs l1 pc)) (dA (feW ps qs l1 pc))) (zB (okWi (feW ps qs l1 pc)) (dB (feW ps qs l1 pc))) (zB (okWi (feW ps qs l1 pc)) (dC (feW ps qs l1 pc))) (zB (okWi (feW ps qs l1 pc)) (dI (feW ps qs l1 pc))) l1 R (IntKind.u32.wrap (pc + 4)) z n l ps qs ∧ doZ (zB (okWi (feW ps qs l1 pc)) ((feW ps qs l1 pc) / 67108864)) (zB (okWi (feW ps qs l1 pc)) (dK (feW ps qs l1 pc))) (zB (okWi (feW ps qs l1 pc)) (dA (feW ps qs l1 pc))) (zB (okWi (feW ps qs l1 pc)) (dB (feW ps qs l1 pc))) (zB (okWi (feW ps qs l1 pc)) (dC (feW ps qs l1 pc))) (zB (okWi (feW ps qs l1 pc)) (dI (feW ps qs l1 pc))) l1 R (IntKind.u32.wrap (pc + 4)) z n l ps' qs' = doZ (zB (okWi (feW ps qs l1 pc)) ((feW ps qs l1 pc) / 67108864)) (zB (okWi (feW ps qs l1 pc)) (dK (feW ps qs l1 pc))) (zB (okWi (feW ps qs l1 pc)) (dA (feW ps qs l1 pc))) (zB (okWi (feW ps qs l1 pc)) (dB (feW ps qs l1 pc))) (zB (okWi (feW ps qs l1 pc)) (dC (feW ps qs l1 pc))) (zB (okWi (feW ps qs l1 pc)) (dI (feW ps qs l1 pc))) l1 R (IntKind.u32.wrap (pc + 4)) z n l ps qs ∧ doN (zB (okWi (feW ps qs l1 pc)) ((feW ps qs l1 pc) / 67108864)) (zB (okWi (feW ps qs l1 pc)) (dK (feW ps qs l1 pc))) (zB (okWi (feW ps qs l1 pc)) (dA (feW ps qs l1 pc))) (zB (okWi (feW ps qs l1 pc)) (dB (feW ps qs l1 pc))) (zB (okWi (feW ps qs l1 pc)) (dC (feW ps qs l1 pc))) (zB (okWi (feW ps qs l1 pc)) (dI (feW ps qs l1 pc))) l1 R (IntKind.u32.wrap (pc + 4)) z n l ps' qs' = doN (zB (okWi (feW ps qs l1 pc)) ((feW ps qs l1 pc) / 67108864)) (zB (okWi (feW ps qs l1 pc)) (dK (feW ps qs l1 pc))) (zB (okWi (feW ps qs l1 pc)) (dA (feW ps qs l1 pc))) (zB (okWi (feW ps qs l1 pc)) (dB (feW ps qs l1 pc))) (zB (okWi (feW ps qs l1 pc)) (dC (feW ps qs l1 pc))) (zB (okWi (feW ps qs l1 pc)) (dI (feW ps qs l1 pc))) l1 R (IntKind.u32.wrap (pc + 4)) z n l ps qs ∧ doL (zB (okWi (feW ps qs l1 pc)) ((feW ps qs l1 pc) / 67108864)) (zB (okWi (feW ps qs l1 pc)) (dK (feW ps qs l1 pc))) (zB (okWi (feW ps qs l1 pc)) (dA (feW ps qs l1 pc))) (zB (okWi (feW ps qs l1 pc)) (dB (feW ps qs l1 pc))) (zB (okWi (feW ps qs l1 pc)) (dC (feW ps qs l1 pc))) (zB (okWi (feW ps qs l1 pc)) (dI (feW ps qs l1 pc))) l1 R (IntKind.u32.wrap (pc + 4)) z n l ps' qs' = doL (zB (okWi (feW ps qs l1 pc)) ((feW ps qs l1 pc) / 67108864)) (zB (okWi (feW ps qs l1 pc)) (dK (feW ps qs l1 pc))) (zB (okWi (feW ps qs l1 pc)) (dA (feW ps qs l1 pc))) (zB (okWi (feW ps qs l1 pc)) (dB (feW ps qs l1 pc))) (zB (okWi (feW ps qs l1 pc)) (dC (feW ps qs l1 pc))) (zB (okWi (feW ps qs l1 pc)) (dI (feW ps qs l1 pc))) l1 R (IntKind.u32.wrap (pc + 4)) z n l ps qs) ∧ ∀ x x', doM (zB (okWi (feW ps qs l1 pc)) ((feW ps qs l1 pc) / 67108864)) (zB (okWi (feW ps qs l1 pc)) (dK (feW ps qs l1 pc))) (zB (okWi (feW ps qs l1 pc)) (dA (feW ps qs l1 pc))) (zB (okWi (feW ps qs l1 pc)) (dB (feW ps qs l1 pc))) (zB (okWi (feW ps qs l1 pc)) (dC (feW ps qs l1 pc))) (zB (okWi (feW ps qs l1 pc)) (dI (feW ps qs l1 pc))) l1 R (IntKind.u32.wrap (pc + 4)) z n l ps' qs' x' - x' = doM (zB (okWi (feW ps qs l1 pc)) ((feW ps qs l1 pc) / 67108864)) (zB (okWi (feW ps qs l1 pc)) (dK (feW ps qs l1 pc))) (zB (okWi (feW ps qs l1 pc)) (dA (feW ps qs l1 pc))) (zB (okWi (feW ps qs l1 pc)) (dB (feW ps qs l1 pc))) (zB (okWi (feW ps qs l1 pc)) (dC (feW ps qs l1 pc))) (zB (okWi (feW ps qs l1 pc)) (dI (feW ps qs l1 pc))) l1 R (IntKind.u32.wrap (pc + 4)) z n l ps qs x - x := by
        generalize hop : (zB (okWi (feW ps qs l1 pc)) ((feW ps qs l1 pc) / 67108864)) = op at *
        generalize hB : (zB (okWi (feW ps qs l1 pc)) (dB (feW ps qs l1 pc))) = B at *
        generalize hC : (zB (okWi (feW ps qs l1 pc)) (dC (feW ps qs l1 pc))) = C at *
        generalize hI : (zB (okWi (feW ps qs l1 pc)) (dI (feW ps qs l1 pc))) = imm at *
        rw [doK_eq, doK_eq, doA_eq, doA_eq, doR_eq, doR_eq, doC_eq, doC_eq, doZ_eq, doZ_eq, doN_eq, doN_eq, doL_eq, doL_eq]
        by_cases ht : 15 ≤ op ∧ op ≤ 18
        · have hn : ¬ (okWi (feW ps qs l1 pc) = false ∨ op < 15 ∨ 18 < op) := fun q => by
            rcases q with q | q
            · rw [hk] at q; cases q
            · omega
          have hV : AG ps qs ps' qs' (tbR ps qs l1 (vaC op B C imm R)) := ⟨fun p hp => ha.out p (rcL_va h (by rw [hop]; exact hn) (by rw [hop, hB, hC, hI]; exact hp))⟩
          have hl : ¬ acC op = 1 → trE ps qs l1 (vaC op B C imm R) (acC op) = 0 → rdW (trS ps qs l1 (vaC op B C imm R) (acC op)) (trF ps qs l1 (vaC op B C imm R) (acC op)) (trO ps qs l1 (vaC op B C imm R) (acC op)) ps' qs' = rdW (trS ps qs l1 (vaC op B C imm R) (acC op)) (trF ps qs l1 (vaC op B C imm R) (acC op)) (trO ps qs l1 (vaC op B C imm R) (acC op)) ps qs := fun h1 h2 => by
            have hne : ¬ (op = 16 ∨ op = 18) := fun q => h1 (by rw [acC_eq, if_pos q])
            have h0 : acC op = 0 := by rw [acC_eq, if_neg hne]
            rw [h0] at h2 ⊢
            have := ha.out _ (rcL_lp (R := R) h (by rw [hop]; exact hn) (by rw [hop]; exact hne) (by rw [hop, hB, hC, hI]; exact h2))
            rw [hop, hB, hC, hI] at this
            exact this
          refine ⟨?_, fun x x' => ?_⟩
          · obtain ⟨c1, c2, c3, _⟩ := tc_same (A := (zB (okWi (feW ps qs l1 pc)) (dA (feW ps qs l1 pc)))) (m := m) (m' := m) hz hV hl
            rw [c1, c2, c3]
            exact ⟨rfl, rfl, rfl, rfl, rfl, rfl, rfl⟩
          · obtain ⟨_, _, _, c4⟩ := tc_same (A := (zB (okWi (feW ps qs l1 pc)) (dA (feW ps qs l1 pc)))) (m := x) (m' := x') hz hV hl
            rw [doM_eq, doM_eq, if_pos ht, if_pos ht]
            exact c4
        · refine ⟨?_, fun x x' => ?_⟩
          · rw [if_neg ht, if_neg ht, if_neg ht, if_neg ht]
            refine ⟨rfl, rfl, ?_, rfl, rfl, rfl, rfl⟩
            repeat' split
            all_goals first | rfl | (exfalso; omega)
          · rw [doM_eq, doM_eq, if_neg ht, if_neg ht]
            omega
      obtain ⟨⟨d1, d2, d3, d4, d5, d6, d7⟩, d8⟩ := hD
      rw [d1, d2, d3, d4, d5, d6, d7]
      refine ⟨⟨rfl, rfl, rfl, rfl, rfl, rfl, rfl⟩, ?_⟩
      rw [if_neg (by simp [h]), if_neg (by simp [hk]), if_neg (by simp [h]), if_neg (by simp [hk])]
      have := d8 (feM ps qs l1 pc m) (feM ps' qs' l1 pc m')
      omega
    · have hk : okWi (feW ps qs l1 pc) = false := by simpa using hk
      rw [if_pos (.inr (.inl hk)), if_pos (.inr (.inl hk)), if_pos (.inr (.inl hk)), if_pos (.inr (.inl hk)), if_pos (.inr (.inl hk)), if_pos (.inr (.inl hk)), if_pos (.inr (.inl hk)), if_pos (.inr (.inl hk)), if_pos (.inr (.inl hk)), if_pos (.inr (.inl hk))]
      simp only [h, hk, ne_eq, not_true_eq_false, if_false, if_true, and_self, true_and]
      exact f4
  · simp only [h, ne_eq, not_false_eq_true, if_true, true_or, and_self, true_and]
    omega
theorem sp_pages (h1 : wfP ps) (h2 : wfP qs) : ∃ v : Int,
    (rcB ps qs l1 R pc = true → spP ps qs l1 R pc z n l = setP ((rcS ps qs l1 R pc) && okW (rcS ps qs l1 R pc) (rcP ps qs l1 R pc) (rcO ps qs l1 R pc) ps qs) (rcP ps qs l1 R pc) ((pgAt (rcS ps qs l1 R pc) (rcP ps qs l1 R pc) ps qs).set (rcO ps qs l1 R pc).toNat v) ps ∧ spQ ps qs l1 R pc z n l = setP (!(rcS ps qs l1 R pc) && okW (rcS ps qs l1 R pc) (rcP ps qs l1 R pc) (rcO ps qs l1 R pc) ps qs) (rcP ps qs l1 R pc) ((pgAt (rcS ps qs l1 R pc) (rcP ps qs l1 R pc) ps qs).set (rcO ps qs l1 R pc).toNat v) qs ∧ v = R.getD (zB (okWi (feW ps qs l1 pc)) (dA (feW ps qs l1 pc))).toNat 0) ∧
    (rcB ps qs l1 R pc = false → spP ps qs l1 R pc z n l = ps ∧ spQ ps qs l1 R pc z n l = qs) := by
  refine ⟨R.getD (zB (okWi (feW ps qs l1 pc)) (dA (feW ps qs l1 pc))).toNat 0, fun hb => ?_, fun hb => ?_⟩
  · rw [rcB_eq] at hb
    simp only [Bool.and_eq_true, decide_eq_true_eq] at hb
    obtain ⟨hs, ht⟩ := hb
    obtain ⟨h, hn, hst⟩ := hs
    have hk : okWi (feW ps qs l1 pc) = true := by
      cases hk : okWi (feW ps qs l1 pc) with
      | true => rfl
      | false => exact absurd (.inl hk) hn
    have hP := sp_pq (R := R) (z := z) (n := n) (l := l) h hk
    rw [hP.1, hP.2, rcS_eq, rcP_eq, rcO_eq, if_pos ⟨h, hn, hst⟩, if_pos ⟨h, hn, hst⟩, if_pos ⟨h, hn, hst⟩]
    generalize hop : (zB (okWi (feW ps qs l1 pc)) ((feW ps qs l1 pc) / 67108864)) = op at *
    generalize hB : (zB (okWi (feW ps qs l1 pc)) (dB (feW ps qs l1 pc))) = B at *
    generalize hC : (zB (okWi (feW ps qs l1 pc)) (dC (feW ps qs l1 pc))) = C at *
    generalize hI : (zB (okWi (feW ps qs l1 pc)) (dI (feW ps qs l1 pc))) = imm at *
    have ha : acC op = 1 := by rw [acC_eq, if_pos hst]
    have hE : tcE ps qs l1 op (zB (okWi (feW ps qs l1 pc)) (dA (feW ps qs l1 pc))) B C imm R = 0 := by rw [tcE_eq, ha]; exact ht
    rw [doP_eq, doQ_eq, if_pos (by omega), if_pos (by omega), tcP_eq, tcQ_eq, if_pos ⟨hE, ha⟩, if_pos ⟨hE, ha⟩, ha]
    exact ⟨rfl, rfl, rfl⟩
  · rw [rcB_eq] at hb
    by_cases h : feE ps qs l1 pc = 0
    · by_cases hk : okWi (feW ps qs l1 pc) = true
      · have hP := sp_pq (R := R) (z := z) (n := n) (l := l) h hk
        rw [hP.1, hP.2]
        generalize hop : (zB (okWi (feW ps qs l1 pc)) ((feW ps qs l1 pc) / 67108864)) = op at *
        generalize hB : (zB (okWi (feW ps qs l1 pc)) (dB (feW ps qs l1 pc))) = B at *
        generalize hC : (zB (okWi (feW ps qs l1 pc)) (dC (feW ps qs l1 pc))) = C at *
        generalize hI : (zB (okWi (feW ps qs l1 pc)) (dI (feW ps qs l1 pc))) = imm at *
        rw [doP_eq, doQ_eq]
        by_cases ht : 15 ≤ op ∧ op ≤ 18
        · rw [if_pos ht, if_pos ht, tcP_eq, tcQ_eq]
          have : ¬ (tcE ps qs l1 op (zB (okWi (feW ps qs l1 pc)) (dA (feW ps qs l1 pc))) B C imm R = 0 ∧ acC op = 1) := by
            rintro ⟨q1, q2⟩
            have hst : op = 16 ∨ op = 18 := by
              rcases (inferInstance : Decidable (op = 16 ∨ op = 18)) with q | q
              · rw [acC_eq, if_neg q] at q2; omega
              · exact q
            have hn : ¬ (okWi (feW ps qs l1 pc) = false ∨ op < 15 ∨ 18 < op) := by
              rintro (q | q)
              · rw [hk] at q; cases q
              · omega
            rw [tcE_eq, q2] at q1
            simp only [Bool.and_eq_false_imp, decide_eq_true_eq, decide_eq_false_iff_not] at hb
            exact hb ⟨h, hn, hst⟩ q1
          rw [if_neg this, if_neg this]
          exact ⟨rfl, rfl⟩
        · rw [if_neg ht, if_neg ht]
          exact ⟨rfl, rfl⟩
      · have hk : okWi (feW ps qs l1 pc) = false := by simpa using hk
        have := sp_f2 (R := R) (z := z) (n := n) (l := l) h hk
        exact ⟨this.2.2.2.2.2.1, this.2.2.2.2.2.2.1⟩
    · have := sp_f1 (R := R) (z := z) (n := n) (l := l) h
      exact ⟨this.2.2.2.2.2.1, this.2.2.2.2.2.2.1⟩
theorem sp_BP (h1 : wfP ps) (h2 : wfP qs) : BP ps qs (spP ps qs l1 R pc z n l) (spQ ps qs l1 R pc z n l) (rcB ps qs l1 R pc) (rcS ps qs l1 R pc) (rcP ps qs l1 R pc) (rcO ps qs l1 R pc) := by
  obtain ⟨v, g1, g2⟩ := sp_pages (l1 := l1) (R := R) (pc := pc) (z := z) (n := n) (l := l) h1 h2
  cases hb : rcB ps qs l1 R pc with
  | false =>
    rw [(g2 hb).1, (g2 hb).2]
    exact ⟨fun _ _ _ _ => .inl rfl, fun _ _ _ _ => .inl rfl⟩
  | true =>
    rw [(g1 hb).1, (g1 hb).2.1]
    refine ⟨fun p j _ _ => ?_, fun p j _ _ => ?_⟩
    · by_cases e : (rcS ps qs l1 R pc) = true ∧ (rcP ps qs l1 R pc) = (p : Int) ∧ (rcO ps qs l1 R pc) = (j : Int)
      · exact .inr ⟨rfl, e⟩
      · exact .inl (rd_writeG e)
    · by_cases e : (rcS ps qs l1 R pc) = false ∧ (rcP ps qs l1 R pc) = (p : Int) ∧ (rcO ps qs l1 R pc) = (j : Int)
      · exact .inr ⟨rfl, e⟩
      · exact .inl (rd_writeG e)
end
section
variable {l1 : Int} {R : List Int} {pc : Int} {z n l : Bool} {ps qs : List (List Int)} {t' : Bool} {k' o' v : Int}
theorem sp_to {ps' qs' : List (List Int)} (h1 : wfP ps) (h2 : wfP qs) (h1' : wfP ps') (h2' : wfP qs') (hz : SZ ps qs ps' qs') (ha : AG ps qs ps' qs' (rcL ps qs l1 R pc)) (hb : rcB ps qs l1 R pc = true) :
    rdW (rcS ps qs l1 R pc) (rcP ps qs l1 R pc) (rcO ps qs l1 R pc) (spP ps' qs' l1 R pc z n l) (spQ ps' qs' l1 R pc z n l) = rdW (rcS ps qs l1 R pc) (rcP ps qs l1 R pc) (rcO ps qs l1 R pc) (spP ps qs l1 R pc z n l) (spQ ps qs l1 R pc z n l) := by
  obtain ⟨v, g1, _⟩ := sp_pages (l1 := l1) (R := R) (pc := pc) (z := z) (n := n) (l := l) h1 h2
  obtain ⟨v', g1', _⟩ := sp_pages (l1 := l1) (R := R) (pc := pc) (z := z) (n := n) (l := l) h1' h2'
  obtain ⟨e1, e2, e3⟩ := g1 hb
  have hb0 := hb
  rw [rcB_eq] at hb
  simp only [Bool.and_eq_true, decide_eq_true_eq] at hb
  obtain ⟨⟨h, hn, hst⟩, ht⟩ := hb
  obtain ⟨f1, f2, _, _⟩ := fe_same (m := 0) (m' := 0) hz ha
  have f2 := f2 h
  have hV : AG ps qs ps' qs' (tbR ps qs l1 (vaC (zB (okWi (feW ps qs l1 pc)) ((feW ps qs l1 pc) / 67108864)) (zB (okWi (feW ps qs l1 pc)) (dB (feW ps qs l1 pc))) (zB (okWi (feW ps qs l1 pc)) (dC (feW ps qs l1 pc))) (zB (okWi (feW ps qs l1 pc)) (dI (feW ps qs l1 pc))) R)) := ⟨fun p hp => ha.out p (rcL_va h hn hp)⟩
  obtain ⟨t1, t2, t3, t4⟩ := tr_same hz hV 1
  have hb' : rcB ps' qs' l1 R pc = true := by
    rw [rcB_eq, f2, f1, t1]
    simp only [Bool.and_eq_true, decide_eq_true_eq]
    exact ⟨⟨h, hn, hst⟩, ht⟩
  obtain ⟨e1', e2', e3'⟩ := g1' hb'
  have s1 : rcS ps' qs' l1 R pc = (rcS ps qs l1 R pc) := by rw [rcS_eq, rcS_eq, f2, f1, t2]
  have s2 : rcP ps' qs' l1 R pc = (rcP ps qs l1 R pc) := by rw [rcP_eq, rcP_eq, f2, f1, t3]
  have s3 : rcO ps' qs' l1 R pc = (rcO ps qs l1 R pc) := by rw [rcO_eq, rcO_eq, f2, f1, t4]
  rw [s1, s2, s3] at e1' e2'
  rw [e1, e2, e1', e2', rd_self h1 h2, rd_self h1' h2', hz.ok, e3, e3', f2]
end
end Go.Proofs.YtimjnajdpccjdaaDoor
