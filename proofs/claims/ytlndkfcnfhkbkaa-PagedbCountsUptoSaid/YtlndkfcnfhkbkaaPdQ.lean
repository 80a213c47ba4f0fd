/- What each of the six calls does to the entries; counts stay. No condition beyond sizes. -/
import Derived.Test.YtlndkfcnfhkbkaaPdP
namespace Go.Proofs.Ytlndkfcnfhkbkaa
open Go.RowKit Sx
set_option linter.unusedVariables false
set_option linter.unusedSimpArgs false
set_option maxRecDepth 100000
set_option maxHeartbeats 4000000
abbrev Ent := Int × Int × Int × Int × Bool
noncomputable def G (ws : List Int) (q : Int) : Ent := (gT ws q, gO ws q, gR ws q, gS ws q, gN ws q)
theorem enc_all {t o r s : Int} {n : Bool} (h : goodB t o r s n = true) : (dT (nW t o r s n) (nR t o r s n), dO (nW t o r s n) (nR t o r s n), dR (nW t o r s n) (nR t o r s n), dS (nW t o r s n) (nR t o r s n), dN (nW t o r s n) (nR t o r s n)) = (t, o, r, s, n) := by
  rw [dT_eq, dO_eq, dR_eq, dS_eq, dN_eq, okD_enc, zB_t rfl, zB_t rfl, zB_t rfl, zB_t rfl, nW_eq, nR_eq, zB_t h, zB_t h]
  have g := goodB_iff.1 h
  unfold goodE at g
  obtain ⟨g1, g2, g3, g4, g5, g6, g7⟩ := g
  have gs : 0 ≤ s ∧ s ≤ 3 := by omega
  have e1 : wordE t o s n % 8 = t := by unfold wordE; cases n <;> simp <;> omega
  have e2 : wordE t o s n / 65536 % 64 = o := by unfold wordE; cases n <;> simp <;> omega
  have e3 : r % 64 = r := by omega
  have e4 : wordE t o s n / 16 % 4 = s := by unfold wordE; cases n <;> simp <;> omega
  have e5 : (wordE t o s n / 256 % 2 == 1) = n := by unfold wordE; cases n <;> simp <;> omega
  rw [e1, e2, e3, e4, e5]
  rfl
theorem G_set {ws : List Int} {n : Nat} {p q t o r s : Int} {nn : Bool} (hl : ws.length = 2 * n) (hp : 0 ≤ p ∧ p < n) (hq : 0 ≤ q ∧ q < n) (hg : goodB t o r s nn = true) :
    G (sW ws p t o r s nn) q = if q = p then (t, o, r, s, nn) else G ws q := by
  unfold G
  rw [gT_eq, gO_eq, gR_eq, gS_eq, gN_eq, gT_eq ws, gO_eq ws, gR_eq ws, gS_eq ws, gN_eq ws]
  have e : sW ws p t o r s nn = (ws.set (2 * p.toNat) (nW t o r s nn)).set (2 * p.toNat + 1) (nR t o r s nn) := by
    rw [sW_eq, show (2 * p).toNat = 2 * p.toNat by omega, show (2 * p + 1).toNat = 2 * p.toNat + 1 by omega]
  rw [e, show (2 * q).toNat = 2 * q.toNat by omega, show (2 * q + 1).toNat = 2 * q.toNat + 1 by omega, getD_set2 _ _ _ _ _ (by omega), getD_set2 _ _ _ _ _ (by omega)]
  by_cases h : q = p
  · subst h
    rw [if_pos rfl, if_neg (by omega), if_pos rfl, if_pos rfl]
    exact enc_all hg
  · rw [if_neg (by omega), if_neg (by omega), if_neg (by omega), if_neg (by omega), if_neg h]
theorem G_good {ws : List Int} {n : Nat} (h : okWs n ws) {q : Int} (hq : 0 ≤ q ∧ q < n) : goodE (gT ws q) (gO ws q) (gR ws q) (gS ws q) (gN ws q) ∧ gO ws q < n := by
  have := h.out q.toNat (by omega)
  rw [gT_eq, gO_eq, gR_eq, gS_eq, gN_eq, show (2 * q).toNat = 2 * q.toNat by omega, show (2 * q + 1).toNat = 2 * q.toNat + 1 by omega]
  obtain ⟨h1, h2⟩ := this
  refine ⟨?_, h2⟩
  rw [dT_eq, dO_eq, dR_eq, dS_eq, dN_eq, h1, zB_t rfl, zB_t rfl, zB_t rfl, zB_t rfl]
  unfold okD at h1
  simp only [Bool.and_eq_true] at h1
  exact goodB_iff.1 h1.1.1
theorem g_of {ws ws' : List Int} {q : Int} (h : G ws' q = G ws q) : gT ws' q = gT ws q ∧ gO ws' q = gO ws q ∧ gR ws' q = gR ws q ∧ gS ws' q = gS ws q ∧ gN ws' q = gN ws q := by
  unfold G at h
  simpa only [Prod.mk.injEq] using h
theorem g_is {ws' : List Int} {q t o r s : Int} {n : Bool} (h : G ws' q = (t, o, r, s, n)) : gT ws' q = t ∧ gO ws' q = o ∧ gR ws' q = r ∧ gS ws' q = s ∧ gN ws' q = n := by
  unfold G at h
  simpa only [Prod.mk.injEq] using h
section
variable {n : Nat} {ps : List (List Int)} {ws : List Int} {b : Int}
theorem hs_n (hl : ps.length = n) {p : Int} (h : hs ps p = true) : 0 ≤ p ∧ p < n := by rw [← hl]; exact hs_t h
theorem ts_G (hl : ps.length = n) (hn : n ≤ 64) (hg : gW n ws) {p f : Int} (he : tsE ps ws b p f = 0) :
    (0 ≤ p ∧ p < n) ∧ (0 ≤ f ∧ f < n) ∧ p ≠ f ∧ gT ws p = 0 ∧ gT ws f = 0 ∧ b < 64 ∧ ∀ q : Int, 0 ≤ q ∧ q < n → G (tsW ps ws b p f) q = if q = f then (3, p, 0, 0, false) else if q = p then (1, p, 1, 1, false) else G ws q := by
  have he' := he
  rw [tsE_eq] at he
  obtain ⟨e1, he⟩ := err0 (by decide) he
  obtain ⟨e2, he⟩ := err0 (by decide) he
  obtain ⟨e3, he⟩ := err0 (by decide) he
  obtain ⟨e4, he⟩ := err0 (by decide) he
  have e1 : hs ps p = true ∧ hs ps f = true := by simpa using e1
  have hp := hs_n hl e1.1
  have hf := hs_n hl e1.2
  have e3 := Classical.not_not.1 e3
  refine ⟨hp, hf, e2, e3.1, e3.2, by omega, fun q hq => ?_⟩
  rw [tsW_eq, if_pos he', G_set (n := n) (by rw [sW_len]; exact hg.len) hf hq (goodB_iff.2 ⟨by omega, by omega, by omega, by omega, by omega, .inr rfl, by omega⟩), G_set hg.len hp hq (goodB_iff.2 ⟨by omega, by omega, by omega, by omega, by omega, .inr rfl, by omega⟩)]
theorem tk_G (hl : ps.length = n) (hn : n ≤ 64) (hg : gW n ws) {p t f : Int} (he : tkE ps ws p t f = 0) :
    (0 ≤ p ∧ p < n) ∧ (0 ≤ f ∧ f < n) ∧ p ≠ f ∧ gT ws p = 0 ∧ gT ws f = 1 ∧ gR ws f < 63 ∧ (t = 2 ∨ t = 4 ∨ t = 5 ∨ t = 6) ∧ ∀ q : Int, 0 ≤ q ∧ q < n → G (tkW ps ws p t f) q = if q = f then (gT ws f, gO ws f, gR ws f + 1, gS ws f, gN ws f) else if q = p then (t, f, 0, 0, false) else G ws q := by
  have he' := he
  rw [tkE_eq] at he
  obtain ⟨e1, he⟩ := err0 (by decide) he
  obtain ⟨e2, he⟩ := err0 (by decide) he
  obtain ⟨e3, he⟩ := err0 (by decide) he
  obtain ⟨e4, he⟩ := err0 (by decide) he
  have e1 : hs ps p = true := by simpa using e1
  have e2 : t = 2 ∨ t = 4 ∨ t = 5 ∨ t = 6 := by simpa [tu] using Classical.not_not.1 e2
  obtain ⟨e3, e5, e6⟩ := Classical.not_not.1 e3
  have e4 := Classical.not_not.1 e4
  have hp := hs_n hl e1
  have hf := hs_n hl e3
  have hpf : p ≠ f := fun q => by rw [q] at e4; omega
  have g1 : goodB t f 0 0 false = true := goodB_iff.2 ⟨by omega, by omega, by omega, by omega, by omega, .inr rfl, by omega⟩
  refine ⟨hp, hf, hpf, e4, e5, e6, e2, fun q hq => ?_⟩
  have ef := g_of ((G_set hg.len hp hf g1).trans (if_neg (Ne.symm hpf)))
  have hgd := (G_good hg.ok hf).1
  have g2 : goodB (gT ws f) (gO ws f) (gR ws f + 1) (gS ws f) (gN ws f) = true := by
    unfold goodE at hgd
    obtain ⟨h1, h2, h3, h4, h5, h6, h7⟩ := hgd
    exact goodB_iff.2 ⟨h1, h2, by omega, h4, by omega, h6, h7⟩
  rw [tkW_eq, if_pos he', rfW_eq, ef.1, ef.2.1, ef.2.2.1, ef.2.2.2.1, ef.2.2.2.2, G_set (n := n) (by rw [sW_len]; exact hg.len) hf hq g2, G_set hg.len hp hq g1]
theorem tn_G (hl : ps.length = n) (hn : n ≤ 64) (hg : gW n ws) {p t : Int} (he : tnE ps ws p t = 0) :
    (0 ≤ p ∧ p < n) ∧ (gT ws p = 4 ∨ gT ws p = 5 ∨ gT ws p = 6) ∧ (t = 4 ∨ t = 5 ∨ t = 6) ∧ ∀ q : Int, 0 ≤ q ∧ q < n → G (tnW ps ws p t) q = if q = p then (t, gO ws p, 0, 0, false) else G ws q := by
  have he' := he
  rw [tnE_eq] at he
  obtain ⟨e1, he⟩ := err0 (by decide) he
  obtain ⟨e2, he⟩ := err0 (by decide) he
  have e1 : hs ps p = true := by simpa using e1
  obtain ⟨e2, e3⟩ := Classical.not_not.1 e2
  have e2 : gT ws p = 4 ∨ gT ws p = 5 ∨ gT ws p = 6 := by simpa [tu] using e2
  have e3 : t = 4 ∨ t = 5 ∨ t = 6 := by simpa [tu] using e3
  have hp := hs_n hl e1
  refine ⟨hp, e2, e3, fun q hq => ?_⟩
  have hgd := (G_good hg.ok hp).1
  unfold goodE at hgd
  obtain ⟨h1, h2, h3, h4, h5, h6, h7⟩ := hgd
  obtain ⟨r0, s0⟩ : gR ws p = 0 ∧ gS ws p = 0 := by omega
  have n0 : gN ws p = false := by rcases h6 with h | h; omega; exact h
  rw [tnW_eq, if_pos he', r0, s0, n0, G_set hg.len hp hq (goodB_iff.2 ⟨by omega, by omega, by omega, by omega, by omega, .inr rfl, by omega⟩)]
theorem ss_G (hl : ps.length = n) (hn : n ≤ 64) (hg : gW n ws) {p t : Int} (he : ssE ps ws p t = 0) :
    (0 ≤ p ∧ p < n) ∧ gT ws p = 1 ∧ (t = 3 ∨ t = 2 ∧ gS ws p = 1) ∧ ∀ q : Int, 0 ≤ q ∧ q < n → G (ssW ps ws p t) q = if q = p then (gT ws p, gO ws p, gR ws p, t, gN ws p) else G ws q := by
  have he' := he
  rw [ssE_eq] at he
  obtain ⟨e1, he⟩ := err0 (by decide) he
  obtain ⟨e2, he⟩ := err0 (by decide) he
  obtain ⟨e3, he⟩ := err0 (by decide) he
  have e1 : hs ps p = true := by simpa using e1
  have e2 := Classical.not_not.1 e2
  have e3 : t = 3 ∨ t = 2 ∧ gS ws p = 1 := by omega
  have hp := hs_n hl e1
  refine ⟨hp, e2, e3, fun q hq => ?_⟩
  have hgd := (G_good hg.ok hp).1
  unfold goodE at hgd
  obtain ⟨h1, h2, h3, h4, h5, h6, h7⟩ := hgd
  rw [ssW_eq, if_pos he', G_set hg.len hp hq (goodB_iff.2 ⟨by omega, by omega, by omega, by omega, by omega, h6, by omega⟩)]
theorem se_G (hl : ps.length = n) (hn : n ≤ 64) (hg : gW n ws) {p : Int} {on : Bool} (he : seE ps ws p = 0) :
    (0 ≤ p ∧ p < n) ∧ gT ws p = 2 ∧ ∀ q : Int, 0 ≤ q ∧ q < n → G (seW ps ws p on) q = if q = p then (gT ws p, gO ws p, gR ws p, gS ws p, on) else G ws q := by
  have he' := he
  rw [seE_eq] at he
  obtain ⟨e1, he⟩ := err0 (by decide) he
  obtain ⟨e2, he⟩ := err0 (by decide) he
  have e1 : hs ps p = true := by simpa using e1
  have e2 := Classical.not_not.1 e2
  have hp := hs_n hl e1
  refine ⟨hp, e2, fun q hq => ?_⟩
  have hgd := (G_good hg.ok hp).1
  unfold goodE at hgd
  obtain ⟨h1, h2, h3, h4, h5, h6, h7⟩ := hgd
  rw [seW_eq, if_pos he', G_set hg.len hp hq (goodB_iff.2 ⟨h1, h2, h3, h4, h5, .inl e2, h7⟩)]
abbrev INV (n : Nat) (ws : List Int) : Prop := inv n (gT ws) (gO ws) (gR ws)
theorem gv_G (hl : ps.length = n) (hn : n ≤ 64) (hg : gW n ws) (hi : INV n ws) {p : Int} (he : gvE ps ws p = 0) :
    (0 ≤ p ∧ p < n) ∧ gT ws p ≠ 0 ∧ ((gT ws p = 1 ∧ gR ws p = 0 ∧ ∀ q : Int, 0 ≤ q ∧ q < n → G (gvW ps ws p) q = if q = p then (0, 0, 0, 0, false) else G ws q) ∨
      (gT ws p ≠ 1 ∧ (0 ≤ gO ws p ∧ gO ws p < n) ∧ gT ws (gO ws p) = 1 ∧ gO ws p ≠ p ∧ ∀ q : Int, 0 ≤ q ∧ q < n → G (gvW ps ws p) q = if q = gO ws p then (gT ws q, gO ws q, gR ws q - 1, gS ws q, gN ws q) else if q = p then (0, 0, 0, 0, false) else G ws q)) := by
  have he' := he
  rw [gvE_eq] at he
  obtain ⟨e1, he⟩ := err0 (by decide) he
  obtain ⟨e2, he⟩ := err0 (by decide) he
  obtain ⟨e3, he⟩ := err0 (by decide) he
  have e1 : hs ps p = true := by simpa using e1
  have hp := hs_n hl e1
  have g0 : goodB 0 0 0 0 false = true := rfl
  have hgd := (G_good hg.ok hp).1
  unfold goodE at hgd
  refine ⟨hp, e2, ?_⟩
  by_cases t1 : gT ws p = 1
  · refine .inl ⟨t1, by omega, fun q hq => ?_⟩
    rw [gvW_eq, if_pos he', if_neg (fun h => h.1 t1), G_set hg.len hp hq g0]
  · obtain ⟨k1, k2⟩ := hi.own p hp.1 hp.2 e2
    have hpf : gO ws p ≠ p := fun q => by rw [q] at k2; omega
    have ef := g_of ((G_set hg.len hp k1 g0).trans (if_neg hpf))
    have hpos := hi.pos hp e2 t1
    have ho : hs ps (gO ws p) = true := by unfold hs; rw [hl]; simpa using k1
    have hgo := (G_good hg.ok k1).1
    unfold goodE at hgo
    have g2 : goodB (gT ws (gO ws p)) (gO ws (gO ws p)) (gR ws (gO ws p) + -1) (gS ws (gO ws p)) (gN ws (gO ws p)) = true := by
      obtain ⟨h1, h2, h3, h4, h5, h6, h7⟩ := hgo
      exact goodB_iff.2 ⟨h1, h2, by omega, h4, by omega, h6, h7⟩
    refine .inr ⟨t1, k1, k2, hpf, fun q hq => ?_⟩
    rw [gvW_eq, if_pos he', if_pos ⟨t1, ho, by rw [ef.1]; exact k2, by rw [ef.2.2.1]; exact hpos⟩, rfW_eq, ef.1, ef.2.1, ef.2.2.1, ef.2.2.2.1, ef.2.2.2.2, G_set (n := n) (by rw [sW_len]; exact hg.len) k1 hq g2, G_set hg.len hp hq g0]
    by_cases hq2 : q = gO ws p
    · subst hq2; rw [if_pos rfl, if_pos rfl]; rfl
    · rw [if_neg hq2, if_neg hq2]
theorem three {ws ws' : List Int} {q : Int} (h : G ws' q = G ws q) : gT ws' q = gT ws q ∧ gO ws' q = gO ws q ∧ gR ws' q = gR ws q := ⟨(g_of h).1, (g_of h).2.1, (g_of h).2.2.1⟩
theorem INV.call (hl : ps.length = n) (hn : n ≤ 64) (hg : gW n ws) (hi : INV n ws) (k a c t : Int) (on : Bool) : INV n (cW ps ws b k a c t on) := by
  rw [cW_eq]
  split
  · by_cases he : tsE ps ws b a c = 0
    · obtain ⟨h1, h2, h3, h4, h5, _, hG⟩ := ts_G hl hn hg he
      have ga := g_is ((hG a h1).trans ((if_neg h3).trans (if_pos rfl)))
      have gc := g_is ((hG c h2).trans (if_pos rfl))
      exact hi.space h1 h2 h3 h4 h5 ga.1 ga.2.1 ga.2.2.1 gc.1 gc.2.1 (fun q q0 q1 q2 q3 => three ((hG q ⟨q0, q1⟩).trans ((if_neg q3).trans (if_neg q2))))
    · rw [tsW_eq, if_neg he]; exact hi
  · split
    · by_cases he : tkE ps ws a t c = 0
      · obtain ⟨h1, h2, h3, h4, h5, h6, h7, hG⟩ := tk_G hl hn hg he
        have ga := g_is ((hG a h1).trans ((if_neg h3).trans (if_pos rfl)))
        have gc := g_is ((hG c h2).trans (if_pos rfl))
        exact hi.take h1 h2 h4 h5 (by omega) (by omega) ga.1 ga.2.1 (gc.1.trans h5) gc.2.1 gc.2.2.1 (fun q q0 q1 q2 q3 => three ((hG q ⟨q0, q1⟩).trans ((if_neg q3).trans (if_neg q2))))
      · rw [tkW_eq, if_neg he]; exact hi
    · split
      · by_cases he : tnE ps ws a t = 0
        · obtain ⟨h1, h2, h3, hG⟩ := tn_G hl hn hg he
          have ga := g_is ((hG a h1).trans (if_pos rfl))
          exact hi.turn h1 (by omega) (by omega) (by omega) (by omega) ga.1 ga.2.1 (fun q q0 q1 q2 => three ((hG q ⟨q0, q1⟩).trans (if_neg q2)))
        · rw [tnW_eq, if_neg he]; exact hi
      · split
        · by_cases he : gvE ps ws a = 0
          · obtain ⟨h1, h2, hG⟩ := gv_G hl hn hg hi he
            rcases hG with ⟨h3, h4, hG⟩ | ⟨h3, h4, h5, h6, hG⟩
            · have ga := g_is ((hG a h1).trans (if_pos rfl))
              exact hi.give1 h1 h3 h4 ga.1 (fun q q0 q1 q2 => three ((hG q ⟨q0, q1⟩).trans (if_neg q2)))
            · have ga := g_is ((hG a h1).trans ((if_neg (Ne.symm h6)).trans (if_pos rfl)))
              have gc := g_is ((hG _ h4).trans (if_pos rfl))
              exact hi.give2 h1 h2 h3 ga.1 (gc.1.trans h5) gc.2.1 gc.2.2.1 (fun q q0 q1 q2 q3 => three ((hG q ⟨q0, q1⟩).trans ((if_neg q3).trans (if_neg q2))))
          · rw [gvW_eq, if_neg he]; exact hi
        · split
          · by_cases he : ssE ps ws a t = 0
            · obtain ⟨h1, h2, h3, hG⟩ := ss_G hl hn hg he
              refine hi.same fun q q0 q1 => ?_
              by_cases hq : q = a
              · subst hq; have ga := g_is ((hG q h1).trans (if_pos rfl)); exact ⟨ga.1, ga.2.1, ga.2.2.1⟩
              · exact three ((hG q ⟨q0, q1⟩).trans (if_neg hq))
            · rw [ssW_eq, if_neg he]; exact hi
          · by_cases he : seE ps ws a = 0
            · obtain ⟨h1, h2, hG⟩ := se_G (on := on) hl hn hg he
              refine hi.same fun q q0 q1 => ?_
              by_cases hq : q = a
              · subst hq; have ga := g_is ((hG q h1).trans (if_pos rfl)); exact ⟨ga.1, ga.2.1, ga.2.2.1⟩
              · exact three ((hG q ⟨q0, q1⟩).trans (if_neg hq))
            · rw [seW_eq, if_neg he]; exact hi
end
end Go.Proofs.Ytlndkfcnfhkbkaa
