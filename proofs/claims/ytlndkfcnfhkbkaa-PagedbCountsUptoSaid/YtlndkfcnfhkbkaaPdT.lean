/- What PagedbCounts asks holds behind each of the six calls. No condition beyond sizes. -/
import Derived.Test.YtlndkfcnfhkbkaaPdS
namespace Go.Proofs.Ytlndkfcnfhkbkaa
open Go.RowKit Sx
set_option linter.unusedVariables false
set_option linter.unusedSimpArgs false
set_option maxRecDepth 100000
set_option maxHeartbeats 4000000
theorem rd_hs {ps qs : List (List Int)} {p off : Int} (h : hs ps p = true) (ho : 0 ≤ off ∧ off < 1024) : rdW true p off ps qs = (ps.getD p.toNat []).getD off.toNat 0 := by
  unfold rdW
  rw [if_pos (okW_t h ho.1 ho.2)]
  rfl
theorem rd_wP {ps qs : List (List Int)} {a o v p off : Int} (ha : hs ps a = true) (hp : hs ps p = true) (hl : ∀ q ∈ ps, q.length = 1024) (ho : 0 ≤ o ∧ o < 1024) (hf : 0 ≤ off ∧ off < 1024) : rdW true p off (wP ps a o v) qs = if p = a ∧ off = o then v else rdW true p off ps qs := by
  have h1 := hs_t ha
  have h2 := hs_t hp
  rw [rd_hs (by rw [hs_wP]; exact hp) hf, rd_hs hp hf]
  unfold wP
  simp only [List.getD_eq_getElem?_getD]
  by_cases hpa : p = a
  · subst hpa
    rw [List.getElem?_set_self (by omega), Option.getD_some]
    have hlen : (ps[p.toNat]?.getD []).length = 1024 := by
      rw [List.getElem?_eq_getElem (show p.toNat < ps.length by omega)]
      exact hl _ (List.getElem_mem _)
    by_cases hoo : off = o
    · subst hoo
      rw [List.getElem?_set_self (by omega), if_pos ⟨rfl, rfl⟩]
      rfl
    · rw [List.getElem?_set_ne (by omega), if_neg (fun h => hoo h.2)]
  · rw [List.getElem?_set_ne (by omega), if_neg (fun h => hpa h.1)]
theorem rd_zP {ps qs : List (List Int)} {a p off : Int} (ha : hs ps a = true) (hp : hs ps p = true) (hf : 0 ≤ off ∧ off < 1024) : rdW true p off (zP ps a) qs = if p = a then 0 else rdW true p off ps qs := by
  have h1 := hs_t ha
  have h2 := hs_t hp
  have hz : hs (zP ps a) p = true := by unfold hs at hp ⊢; rw [zP_len]; exact hp
  rw [rd_hs hz hf, rd_hs hp hf]
  unfold zP
  simp only [List.getD_eq_getElem?_getD]
  by_cases hpa : p = a
  · subst hpa
    rw [List.getElem?_set_self (by omega), Option.getD_some, if_pos rfl, List.getElem?_replicate]
    split <;> rfl
  · rw [List.getElem?_set_ne (by omega), if_neg hpa]
structure AF (b : Int) (ps : List (List Int)) (ws : List Int) (ps2 : List (List Int)) (ws2 : List Int) (k a c t : Int) (on : Bool) (done : Bool) : Prop where
  lp : ∀ p : Nat, p < 8 → LP ps2 (Zs 2) ps (Zs 2) (p : Int) k a c done b
  kp : ∀ p : Nat, p < 8 → KP (eT ps ws p) (eO ps ws p) (eR ps ws p) (eS ps ws p) (eN ps ws p) (eT ps2 ws2 p) (eO ps2 ws2 p) (eR ps2 ws2 p) (eS ps2 ws2 p) (eN ps2 ws2 p) (p : Int) k a c (eO ps ws (a % 8))
  sp : done = true → SP ps2 ps ws2 ws k a c t on
section
variable {ps : List (List Int)} {ws : List Int} {b m : Int} {lim : Int}
theorem KP_same {ps2 : List (List Int)} {ws2 : List Int} {p k a c ow : Int} (h1 : hs ps p = true) (h2 : hs ps2 p = true) (hG : G ws2 p = G ws p) : KP (eT ps ws p) (eO ps ws p) (eR ps ws p) (eS ps ws p) (eN ps ws p) (eT ps2 ws2 p) (eO ps2 ws2 p) (eR ps2 ws2 p) (eS ps2 ws2 p) (eN ps2 ws2 p) p k a c ow := by
  obtain ⟨e1, e2, e3, e4, e5⟩ := e_t (ws := ws) h1
  obtain ⟨f1, f2, f3, f4, f5⟩ := e_t (ws := ws2) h2
  obtain ⟨g1, g2, g3, g4, g5⟩ := g_of hG
  rw [e1, e2, e3, e4, e5, f1, f2, f3, f4, f5, g1, g2, g3, g4, g5]
  exact ⟨.inr (.inr ⟨rfl, rfl, rfl, rfl, .inl rfl⟩)⟩
theorem ent_is {ps2 : List (List Int)} {ws2 : List Int} {q t o r s : Int} {nn : Bool} (h2 : hs ps2 q = true) (hG : G ws2 q = (t, o, r, s, nn)) : eT ps2 ws2 q = t ∧ eO ps2 ws2 q = o ∧ eR ps2 ws2 q = r ∧ eS ps2 ws2 q = s ∧ eN ps2 ws2 q = nn := by
  obtain ⟨f1, f2, f3, f4, f5⟩ := e_t (ws := ws2) h2
  obtain ⟨g1, g2, g3, g4, g5⟩ := g_is hG
  rw [f1, f2, f3, f4, f5, g1, g2, g3, g4, g5]
  exact ⟨rfl, rfl, rfl, rfl, rfl⟩
theorem call_no {k a c t : Int} {on : Bool} (h : cE ps ws b k a c t on ≠ 0) : cW ps ws b k a c t on = ws ∧ cB ps ws b k a c t on = b ∧ cP ps ws b k a c t on = ps ∧ ∀ m, cM ps ws b k a c t on m = m := by
  rw [cE_eq] at h
  rw [cW_eq, cB_eq, cP_eq]
  refine ⟨?_, ?_, ?_, fun m => ?_⟩
  · split
    · rename_i hk; rw [if_pos hk] at h; rw [tsW_eq, if_neg h]
    · rename_i h1; rw [if_neg h1] at h
      split
      · rename_i hk; rw [if_pos hk] at h; rw [tkW_eq, if_neg h]
      · rename_i h2; rw [if_neg h2] at h
        split
        · rename_i hk; rw [if_pos hk] at h; rw [tnW_eq, if_neg h]
        · rename_i h3; rw [if_neg h3] at h
          split
          · rename_i hk; rw [if_pos hk] at h; rw [gvW_eq, if_neg h]
          · rename_i h4; rw [if_neg h4] at h
            split
            · rename_i hk; rw [if_pos hk] at h; rw [ssW_eq, if_neg h]
            · rename_i h5; rw [if_neg h5] at h; rw [seW_eq, if_neg h]
  · split
    · rename_i hk; rw [if_pos hk] at h; rw [tsB_eq, if_neg h]
    · rfl
  · split
    · rename_i hk; rw [if_pos hk] at h; rw [tsP_eq, if_neg h]
    · rename_i h1; rw [if_neg h1] at h
      split
      · rename_i hk
        rw [if_neg (by omega), if_pos hk] at h; rw [tnP_eq, if_neg h]
      · split
        · rename_i h3 hk
          rw [if_neg (by omega), if_neg (by omega), if_pos hk] at h; rw [gvP_eq, if_neg h]
        · rfl
  · rw [cM_eq]
    split
    · rename_i hk; rw [if_pos hk] at h; rw [tsM_eq, if_neg h]
    · rename_i h1; rw [if_neg h1] at h
      split
      · rename_i hk
        rw [if_neg (by omega), if_pos hk] at h; rw [tnM_eq, if_neg h]
      · split
        · rename_i h3 hk
          rw [if_neg (by omega), if_neg (by omega), if_pos hk] at h; rw [gvM_eq, if_neg h]
        · rfl
theorem call_met {k a c t : Int} {on : Bool} (hk : 1 ≤ k ∧ k ≤ 6) (m : Int) : MP k (decide (cE ps ws b k a c t on = 0)) (cM ps ws b k a c t on m - m) ∧ cB ps ws b k a c t on = b + (if cE ps ws b k a c t on = 0 ∧ k = 1 then 1 else 0) := by
  by_cases h : cE ps ws b k a c t on = 0
  · rw [decide_eq_true h]
    have h' := h
    rw [cE_eq] at h
    refine ⟨⟨?_⟩, ?_⟩
    · rw [if_pos rfl, cM_eq]
      rcases (by omega : k = 1 ∨ k = 2 ∨ k = 3 ∨ k = 4 ∨ k = 5 ∨ k = 6) with rfl | rfl | rfl | rfl | rfl | rfl
      · rw [if_pos rfl] at h; rw [if_pos rfl, if_pos rfl, tsM_eq, if_pos h]; omega
      · rw [if_neg (by omega), if_neg (by omega), if_neg (by omega), if_neg (by omega), if_neg (by omega)]; omega
      · rw [if_neg (by omega), if_neg (by omega), if_pos rfl] at h; rw [if_neg (by omega), if_pos rfl, if_neg (by omega), if_pos (.inl rfl), tnM_eq, if_pos h]; omega
      · rw [if_neg (by omega), if_neg (by omega), if_neg (by omega), if_pos rfl] at h; rw [if_neg (by omega), if_neg (by omega), if_pos rfl, if_neg (by omega), if_pos (.inr rfl), gvM_eq, if_pos h]; omega
      · rw [if_neg (by omega), if_neg (by omega), if_neg (by omega), if_neg (by omega), if_neg (by omega)]; omega
      · rw [if_neg (by omega), if_neg (by omega), if_neg (by omega), if_neg (by omega), if_neg (by omega)]; omega
    · rw [cB_eq]
      by_cases k1 : k = 1
      · rw [if_pos k1] at h
        rw [if_pos k1, if_pos ⟨h', k1⟩, tsB_eq, if_pos h]
      · rw [if_neg k1, if_neg (fun q => k1 q.2)]; omega
  · obtain ⟨e1, e2, e3, e4⟩ := call_no h
    rw [e2, e4, decide_eq_false h]
    refine ⟨⟨?_⟩, ?_⟩
    · rw [if_neg (by decide)]; omega
    · rw [if_neg (fun q => h q.1)]; omega
theorem AF_of {k a c t : Int} {on : Bool} (hA : okA 8 b ps (Zs 2) m ws lim) (hi : INV 8 ws) (hk : 1 ≤ k ∧ k ≤ 6) : AF b ps ws (cP ps ws b k a c t on) (cW ps ws b k a c t on) k a c t on (decide (cE ps ws b k a c t on = 0)) := by
  have hl := hA.pl
  have hp1 := hA.wf.p1
  have hg := hA.gw
  have hb0 := hA.wf.b0
  have hb1 := hA.wf.b1
  have hsn : ∀ q : Int, 0 ≤ q ∧ q < 8 → hs ps q = true := fun q hq => hs_nat (n := 8) hl (by omega)
  by_cases h : cE ps ws b k a c t on = 0
  · rw [decide_eq_true h]
    have hl2 : (cP ps ws b k a c t on).length = 8 := (call_ps hp1 b k a c t on).1.trans hl
    have hsn2 : ∀ q : Int, 0 ≤ q ∧ q < 8 → hs (cP ps ws b k a c t on) q = true := fun q hq => hs_nat (n := 8) hl2 (by omega)
    have h' := h
    rw [cE_eq] at h
    rcases (by omega : k = 1 ∨ k = 2 ∨ k = 3 ∨ k = 4 ∨ k = 5 ∨ k = 6) with rfl | rfl | rfl | rfl | rfl | rfl
    · rw [if_pos rfl] at h
      obtain ⟨h1, h2, h3, h4, h5, h6, hG⟩ := ts_G hl (by omega) hg h
      have eW : cW ps ws b 1 a c t on = tsW ps ws b a c := by rw [cW_eq, if_pos rfl]
      have eP : cP ps ws b 1 a c t on = wP (wP (wP ps a 0 c) a 1 b) a 2 0 := by rw [cP_eq, if_pos rfl, tsP_eq, if_pos h]
      have ha := hsn a (by omega)
      have wc : IntKind.u32.wrap c = c := by rw [wmod32]; omega
      have wb : IntKind.u32.wrap b = b := by rw [wmod32]; omega
      have q1 := p_wP (off := 0) (v := c) hp1 ha
      have q2 := p_wP (off := 1) (v := b) q1 (by rw [hs_wP]; exact ha)
      refine ⟨fun p hp => ⟨fun off ho => ?_⟩, fun p hp => ?_, fun _ => ?_⟩
      · have hpp := hsn (p : Int) (by omega)
        rw [eP, rd_wP (by rw [hs_wP, hs_wP]; exact ha) (by rw [hs_wP, hs_wP]; exact hpp) q2 (by omega) (by omega), rd_wP (by rw [hs_wP]; exact ha) (by rw [hs_wP]; exact hpp) q1 (by omega) (by omega), rd_wP ha hpp hp1 (by omega) (by omega), wc, wb]
        by_cases hpa : (p : Int) = a
        · by_cases o3 : off < 3
          · rw [if_pos (c := true = true ∧ (p : Int) = a ∧ (1 : Int) = 1 ∧ off < 3) ⟨rfl, hpa, rfl, o3⟩]
            rcases (by omega : off = 0 ∨ off = 1 ∨ off = 2) with rfl | rfl | rfl
            · rw [if_neg (by omega), if_neg (by omega), if_pos ⟨hpa, rfl⟩]; rfl
            · rw [if_neg (by omega), if_pos ⟨hpa, rfl⟩]; rfl
            · rw [if_pos ⟨hpa, rfl⟩]; rfl
          · rw [if_neg (by omega), if_neg (by omega), if_neg (by omega), if_neg (fun q => o3 q.2.2.2), if_neg (by omega)]
        · rw [if_neg (fun q => hpa q.1), if_neg (fun q => hpa q.1), if_neg (fun q => hpa q.1), if_neg (fun q => hpa q.2.1), if_neg (fun q => hpa q.2.1)]
      · by_cases pa : (p : Int) = a
        · exact ⟨.inl pa⟩
        · by_cases pc : (p : Int) = c
          · exact ⟨.inr (.inl ⟨pc, rfl⟩)⟩
          · exact KP_same (hsn _ (by omega)) (hsn2 _ (by omega)) (by rw [eW, hG p (by omega), if_neg pc, if_neg pa])
      · rw [eW]
        have ga := ent_is (ws2 := tsW ps ws b a c) (hsn2 a h1) ((hG a h1).trans ((if_neg h3).trans (if_pos rfl)))
        have gc := ent_is (ws2 := tsW ps ws b a c) (hsn2 c h2) ((hG c h2).trans (if_pos rfl))
        exact ⟨fun _ => ⟨(e_t ha).1.trans h4, (e_t (hsn c h2)).1.trans h5, ga, gc⟩, fun q => by omega, fun q => by omega, fun q => by omega, fun q => by omega, fun q => by omega⟩
    · rw [if_neg (by omega), if_pos rfl] at h
      obtain ⟨h1, h2, h3, h4, h5, h6, h7, hG⟩ := tk_G hl (by omega) hg h
      have eW : cW ps ws b 2 a c t on = tkW ps ws a t c := by rw [cW_eq, if_neg (by omega), if_pos rfl]
      have eP : cP ps ws b 2 a c t on = ps := by rw [cP_eq, if_neg (by omega), if_neg (by omega), if_neg (by omega)]
      refine ⟨fun p hp => ⟨fun off ho => ?_⟩, fun p hp => ?_, fun _ => ?_⟩
      · rw [eP, if_neg (fun q => absurd q.2.2.1 (by decide)), if_neg (fun q => absurd q.2.2 (by decide))]
      · by_cases pa : (p : Int) = a
        · exact ⟨.inl pa⟩
        · by_cases pc : (p : Int) = c
          · have ga := ent_is (ws2 := tkW ps ws a t c) (hsn2 p (by omega)) ((hG p (by omega)).trans (if_pos pc))
            obtain ⟨e1, e2, e3, e4, e5⟩ := e_t (ws := ws) (hsn p (by omega))
            rw [eW]
            refine ⟨.inr (.inr ⟨?_, ?_, ?_, ?_, .inr (.inl ⟨pc, rfl⟩)⟩)⟩
            · rw [ga.1, e1, pc]
            · rw [ga.2.1, e2, pc]
            · rw [ga.2.2.2.1, e4, pc]
            · rw [ga.2.2.2.2, e5, pc]
          · exact KP_same (hsn _ (by omega)) (hsn2 _ (by omega)) (by rw [eW, hG p (by omega), if_neg pc, if_neg pa])
      · rw [eW]
        have ga := ent_is (ws2 := tkW ps ws a t c) (hsn2 a h1) ((hG a h1).trans ((if_neg h3).trans (if_pos rfl)))
        have gc := ent_is (ws2 := tkW ps ws a t c) (hsn2 c h2) ((hG c h2).trans (if_pos rfl))
        exact ⟨fun q => by omega, fun _ => ⟨(e_t (hsn a h1)).1.trans h4, ga, by rw [gc.2.2.1, (e_t (hsn c h2)).2.2.1]⟩, fun q => by omega, fun q => by omega, fun q => by omega, fun q => by omega⟩
    · rw [if_neg (by omega), if_neg (by omega), if_pos rfl] at h
      obtain ⟨h1, h2, h3, hG⟩ := tn_G hl (by omega) hg h
      have eW : cW ps ws b 3 a c t on = tnW ps ws a t := by rw [cW_eq, if_neg (by omega), if_neg (by omega), if_pos rfl]
      have eP : cP ps ws b 3 a c t on = zP ps a := by rw [cP_eq, if_neg (by omega), if_pos rfl, tnP_eq, if_pos h]
      refine ⟨fun p hp => ⟨fun off ho => ?_⟩, fun p hp => ?_, fun _ => ?_⟩
      · rw [eP, rd_zP (hsn a h1) (hsn p (by omega)) (by omega)]
        by_cases pa : (p : Int) = a
        · rw [if_pos pa, if_neg (fun q => absurd q.2.2.1 (by decide)), if_pos ⟨rfl, pa, .inl rfl⟩]
        · rw [if_neg pa, if_neg (fun q => pa q.2.1), if_neg (fun q => pa q.2.1)]
      · by_cases pa : (p : Int) = a
        · exact ⟨.inl pa⟩
        · exact KP_same (hsn _ (by omega)) (hsn2 _ (by omega)) (by rw [eW, hG p (by omega), if_neg pa])
      · rw [eW]
        have ga := ent_is (ws2 := tnW ps ws a t) (hsn2 a h1) ((hG a h1).trans (if_pos rfl))
        refine ⟨fun q => by omega, fun q => by omega, fun _ => ?_, fun q => by omega, fun q => by omega, fun q => by omega⟩
        rw [(e_t (hsn a h1)).2.1]
        exact ga
    · rw [if_neg (by omega), if_neg (by omega), if_neg (by omega), if_pos rfl] at h
      obtain ⟨h1, h2, hG⟩ := gv_G hl (by omega) hg hi h
      have eW : cW ps ws b 4 a c t on = gvW ps ws a := by rw [cW_eq, if_neg (by omega), if_neg (by omega), if_neg (by omega), if_pos rfl]
      have eP : cP ps ws b 4 a c t on = zP ps a := by rw [cP_eq, if_neg (by omega), if_neg (by omega), if_pos rfl, gvP_eq, if_pos h]
      have am : a % 8 = a := by omega
      obtain ⟨a1, a2, a3, a4, a5⟩ := e_t (ws := ws) (hsn a h1)
      refine ⟨fun p hp => ⟨fun off ho => ?_⟩, fun p hp => ?_, fun _ => ?_⟩
      · rw [eP, rd_zP (hsn a h1) (hsn p (by omega)) (by omega)]
        by_cases pa : (p : Int) = a
        · rw [if_pos pa, if_neg (fun q => absurd q.2.2.1 (by decide)), if_pos ⟨rfl, pa, .inr rfl⟩]
        · rw [if_neg pa, if_neg (fun q => pa q.2.1), if_neg (fun q => pa q.2.1)]
      · by_cases pa : (p : Int) = a
        · exact ⟨.inl pa⟩
        · rcases hG with ⟨h3, h4, hG⟩ | ⟨h3, h4, h5, h6, hG⟩
          · exact KP_same (hsn _ (by omega)) (hsn2 _ (by omega)) (by rw [eW, hG p (by omega), if_neg pa])
          · by_cases po : (p : Int) = gO ws a
            · have ga := ent_is (ws2 := gvW ps ws a) (hsn2 p (by omega)) ((hG p (by omega)).trans (if_pos po))
              obtain ⟨e1, e2, e3, e4, e5⟩ := e_t (ws := ws) (hsn p (by omega))
              rw [eW, am, a2]
              refine ⟨.inr (.inr ⟨?_, ?_, ?_, ?_, .inr (.inr ⟨po, rfl⟩)⟩)⟩
              · rw [ga.1, e1]
              · rw [ga.2.1, e2]
              · rw [ga.2.2.2.1, e4]
              · rw [ga.2.2.2.2, e5]
            · exact KP_same (hsn _ (by omega)) (hsn2 _ (by omega)) (by rw [eW, hG p (by omega), if_neg po, if_neg pa])
      · rw [eW]
        refine ⟨fun q => by omega, fun q => by omega, fun q => by omega, fun _ => ?_, fun q => by omega, fun q => by omega⟩
        rw [a1, a2]
        rcases hG with ⟨h3, h4, hG⟩ | ⟨h3, h4, h5, h6, hG⟩
        · exact ⟨ent_is (ws2 := gvW ps ws a) (hsn2 a h1) ((hG a h1).trans (if_pos rfl)), .inl h3⟩
        · have ga := ent_is (ws2 := gvW ps ws a) (hsn2 a h1) ((hG a h1).trans ((if_neg (Ne.symm h6)).trans (if_pos rfl)))
          have gc := ent_is (ws2 := gvW ps ws a) (hsn2 _ h4) ((hG _ h4).trans (if_pos rfl))
          exact ⟨ga, .inr (by rw [gc.2.2.1, (e_t (hsn _ h4)).2.2.1])⟩
    · rw [if_neg (by omega), if_neg (by omega), if_neg (by omega), if_neg (by omega), if_pos rfl] at h
      obtain ⟨h1, h2, h3, hG⟩ := ss_G hl (by omega) hg h
      have eW : cW ps ws b 5 a c t on = ssW ps ws a t := by rw [cW_eq, if_neg (by omega), if_neg (by omega), if_neg (by omega), if_neg (by omega), if_pos rfl]
      have eP : cP ps ws b 5 a c t on = ps := by rw [cP_eq, if_neg (by omega), if_neg (by omega), if_neg (by omega)]
      refine ⟨fun p hp => ⟨fun off ho => ?_⟩, fun p hp => ?_, fun _ => ?_⟩
      · rw [eP, if_neg (fun q => absurd q.2.2.1 (by decide)), if_neg (fun q => absurd q.2.2 (by decide))]
      · by_cases pa : (p : Int) = a
        · exact ⟨.inl pa⟩
        · exact KP_same (hsn _ (by omega)) (hsn2 _ (by omega)) (by rw [eW, hG p (by omega), if_neg pa])
      · rw [eW]
        have ga := ent_is (ws2 := ssW ps ws a t) (hsn2 a h1) ((hG a h1).trans (if_pos rfl))
        obtain ⟨e1, e2, e3, e4, e5⟩ := e_t (ws := ws) (hsn a h1)
        refine ⟨fun q => by omega, fun q => by omega, fun q => by omega, fun q => by omega, fun _ => ?_, fun _ _ _ _ q => absurd rfl q⟩
        rw [e1, e2, e3, e5]
        exact ga
    · rw [if_neg (by omega), if_neg (by omega), if_neg (by omega), if_neg (by omega), if_neg (by omega)] at h
      obtain ⟨h1, h2, hG⟩ := se_G (on := on) hl (by omega) hg h
      have eW : cW ps ws b 6 a c t on = seW ps ws a on := by rw [cW_eq, if_neg (by omega), if_neg (by omega), if_neg (by omega), if_neg (by omega), if_neg (by omega)]
      have eP : cP ps ws b 6 a c t on = ps := by rw [cP_eq, if_neg (by omega), if_neg (by omega), if_neg (by omega)]
      refine ⟨fun p hp => ⟨fun off ho => ?_⟩, fun p hp => ?_, fun _ => ?_⟩
      · rw [eP, if_neg (fun q => absurd q.2.2.1 (by decide)), if_neg (fun q => absurd q.2.2 (by decide))]
      · by_cases pa : (p : Int) = a
        · exact ⟨.inl pa⟩
        · exact KP_same (hsn _ (by omega)) (hsn2 _ (by omega)) (by rw [eW, hG p (by omega), if_neg pa])
      · rw [eW]
        have ga := ent_is (ws2 := seW ps ws a on) (hsn2 a h1) ((hG a h1).trans (if_pos rfl))
        obtain ⟨e1, e2, e3, e4, e5⟩ := e_t (ws := ws) (hsn a h1)
        refine ⟨fun q => by omega, fun q => by omega, fun q => by omega, fun q => by omega, fun q => by omega, fun _ _ _ _ _ => ?_⟩
        rw [e1, e2, e3, e4]
        exact ga
  · obtain ⟨e1, e2, e3, e4⟩ := call_no h
    rw [decide_eq_false h, e1, e3]
    refine ⟨fun p hp => ⟨fun off ho => ?_⟩, fun p hp => ?_, fun q => by cases q⟩
    · rw [if_neg (fun q => by cases q.1), if_neg (fun q => by cases q.1)]
    · exact KP_same (hsn _ (by omega)) (hsn _ (by omega)) rfl
theorem poke_ok {i : Int} (hA : okA 8 b ps (Zs 2) m ws lim) (a off v : Int) (hl : lim ≤ 3000000000000000000) : okA 8 b (setP (true && okW true a off ps (Zs 2)) a ((pgAt true a ps (Zs 2)).set off.toNat v) ps) (Zs 2) (if okW true a off ps (Zs 2) = true then m + 1 else m) ws (lim + 1024) := by
  have hw := hA.wf
  have hlen : (setP (true && okW true a off ps (Zs 2)) a ((pgAt true a ps (Zs 2)).set off.toNat v) ps).length = ps.length := by unfold setP; split <;> simp
  have hm : (if okW true a off ps (Zs 2) = true then m + 1 else m) = m ∨ (if okW true a off ps (Zs 2) = true then m + 1 else m) = m + 1 := by split <;> simp
  have h0 := hw.m0
  have h1 := hA.lm
  refine ⟨hlen.trans hA.pl, ⟨by rw [hlen]; exact hw.l1, by rw [hlen]; exact hw.l2, by rw [hlen]; exact hw.l3, by rw [hlen]; exact hw.n1, by rw [hlen]; exact hw.n2, hw.q1, hw.q2, hw.w1, hw.b0, hw.b1, ?_, hw.p2, by omega, by omega⟩, hA.gw, by omega⟩
  intro x hx
  unfold setP at hx
  split at hx
  · rename_i hc
    simp only [Bool.true_and] at hc
    rcases List.mem_or_eq_of_mem_set hx with hx | rfl
    · exact hw.p1 x hx
    · rw [List.length_set]
      unfold okW hasP at hc
      simp only [Bool.and_eq_true, decide_eq_true_eq, if_true] at hc
      unfold pgAt
      rw [if_pos rfl, List.getD_eq_getElem?_getD, List.getElem?_eq_getElem (show a.toNat < ps.length by omega)]
      exact hw.p1 _ (List.getElem_mem _)
  · exact hw.p1 x hx
end
end Go.Proofs.Ytlndkfcnfhkbkaa
