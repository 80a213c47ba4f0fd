/- One of the calls that change a database, and what stays true. No condition beyond sizes. -/
import Derived.Test.YtlndkfcnfhkbkaaPdI
namespace Go.Proofs.Ytlndkfcnfhkbkaa
open Go.RowKit Sx
set_option linter.unusedVariables false
set_option linter.unusedSimpArgs false
set_option maxRecDepth 100000
set_option maxHeartbeats 8000000
theorem cE_ex : ∃ F0 : (List (List Int)) → (List Int) → Int → Int → Int → Int → Int → Bool → Int, ∀ ps ws b k a c t on, F0 ps ws b k a c t on = if k = 1 then tsE ps ws b a c else if k = 2 then tkE ps ws a t c else if k = 3 then tnE ps ws a t else if k = 4 then gvE ps ws a else if k = 5 then ssE ps ws a t else seE ps ws a := ⟨_, fun _ _ _ _ _ _ _ _ => rfl⟩
noncomputable def cE : (List (List Int)) → (List Int) → Int → Int → Int → Int → Int → Bool → Int := Classical.choose cE_ex
theorem cE_eq (ps : List (List Int)) (ws : List Int) (b : Int) (k : Int) (a : Int) (c : Int) (t : Int) (on : Bool) : cE ps ws b k a c t on = if k = 1 then tsE ps ws b a c else if k = 2 then tkE ps ws a t c else if k = 3 then tnE ps ws a t else if k = 4 then gvE ps ws a else if k = 5 then ssE ps ws a t else seE ps ws a := Classical.choose_spec cE_ex ps ws b k a c t on
theorem cW_ex : ∃ F0 : (List (List Int)) → (List Int) → Int → Int → Int → Int → Int → Bool → List Int, ∀ ps ws b k a c t on, F0 ps ws b k a c t on = if k = 1 then tsW ps ws b a c else if k = 2 then tkW ps ws a t c else if k = 3 then tnW ps ws a t else if k = 4 then gvW ps ws a else if k = 5 then ssW ps ws a t else seW ps ws a on := ⟨_, fun _ _ _ _ _ _ _ _ => rfl⟩
noncomputable def cW : (List (List Int)) → (List Int) → Int → Int → Int → Int → Int → Bool → List Int := Classical.choose cW_ex
theorem cW_eq (ps : List (List Int)) (ws : List Int) (b : Int) (k : Int) (a : Int) (c : Int) (t : Int) (on : Bool) : cW ps ws b k a c t on = if k = 1 then tsW ps ws b a c else if k = 2 then tkW ps ws a t c else if k = 3 then tnW ps ws a t else if k = 4 then gvW ps ws a else if k = 5 then ssW ps ws a t else seW ps ws a on := Classical.choose_spec cW_ex ps ws b k a c t on
theorem cB_ex : ∃ F0 : (List (List Int)) → (List Int) → Int → Int → Int → Int → Int → Bool → Int, ∀ ps ws b k a c t on, F0 ps ws b k a c t on = if k = 1 then tsB ps ws b a c else b := ⟨_, fun _ _ _ _ _ _ _ _ => rfl⟩
noncomputable def cB : (List (List Int)) → (List Int) → Int → Int → Int → Int → Int → Bool → Int := Classical.choose cB_ex
theorem cB_eq (ps : List (List Int)) (ws : List Int) (b : Int) (k : Int) (a : Int) (c : Int) (t : Int) (on : Bool) : cB ps ws b k a c t on = if k = 1 then tsB ps ws b a c else b := Classical.choose_spec cB_ex ps ws b k a c t on
theorem cP_ex : ∃ F0 : (List (List Int)) → (List Int) → Int → Int → Int → Int → Int → Bool → List (List Int), ∀ ps ws b k a c t on, F0 ps ws b k a c t on = if k = 1 then tsP ps ws b a c else if k = 3 then tnP ps ws a t else if k = 4 then gvP ps ws a else ps := ⟨_, fun _ _ _ _ _ _ _ _ => rfl⟩
noncomputable def cP : (List (List Int)) → (List Int) → Int → Int → Int → Int → Int → Bool → List (List Int) := Classical.choose cP_ex
theorem cP_eq (ps : List (List Int)) (ws : List Int) (b : Int) (k : Int) (a : Int) (c : Int) (t : Int) (on : Bool) : cP ps ws b k a c t on = if k = 1 then tsP ps ws b a c else if k = 3 then tnP ps ws a t else if k = 4 then gvP ps ws a else ps := Classical.choose_spec cP_ex ps ws b k a c t on
theorem cM_ex : ∃ F0 : (List (List Int)) → (List Int) → Int → Int → Int → Int → Int → Bool → Int → Int, ∀ ps ws b k a c t on m, F0 ps ws b k a c t on m = if k = 1 then tsM ps ws b a c m else if k = 3 then tnM ps ws a t m else if k = 4 then gvM ps ws a m else m := ⟨_, fun _ _ _ _ _ _ _ _ _ => rfl⟩
noncomputable def cM : (List (List Int)) → (List Int) → Int → Int → Int → Int → Int → Bool → Int → Int := Classical.choose cM_ex
theorem cM_eq (ps : List (List Int)) (ws : List Int) (b : Int) (k : Int) (a : Int) (c : Int) (t : Int) (on : Bool) (m : Int) : cM ps ws b k a c t on m = if k = 1 then tsM ps ws b a c m else if k = 3 then tnM ps ws a t m else if k = 4 then gvM ps ws a m else m := Classical.choose_spec cM_ex ps ws b k a c t on m
structure gW (n : Nat) (ws : List Int) : Prop where
  len : ws.length = 2 * n
  iin : ∀ x ∈ ws, InK .u32 x
  ok : okWs n ws
theorem gW.set {n : Nat} {ws : List Int} (h : gW n ws) {p t o r s : Int} {nn : Bool} (hp : 0 ≤ p ∧ p < n) (ho : o < n) : gW n (sW ws p t o r s nn) :=
  ⟨by rw [sW_len]; exact h.len, sW_in h.iin _ _ _ _ _ _, h.ok.set h.len hp ho⟩
theorem gW.own {n : Nat} {ws : List Int} (h : gW n ws) {p : Int} (hp : 0 ≤ p ∧ p < n) : gO ws p < n := by
  obtain ⟨q, rfl⟩ : ∃ q : Nat, p = (q : Int) := ⟨p.toNat, by omega⟩
  rw [gO_nat]
  exact (h.ok.out q (by omega)).2
theorem gW.rf {n : Nat} {ws : List Int} (h : gW n ws) {p d : Int} (hp : 0 ≤ p ∧ p < n) : gW n (rfW ws p d) := by
  rw [rfW_eq]
  exact h.set hp (h.own hp)
theorem gW.zero {n : Nat} (hn : 0 < n) : gW n (List.replicate (2 * n) 0) := ⟨by simp, fun x hx => by rw [(List.mem_replicate.1 hx).2]; simp [InK], okWs.zero n hn⟩
theorem err0 {c : Prop} [Decidable c] {e x : Int} (he : e ≠ 0) (h : (if c then e else x) = 0) : ¬ c ∧ x = 0 := by
  by_cases hc : c
  · rw [if_pos hc] at h; exact absurd h he
  · rw [if_neg hc] at h; exact ⟨hc, h⟩
theorem gW.call {ps : List (List Int)} {ws : List Int} (h : gW ps.length ws) (h1 : 1 ≤ ps.length) (b k a c t : Int) (on : Bool) : gW ps.length (cW ps ws b k a c t on) := by
  have z : (0 : Int) < ps.length := by omega
  rw [cW_eq]
  split
  · rw [tsW_eq]
    split
    · rename_i he
      rw [tsE_eq] at he
      obtain ⟨e1, he⟩ := err0 (by decide) he
      have e1 : hs ps a = true ∧ hs ps c = true := by simpa using e1
      exact (h.set (hs_t e1.1) (hs_t e1.1).2).set (hs_t e1.2) (hs_t e1.1).2
    · exact h
  · split
    · rw [tkW_eq]
      split
      · rename_i he
        rw [tkE_eq] at he
        obtain ⟨e1, he⟩ := err0 (by decide) he
        obtain ⟨e2, he⟩ := err0 (by decide) he
        obtain ⟨e3, he⟩ := err0 (by decide) he
        have e1 : hs ps a = true := by simpa using e1
        have e3 := Classical.not_not.1 e3
        exact (h.set (hs_t e1) (hs_t e3.1).2).rf (hs_t e3.1)
      · exact h
    · split
      · rw [tnW_eq]
        split
        · rename_i he
          rw [tnE_eq] at he
          obtain ⟨e1, he⟩ := err0 (by decide) he
          have e1 : hs ps a = true := by simpa using e1
          exact h.set (hs_t e1) (h.own (hs_t e1))
        · exact h
      · split
        · rw [gvW_eq]
          split
          · rename_i he
            rw [gvE_eq] at he
            obtain ⟨e1, he⟩ := err0 (by decide) he
            have e1 : hs ps a = true := by simpa using e1
            split
            · rename_i h2
              exact (h.set (hs_t e1) z).rf (hs_t h2.2.1)
            · exact h.set (hs_t e1) z
          · exact h
        · split
          · rw [ssW_eq]
            split
            · rename_i he
              rw [ssE_eq] at he
              obtain ⟨e1, he⟩ := err0 (by decide) he
              have e1 : hs ps a = true := by simpa using e1
              exact h.set (hs_t e1) (h.own (hs_t e1))
            · exact h
          · rw [seW_eq]
            split
            · rename_i he
              rw [seE_eq] at he
              obtain ⟨e1, he⟩ := err0 (by decide) he
              have e1 : hs ps a = true := by simpa using e1
              exact h.set (hs_t e1) (h.own (hs_t e1))
            · exact h
theorem p_zP {ps : List (List Int)} (h : ∀ p ∈ ps, p.length = 1024) (k : Int) : ∀ p ∈ zP ps k, p.length = 1024 := by
  intro x hx
  rcases List.mem_or_eq_of_mem_set hx with hx | rfl
  · exact h x hx
  · simp
theorem call_ps {ps : List (List Int)} {ws : List Int} (h : ∀ p ∈ ps, p.length = 1024) (b k a c t : Int) (on : Bool) : (cP ps ws b k a c t on).length = ps.length ∧ ∀ p ∈ cP ps ws b k a c t on, p.length = 1024 := by
  rw [cP_eq]
  split
  · rw [tsP_eq]
    split
    · rename_i he
      rw [tsE_eq] at he
      obtain ⟨e1, he⟩ := err0 (by decide) he
      have e1 : hs ps a = true ∧ hs ps c = true := by simpa using e1
      exact ⟨by rw [wP_len, wP_len, wP_len], p_wP (p_wP (p_wP h e1.1) (by rw [hs_wP]; exact e1.1)) (by rw [hs_wP, hs_wP]; exact e1.1)⟩
    · exact ⟨rfl, h⟩
  · split
    · rw [tnP_eq]
      split
      · exact ⟨zP_len _ _, p_zP h _⟩
      · exact ⟨rfl, h⟩
    · split
      · rw [gvP_eq]
        split
        · exact ⟨zP_len _ _, p_zP h _⟩
        · exact ⟨rfl, h⟩
      · exact ⟨rfl, h⟩
theorem call_m (ps : List (List Int)) (ws : List Int) (b k a c t : Int) (on : Bool) (m : Int) : m ≤ cM ps ws b k a c t on m ∧ cM ps ws b k a c t on m ≤ m + 1024 := by
  rw [cM_eq, tsM_eq, tnM_eq, gvM_eq]
  repeat' split
  all_goals omega
theorem call_b {ps : List (List Int)} {ws : List Int} {b : Int} (h0 : 0 ≤ b) (h1 : b ≤ 64) (k a c t : Int) (on : Bool) : 0 ≤ cB ps ws b k a c t on ∧ cB ps ws b k a c t on ≤ 64 := by
  rw [cB_eq]
  split
  · rw [tsB_eq]
    split
    · rename_i he
      rw [tsE_eq] at he
      obtain ⟨_, he⟩ := err0 (by decide) he
      obtain ⟨_, he⟩ := err0 (by decide) he
      obtain ⟨_, he⟩ := err0 (by decide) he
      obtain ⟨e4, _⟩ := err0 (by decide) he
      omega
    · exact ⟨h0, h1⟩
  · exact ⟨h0, h1⟩
structure okA (n : Nat) (b : Int) (ps qs : List (List Int)) (m : Int) (ws : List Int) (lim : Int) : Prop where
  pl : ps.length = n
  wf : wfD (2 * n) (2 * n) b ps qs m ws
  gw : gW n ws
  lm : m ≤ lim
theorem okA.call {n : Nat} {b : Int} {ps qs : List (List Int)} {m : Int} {ws : List Int} {lim : Int} (h : okA n b ps qs m ws lim) (hl : lim ≤ 3000000000000000000) (k a c t : Int) (on : Bool) :
    okA n (cB ps ws b k a c t on) (cP ps ws b k a c t on) qs (cM ps ws b k a c t on m) (cW ps ws b k a c t on) (lim + 1024) := by
  obtain ⟨rfl, wf, gw, lm⟩ := h
  have hg := gw.call wf.n1 b k a c t on
  have hp := call_ps (ws := ws) wf.p1 b k a c t on
  have hm := call_m ps ws b k a c t on m
  have hb := call_b (ps := ps) (ws := ws) wf.b0 wf.b1 k a c t on
  refine ⟨hp.1, ⟨by rw [hp.1], by rw [hp.1], by rw [hp.1]; exact hg.len, by rw [hp.1]; exact wf.n1, by rw [hp.1]; exact wf.n2, wf.q1, wf.q2, hg.iin, hb.1, hb.2, hp.2, wf.p2, by have := wf.m0; omega, by omega⟩, hg, by omega⟩
noncomputable def pt_Pj : List (Nat × (List SV → Option (List Prop × SV))) := []
theorem pt_Pj_ok : PureOK Try.prog (fun f => List.lookup f pt_Pj) := pure_list pt_Pj trivial
noncomputable def et_Pj : List (Nat × ECon) := [(53, c_TakeSpace), (54, c_Take), (106, c_Turn), (105, c_Give), (107, c_SetState), (108, c_SetEntered)]
theorem et_Pj_ok : ConOK Try.prog (fun f => List.lookup f et_Pj) := con_list et_Pj ⟨c_TakeSpace_e, c_Take_e, c_Turn_e, c_Give_e, c_SetState_e, c_SetEntered_e, trivial⟩
noncomputable abbrev cx_Pj (must : Nat → Option Bool := fun _ => none) (loop : Nat → SS → Option LoopSpec := fun _ _ => none) : Ctx := ⟨tab, inlG tab (fun f => List.lookup f pt_Pj) (fun f => List.lookup f et_Pj) fns (fun _ => {}) 1000 6, fun f => List.lookup f pt_Pj, must, loop, 0, 0, fun f => List.lookup f et_Pj⟩
theorem cx_Pj_ok (must : Nat → Option Bool) (loop : Nat → SS → Option LoopSpec) : CxOK Try.prog (cx_Pj must loop) := inlG_ok mixed tab_ok pt_Pj_ok et_Pj_ok fns_ok 6 _ _ _ _
theorem callD_ok (b : Int) (len L : Nat) (ps qs : List (List Int)) (m : Int) (ws : List Int) (k d a c t : Int) (on : Bool) (of v : Int) (h0 : wfD len L b ps qs m ws) : SemCall Try.prog 43 [.ptr 0 0, .agg [.int .i64 k, .int .i64 d, .int .i64 a, .int .i64 c, .int .i64 t, .bool on, .int .i64 of, .int .u32 v]] [some ⟨205, [.ptr 1 0, .int .i64 b, .on 2 len false], 0, none⟩, some ⟨181, [], 0, some (.own (.mem ps qs m))⟩, some ⟨34, [.ints .u32 L ws], 1, none⟩] (AltK [⟨none, .int .i64 (cE ps ws b k a c t on), [some ⟨205, [.ptr 1 0, .int .i64 (cB ps ws b k a c t on), .on 2 len false], 0, none⟩, some ⟨181, [], 0, some (.own (.mem (cP ps ws b k a c t on) qs (cM ps ws b k a c t on m)))⟩, some ⟨34, [.ints .u32 L (cW ps ws b k a c t on)], 1, none⟩]⟩]) := by
  refine con_intro mixed (cx_Pj_ok (fun _ => none) (fun _ _ => none)) Try.func43 1000 ?_
  refine of_nf (p := letI k0_ := (OT.mem (cP ps ws b k a c t on) qs (cM ps ws b k a c t on m)); letI k1_ := (len = len /\ false = false); ((k == 1) = true -> wfD len L b ps qs m ws /\ ∀ (m_1 : Int), m_1 = tsE ps ws b a c -> ∀ (m_2 : Int), m_2 = tsB ps ws b a c -> ∀ (ps' : List (List Int)), ps' = tsP ps ws b a c -> ∀ (qs' : List (List Int)), qs' = qs -> ∀ (m' : Int), m' = tsM ps ws b a c m -> ∀ (ys : List Int), ys = tsW ps ws b a c -> ∀ (m_3 : Int), m_3 = k -> ∀ (m_4 : Int), m_4 = d -> ∀ (m_5 : Int), m_5 = a -> ∀ (m_6 : Int), m_6 = c -> ∀ (m_7 : Int), m_7 = t -> ∀ (c_1 : Bool), c_1 = on -> ∀ (m_8 : Int), m_8 = of -> ∀ (m_9 : Int), m_9 = v -> (m_1 = cE ps ws b k a c t on /\ True) /\ (nat_lit 204 + (1 : Nat) = (205 : TypeId) /\ (0 : Nat) = (0 : Nat) /\ SV.ptr (1 : Nat) 0 = SV.ptr (1 : Nat) (0 : Nat) /\ m_2 = cB ps ws b k a c t on /\ k1_ /\ True) /\ (Ob.own (OT.mem ps' qs' m') = Ob.own k0_ /\ nat_lit 180 + (1 : Nat) = (181 : TypeId) /\ (0 : Nat) = (0 : Nat) /\ True) /\ (nat_lit 33 + (1 : Nat) = (34 : TypeId) /\ nat_lit 0 + (1 : Nat) = (1 : Nat) /\ @Bool.rec (fun _ => Prop) False (ys = cW ps ws b k a c t on) (true && L.beq L) /\ True) /\ True) /\ ((k == 1) = false -> ((k == 2) = true -> wfD len L b ps qs m ws /\ ∀ (m_1 : Int), m_1 = tkE ps ws a t c -> ∀ (m_2 : Int), m_2 = b -> ∀ (ps' : List (List Int)), ps' = ps -> ∀ (qs' : List (List Int)), qs' = qs -> ∀ (m' : Int), m' = m -> ∀ (ys : List Int), ys = tkW ps ws a t c -> ∀ (m_3 : Int), m_3 = k -> ∀ (m_4 : Int), m_4 = d -> ∀ (m_5 : Int), m_5 = a -> ∀ (m_6 : Int), m_6 = c -> ∀ (m_7 : Int), m_7 = t -> ∀ (c_1 : Bool), c_1 = on -> ∀ (m_8 : Int), m_8 = of -> ∀ (m_9 : Int), m_9 = v -> (m_1 = cE ps ws b k a c t on /\ True) /\ (nat_lit 204 + (1 : Nat) = (205 : TypeId) /\ (0 : Nat) = (0 : Nat) /\ SV.ptr (1 : Nat) 0 = SV.ptr (1 : Nat) (0 : Nat) /\ m_2 = cB ps ws b k a c t on /\ k1_ /\ True) /\ (Ob.own (OT.mem ps' qs' m') = Ob.own k0_ /\ nat_lit 180 + (1 : Nat) = (181 : TypeId) /\ (0 : Nat) = (0 : Nat) /\ True) /\ (nat_lit 33 + (1 : Nat) = (34 : TypeId) /\ nat_lit 0 + (1 : Nat) = (1 : Nat) /\ @Bool.rec (fun _ => Prop) False (ys = cW ps ws b k a c t on) (true && L.beq L) /\ True) /\ True) /\ ((k == 2) = false -> ((k == 3) = true -> wfD len L b ps qs m ws /\ ∀ (m_1 : Int), m_1 = tnE ps ws a t -> ∀ (m_2 : Int), m_2 = b -> ∀ (ps' : List (List Int)), ps' = tnP ps ws a t -> ∀ (qs' : List (List Int)), qs' = qs -> ∀ (m' : Int), m' = tnM ps ws a t m -> ∀ (ys : List Int), ys = tnW ps ws a t -> ∀ (m_3 : Int), m_3 = k -> ∀ (m_4 : Int), m_4 = d -> ∀ (m_5 : Int), m_5 = a -> ∀ (m_6 : Int), m_6 = c -> ∀ (m_7 : Int), m_7 = t -> ∀ (c_1 : Bool), c_1 = on -> ∀ (m_8 : Int), m_8 = of -> ∀ (m_9 : Int), m_9 = v -> (m_1 = cE ps ws b k a c t on /\ True) /\ (nat_lit 204 + (1 : Nat) = (205 : TypeId) /\ (0 : Nat) = (0 : Nat) /\ SV.ptr (1 : Nat) 0 = SV.ptr (1 : Nat) (0 : Nat) /\ m_2 = cB ps ws b k a c t on /\ k1_ /\ True) /\ (Ob.own (OT.mem ps' qs' m') = Ob.own k0_ /\ nat_lit 180 + (1 : Nat) = (181 : TypeId) /\ (0 : Nat) = (0 : Nat) /\ True) /\ (nat_lit 33 + (1 : Nat) = (34 : TypeId) /\ nat_lit 0 + (1 : Nat) = (1 : Nat) /\ @Bool.rec (fun _ => Prop) False (ys = cW ps ws b k a c t on) (true && L.beq L) /\ True) /\ True) /\ ((k == 3) = false -> ((k == 4) = true -> wfD len L b ps qs m ws /\ ∀ (m_1 : Int), m_1 = gvE ps ws a -> ∀ (m_2 : Int), m_2 = b -> ∀ (ps' : List (List Int)), ps' = gvP ps ws a -> ∀ (qs' : List (List Int)), qs' = qs -> ∀ (m' : Int), m' = gvM ps ws a m -> ∀ (ys : List Int), ys = gvW ps ws a -> ∀ (m_3 : Int), m_3 = k -> ∀ (m_4 : Int), m_4 = d -> ∀ (m_5 : Int), m_5 = a -> ∀ (m_6 : Int), m_6 = c -> ∀ (m_7 : Int), m_7 = t -> ∀ (c_1 : Bool), c_1 = on -> ∀ (m_8 : Int), m_8 = of -> ∀ (m_9 : Int), m_9 = v -> (m_1 = cE ps ws b k a c t on /\ True) /\ (nat_lit 204 + (1 : Nat) = (205 : TypeId) /\ (0 : Nat) = (0 : Nat) /\ SV.ptr (1 : Nat) 0 = SV.ptr (1 : Nat) (0 : Nat) /\ m_2 = cB ps ws b k a c t on /\ k1_ /\ True) /\ (Ob.own (OT.mem ps' qs' m') = Ob.own k0_ /\ nat_lit 180 + (1 : Nat) = (181 : TypeId) /\ (0 : Nat) = (0 : Nat) /\ True) /\ (nat_lit 33 + (1 : Nat) = (34 : TypeId) /\ nat_lit 0 + (1 : Nat) = (1 : Nat) /\ @Bool.rec (fun _ => Prop) False (ys = cW ps ws b k a c t on) (true && L.beq L) /\ True) /\ True) /\ ((k == 4) = false -> ((k == 5) = true -> wfD len L b ps qs m ws /\ ∀ (m_1 : Int), m_1 = ssE ps ws a t -> ∀ (m_2 : Int), m_2 = b -> ∀ (ps' : List (List Int)), ps' = ps -> ∀ (qs' : List (List Int)), qs' = qs -> ∀ (m' : Int), m' = m -> ∀ (ys : List Int), ys = ssW ps ws a t -> ∀ (m_3 : Int), m_3 = k -> ∀ (m_4 : Int), m_4 = d -> ∀ (m_5 : Int), m_5 = a -> ∀ (m_6 : Int), m_6 = c -> ∀ (m_7 : Int), m_7 = t -> ∀ (c_1 : Bool), c_1 = on -> ∀ (m_8 : Int), m_8 = of -> ∀ (m_9 : Int), m_9 = v -> (m_1 = cE ps ws b k a c t on /\ True) /\ (nat_lit 204 + (1 : Nat) = (205 : TypeId) /\ (0 : Nat) = (0 : Nat) /\ SV.ptr (1 : Nat) 0 = SV.ptr (1 : Nat) (0 : Nat) /\ m_2 = cB ps ws b k a c t on /\ k1_ /\ True) /\ (Ob.own (OT.mem ps' qs' m') = Ob.own k0_ /\ nat_lit 180 + (1 : Nat) = (181 : TypeId) /\ (0 : Nat) = (0 : Nat) /\ True) /\ (nat_lit 33 + (1 : Nat) = (34 : TypeId) /\ nat_lit 0 + (1 : Nat) = (1 : Nat) /\ @Bool.rec (fun _ => Prop) False (ys = cW ps ws b k a c t on) (true && L.beq L) /\ True) /\ True) /\ ((k == 5) = false -> wfD len L b ps qs m ws /\ ∀ (m_1 : Int), m_1 = seE ps ws a -> ∀ (m_2 : Int), m_2 = b -> ∀ (ps' : List (List Int)), ps' = ps -> ∀ (qs' : List (List Int)), qs' = qs -> ∀ (m' : Int), m' = m -> ∀ (ys : List Int), ys = seW ps ws a on -> ∀ (m_3 : Int), m_3 = k -> ∀ (m_4 : Int), m_4 = d -> ∀ (m_5 : Int), m_5 = a -> ∀ (m_6 : Int), m_6 = c -> ∀ (m_7 : Int), m_7 = t -> ∀ (c_1 : Bool), c_1 = on -> ∀ (m_8 : Int), m_8 = of -> ∀ (m_9 : Int), m_9 = v -> (m_1 = cE ps ws b k a c t on /\ True) /\ (nat_lit 204 + (1 : Nat) = (205 : TypeId) /\ (0 : Nat) = (0 : Nat) /\ SV.ptr (1 : Nat) 0 = SV.ptr (1 : Nat) (0 : Nat) /\ m_2 = cB ps ws b k a c t on /\ k1_ /\ True) /\ (Ob.own (OT.mem ps' qs' m') = Ob.own k0_ /\ nat_lit 180 + (1 : Nat) = (181 : TypeId) /\ (0 : Nat) = (0 : Nat) /\ True) /\ (nat_lit 33 + (1 : Nat) = (34 : TypeId) /\ nat_lit 0 + (1 : Nat) = (1 : Nat) /\ @Bool.rec (fun _ => Prop) False (ys = cW ps ws b k a c t on) (true && L.beq L) /\ True) /\ True)))))) (by kernel_rfl) ?_
  have H := h0
  simp only [↓forall_eq]
  repeat' (first | with_reducible rfl | exact True.intro | with_reducible assumption | exact OwnSame.mk fun _ => rfl | exact OwnSameE.mk fun _ => rfl | apply And.intro | apply pieceEq | intro _)
  all_goals first
    | rfl
    | exact H
    | (rw [cE_eq]; simp_all; done)
    | (rw [cB_eq]; simp_all; done)
    | (rw [cW_eq]; simp_all; done)
    | (refine memEq ?_ rfl ?_ <;> first | rfl | (rw [cP_eq]; simp_all; done) | (rw [cM_eq]; simp_all; done))
    | trace_state
noncomputable def c_callD : ECon
  | [.ptr 0 0, .agg [.int .i64 k, .int .i64 d, .int .i64 a, .int .i64 c, .int .i64 t, .bool on, .int .i64 of, .int .u32 v]], [some ⟨205, [.ptr 1 0, .int .i64 b, .on 2 len false], 0, none⟩, some ⟨181, [], 0, some (.own (.mem ps qs m))⟩, some ⟨34, [.ints .u32 L ws], 1, none⟩] => some ([wfD len L b ps qs m ws], [⟨none, .int .i64 (cE ps ws b k a c t on), [some ⟨205, [.ptr 1 0, .int .i64 (cB ps ws b k a c t on), .on 2 len false], 0, none⟩, some ⟨181, [], 0, some (.own (.mem (cP ps ws b k a c t on) qs (cM ps ws b k a c t on m)))⟩, some ⟨34, [.ints .u32 L (cW ps ws b k a c t on)], 1, none⟩]⟩])
  | _, _ => none
theorem c_callD_e : EEntry Try.prog 43 c_callD := by
  refine ⟨callFunc_ok Try.func43 (by kernel_rfl) (by kernel_rfl), fun args rows ps alts h hp => ?_⟩
  unfold c_callD at h
  split at h
  · cases h; exact callD_ok _ _ _ _ _ _ _ _ _ _ _ _ _ _ _ (hp _ (List.mem_of_getElem? (i := 0) rfl))
  · cases h
end Go.Proofs.Ytlndkfcnfhkbkaa
