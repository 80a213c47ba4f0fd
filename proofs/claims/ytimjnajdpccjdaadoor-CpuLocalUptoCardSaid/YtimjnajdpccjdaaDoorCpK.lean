/- Lists of places; what a walk may read. No condition beyond sizes. -/
import Derived.Test.YtimjnajdpccjdaaDoorCpI
namespace Go.Proofs.YtimjnajdpccjdaaDoor
set_option linter.unusedVariables false
set_option linter.unusedSimpArgs false
open Go.RowKit Sx
set_option maxRecDepth 100000
set_option maxHeartbeats 8000000
abbrev Plc := Bool × Int × Int
abbrev pcS_T (F0 : (List Plc) → Nat → Bool) : Prop := ∀ L e, F0 L e = (L.getD e (false, 0, 0)).1
theorem pcS_ex : ∃ F0, pcS_T F0 := ⟨_, fun _ _ => rfl⟩
noncomputable def pcS : (List Plc) → Nat → Bool := Classical.choose pcS_ex
theorem pcS_eq : pcS_T pcS := Classical.choose_spec pcS_ex
abbrev pcP_T (F0 : (List Plc) → Nat → Int) : Prop := ∀ L e, F0 L e = (L.getD e (false, 0, 0)).2.1
theorem pcP_ex : ∃ F0, pcP_T F0 := ⟨_, fun _ _ => rfl⟩
noncomputable def pcP : (List Plc) → Nat → Int := Classical.choose pcP_ex
theorem pcP_eq : pcP_T pcP := Classical.choose_spec pcP_ex
abbrev pcO_T (F0 : (List Plc) → Nat → Int) : Prop := ∀ L e, F0 L e = (L.getD e (false, 0, 0)).2.2
theorem pcO_ex : ∃ F0, pcO_T F0 := ⟨_, fun _ _ => rfl⟩
noncomputable def pcO : (List Plc) → Nat → Int := Classical.choose pcO_ex
theorem pcO_eq : pcO_T pcO := Classical.choose_spec pcO_ex
noncomputable def pcF (L : List Plc) (e : Nat) : List SV := [.bool (pcS L e), .int .i64 (pcP L e), .int .i64 (pcO L e)]
abbrev tbR_T (F0 : (List (List Int)) → (List (List Int)) → Int → Int → List Plc) : Prop := ∀ ps qs l1 va, F0 ps qs l1 va = if (splitS va).2.2.2 ≠ 0 then [] else if (pfS (rdW true l1 (splitS va).1 ps qs)).2 ≠ 0 then [(true, l1, (splitS va).1)] else [(true, l1, (splitS va).1), (true, (pfS (rdW true l1 (splitS va).1 ps qs)).1, (splitS va).2.1)]
theorem tbR_ex : ∃ F0, tbR_T F0 := ⟨_, fun _ _ _ _ => rfl⟩
noncomputable def tbR : (List (List Int)) → (List (List Int)) → Int → Int → List Plc := Classical.choose tbR_ex
theorem tbR_eq : tbR_T tbR := Classical.choose_spec tbR_ex
theorem pcF_left {a b : List Plc} {x : Nat} (h : x < a.length) : pcS (a ++ b) x = pcS a x ∧ pcP (a ++ b) x = pcP a x ∧ pcO (a ++ b) x = pcO a x := by
  simp only [pcS_eq, pcP_eq, pcO_eq, List.getD_eq_getElem?_getD, List.getElem?_append_left h, and_self]
theorem pcF_right {a b : List Plc} {x : Nat} (h : ¬ x < a.length) : pcS (a ++ b) x = pcS b (x - a.length) ∧ pcP (a ++ b) x = pcP b (x - a.length) ∧ pcO (a ++ b) x = pcO b (x - a.length) := by
  simp only [pcS_eq, pcP_eq, pcO_eq, List.getD_eq_getElem?_getD, List.getElem?_append_right (Nat.le_of_not_lt h), and_self]
theorem pcF_one (s : Bool) (p o : Int) : pcS [(s, p, o)] 0 = s ∧ pcP [(s, p, o)] 0 = p ∧ pcO [(s, p, o)] 0 = o := by
  simp only [pcS_eq, pcP_eq, pcO_eq]; exact ⟨rfl, rfl, rfl⟩
section
variable {W : World} {F : Nat → Prop} {ρ : Num} {w : World}
theorem remany {T : Sx.Rows} {ty sz n : Nat} {cs : List SV} {f : Nat → List SV} (hm : MemOK W F ρ (T ++ [some ⟨ty, cs, 0, none⟩]) w)
    (hT : ∀ (i : Nat) (r : Row), T[i]? = some (some r) → r.cs = []) (h0 : 0 < n) (hz : 0 < sz) (hf : ∀ e, e < n → scL (f e) = true ∧ (f e).length = sz) (hc : ∀ vs, CellsOK ρ cs vs → vs = recCells sz n f) :
    MemOK W F (addB ρ T.length ((ρ T.length).1, n)) (T ++ [some ⟨ty, [.many sz n f], sz, none⟩]) w := by
  have hold : (T ++ [some (⟨ty, cs, 0, none⟩ : Row)])[T.length]? = some (some ⟨ty, cs, 0, none⟩) := by simp
  have hh : Has ρ T.length (⟨ty, cs, 0, none⟩ : Row) := ⟨rfl, .inl rfl⟩
  rcases (hm.row _ _ hold).1 with ⟨_, c, l, rest, g1, g2, g3, g4, g5⟩ | ⟨hn, _⟩
  rotate_left
  · exact absurd hh hn
  have hrest := g4 rfl
  subst hrest
  have hl := hc l g3
  have old : ∀ {i : Nat} {r : Row}, T[i]? = some (some r) → (T ++ [some (⟨ty, cs, 0, none⟩ : Row)])[i]? = some (some r) := fun h => by
    rw [List.getElem?_append_left (List.getElem?_eq_some_iff.1 h).1]; exact h
  have get : ∀ {i : Nat} {u : Row}, (T ++ [some (⟨ty, [.many sz n f], sz, none⟩ : Row)])[i]? = some (some u) → (i < T.length ∧ T[i]? = some (some u)) ∨ (i = T.length ∧ u = ⟨ty, [.many sz n f], sz, none⟩) := by
    intro i u h
    by_cases hl : i < T.length
    · rw [List.getElem?_append_left hl] at h; exact .inl ⟨hl, h⟩
    · rw [List.getElem?_append_right (by omega)] at h
      by_cases h0 : i - T.length = 0
      · rw [h0] at h; simp at h; exact .inr ⟨by omega, h.symm⟩
      · rw [List.getElem?_eq_none (by simp; omega)] at h; cases h
  have cong : ∀ i, i < T.length → addB ρ T.length ((ρ T.length).1, n) i = ρ i := fun i h => addB_lt h
  have empty : ∀ {i : Nat} {r : Row} {ρ1 ρ2 : Num}, T[i]? = some (some r) → ∀ vs, CellsOK ρ1 r.cs vs → CellsOK ρ2 r.cs vs := fun h vs hv => by
    rw [hT _ _ h] at hv ⊢; exact hv
  refine ⟨hm.frame, hm.glob, fun i u hi => ?_, fun i j u v hi hj h1 h2 he => ?_, fun i u hi hu => ?_, ?_⟩
  · rcases get hi with ⟨hl1, hi⟩ | ⟨rfl, rfl⟩
    · obtain ⟨c1, c2⟩ := hm.row i u (old hi)
      exact ⟨c1.map (cong i hl1) rfl rfl rfl (fun _ => rfl) (empty hi), by rw [hT _ _ hi]; trivial⟩
    · refine ⟨.inl ⟨⟨rfl, .inr (by rw [addB_eq]; show n ≠ 0; omega)⟩, c, l, [], by rw [addB_eq]; exact g1, g2, ⟨[], by rw [hl, List.append_nil], rfl⟩, fun _ => rfl, fun _ => ?_⟩, ⟨hf, trivial⟩⟩
      rw [addB_eq, ← Array.length_toList, g2, List.append_nil, hl, recCells_length]
  · rcases get hi with ⟨hl1, hi⟩ | ⟨rfl, rfl⟩
    · rcases get hj with ⟨kl, hj⟩ | ⟨rfl, rfl⟩
      · rw [cong i hl1, cong j kl] at he
        exact hm.inj i j u v (old hi) (old hj) (h1.map (cong i hl1) rfl rfl) (h2.map (cong j kl) rfl rfl) he
      · rw [cong i hl1, addB_eq] at he
        have := hm.inj i _ u _ (old hi) hold (h1.map (cong i hl1) rfl rfl) hh he
        omega
    · rcases get hj with ⟨kl, hj⟩ | ⟨rfl, rfl⟩
      · rw [cong j kl, addB_eq] at he
        have := hm.inj _ j _ v hold (old hj) hh (h2.map (cong j kl) rfl rfl) he
        omega
      · rfl
  · rcases get hi with ⟨hl1, hi⟩ | ⟨rfl, rfl⟩
    · rw [cong i hl1]; exact hm.mine i u (old hi) (hu.map (cong i hl1) rfl rfl)
    · rw [addB_eq]; exact hm.mine _ _ hold hh
  · obtain ⟨φ, hφ⟩ := hm.obs
    refine ⟨φ, hφ.keep (fun i r hi ho => ?_) (Nat.le_refl _) (fun _ _ _ => rfl) (fun j q hj hq => .inr ?_)⟩
    · rcases get hi with ⟨hl1, hi⟩ | ⟨rfl, rfl⟩
      · exact ⟨r, old hi, rfl, cong i hl1, empty hi⟩
      · exact absurd rfl ho
    · rcases get hj with ⟨hl1, hj⟩ | ⟨rfl, rfl⟩
      · exact ⟨j, q, old hj, hq.map (cong j hl1) rfl rfl, by rw [cong j hl1]⟩
      · exact ⟨_, _, hold, hh, by rw [addB_eq]⟩
end
noncomputable def pt_Ck : List (Nat × (List SV → Option (List Prop × SV))) := [(18, c_num10), (91, c_Split), (102, c_ParseFirst)]
theorem pt_Ck_ok : PureOK Tryd.prog (fun f => List.lookup f pt_Ck) := pure_list pt_Ck ⟨c_num10_e, c_Split_e, c_ParseFirst_e, trivial⟩
noncomputable def et_Ck : List (Nat × ECon) := [(16, c_PeekM)]
theorem et_Ck_ok : ConOK Tryd.prog (fun f => List.lookup f et_Ck) := con_list et_Ck ⟨c_PeekM_e, trivial⟩
noncomputable abbrev cx_Ck (must : Nat → Option Bool := fun _ => none) (loop : Nat → SS → Option LoopSpec := fun _ _ => none) (fz : Nat → SS → List Nat := fun _ _ => []) (on : Bool := false) : Ctx := ⟨tab, inlG tab (fun f => List.lookup f pt_Ck) (fun f => List.lookup f et_Ck) fns (fun _ => {}) 1000 6, fun f => List.lookup f pt_Ck, must, loop, 0, 0, fun f => List.lookup f et_Ck, fz, on⟩
theorem cx_Ck_ok (must : Nat → Option Bool) (loop : Nat → SS → Option LoopSpec) (fz : Nat → SS → List Nat) (on : Bool) : CxOK Tryd.prog (cx_Ck must loop fz on) := inlG_ok mixed tab_ok pt_Ck_ok et_Ck_ok fns_ok 6 _ _ _ _ _ _
theorem tables10X_ok (m : Int) (ps qs : List (List Int)) (l1 va : Int) (h0 : wfS l1 ps qs m) (h1 : InK .u32 va) : SemCall Tryd.prog 63 [.ptr 0 0, .int .i64 l1, .int .u32 va] [some ⟨120, [], 0, some (.own (.mem ps qs m))⟩] (AltK [⟨some ((splitS va).2.2.2 ≠ 0), .val (.slice none 0 0), [some ⟨120, [], 0, some (.own (.mem ps qs m))⟩]⟩, ⟨some ((splitS va).2.2.2 = 0 ∧ (pfS (rdW true l1 (splitS va).1 ps qs)).2 ≠ 0), .sl 1 0 1 1, [some ⟨120, [], 0, some (.own (.mem ps qs m))⟩, some ⟨36, [.bool true, .int .i64 l1, .int .i64 ((splitS va).1)], 0, none⟩]⟩, ⟨some ((splitS va).2.2.2 = 0 ∧ (pfS (rdW true l1 (splitS va).1 ps qs)).2 = 0), .sl 1 0 2 2, [some ⟨120, [], 0, some (.own (.mem ps qs m))⟩, some ⟨36, [.bool true, .int .i64 l1, .int .i64 ((splitS va).1), .bool true, .int .i64 (pfS (rdW true l1 (splitS va).1 ps qs)).1, .int .i64 ((splitS va).2.1)], 0, none⟩]⟩]) := by
  refine con_intro mixed (cx_Ck_ok (fun _ => none) (fun _ _ => none) (fun _ _ => []) false) Tryd.func63 1000 ?_
  refine of_nf (p := letI k0_ := (Ob.own (OT.mem ps qs m) = Ob.own (OT.mem ps qs m) /\ (120 : TypeId) = (120 : TypeId) /\ (0 : Nat) = (0 : Nat) /\ True); letI k1_ := (pfS (rdW true l1 (splitS va).fst ps qs)); letI k2_ := (Value.slice none (0 : Nat) (0 : Nat)); (0 <= va /\ va < 4294967296) /\ (((splitS va).snd.snd.2 != 0) = true -> (splitS va).snd.snd.2 ≠ 0 /\ (SV.val k2_ = SV.val k2_ /\ True) /\ k0_ /\ True ∨ ((splitS va).snd.snd.2 = 0 /\ k1_.2 ≠ 0) /\ (SV.val k2_ = SV.sl (1 : Nat) (0 : Nat) (1 : Nat) (1 : Nat) /\ True) /\ k0_ /\ False ∨ ((splitS va).snd.snd.2 = 0 /\ k1_.2 = 0) /\ (SV.val k2_ = SV.sl (1 : Nat) (0 : Nat) (2 : Nat) (2 : Nat) /\ True) /\ k0_ /\ False) /\ (((splitS va).snd.snd.2 != 0) = false -> ∀ (m_1 : Int), m_1 = rdW true l1 (splitS va).1 ps qs -> ∀ (ps' : List (List Int)), ps' = ps -> ∀ (qs' : List (List Int)), qs' = qs -> ∀ (m' : Int), m' = m -> ∀ (m_2 : Int), m_2 = l1 -> ∀ (m_3 : Int), m_3 = (splitS va).1 -> (0 <= m_1 /\ m_1 < 4294967296) /\ (((pfS m_1).2 != 0) = true -> (splitS va).snd.snd.2 ≠ 0 /\ (SV.sl (2 : Nat) (0 : Nat) (1 : Nat) 1 = SV.val k2_ /\ True) /\ (Ob.own (OT.mem ps' qs' m') = Ob.own (OT.mem ps qs m) /\ nat_lit 119 + (1 : Nat) = (120 : TypeId) /\ (0 : Nat) = (0 : Nat) /\ True) /\ True ∨ ((splitS va).snd.snd.2 = 0 /\ k1_.2 ≠ 0) /\ (SV.sl (1 : Nat) (0 : Nat) (1 : Nat) 1 = SV.sl (1 : Nat) (0 : Nat) (1 : Nat) (1 : Nat) /\ True) /\ (Ob.own (OT.mem ps' qs' m') = Ob.own (OT.mem ps qs m) /\ nat_lit 119 + (1 : Nat) = (120 : TypeId) /\ (0 : Nat) = (0 : Nat) /\ True) /\ (nat_lit 35 + (1 : Nat) = (36 : TypeId) /\ (0 : Nat) = (0 : Nat) /\ true = true /\ m_2 = l1 /\ m_3 = (splitS va).1 /\ True) /\ True ∨ ((splitS va).snd.snd.2 = 0 /\ k1_.2 = 0) /\ (SV.sl (1 : Nat) (0 : Nat) (1 : Nat) 1 = SV.sl (1 : Nat) (0 : Nat) (2 : Nat) (2 : Nat) /\ True) /\ (Ob.own (OT.mem ps' qs' m') = Ob.own (OT.mem ps qs m) /\ nat_lit 119 + (1 : Nat) = (120 : TypeId) /\ (0 : Nat) = (0 : Nat) /\ True) /\ (nat_lit 35 + (1 : Nat) = (36 : TypeId) /\ (0 : Nat) = (0 : Nat) /\ true = true /\ m_2 = l1 /\ m_3 = (splitS va).1 /\ False) /\ True) /\ (((pfS m_1).2 != 0) = false -> (splitS va).snd.snd.2 ≠ 0 /\ (SV.sl (2 : Nat) (0 : Nat) (2 : Nat) 2 = SV.val k2_ /\ True) /\ (Ob.own (OT.mem ps' qs' m') = Ob.own (OT.mem ps qs m) /\ nat_lit 119 + (1 : Nat) = (120 : TypeId) /\ (0 : Nat) = (0 : Nat) /\ True) /\ True ∨ ((splitS va).snd.snd.2 = 0 /\ k1_.2 ≠ 0) /\ (SV.sl (1 : Nat) (0 : Nat) (2 : Nat) 2 = SV.sl (1 : Nat) (0 : Nat) (1 : Nat) (1 : Nat) /\ True) /\ (Ob.own (OT.mem ps' qs' m') = Ob.own (OT.mem ps qs m) /\ nat_lit 119 + (1 : Nat) = (120 : TypeId) /\ (0 : Nat) = (0 : Nat) /\ True) /\ (nat_lit 35 + (1 : Nat) = (36 : TypeId) /\ (0 : Nat) = (0 : Nat) /\ true = true /\ m_2 = l1 /\ m_3 = (splitS va).1 /\ False) /\ True ∨ ((splitS va).snd.snd.2 = 0 /\ k1_.2 = 0) /\ (SV.sl (1 : Nat) (0 : Nat) (2 : Nat) 2 = SV.sl (1 : Nat) (0 : Nat) (2 : Nat) (2 : Nat) /\ True) /\ (Ob.own (OT.mem ps' qs' m') = Ob.own (OT.mem ps qs m) /\ nat_lit 119 + (1 : Nat) = (120 : TypeId) /\ (0 : Nat) = (0 : Nat) /\ True) /\ (nat_lit 35 + (1 : Nat) = (36 : TypeId) /\ (0 : Nat) = (0 : Nat) /\ true = true /\ m_2 = l1 /\ m_3 = (splitS va).1 /\ true = true /\ (pfS m_1).1 = k1_.1 /\ (splitS va).snd.1 = (splitS va).snd.1 /\ True) /\ True))) (by kernel_rfl) ?_
  have hr := rdW_in (t := true) (k := l1) (off := (splitS va).1) h0.p1 h0.p2
  simp only [InK] at h1 hr
  simp only [↓forall_eq]
  refine ⟨h1, fun e => .inl ?_, fun e => ⟨hr, fun f => .inr (.inl ?_), fun f => .inr (.inr ?_)⟩⟩
  all_goals (try have e := (bne_iff_ne.1 e))
  all_goals (try have e := (bne_eq_false_iff_eq.1 e))
  all_goals (try have f := (bne_iff_ne.1 f))
  all_goals (try have f := (bne_eq_false_iff_eq.1 f))
  all_goals repeat' (first | with_reducible rfl | exact True.intro | with_reducible assumption | apply And.intro)
  all_goals rfl
theorem sc_pcF (L : List Plc) (e : Nat) : scL (pcF L e) = true ∧ (pcF L e).length = 3 := ⟨rfl, rfl⟩
noncomputable def c_tables10 : ECon
  | [.ptr 0 0, .int .i64 l1, .int .u32 va], [some ⟨120, [], 0, some (.own (.mem ps qs m))⟩] => some ([wfS l1 ps qs m, InK .u32 va], [⟨none, .on 1 (tbR ps qs l1 va).length true, [some ⟨120, [], 0, some (.own (.mem ps qs m))⟩, some ⟨36, [.many 3 (tbR ps qs l1 va).length (pcF (tbR ps qs l1 va))], 3, none⟩]⟩])
  | _, _ => none
theorem c_tables10_e : EEntry Tryd.prog 63 c_tables10 := by
  refine ⟨callFunc_ok Tryd.func63 (by kernel_rfl) (by kernel_rfl), fun args rows ps' alts h hp => ?_⟩
  unfold c_tables10 at h
  split at h
  · rename_i l1 va ps qs m
    cases h
    have h0 := hp _ (List.mem_of_getElem? (i := 0) rfl)
    have h1 := hp _ (List.mem_of_getElem? (i := 1) rfl)
    intro W F ρ w hm ho
    refine (tables10X_ok m ps qs l1 va h0 h1 W F ρ w hm ho).mono ?_
    rintro e w' ⟨ρ', res, rows', ⟨x, hx, hh, rfl, rfl⟩, rfl, g2, g3, g4, g5⟩
    have hOB : ∀ (i : Nat) (r : Row), ([some ⟨120, [], 0, some (.own (.mem ps qs m))⟩] : Sx.Rows)[i]? = some (some r) → r.cs = [] := fun i r hi => by
      cases i with
      | zero => rw [List.getElem?_cons_zero] at hi; cases hi; rfl
      | succ i => rw [List.getElem?_cons_succ, List.getElem?_nil] at hi; cases hi
    simp only [List.mem_cons, List.not_mem_nil, or_false] at hx
    rcases hx with rfl | rfl | rfl
    · have hh : (splitS va).2.2.2 ≠ 0 := hh
      have hL : tbR ps qs l1 va = [] := by rw [tbR_eq, if_pos hh]
      rw [hL]
      exact ⟨addN ρ' 1, .on 1 0 true, _, ⟨_, List.mem_singleton.2 rfl, trivial, rfl, rfl⟩, by simp [den, listV, addN], (show 1 < 2 by decide), g3.phantom (q := ⟨36, [.many 3 0 (pcF [])], 3, none⟩) rfl, (show 1 ≤ 2 by decide), fun i hi => (addN_lt hi).trans (g5 i hi)⟩
    · have hh : (splitS va).2.2.2 = 0 ∧ (pfS (rdW true l1 (splitS va).1 ps qs)).2 ≠ 0 := hh
      have hL : tbR ps qs l1 va = [(true, l1, (splitS va).1)] := by rw [tbR_eq, if_neg (by simp [hh.1]), if_pos hh.2]
      rw [hL]
      refine ⟨addB ρ' 1 ((ρ' 1).1, 1), .on 1 1 true, _, ⟨_, List.mem_singleton.2 rfl, trivial, rfl, rfl⟩, by simp [den, listV, addB], (show 1 < 2 by decide), remany (T := [some ⟨120, [], 0, some (.own (.mem ps qs m))⟩]) (n := 1) (sz := 3) g3 hOB (by decide) (by decide) (fun e _ => sc_pcF _ e) (fun vs hv => ?_), (show 1 ≤ 2 by decide), fun i hi => (addB_lt hi).trans (g5 i hi)⟩
      simp only [CellsOK] at hv
      obtain ⟨t1, rfl, t2, rfl, t3, rfl, rfl⟩ := hv
      simp [recCells, den, scC, pcF, pcS_eq, pcP_eq, pcO_eq, List.range_succ]
    · have hh : (splitS va).2.2.2 = 0 ∧ (pfS (rdW true l1 (splitS va).1 ps qs)).2 = 0 := hh
      have hL : tbR ps qs l1 va = [(true, l1, (splitS va).1), (true, (pfS (rdW true l1 (splitS va).1 ps qs)).1, (splitS va).2.1)] := by rw [tbR_eq, if_neg (by simp [hh.1]), if_neg (by simp [hh.2])]
      rw [hL]
      refine ⟨addB ρ' 1 ((ρ' 1).1, 2), .on 1 2 true, _, ⟨_, List.mem_singleton.2 rfl, trivial, rfl, rfl⟩, by simp [den, listV, addB], (show 1 < 2 by decide), remany (T := [some ⟨120, [], 0, some (.own (.mem ps qs m))⟩]) (n := 2) (sz := 3) g3 hOB (by decide) (by decide) (fun e _ => sc_pcF _ e) (fun vs hv => ?_), (show 1 ≤ 2 by decide), fun i hi => (addB_lt hi).trans (g5 i hi)⟩
      simp only [CellsOK] at hv
      obtain ⟨t1, rfl, t2, rfl, t3, rfl, t4, rfl, t5, rfl, t6, rfl, rfl⟩ := hv
      simp [recCells, den, scC, pcF, pcS_eq, pcP_eq, pcO_eq, List.range_succ]
  · cases h
end Go.Proofs.YtimjnajdpccjdaaDoor
