/- The database that a statement begins with; two lists alike. No condition beyond sizes. -/
import Derived.Test.YtlndkfcnfhkbkaaPdJ
namespace Go.Proofs.Ytlndkfcnfhkbkaa
open Go.RowKit Sx
set_option linter.unusedVariables false
set_option linter.unusedSimpArgs false
set_option maxRecDepth 100000
set_option maxHeartbeats 8000000
theorem same_step {a b : List Int} {x : Nat} (hl : a.length = b.length) (h : a.take x = b.take x) (hx : x < a.length) : ((a.getD x 0 != b.getD x 0) = false → a.take (x + 1) = b.take (x + 1)) ∧ ((a.getD x 0 != b.getD x 0) = true → (a == b) = false) := by
  have ea : a.getD x 0 = a[x] := by rw [List.getD_eq_getElem?_getD, List.getElem?_eq_getElem hx]; rfl
  have eb : b.getD x 0 = b[x]'(by omega) := by rw [List.getD_eq_getElem?_getD, List.getElem?_eq_getElem (by omega)]; rfl
  refine ⟨fun e => ?_, fun e => ?_⟩
  · rw [List.take_add_one, List.take_add_one, h, List.getElem?_eq_getElem hx, List.getElem?_eq_getElem (show x < b.length by omega)]
    simp only [bne_eq_false_iff_eq] at e
    rw [← ea, ← eb, e]
  · simp only [bne_iff_ne, ne_eq] at e
    apply beq_false_of_ne
    rintro rfl
    exact e rfl
theorem pieceEq {p : Prop} {a b : Nat} (h : a = b) (hp : p) : (Bool.rec False p (true && Nat.beq a b) : Prop) := by
  subst h
  rw [Nat.beq_refl]
  exact hp
def W0 : List Int := [0, 0, 0, 0, 0, 0, 0, 0, 0, 0, 0, 0, 0, 0, 0, 0]
def W1 : List Int := [17, 1, 3, 0, 0, 0, 0, 0, 0, 0, 0, 0, 0, 0, 0, 0]
def W2 : List Int := [17, 2, 3, 0, 5, 0, 0, 0, 0, 0, 0, 0, 0, 0, 0, 0]
def W3 : List Int := [17, 0, 0, 0, 0, 0, 0, 0, 0, 0, 0, 0, 0, 0, 0, 0]
theorem hs8 {ps : List (List Int)} (h : ps.length = 8) (p : Int) (hp : decide (0 ≤ p ∧ p < 8) = true) : hs ps p = true := by
  have hp := of_decide_eq_true hp
  unfold hs
  rw [h]
  simp
  omega
theorem t00 : gT W0 0 = 0 := by
  rw [gT_eq, dT_eq]
  decide
theorem t01 : gT W0 1 = 0 := by
  rw [gT_eq, dT_eq]
  decide
theorem s0 : sW (sW W0 0 1 0 1 1 false) 1 3 0 0 0 false = W1 := by
  rw [sW_eq, sW_eq, nW_eq, nW_eq, nR_eq, nR_eq]
  decide
theorem t12 : gT W1 2 = 0 := by
  rw [gT_eq, dT_eq]
  decide
theorem t10 : gT W1 0 = 1 := by
  rw [gT_eq, dT_eq]
  decide
theorem r10 : gR W1 0 = 1 := by
  rw [gR_eq, dR_eq]
  decide
theorem s1 : rfW (sW W1 2 5 0 0 0 false) 0 1 = W2 := by
  rw [rfW_eq, gT_eq, gO_eq, gR_eq, gS_eq, gN_eq, dT_eq, dO_eq, dR_eq, dS_eq, dN_eq, sW_eq, sW_eq, nW_eq, nW_eq, nR_eq, nR_eq]
  decide
theorem t22 : gT W2 2 = 5 := by
  rw [gT_eq, dT_eq]
  decide
theorem o22 : gO W2 2 = 0 := by
  rw [gO_eq, dO_eq]
  decide
theorem s2 : gT (sW W2 2 0 0 0 0 false) 0 = 1 := by
  rw [gT_eq, dT_eq, sW_eq, nW_eq, nR_eq]
  decide
theorem s3 : gR (sW W2 2 0 0 0 0 false) 0 = 2 := by
  rw [gR_eq, dR_eq, sW_eq, nW_eq, nR_eq]
  decide
theorem s4 : rfW (sW W2 2 0 0 0 0 false) 0 (-1) = W1 := by
  rw [rfW_eq, gT_eq, gO_eq, gR_eq, gS_eq, gN_eq, dT_eq, dO_eq, dR_eq, dS_eq, dN_eq, sW_eq, sW_eq, nW_eq, nW_eq, nR_eq, nR_eq]
  decide
theorem t11 : gT W1 1 = 3 := by
  rw [gT_eq, dT_eq]
  decide
theorem o11 : gO W1 1 = 0 := by
  rw [gO_eq, dO_eq]
  decide
theorem s5 : gT (sW W1 1 0 0 0 0 false) 0 = 1 := by
  rw [gT_eq, dT_eq, sW_eq, nW_eq, nR_eq]
  decide
theorem s6 : gR (sW W1 1 0 0 0 0 false) 0 = 1 := by
  rw [gR_eq, dR_eq, sW_eq, nW_eq, nR_eq]
  decide
theorem s7 : rfW (sW W1 1 0 0 0 0 false) 0 (-1) = W3 := by
  rw [rfW_eq, gT_eq, gO_eq, gR_eq, gS_eq, gN_eq, dT_eq, dO_eq, dR_eq, dS_eq, dN_eq, sW_eq, sW_eq, nW_eq, nW_eq, nR_eq, nR_eq]
  decide
theorem t30 : gT W3 0 = 1 := by
  rw [gT_eq, dT_eq]
  decide
theorem r30 : gR W3 0 = 0 := by
  rw [gR_eq, dR_eq]
  decide
theorem s8_ : sW W3 0 0 0 0 0 false = W0 := by
  rw [sW_eq, nW_eq, nR_eq]
  decide
theorem fr0 : cntL W0 (List.range 8) = 8 := by
  have e : ∀ p : Nat, p < 8 → gT W0 (p : Int) = 0 := fun p hp => by
    rw [gT_eq, dT_eq]
    rcases (by omega : p = 0 ∨ p = 1 ∨ p = 2 ∨ p = 3 ∨ p = 4 ∨ p = 5 ∨ p = 6 ∨ p = 7) with rfl | rfl | rfl | rfl | rfl | rfl | rfl | rfl <;> decide
  unfold cntL
  rw [List.filter_eq_self.2 (fun x hx => by simpa using e x (by simpa using hx))]
  rfl
section
variable {ps : List (List Int)} (h : ps.length = 8)
include h
theorem b1E : tsE ps W0 0 0 1 = 0 := by rw [tsE_eq, hs8 h _ (by decide), hs8 h _ (by decide), t00, t01]; decide
theorem b1W : tsW ps W0 0 0 1 = W1 := by rw [tsW_eq, if_pos (b1E h), s0]
theorem b1B : tsB ps W0 0 0 1 = 1 := by rw [tsB_eq, if_pos (b1E h)]; rfl
theorem b1P : tsP ps W0 0 0 1 = wP (wP (wP ps 0 0 1) 0 1 0) 0 2 0 := by rw [tsP_eq, if_pos (b1E h)]
theorem b1M (m : Int) : tsM ps W0 0 0 1 m = m + 3 := by rw [tsM_eq, if_pos (b1E h)]
theorem b2E : tkE ps W1 2 5 0 = 0 := by rw [tkE_eq, hs8 h _ (by decide), hs8 h _ (by decide), t12, t10, r10]; decide
theorem b2W : tkW ps W1 2 5 0 = W2 := by rw [tkW_eq, if_pos (b2E h), s1]
theorem b3E : gvE ps W2 2 = 0 := by rw [gvE_eq, hs8 h _ (by decide), t22]; decide
theorem b3W : gvW ps W2 2 = W1 := by rw [gvW_eq, if_pos (b3E h), o22, hs8 h _ (by decide), t22, s2, s3, if_pos (by decide), s4]
theorem b3P : gvP ps W2 2 = zP ps 2 := by rw [gvP_eq, if_pos (b3E h)]
theorem b3M (m : Int) : gvM ps W2 2 m = m + 1024 := by rw [gvM_eq, if_pos (b3E h)]
theorem b4E : gvE ps W1 1 = 0 := by rw [gvE_eq, hs8 h _ (by decide), t11]; decide
theorem b4W : gvW ps W1 1 = W3 := by rw [gvW_eq, if_pos (b4E h), o11, hs8 h _ (by decide), t11, s5, s6, if_pos (by decide), s7]
theorem b4P : gvP ps W1 1 = zP ps 1 := by rw [gvP_eq, if_pos (b4E h)]
theorem b4M (m : Int) : gvM ps W1 1 m = m + 1024 := by rw [gvM_eq, if_pos (b4E h)]
theorem b5E : gvE ps W3 0 = 0 := by rw [gvE_eq, hs8 h _ (by decide), t30, r30]; decide
theorem b5W : gvW ps W3 0 = W0 := by rw [gvW_eq, if_pos (b5E h), t30, if_neg (fun h => h.1 rfl), s8_]
theorem b5P : gvP ps W3 0 = zP ps 0 := by rw [gvP_eq, if_pos (b5E h)]
theorem b5M (m : Int) : gvM ps W3 0 m = m + 1024 := by rw [gvM_eq, if_pos (b5E h)]
end
abbrev Zs (n : Nat) : List (List Int) := List.replicate n (List.replicate 1024 0)
theorem zp (n : Nat) : ∀ p ∈ Zs n, p.length = 1024 := fun p hp => by rw [(List.mem_replicate.1 hp).2]; simp
theorem wfB {b : Int} {ps : List (List Int)} {m : Int} {ws : List Int} (hl : ps.length = 8) (hp : ∀ p ∈ ps, p.length = 1024) (hw : decide (ws.length = 16 ∧ ∀ x ∈ ws, 0 ≤ x ∧ x < 4294967296) = true) (hb : 0 ≤ b ∧ b ≤ 64) (hm : 0 ≤ m ∧ m ≤ 20000) : wfD (2 * 8) (2 * 8) b ps (Zs 2) m ws := by
  have hw := of_decide_eq_true hw
  exact ⟨by omega, by omega, by omega, by omega, by omega, by simp, by simp, fun x hx => by have := hw.2 x hx; simp [InK]; omega, hb.1, hb.2, hp, zp 2, hm.1, by omega⟩
def P1 : List (List Int) := wP (wP (wP (Zs 8) 0 0 1) 0 1 0) 0 2 0
theorem P1l : P1.length = 8 := by simp [P1, wP_len]
theorem P1p : ∀ p ∈ P1, p.length = 1024 := p_wP (p_wP (p_wP (zp 8) (by decide)) (by rw [hs_wP]; decide)) (by rw [hs_wP, hs_wP]; decide)
theorem P1z : zP (zP (zP P1 2) 1) 0 = Zs 8 := by
  refine List.ext_getElem? fun j => ?_
  simp only [P1, zP, wP, Zs, List.getElem?_set, List.length_set, List.length_replicate]
  by_cases h0 : j = 0
  · subst h0; simp
  · by_cases h1 : j = 1
    · subst h1; simp
    · by_cases h2 : j = 2
      · subst h2; simp
      · rw [if_neg (by omega), if_neg (by omega), if_neg (by omega), if_neg (by omega), if_neg (by omega), if_neg (by omega)]
noncomputable def pt_Pk : List (Nat × (List SV → Option (List Prop × SV))) := []
theorem pt_Pk_ok : PureOK Try.prog (fun f => List.lookup f pt_Pk) := pure_list pt_Pk trivial
noncomputable def et_Pk : List (Nat × ECon) := [(82, c_New1), (32, c_WriteM), (62, c_dbNew), (58, c_dbMemory), (30, c_PeekM), (59, c_dbFree), (53, c_TakeSpace), (54, c_Take), (105, c_Give), (42, c_dbBirths)]
theorem et_Pk_ok : ConOK Try.prog (fun f => List.lookup f et_Pk) := con_list et_Pk ⟨c_New1_e, c_WriteM_e, c_dbNew_e, c_dbMemory_e, c_PeekM_e, c_dbFree_e, c_TakeSpace_e, c_Take_e, c_Give_e, c_dbBirths_e, trivial⟩
noncomputable abbrev cx_Pk (must : Nat → Option Bool := fun _ => none) (loop : Nat → SS → Option LoopSpec := fun _ _ => none) : Ctx := ⟨tab, inlG tab (fun f => List.lookup f pt_Pk) (fun f => List.lookup f et_Pk) fns (fun _ => {}) 1000 6, fun f => List.lookup f pt_Pk, must, loop, 0, 0, fun f => List.lookup f et_Pk⟩
theorem cx_Pk_ok (must : Nat → Option Bool) (loop : Nat → SS → Option LoopSpec) : CxOK Try.prog (cx_Pk must loop) := inlG_ok mixed tab_ok pt_Pk_ok et_Pk_ok fns_ok 6 _ _ _ _
theorem begun_ok   : SemCall Try.prog 40 [] [] (AltK [⟨none, .tup [.ptr 1 0, .ptr 0 0], [some ⟨181, [], 0, some (.own (.mem (Zs 8) (Zs 2) 11268))⟩, some ⟨205, [.ptr 0 0, .int .i64 1, .on 2 16 false], 0, none⟩, some ⟨34, [.ints .u32 16 W0], 1, none⟩]⟩]) := by
  refine con_intro mixed (cx_Pk_ok (fun _ => none) (fun _ _ => none)) Try.func40 1000 ?_
  refine of_nf (p := letI k0_ := ((SV.val (Value.pointer none) = SV.ptr (1 : Nat) (0 : Nat) /\ SV.val (Value.pointer none) = SV.ptr (0 : Nat) (0 : Nat) /\ True) /\ True); letI k1_ := (OT.mem (Zs (8 : Nat)) (Zs (2 : Nat)) (11268 : Int)); true = true /\ ∀ (m : Int), m = 0 -> ∀ (ps' : List (List Int)), ps' = [List.replicate (1024 : Nat) (0 : Int), List.replicate (1024 : Nat) (0 : Int), List.replicate (1024 : Nat) (0 : Int), List.replicate (1024 : Nat) (0 : Int), List.replicate (1024 : Nat) (0 : Int), List.replicate (1024 : Nat) (0 : Int), List.replicate (1024 : Nat) (0 : Int), List.replicate (1024 : Nat) (0 : Int)] -> ∀ (qs' : List (List Int)), qs' = [List.replicate (1024 : Nat) (0 : Int), List.replicate (1024 : Nat) (0 : Int)] -> ∀ (m' : Int), m' = 0 -> ((m != 0) = true -> k0_ /\ (Ob.own (OT.mem ps' qs' m') = Ob.own k1_ /\ nat_lit 180 + (1 : Nat) = (181 : Nat) /\ (0 : Nat) = (0 : Nat) /\ True) /\ False) /\ ((m != 0) = false -> 0 <= m' /\ m' <= 4611686018427387904 /\ (∀ (p : List Int), p ∈ ps' -> p.length = 1024) /\ (∀ (p : List Int), p ∈ qs' -> p.length = 1024) /\ ∀ (m : Int), m = errW true (5 : Int) (9 : Int) ps' qs' -> ∀ (ps'_1 : List (List Int)), ps'_1 = setP (true && okW true (5 : Int) (9 : Int) ps' qs') (5 : Int) ((pgAt true (5 : Int) ps' qs').set (9 : Nat) (77 : Int)) ps' -> ∀ (qs'_1 : List (List Int)), qs'_1 = setP (false && okW true (5 : Int) (9 : Int) ps' qs') (5 : Int) ((pgAt true (5 : Int) ps' qs').set (9 : Nat) (77 : Int)) qs' -> ∀ (m'_1 : Int), (m'_1 = if okW true (5 : Int) (9 : Int) ps' qs' = true then m' + 1 else m') -> 1 <= ps'_1.length /\ ps'_1.length <= 64 /\ (∀ (p : List Int), p ∈ ps'_1 -> p.length = 1024) /\ (∀ (p : List Int), p ∈ qs'_1 -> p.length = 1024) /\ 0 <= m'_1 /\ m'_1 <= 4000000000000000000 /\ ∀ (ps' : List (List Int)), ps' = List.replicate ps'_1.length (List.replicate (1024 : Nat) (0 : Int)) -> ∀ (qs' : List (List Int)), qs' = qs'_1 -> ∀ (m' : Int), m' = m'_1 + 1024 * ((ps'_1.length : Nat) : Int) -> ∀ (m : Int), m = 0 -> ∀ (ys : List Int), ys = List.replicate ((2 : Nat) * ps'_1.length) (0 : Int) -> wfD ((2 : Nat) * ps'_1.length) ((2 : Nat) * ps'_1.length) m ps' qs' m' ys /\ ∀ (ps'_2 : List (List Int)), ps'_2 = ps' -> ∀ (qs'_2 : List (List Int)), qs'_2 = qs' -> ∀ (m'_2 : Int), m'_2 = m' -> ∀ (m_1 : Int), m_1 = m -> ∀ (ys_1 : List Int), ys_1 = ys -> ∀ (m : Int), m = rdW true (5 : Int) (9 : Int) ps'_2 qs'_2 -> ∀ (ps' : List (List Int)), ps' = ps'_2 -> ∀ (qs' : List (List Int)), qs' = qs'_2 -> ∀ (m' : Int), m' = m'_2 -> ∀ (m_2 : Int), m_2 = m_1 -> ∀ (ys : List Int), ys = ys_1 -> ((m != 0) = true -> k0_ /\ (Ob.own (OT.mem ps' qs' m') = Ob.own k1_ /\ nat_lit 180 + (1 : Nat) = (181 : Nat) /\ (0 : Nat) = (0 : Nat) /\ True) /\ (nat_lit 204 + (1 : Nat) = (205 : Nat) /\ (0 : Nat) = (0 : Nat) /\ SV.ptr (0 : Nat) 0 = SV.ptr (0 : Nat) (0 : Nat) /\ m_2 = 1 /\ ((2 : Nat) * ps'_1.length = 16 /\ false = false) /\ True) /\ (nat_lit 33 + (1 : Nat) = (34 : Nat) /\ nat_lit 0 + (1 : Nat) = (1 : Nat) /\ @Bool.rec (fun _ => Prop) False (ys = W0) (true && ((2 : Nat) * ps'_1.length).beq (16 : Nat)) /\ True) /\ True) /\ ((m != 0) = false -> wfD ((2 : Nat) * ps'_1.length) ((2 : Nat) * ps'_1.length) m_2 ps' qs' m' ys /\ ∀ (m : Int), m = cntL ys (List.range ps'.length) -> ∀ (ps'_3 : List (List Int)), ps'_3 = ps' -> ∀ (qs'_3 : List (List Int)), qs'_3 = qs' -> ∀ (m'_3 : Int), m'_3 = m' -> ∀ (m_3 : Int), m_3 = m_2 -> ∀ (ys_2 : List Int), ys_2 = ys -> ((m != 8) = true -> k0_ /\ (Ob.own (OT.mem ps'_3 qs'_3 m'_3) = Ob.own k1_ /\ nat_lit 180 + (1 : Nat) = (181 : Nat) /\ (0 : Nat) = (0 : Nat) /\ True) /\ (nat_lit 204 + (1 : Nat) = (205 : Nat) /\ (0 : Nat) = (0 : Nat) /\ SV.ptr (0 : Nat) 0 = SV.ptr (0 : Nat) (0 : Nat) /\ m_3 = 1 /\ ((2 : Nat) * ps'_1.length = 16 /\ false = false) /\ True) /\ (nat_lit 33 + (1 : Nat) = (34 : Nat) /\ nat_lit 0 + (1 : Nat) = (1 : Nat) /\ @Bool.rec (fun _ => Prop) False (ys_2 = W0) (true && ((2 : Nat) * ps'_1.length).beq (16 : Nat)) /\ True) /\ True) /\ ((m != 8) = false -> wfD ((2 : Nat) * ps'_1.length) ((2 : Nat) * ps'_1.length) m_3 ps'_3 qs'_3 m'_3 ys_2 /\ ∀ (m : Int), m = tsE ps'_3 ys_2 m_3 (0 : Int) (1 : Int) -> ∀ (ps' : List (List Int)), ps' = tsP ps'_3 ys_2 m_3 (0 : Int) (1 : Int) -> ∀ (qs' : List (List Int)), qs' = qs'_3 -> ∀ (m' : Int), m' = tsM ps'_3 ys_2 m_3 (0 : Int) (1 : Int) m'_3 -> ∀ (m_4 : Int), m_4 = tsB ps'_3 ys_2 m_3 (0 : Int) (1 : Int) -> ∀ (ys : List Int), ys = tsW ps'_3 ys_2 m_3 (0 : Int) (1 : Int) -> wfD ((2 : Nat) * ps'_1.length) ((2 : Nat) * ps'_1.length) m_4 ps' qs' m' ys /\ ∀ (m_5 : Int), m_5 = tkE ps' ys (2 : Int) (5 : Int) (0 : Int) -> ∀ (ps'_4 : List (List Int)), ps'_4 = ps' -> ∀ (qs'_4 : List (List Int)), qs'_4 = qs' -> ∀ (m'_4 : Int), m'_4 = m' -> ∀ (m_6 : Int), m_6 = m_4 -> ∀ (ys_3 : List Int), ys_3 = tkW ps' ys (2 : Int) (5 : Int) (0 : Int) -> wfD ((2 : Nat) * ps'_1.length) ((2 : Nat) * ps'_1.length) m_6 ps'_4 qs'_4 m'_4 ys_3 /\ ∀ (m_7 : Int), m_7 = gvE ps'_4 ys_3 (2 : Int) -> ∀ (ps' : List (List Int)), ps' = gvP ps'_4 ys_3 (2 : Int) -> ∀ (qs' : List (List Int)), qs' = qs'_4 -> ∀ (m' : Int), m' = gvM ps'_4 ys_3 (2 : Int) m'_4 -> ∀ (m_8 : Int), m_8 = m_6 -> ∀ (ys : List Int), ys = gvW ps'_4 ys_3 (2 : Int) -> wfD ((2 : Nat) * ps'_1.length) ((2 : Nat) * ps'_1.length) m_8 ps' qs' m' ys /\ ∀ (m_9 : Int), m_9 = gvE ps' ys (1 : Int) -> ∀ (ps'_5 : List (List Int)), ps'_5 = gvP ps' ys (1 : Int) -> ∀ (qs'_5 : List (List Int)), qs'_5 = qs' -> ∀ (m'_5 : Int), m'_5 = gvM ps' ys (1 : Int) m' -> ∀ (m_10 : Int), m_10 = m_8 -> ∀ (ys_4 : List Int), ys_4 = gvW ps' ys (1 : Int) -> wfD ((2 : Nat) * ps'_1.length) ((2 : Nat) * ps'_1.length) m_10 ps'_5 qs'_5 m'_5 ys_4 /\ ∀ (m_11 : Int), m_11 = gvE ps'_5 ys_4 (0 : Int) -> ∀ (ps' : List (List Int)), ps' = gvP ps'_5 ys_4 (0 : Int) -> ∀ (qs' : List (List Int)), qs' = qs'_5 -> ∀ (m' : Int), m' = gvM ps'_5 ys_4 (0 : Int) m'_5 -> ∀ (m_12 : Int), m_12 = m_10 -> ∀ (ys : List Int), ys = gvW ps'_5 ys_4 (0 : Int) -> ((m != 0) = true -> k0_ /\ (Ob.own (OT.mem ps' qs' m') = Ob.own k1_ /\ nat_lit 180 + (1 : Nat) = (181 : Nat) /\ (0 : Nat) = (0 : Nat) /\ True) /\ (nat_lit 204 + (1 : Nat) = (205 : Nat) /\ (0 : Nat) = (0 : Nat) /\ SV.ptr (0 : Nat) 0 = SV.ptr (0 : Nat) (0 : Nat) /\ m_12 = 1 /\ ((2 : Nat) * ps'_1.length = 16 /\ false = false) /\ True) /\ (nat_lit 33 + (1 : Nat) = (34 : Nat) /\ nat_lit 0 + (1 : Nat) = (1 : Nat) /\ @Bool.rec (fun _ => Prop) False (ys = W0) (true && ((2 : Nat) * ps'_1.length).beq (16 : Nat)) /\ True) /\ True) /\ ((m != 0) = false -> ((m_5 != 0) = true -> k0_ /\ (Ob.own (OT.mem ps' qs' m') = Ob.own k1_ /\ nat_lit 180 + (1 : Nat) = (181 : Nat) /\ (0 : Nat) = (0 : Nat) /\ True) /\ (nat_lit 204 + (1 : Nat) = (205 : Nat) /\ (0 : Nat) = (0 : Nat) /\ SV.ptr (0 : Nat) 0 = SV.ptr (0 : Nat) (0 : Nat) /\ m_12 = 1 /\ ((2 : Nat) * ps'_1.length = 16 /\ false = false) /\ True) /\ (nat_lit 33 + (1 : Nat) = (34 : Nat) /\ nat_lit 0 + (1 : Nat) = (1 : Nat) /\ @Bool.rec (fun _ => Prop) False (ys = W0) (true && ((2 : Nat) * ps'_1.length).beq (16 : Nat)) /\ True) /\ True) /\ ((m_5 != 0) = false -> ((m_7 != 0) = true -> k0_ /\ (Ob.own (OT.mem ps' qs' m') = Ob.own k1_ /\ nat_lit 180 + (1 : Nat) = (181 : Nat) /\ (0 : Nat) = (0 : Nat) /\ True) /\ (nat_lit 204 + (1 : Nat) = (205 : Nat) /\ (0 : Nat) = (0 : Nat) /\ SV.ptr (0 : Nat) 0 = SV.ptr (0 : Nat) (0 : Nat) /\ m_12 = 1 /\ ((2 : Nat) * ps'_1.length = 16 /\ false = false) /\ True) /\ (nat_lit 33 + (1 : Nat) = (34 : Nat) /\ nat_lit 0 + (1 : Nat) = (1 : Nat) /\ @Bool.rec (fun _ => Prop) False (ys = W0) (true && ((2 : Nat) * ps'_1.length).beq (16 : Nat)) /\ True) /\ True) /\ ((m_7 != 0) = false -> ((m_9 != 0) = true -> k0_ /\ (Ob.own (OT.mem ps' qs' m') = Ob.own k1_ /\ nat_lit 180 + (1 : Nat) = (181 : Nat) /\ (0 : Nat) = (0 : Nat) /\ True) /\ (nat_lit 204 + (1 : Nat) = (205 : Nat) /\ (0 : Nat) = (0 : Nat) /\ SV.ptr (0 : Nat) 0 = SV.ptr (0 : Nat) (0 : Nat) /\ m_12 = 1 /\ ((2 : Nat) * ps'_1.length = 16 /\ false = false) /\ True) /\ (nat_lit 33 + (1 : Nat) = (34 : Nat) /\ nat_lit 0 + (1 : Nat) = (1 : Nat) /\ @Bool.rec (fun _ => Prop) False (ys = W0) (true && ((2 : Nat) * ps'_1.length).beq (16 : Nat)) /\ True) /\ True) /\ ((m_9 != 0) = false -> ((m_11 != 0) = true -> k0_ /\ (Ob.own (OT.mem ps' qs' m') = Ob.own k1_ /\ nat_lit 180 + (1 : Nat) = (181 : Nat) /\ (0 : Nat) = (0 : Nat) /\ True) /\ (nat_lit 204 + (1 : Nat) = (205 : Nat) /\ (0 : Nat) = (0 : Nat) /\ SV.ptr (0 : Nat) 0 = SV.ptr (0 : Nat) (0 : Nat) /\ m_12 = 1 /\ ((2 : Nat) * ps'_1.length = 16 /\ false = false) /\ True) /\ (nat_lit 33 + (1 : Nat) = (34 : Nat) /\ nat_lit 0 + (1 : Nat) = (1 : Nat) /\ @Bool.rec (fun _ => Prop) False (ys = W0) (true && ((2 : Nat) * ps'_1.length).beq (16 : Nat)) /\ True) /\ True) /\ ((m_11 != 0) = false -> wfD ((2 : Nat) * ps'_1.length) ((2 : Nat) * ps'_1.length) m_12 ps' qs' m' ys /\ ∀ (m : Int), m = m_12 -> ∀ (ps'_6 : List (List Int)), ps'_6 = ps' -> ∀ (qs'_6 : List (List Int)), qs'_6 = qs' -> ∀ (m'_6 : Int), m'_6 = m' -> ∀ (m_13 : Int), m_13 = m_12 -> ∀ (ys_5 : List Int), ys_5 = ys -> ((m != 1) = true -> k0_ /\ (Ob.own (OT.mem ps'_6 qs'_6 m'_6) = Ob.own k1_ /\ nat_lit 180 + (1 : Nat) = (181 : Nat) /\ (0 : Nat) = (0 : Nat) /\ True) /\ (nat_lit 204 + (1 : Nat) = (205 : Nat) /\ (0 : Nat) = (0 : Nat) /\ SV.ptr (0 : Nat) 0 = SV.ptr (0 : Nat) (0 : Nat) /\ m_13 = 1 /\ ((2 : Nat) * ps'_1.length = 16 /\ false = false) /\ True) /\ (nat_lit 33 + (1 : Nat) = (34 : Nat) /\ nat_lit 0 + (1 : Nat) = (1 : Nat) /\ @Bool.rec (fun _ => Prop) False (ys_5 = W0) (true && ((2 : Nat) * ps'_1.length).beq (16 : Nat)) /\ True) /\ True) /\ ((m != 1) = false -> wfD ((2 : Nat) * ps'_1.length) ((2 : Nat) * ps'_1.length) m_13 ps'_6 qs'_6 m'_6 ys_5 /\ ∀ (m : Int), m = cntL ys_5 (List.range ps'_6.length) -> ∀ (ps' : List (List Int)), ps' = ps'_6 -> ∀ (qs' : List (List Int)), qs' = qs'_6 -> ∀ (m' : Int), m' = m'_6 -> ∀ (m_14 : Int), m_14 = m_13 -> ∀ (ys : List Int), ys = ys_5 -> ((m != 8) = true -> k0_ /\ (Ob.own (OT.mem ps' qs' m') = Ob.own k1_ /\ nat_lit 180 + (1 : Nat) = (181 : Nat) /\ (0 : Nat) = (0 : Nat) /\ True) /\ (nat_lit 204 + (1 : Nat) = (205 : Nat) /\ (0 : Nat) = (0 : Nat) /\ SV.ptr (0 : Nat) 0 = SV.ptr (0 : Nat) (0 : Nat) /\ m_14 = 1 /\ ((2 : Nat) * ps'_1.length = 16 /\ false = false) /\ True) /\ (nat_lit 33 + (1 : Nat) = (34 : Nat) /\ nat_lit 0 + (1 : Nat) = (1 : Nat) /\ @Bool.rec (fun _ => Prop) False (ys = W0) (true && ((2 : Nat) * ps'_1.length).beq (16 : Nat)) /\ True) /\ True) /\ ((m != 8) = false -> ((SV.ptr (1 : Nat) 0 = SV.ptr (1 : Nat) (0 : Nat) /\ SV.ptr (0 : Nat) 0 = SV.ptr (0 : Nat) (0 : Nat) /\ True) /\ True) /\ (Ob.own (OT.mem ps' qs' m') = Ob.own k1_ /\ nat_lit 180 + (1 : Nat) = (181 : Nat) /\ (0 : Nat) = (0 : Nat) /\ True) /\ (nat_lit 204 + (1 : Nat) = (205 : Nat) /\ (0 : Nat) = (0 : Nat) /\ SV.ptr (0 : Nat) 0 = SV.ptr (0 : Nat) (0 : Nat) /\ m_14 = 1 /\ ((2 : Nat) * ps'_1.length = 16 /\ false = false) /\ True) /\ (nat_lit 33 + (1 : Nat) = (34 : Nat) /\ nat_lit 0 + (1 : Nat) = (1 : Nat) /\ @Bool.rec (fun _ => Prop) False (ys = W0) (true && ((2 : Nat) * ps'_1.length).beq (16 : Nat)) /\ True) /\ True))))))))))) (by kernel_rfl) ?_
  refine ⟨rfl, ?_⟩
  intro m hm ps0 h1 qs0 h2 m0 h3
  subst hm h3
  have h1 : ps0 = Zs 8 := h1
  have h2 : qs0 = Zs 2 := h2
  subst h1 h2
  refine ⟨(fun h => absurd h (by decide)), fun _ => ⟨by decide, by decide, zp 8, zp 2, ?_⟩⟩
  have e0 : okW true 5 9 (Zs 8) (Zs 2) = true := by decide
  intro m hm ps1 h1 qs1 h2 m1 h3
  clear hm m
  have h2 : qs1 = Zs 2 := h2
  rw [e0] at h1 h3
  have h3 : m1 = 1 := h3
  have l1 : ps1.length = 8 := by rw [h1]; simp [setP]
  have p1 : ∀ p ∈ ps1, p.length = 1024 := by
    rw [h1]
    intro p hp
    rcases List.mem_or_eq_of_mem_set hp with h | rfl
    · exact zp 8 p h
    · simp [pgAt]
  clear h1
  subst h2 h3
  refine ⟨by omega, by omega, p1, zp 2, by omega, by omega, ?_⟩
  rw [l1]
  clear p1 l1
  intro ps2 h4 qs2 h5 m2 h6 m h7 ys h8
  have h4 : ps2 = Zs 8 := h4
  have h6 : m2 = 8193 := h6
  have h8 : ys = W0 := h8
  subst h4 h5 h6 h7 h8
  refine ⟨wfB (by simp) (zp 8) (by decide) (by omega) (by omega), ?_⟩
  intro ps3 h1 qs3 h2 m3 h3 b3 h4 ys3 h5
  subst h1 h2 h3 h4 h5
  have e1 : rdW true 5 9 (Zs 8) (Zs 2) = 0 := by
    unfold rdW
    rw [e0]
    simp [pgAt]
  intro m hm ps3 h1 qs3 h2 m3 h3 b3 h4 ys3 h5
  rw [e1] at hm
  subst hm h1 h2 h3 h4 h5
  refine ⟨(fun h => absurd h (by decide)), fun _ => ⟨wfB (by simp) (zp 8) (by decide) (by omega) (by omega), ?_⟩⟩
  intro m hm ps3 h1 qs3 h2 m3 h3 b3 h4 ys3 h5
  have hm : m = 8 := hm.trans fr0
  subst hm h1 h2 h3 h4 h5
  refine ⟨(fun h => absurd h (by decide)), fun _ => ⟨wfB (by simp) (zp 8) (by decide) (by omega) (by omega), ?_⟩⟩
  have l8 : (Zs 8).length = 8 := by simp
  intro m hm ps3 h1 qs3 h2 m3 h3 b3 h4 ys3 h5
  rw [b1E l8] at hm
  rw [b1P l8] at h1
  rw [b1M l8] at h3
  rw [b1B l8] at h4
  rw [b1W l8] at h5
  have h1 : ps3 = P1 := h1
  have h3 : m3 = 8196 := h3
  subst h1 h2 h3 h4 h5
  refine ⟨wfB P1l P1p (by decide) (by omega) (by omega), ?_⟩
  intro k1 hk1 ps3 h1 qs3 h2 m3 h3 b3 h4 ys3 h5
  rw [b2E P1l] at hk1
  rw [b2W P1l] at h5
  subst h1 h2 h3 h4 h5
  refine ⟨wfB P1l P1p (by decide) (by omega) (by omega), ?_⟩
  intro k2 hk2 ps3 h1 qs3 h2 m3 h3 b3 h4 ys3 h5
  rw [b3E P1l] at hk2
  rw [b3P P1l] at h1
  rw [b3M P1l] at h3
  rw [b3W P1l] at h5
  have h3 : m3 = 9220 := h3
  have l9 : ps3.length = 8 := by rw [h1, zP_len]; exact P1l
  have p9 : ∀ p ∈ ps3, p.length = 1024 := by rw [h1]; exact p_zP P1p _
  subst h2 h3 h4 h5
  refine ⟨wfB l9 p9 (by decide) (by omega) (by omega), ?_⟩
  intro k3 hk3 ps4 h6 qs3 h2 m3 h3 b3 h4 ys3 h5
  rw [b4E l9] at hk3
  rw [b4P l9] at h6
  rw [b4M l9] at h3
  rw [b4W l9] at h5
  have h3 : m3 = 10244 := h3
  have l10 : ps4.length = 8 := by rw [h6, zP_len]; exact l9
  have p10 : ∀ p ∈ ps4, p.length = 1024 := by rw [h6]; exact p_zP p9 _
  subst h2 h3 h4 h5
  refine ⟨wfB l10 p10 (by decide) (by omega) (by omega), ?_⟩
  intro k4 hk4 ps5 h7 qs3 h2 m3 h3 b3 h4 ys3 h5
  rw [b5E l10] at hk4
  rw [b5P l10] at h7
  rw [b5M l10] at h3
  rw [b5W l10] at h5
  have h3 : m3 = 11268 := h3
  have h7 : ps5 = Zs 8 := by rw [h7, h6, h1]; exact P1z
  subst h7 h2 h3 h4 h5 hm hk1 hk2 hk3 hk4
  refine ⟨(fun h => absurd h (by decide)), fun _ => ⟨(fun h => absurd h (by decide)), fun _ => ⟨(fun h => absurd h (by decide)), fun _ => ⟨(fun h => absurd h (by decide)), fun _ => ⟨(fun h => absurd h (by decide)), fun _ => ⟨wfB (by simp) (zp 8) (by decide) (by omega) (by omega), ?_⟩⟩⟩⟩⟩⟩
  intro m hm ps3 h1 qs3 h2 m3 h3 b3 h4 ys3 h5
  subst hm h1 h2 h3 h4 h5
  refine ⟨(fun h => absurd h (by decide)), fun _ => ⟨wfB (by simp) (zp 8) (by decide) (by omega) (by omega), ?_⟩⟩
  intro m hm ps3 h1 qs3 h2 m3 h3 b3 h4 ys3 h5
  have hm : m = 8 := hm.trans fr0
  subst hm h1 h2 h3 h4 h5
  refine ⟨(fun h => absurd h (by decide)), fun _ => ?_⟩
  repeat' (first | with_reducible rfl | exact True.intro | apply And.intro | apply pieceEq)
  all_goals rfl
noncomputable def c_begun : ECon
  | [], [] => some ([], [⟨none, .tup [.ptr 1 0, .ptr 0 0], [some ⟨181, [], 0, some (.own (.mem (Zs 8) (Zs 2) 11268))⟩, some ⟨205, [.ptr 0 0, .int .i64 1, .on 2 16 false], 0, none⟩, some ⟨34, [.ints .u32 16 W0], 1, none⟩]⟩])
  | _, _ => none
theorem c_begun_e : EEntry Try.prog 40 c_begun := by
  refine ⟨callFunc_ok Try.func40 (by kernel_rfl) (by kernel_rfl), fun args rows ps alts h hp => ?_⟩
  unfold c_begun at h
  split at h
  · cases h; exact begun_ok  
  · cases h
theorem sameWd_ok (v : Value) (xs : List Int) (u : Value) (ys : List Int) (h0 : (xs.length : Int) ≤ 9000000000000000000) : PureSem Try.prog 46 [.rd .u32 v xs, .rd .u32 u ys] (.bool (xs == ys)) := by
  refine pure_intro mixed (cx_Pk_ok (fun _ => none) (fun q s => bif Nat.beq q 4 then some ⟨Nat, fun k => s.upd [] [(5, .int .i64 k)] [], fun k => k ≤ xs.length ∧ xs.take k = ys.take k, fun k => xs.length - k⟩ else none)) Try.func46 1000 rfl rfl ?_
  refine of_nf (p := ((((xs.length : Nat) : Int) != ((ys.length : Nat) : Int)) = true -> false = (xs == ys)) /\ ((((xs.length : Nat) : Int) != ((ys.length : Nat) : Int)) = false -> ∃ (x : Nat), (((0 : Int) = ((x : Nat) : Int) /\ SV.litb false = SV.litb false /\ ((ys.length : Nat) : Int) = ((ys.length : Nat) : Int) /\ (u = u /\ ys = ys) /\ ((xs.length : Nat) : Int) = ((xs.length : Nat) : Int) /\ (v = v /\ xs = xs) /\ SV.litb false = SV.litb false /\ (v = v /\ xs = xs) /\ (u = u /\ ys = ys) /\ True) /\ True) /\ (x <= xs.length /\ List.take x xs = List.take x ys) /\ ∀ (x : Nat), x <= xs.length /\ List.take x xs = List.take x ys -> (decide (((x : Nat) : Int) < ((xs.length : Nat) : Int)) = true -> (0 : Int) <= ((x : Nat) : Int) /\ ((x : Nat) : Int) < ((xs.length : Nat) : Int) /\ (0 : Int) <= ((x : Nat) : Int) /\ ((x : Nat) : Int) < ((ys.length : Nat) : Int) /\ ((xs.getD (((x : Nat) : Int)).toNat 0 != ys.getD (((x : Nat) : Int)).toNat (0 : Int)) = true -> false = (xs == ys)) /\ ((xs.getD (((x : Nat) : Int)).toNat 0 != ys.getD (((x : Nat) : Int)).toNat (0 : Int)) = false -> ((-9223372036854775808 : Int) <= ((x : Nat) : Int) + 1 /\ ((x : Nat) : Int) + 1 < (9223372036854775808 : Int)) /\ ∃ (y : Nat), ((((x : Nat) : Int) + 1 = ((y : Nat) : Int) /\ SV.litb false = SV.litb false /\ ((ys.length : Nat) : Int) = ((ys.length : Nat) : Int) /\ (u = u /\ ys = ys) /\ ((xs.length : Nat) : Int) = ((xs.length : Nat) : Int) /\ (v = v /\ xs = xs) /\ SV.litb false = SV.litb false /\ (v = v /\ xs = xs) /\ (u = u /\ ys = ys) /\ True) /\ True) /\ (y <= xs.length /\ List.take y xs = List.take y ys) /\ xs.length - y < xs.length - x)) /\ (decide (((x : Nat) : Int) < ((xs.length : Nat) : Int)) = false -> true = (xs == ys)))) (by kernel_rfl) ?_
  refine ⟨fun hne => ?_, fun heq => ⟨0, ?_, ⟨Nat.zero_le _, rfl⟩, fun x hx => ⟨fun hlt => ?_, fun hge => ?_⟩⟩⟩
  · have : (xs == ys) = false := beq_false_of_ne (by rintro rfl; simp at hne)
    rw [this]
  · repeat' (first | with_reducible rfl | exact True.intro | apply And.intro | (intro _h; cases _h; done) | exact OwnSame.mk fun _ => rfl | exact OwnSameE.mk fun _ => rfl | intro _h | apply pieceEq)
    all_goals (first | exact True.intro | omega | rfl)
  · obtain ⟨hx, ht⟩ := hx
    have hl : xs.length = ys.length := by simp only [bne_eq_false_iff_eq] at heq; omega
    have hlt : x < xs.length := by have := of_decide_eq_true hlt; omega
    obtain ⟨k1, k2⟩ := same_step hl ht hlt
    simp only [Int.toNat_natCast]
    refine ⟨by omega, by omega, by omega, by omega, fun e => (k2 e).symm, fun e => ⟨?_, x + 1, ?_, ⟨?_, k1 e⟩, ?_⟩⟩
    all_goals (try omega)
    repeat' (first | with_reducible rfl | exact True.intro | apply And.intro | (intro _h; cases _h; done) | exact OwnSame.mk fun _ => rfl | exact OwnSameE.mk fun _ => rfl | intro _h | apply pieceEq)
    all_goals (first | exact True.intro | omega)
  · obtain ⟨hx, ht⟩ := hx
    have hl : xs.length = ys.length := by simp only [bne_eq_false_iff_eq] at heq; omega
    have hge : ¬ x < xs.length := by intro h; have := of_decide_eq_false hge; omega
    obtain rfl : x = xs.length := by omega
    rw [List.take_length, List.take_of_length_le (by omega)] at ht
    subst ht
    simp
noncomputable def c_sameWd : List SV → Option (List Prop × SV)
  | [.rd .u32 v xs, .rd .u32 u ys] => some ([(xs.length : Int) ≤ 9000000000000000000], .bool (xs == ys))
  | _ => none
theorem c_sameWd_e : PEntry Try.prog 46 c_sameWd := by
  refine ⟨callFunc_ok Try.func46 (by kernel_rfl) (by kernel_rfl), fun args ps v h hp => ?_⟩
  unfold c_sameWd at h
  split at h
  · cases h; exact sameWd_ok _ _ _ _ (hp _ (by simp))
  · cases h
end Go.Proofs.Ytlndkfcnfhkbkaa
