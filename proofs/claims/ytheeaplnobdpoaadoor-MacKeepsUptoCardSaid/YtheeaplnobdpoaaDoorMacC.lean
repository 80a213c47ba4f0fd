/- Handles of messages under a key. No condition beyond lengths. -/
import Derived.Test.YtheeaplnobdpoaaDoorMacB
import Derived.Test.YtheeaplnobdpoaaDoorShaM
namespace Go.Proofs.YtheeaplnobdpoaaDoor
open Go.RowKit Sx
set_option linter.unusedVariables false
set_option linter.unusedSimpArgs false
set_option maxRecDepth 100000
set_option maxHeartbeats 8000000
theorem wV_ex : ∃ f : List Int → List Int, ∀ ws, f ws = e8 (sumW ws 2147483648 (32 * ws.length)) := ⟨_, fun _ => rfl⟩
noncomputable def wV : List Int → List Int := Classical.choose wV_ex
theorem wV_eq (ws : List Int) : wV ws = e8 (sumW ws 2147483648 (32 * ws.length)) := Classical.choose_spec wV_ex ws
theorem SumW_ok (v : Value) (ws : List Int) (h0 : (ws.length : Int) ≤ 60000000000) : PureSem Tryd.prog 43 [.rd .u32 v ws] (.agg [.int .u32 ((wV ws).getD 0 0), .int .u32 ((wV ws).getD 1 0), .int .u32 ((wV ws).getD 2 0), .int .u32 ((wV ws).getD 3 0), .int .u32 ((wV ws).getD 4 0), .int .u32 ((wV ws).getD 5 0), .int .u32 ((wV ws).getD 6 0), .int .u32 ((wV ws).getD 7 0)]) := by
  have h := Sum_ok v ws h0
  rw [wV_eq]
  exact h
noncomputable def c_SumW : List SV → Option (List Prop × SV)
  | [.rd .u32 v ws] => some ([(ws.length : Int) ≤ 60000000000], .agg [.int .u32 ((wV ws).getD 0 0), .int .u32 ((wV ws).getD 1 0), .int .u32 ((wV ws).getD 2 0), .int .u32 ((wV ws).getD 3 0), .int .u32 ((wV ws).getD 4 0), .int .u32 ((wV ws).getD 5 0), .int .u32 ((wV ws).getD 6 0), .int .u32 ((wV ws).getD 7 0)])
  | _ => none
theorem c_SumW_e : PEntry Tryd.prog 43 c_SumW := by
  refine ⟨callFunc_ok Tryd.func43 (by kernel_rfl) (by kernel_rfl), fun args ps v h hp => ?_⟩
  unfold c_SumW at h
  split at h
  · cases h; exact SumW_ok _ _ (hp _ (by simp))
  · cases h
/-- A key of words as it is taken. -/
noncomputable def kwS (ws : List Int) : List Int := if 16 < ws.length then e8 (wV ws) else ws
noncomputable def pt_Ca : List (Nat × (List SV → Option (List Prop × SV))) := [(43, c_SumW)]
theorem pt_Ca_ok : PureOK Tryd.prog (fun f => List.lookup f pt_Ca) := pure_list pt_Ca ⟨c_SumW_e, trivial⟩
noncomputable def et_Ca : List (Nat × ECon) := [(12, c_BytesW)]
theorem et_Ca_ok : ConOK Tryd.prog (fun f => List.lookup f et_Ca) := con_list et_Ca ⟨c_BytesW_e, trivial⟩
noncomputable abbrev cx_Ca (must : Nat → Option Bool := fun _ => none) (loop : Nat → SS → Option LoopSpec := fun _ _ => none) : Ctx := ⟨tab, inlG tab (fun f => List.lookup f pt_Ca) (fun f => List.lookup f et_Ca) fns (fun _ => {}) 1000 4, fun f => List.lookup f pt_Ca, must, loop, 0, 0, fun f => List.lookup f et_Ca⟩
theorem cx_Ca_ok (must : Nat → Option Bool) (loop : Nat → SS → Option LoopSpec) : CxOK Tryd.prog (cx_Ca must loop) := inlG_ok mixed tab_ok pt_Ca_ok et_Ca_ok fns_ok 4 _ _ _ _
theorem shortS_ok (v : Value) (ws : List Int) (h0 : ws.length ≤ 16) : SemCall Tryd.prog 62 [.rd .u32 v ws] [] (AltK [⟨none, .on 0 (4 * (kwS ws).length) false, [some ⟨5, [.ints .u8 (4 * (kwS ws).length) (bV (kwS ws))], 1, none⟩]⟩]) := by
  refine con_intro mixed (cx_Ca_ok (ml [] [6]) (fun _ _ => none)) Tryd.func62 1000 ?_
  refine of_nf (p := decide ((16 : Int) < ((ws.length : Nat) : Int)) = false ∧ ((ws.length : Nat) : Int) ≤ (15000000000 : Int) ∧ ∀ (ys : List Int), ys = bV ws → (((4 : Nat) * ws.length = (4 : Nat) * (kwS ws).length ∧ false = false) ∧ True) ∧ (nat_lit 4 + (1 : Nat) = (5 : TypeId) ∧ nat_lit 0 + (1 : Nat) = (1 : Nat) ∧ @Bool.rec (fun _ => Prop) False (ys = bV (kwS ws)) (true && ((4 : Nat) * ws.length).beq ((4 : Nat) * (kwS ws).length)) ∧ True) ∧ True) (by kernel_rfl) ?_
  have hk : kwS ws = ws := by unfold kwS; rw [if_neg (by omega)]
  simp only [↓forall_eq, hk]
  repeat' (first | with_reducible rfl | exact True.intro | with_reducible assumption | exact OwnSame.mk fun _ => rfl | exact OwnSameE.mk fun _ => rfl | apply And.intro | apply pieceEq | intro _)
  all_goals first | omega | exact decide_eq_false (by omega) | rfl
noncomputable def c_shortS : ECon
  | [.rd .u32 v ws], [] => some ([ws.length ≤ 16], [⟨none, .on 0 (4 * (kwS ws).length) false, [some ⟨5, [.ints .u8 (4 * (kwS ws).length) (bV (kwS ws))], 1, none⟩]⟩])
  | _, _ => none
theorem c_shortS_e : EEntry Tryd.prog 62 c_shortS := by
  refine ⟨callFunc_ok Tryd.func62 (by kernel_rfl) (by kernel_rfl), fun args rows ps alts h hp => ?_⟩
  unfold c_shortS at h
  split at h
  · cases h; exact shortS_ok _ _ (hp _ (List.mem_of_getElem? (i := 0) rfl))
  · cases h
theorem shortL_ok (v : Value) (ws : List Int) (h0 : 16 < ws.length) (h1 : (ws.length : Int) ≤ 15000000000) : SemCall Tryd.prog 62 [.rd .u32 v ws] [] (AltK [⟨none, .on 0 (4 * (kwS ws).length) false, [some ⟨5, [.ints .u8 (4 * (kwS ws).length) (bV (kwS ws))], 1, none⟩]⟩]) := by
  refine con_intro mixed (cx_Ca_ok (ml [6] []) (fun _ _ => none)) Tryd.func62 1000 ?_
  refine of_nf (p := decide ((16 : Int) < ((ws.length : Nat) : Int)) = true ∧ ((ws.length : Nat) : Int) ≤ (60000000000 : Int) ∧ ∀ (v : Nat → Value), (8 : Nat) ≤ (8 : Nat) ∧ (((8 : Nat) : Nat) : Int) ≤ (15000000000 : Int) ∧ ∀ (m : Int), m = (wV ws).getD (0 : Nat) (0 : Int) → ∀ (m : Int), m = (wV ws).getD (1 : Nat) (0 : Int) → ∀ (m : Int), m = (wV ws).getD (2 : Nat) (0 : Int) → ∀ (m : Int), m = (wV ws).getD (3 : Nat) (0 : Int) → ∀ (m : Int), m = (wV ws).getD (4 : Nat) (0 : Int) → ∀ (m : Int), m = (wV ws).getD (5 : Nat) (0 : Int) → ∀ (m : Int), m = (wV ws).getD (6 : Nat) (0 : Int) → ∀ (m : Int), m = (wV ws).getD (7 : Nat) (0 : Int) → ∀ (ys : List Int), ys = bV [(wV ws).getD (0 : Nat) (0 : Int), (wV ws).getD (1 : Nat) (0 : Int), (wV ws).getD (2 : Nat) (0 : Int), (wV ws).getD (3 : Nat) (0 : Int), (wV ws).getD (4 : Nat) (0 : Int), (wV ws).getD (5 : Nat) (0 : Int), (wV ws).getD (6 : Nat) (0 : Int), (wV ws).getD (7 : Nat) (0 : Int)] → (((4 : Nat) * (8 : Nat) = (4 : Nat) * (kwS ws).length ∧ false = false) ∧ True) ∧ (nat_lit 4 + (1 : Nat) = (5 : TypeId) ∧ nat_lit 0 + (1 : Nat) = (1 : Nat) ∧ @Bool.rec (fun _ => Prop) False (ys = bV (kwS ws)) (true && ((4 : Nat) * (8 : Nat)).beq ((4 : Nat) * (kwS ws).length)) ∧ True) ∧ True) (by kernel_rfl) ?_
  have hk : kwS ws = [(wV ws).getD 0 0, (wV ws).getD 1 0, (wV ws).getD 2 0, (wV ws).getD 3 0, (wV ws).getD 4 0, (wV ws).getD 5 0, (wV ws).getD 6 0, (wV ws).getD 7 0] := by unfold kwS; rw [if_pos h0]; rfl
  have hl : (kwS ws).length = 8 := by rw [hk]; rfl
  simp only [↓forall_eq, ← hk, hl]
  repeat' (first | with_reducible rfl | exact True.intro | with_reducible assumption | exact OwnSame.mk fun _ => rfl | exact OwnSameE.mk fun _ => rfl | apply And.intro | apply pieceEq | intro _)
  all_goals first | omega | exact decide_eq_true (by omega) | rfl
noncomputable def c_shortL : ECon
  | [.rd .u32 v ws], [] => some ([16 < ws.length, (ws.length : Int) ≤ 15000000000], [⟨none, .on 0 (4 * (kwS ws).length) false, [some ⟨5, [.ints .u8 (4 * (kwS ws).length) (bV (kwS ws))], 1, none⟩]⟩])
  | _, _ => none
theorem c_shortL_e : EEntry Tryd.prog 62 c_shortL := by
  refine ⟨callFunc_ok Tryd.func62 (by kernel_rfl) (by kernel_rfl), fun args rows ps alts h hp => ?_⟩
  unfold c_shortL at h
  split at h
  · cases h; exact shortL_ok _ _ (hp _ (List.mem_of_getElem? (i := 0) rfl)) (hp _ (List.mem_of_getElem? (i := 1) rfl))
  · cases h
theorem short_ok (v : Value) (ws : List Int) (h0 : (ws.length : Int) ≤ 15000000000) : SemCall Tryd.prog 62 [.rd .u32 v ws] [] (AltK [⟨none, .on 0 (4 * (kwS ws).length) false, [some ⟨5, [.ints .u8 (4 * (kwS ws).length) (bV (kwS ws))], 1, none⟩]⟩]) := by
  by_cases h : 16 < ws.length
  · exact shortL_ok v ws h h0
  · exact shortS_ok v ws (by omega)
noncomputable def c_short : ECon
  | [.rd .u32 v ws], [] => some ([(ws.length : Int) ≤ 15000000000], [⟨none, .on 0 (4 * (kwS ws).length) false, [some ⟨5, [.ints .u8 (4 * (kwS ws).length) (bV (kwS ws))], 1, none⟩]⟩])
  | _, _ => none
theorem c_short_e : EEntry Tryd.prog 62 c_short := by
  refine ⟨callFunc_ok Tryd.func62 (by kernel_rfl) (by kernel_rfl), fun args rows ps alts h hp => ?_⟩
  unfold c_short at h
  split at h
  · cases h; exact short_ok _ _ (hp _ (List.mem_of_getElem? (i := 0) rfl))
  · cases h
noncomputable def pt_Cb : List (Nat × (List SV → Option (List Prop × SV))) := []
theorem pt_Cb_ok : PureOK Tryd.prog (fun f => List.lookup f pt_Cb) := pure_list pt_Cb trivial
noncomputable def et_Cb : List (Nat × ECon) := [(78, c_NewO), (61, c_mpad), (90, c_WordsB), (20, c_AddO)]
theorem et_Cb_ok : ConOK Tryd.prog (fun f => List.lookup f et_Cb) := con_list et_Cb ⟨c_NewO_e, c_mpad_e, c_WordsB_e, c_AddO_e, trivial⟩
noncomputable abbrev cx_Cb (must : Nat → Option Bool := fun _ => none) (loop : Nat → SS → Option LoopSpec := fun _ _ => none) : Ctx := ⟨tab, inlG tab (fun f => List.lookup f pt_Cb) (fun f => List.lookup f et_Cb) fns (fun _ => {}) 1000 4, fun f => List.lookup f pt_Cb, must, loop, 0, 0, fun f => List.lookup f et_Cb⟩
theorem cx_Cb_ok (must : Nat → Option Bool) (loop : Nat → SS → Option LoopSpec) : CxOK Tryd.prog (cx_Cb must loop) := inlG_ok mixed tab_ok pt_Cb_ok et_Cb_ok fns_ok 4 _ _ _ _
theorem begun_ok (v : Value) (ks : List Int) (pad : Int) (h0 : (ks.length : Int) ≤ 50000000000) (h1 : (∀ x ∈ ks, InK .u8 x)) : SemCall Tryd.prog 63 [.rd .u8 v ks, .int .u8 pad] [] (AltK [⟨none, .ptr 0 0, [some ⟨123, [], 0, some (.own (.dig (addSt IVL [] (wB (padS ks pad) 16)) 16 (addWs [] (wB (padS ks pad) 16))))⟩]⟩]) := by
  refine con_intro mixed (cx_Cb_ok (fun _ => none) (fun _ _ => none)) Tryd.func63 1000 ?_
  refine of_nf (p := ∀ (st' : List Int), st' = IVL → ∀ (n' : Int), n' = (0 : Int) → ∀ (ws' : List Int), ws' = [] → ((ks.length : Nat) : Int) ≤ (60000000000 : Int) ∧ (∀ (x : Int), x ∈ ks → (0 : Int) ≤ x ∧ x < (256 : Int)) ∧ ∀ (st'_1 : List Int), st'_1 = st' → ∀ (n'_1 : Int), n'_1 = n' → ∀ (ws'_1 : List Int), ws'_1 = ws' → ∀ (ys : List Int), ys = padS ks pad → ∀ (v : Nat → Value), (64 : Nat) ≤ (64 : Nat) ∧ ys.length = (64 : Nat) ∧ (List.take (64 : Nat) (List.drop (0 : Nat) ys)).length ≤ (1048576 : Nat) ∧ (List.take (64 : Nat) (List.drop (0 : Nat) ys)).length % (4 : Nat) = (0 : Nat) ∧ (∀ (x : Int), x ∈ List.take (64 : Nat) (List.drop (0 : Nat) ys) → (0 : Int) ≤ x ∧ x < (256 : Int)) ∧ ∀ (m : Int), m = (0 : Int) → ∀ (st' : List Int), st' = st'_1 → ∀ (n' : Int), n' = n'_1 → ∀ (ws' : List Int), ws' = ws'_1 → ∀ (ys_1 : List Int), ys_1 = ys → ∀ (ys_2 : List Int), ys_2 = wB (List.take (64 : Nat) (List.drop (0 : Nat) ys)) ((List.take (64 : Nat) (List.drop (0 : Nat) ys)).length / (4 : Nat)) → ∀ (v : Nat → Value), (0 : Nat) + (List.take (64 : Nat) (List.drop (0 : Nat) ys)).length / (4 : Nat) ≤ (List.take (64 : Nat) (List.drop (0 : Nat) ys)).length / (4 : Nat) ∧ ys_2.length = (List.take (64 : Nat) (List.drop (0 : Nat) ys)).length / (4 : Nat) ∧ ws'.length < (16 : Nat) ∧ (0 : Int) ≤ n' ∧ n' + (((List.take ((List.take (64 : Nat) (List.drop (0 : Nat) ys)).length / (4 : Nat)) (List.drop (0 : Nat) ys_2)).length : Nat) : Int) ≤ (36028797018963968 : Int) ∧ (((List.take ((List.take (64 : Nat) (List.drop (0 : Nat) ys)).length / (4 : Nat)) (List.drop (0 : Nat) ys_2)).length : Nat) : Int) ≤ (60000000000 : Int) ∧ ∀ (st'_2 : List Int), st'_2 = addSt st' ws' (List.take ((List.take (64 : Nat) (List.drop (0 : Nat) ys)).length / (4 : Nat)) (List.drop (0 : Nat) ys_2)) → ∀ (n'_2 : Int), n'_2 = n' + (((List.take ((List.take (64 : Nat) (List.drop (0 : Nat) ys)).length / (4 : Nat)) (List.drop (0 : Nat) ys_2)).length : Nat) : Int) → ∀ (ws'_2 : List Int), ws'_2 = addWs ws' (List.take ((List.take (64 : Nat) (List.drop (0 : Nat) ys)).length / (4 : Nat)) (List.drop (0 : Nat) ys_2)) → ∀ (ys : List Int), ys = ys_1 → ∀ (ys : List Int), ys = ys_2 → (SV.ptr (0 : Nat) (0 : Nat) = SV.ptr (0 : Nat) (0 : Nat) ∧ True) ∧ (Ob.own (OT.dig st'_2 n'_2 ws'_2) = Ob.own (OT.dig (addSt IVL [] (wB (padS ks pad) (16 : Nat))) (16 : Int) (addWs [] (wB (padS ks pad) (16 : Nat)))) ∧ nat_lit 122 + (1 : Nat) = (123 : TypeId) ∧ (0 : Nat) = (0 : Nat) ∧ True) ∧ True) (by kernel_rfl) ?_
  have hpl : (padS ks pad).length = 64 := padS_len _ _
  have hpi : ∀ x ∈ padS ks pad, 0 ≤ x ∧ x < 256 := fun x hx => by have := padS_in ks pad x hx; simpa only [InK] using this
  have t1 : List.take 64 (List.drop 0 (padS ks pad)) = padS ks pad := by rw [List.drop_zero]; exact List.take_of_length_le (by omega)
  have hd : 64 / 4 = 16 := rfl
  have hw : (wB (padS ks pad) 16).length = 16 := wB_len _ _
  have t2 : List.take 16 (List.drop 0 (wB (padS ks pad) 16)) = wB (padS ks pad) 16 := by rw [List.drop_zero]; exact List.take_of_length_le (by omega)
  have h1' := h1
  simp only [InK] at h1'
  simp only [↓forall_eq, t1, hpl, hd, t2, hw]
  repeat' (first | with_reducible rfl | exact True.intro | with_reducible assumption | exact OwnSame.mk fun _ => rfl | exact OwnSameE.mk fun _ => rfl | apply And.intro | apply pieceEq | intro _)
  all_goals first | omega | rfl | (simp; done)
noncomputable def c_begun : ECon
  | [.rd .u8 v ks, .int .u8 pad], [] => some ([(ks.length : Int) ≤ 50000000000, (∀ x ∈ ks, InK .u8 x)], [⟨none, .ptr 0 0, [some ⟨123, [], 0, some (.own (.dig (addSt IVL [] (wB (padS ks pad) 16)) 16 (addWs [] (wB (padS ks pad) 16))))⟩]⟩])
  | _, _ => none
theorem c_begun_e : EEntry Tryd.prog 63 c_begun := by
  refine ⟨callFunc_ok Tryd.func63 (by kernel_rfl) (by kernel_rfl), fun args rows ps alts h hp => ?_⟩
  unfold c_begun at h
  split at h
  · cases h; exact begun_ok _ _ _ (hp _ (List.mem_of_getElem? (i := 0) rfl)) (hp _ (List.mem_of_getElem? (i := 1) rfl))
  · cases h
noncomputable def pt_Cc : List (Nat × (List SV → Option (List Prop × SV))) := []
theorem pt_Cc_ok : PureOK Tryd.prog (fun f => List.lookup f pt_Cc) := pure_list pt_Cc trivial
noncomputable def et_Cc : List (Nat × ECon) := [(62, c_short), (63, c_begun)]
theorem et_Cc_ok : ConOK Tryd.prog (fun f => List.lookup f et_Cc) := con_list et_Cc ⟨c_short_e, c_begun_e, trivial⟩
noncomputable abbrev cx_Cc (must : Nat → Option Bool := fun _ => none) (loop : Nat → SS → Option LoopSpec := fun _ _ => none) : Ctx := ⟨tab, inlG tab (fun f => List.lookup f pt_Cc) (fun f => List.lookup f et_Cc) fns (fun _ => {}) 1000 4, fun f => List.lookup f pt_Cc, must, loop, 0, 0, fun f => List.lookup f et_Cc⟩
theorem cx_Cc_ok (must : Nat → Option Bool) (loop : Nat → SS → Option LoopSpec) : CxOK Tryd.prog (cx_Cc must loop) := inlG_ok mixed tab_ok pt_Cc_ok et_Cc_ok fns_ok 4 _ _ _ _
theorem NewMac_ok (v : Value) (ws : List Int) (h0 : (ws.length : Int) ≤ 15000000000) : SemCall Tryd.prog 18 [.rd .u32 v ws] [] (AltK [⟨none, .ptr 0 0, [some ⟨40, [.ptr 1 0, .ptr 2 0], 0, none⟩, some ⟨123, [], 0, some (.own (.dig (addSt IVL [] (wB (padS (bV (kwS ws)) 54) 16)) 16 (addWs [] (wB (padS (bV (kwS ws)) 54) 16))))⟩, some ⟨123, [], 0, some (.own (.dig (addSt IVL [] (wB (padS (bV (kwS ws)) 92) 16)) 16 (addWs [] (wB (padS (bV (kwS ws)) 92) 16))))⟩]⟩]) := by
  refine con_intro mixed (cx_Cc_ok (fun _ => none) (fun _ _ => none)) Tryd.func18 1000 ?_
  refine of_nf (p := ((ws.length : Nat) : Int) ≤ (15000000000 : Int) ∧ ∀ (ys : List Int), ys = bV (kwS ws) → ∀ (v : Nat → Value), (0 : Nat) + (4 : Nat) * (kwS ws).length ≤ (4 : Nat) * (kwS ws).length ∧ ys.length = (4 : Nat) * (kwS ws).length ∧ (((List.take ((4 : Nat) * (kwS ws).length) (List.drop (0 : Nat) ys)).length : Nat) : Int) ≤ (50000000000 : Int) ∧ (∀ (x : Int), x ∈ List.take ((4 : Nat) * (kwS ws).length) (List.drop (0 : Nat) ys) → (0 : Int) ≤ x ∧ x < (256 : Int)) ∧ ∀ (ys_1 : List Int), ys_1 = ys → ∀ (st' : List Int), st' = addSt IVL [] (wB (padS (List.take ((4 : Nat) * (kwS ws).length) (List.drop (0 : Nat) ys)) (54 : Int)) (16 : Nat)) → ∀ (n' : Int), n' = (16 : Int) → ∀ (ws' : List Int), ws' = addWs [] (wB (padS (List.take ((4 : Nat) * (kwS ws).length) (List.drop (0 : Nat) ys)) (54 : Int)) (16 : Nat)) → ∀ (v : Nat → Value), (0 : Nat) + (4 : Nat) * (kwS ws).length ≤ (4 : Nat) * (kwS ws).length ∧ ys_1.length = (4 : Nat) * (kwS ws).length ∧ (((List.take ((4 : Nat) * (kwS ws).length) (List.drop (0 : Nat) ys_1)).length : Nat) : Int) ≤ (50000000000 : Int) ∧ (∀ (x : Int), x ∈ List.take ((4 : Nat) * (kwS ws).length) (List.drop (0 : Nat) ys_1) → (0 : Int) ≤ x ∧ x < (256 : Int)) ∧ ∀ (ys : List Int), ys = ys_1 → ∀ (st'_1 : List Int), st'_1 = st' → ∀ (n'_1 : Int), n'_1 = n' → ∀ (ws'_1 : List Int), ws'_1 = ws' → ∀ (st' : List Int), st' = addSt IVL [] (wB (padS (List.take ((4 : Nat) * (kwS ws).length) (List.drop (0 : Nat) ys_1)) (92 : Int)) (16 : Nat)) → ∀ (n' : Int), n' = (16 : Int) → ∀ (ws' : List Int), ws' = addWs [] (wB (padS (List.take ((4 : Nat) * (kwS ws).length) (List.drop (0 : Nat) ys_1)) (92 : Int)) (16 : Nat)) → (SV.ptr (0 : Nat) (0 : Nat) = SV.ptr (0 : Nat) (0 : Nat) ∧ True) ∧ ((40 : Nat) = (40 : Nat) ∧ (0 : Nat) = (0 : Nat) ∧ SV.ptr (1 : Nat) (0 : Nat) = SV.ptr (1 : Nat) (0 : Nat) ∧ SV.ptr (2 : Nat) (0 : Nat) = SV.ptr (2 : Nat) (0 : Nat) ∧ True) ∧ (Ob.own (OT.dig st'_1 n'_1 ws'_1) = Ob.own (OT.dig (addSt IVL [] (wB (padS (bV (kwS ws)) (54 : Int)) (16 : Nat))) (16 : Int) (addWs [] (wB (padS (bV (kwS ws)) (54 : Int)) (16 : Nat)))) ∧ nat_lit 122 + (1 : Nat) = (123 : TypeId) ∧ (0 : Nat) = (0 : Nat) ∧ True) ∧ (Ob.own (OT.dig st' n' ws') = Ob.own (OT.dig (addSt IVL [] (wB (padS (bV (kwS ws)) (92 : Int)) (16 : Nat))) (16 : Int) (addWs [] (wB (padS (bV (kwS ws)) (92 : Int)) (16 : Nat)))) ∧ nat_lit 122 + (1 : Nat) = (123 : TypeId) ∧ (0 : Nat) = (0 : Nat) ∧ True) ∧ True) (by kernel_rfl) ?_
  have hl : (bV (kwS ws)).length = 4 * (kwS ws).length := bV_len _
  have t1 : List.take (4 * (kwS ws).length) (List.drop 0 (bV (kwS ws))) = bV (kwS ws) := by rw [List.drop_zero]; exact List.take_of_length_le (by omega)
  have hi : ∀ x ∈ bV (kwS ws), 0 ≤ x ∧ x < 256 := fun x hx => by have := bV_in _ x hx; simpa only [InK] using this
  have hk : (kwS ws).length ≤ 16 := by
    unfold kwS
    split
    · exact (show (8 : Nat) ≤ 16 by omega)
    · omega
  simp only [↓forall_eq, t1, hl]
  repeat' (first | with_reducible rfl | exact True.intro | with_reducible assumption | exact OwnSame.mk fun _ => rfl | exact OwnSameE.mk fun _ => rfl | apply And.intro | apply pieceEq | intro _)
  all_goals first | omega | rfl | (simp; done)
noncomputable def c_NewMac : ECon
  | [.rd .u32 v ws], [] => some ([(ws.length : Int) ≤ 15000000000], [⟨none, .ptr 0 0, [some ⟨40, [.ptr 1 0, .ptr 2 0], 0, none⟩, some ⟨123, [], 0, some (.own (.dig (addSt IVL [] (wB (padS (bV (kwS ws)) 54) 16)) 16 (addWs [] (wB (padS (bV (kwS ws)) 54) 16))))⟩, some ⟨123, [], 0, some (.own (.dig (addSt IVL [] (wB (padS (bV (kwS ws)) 92) 16)) 16 (addWs [] (wB (padS (bV (kwS ws)) 92) 16))))⟩]⟩])
  | _, _ => none
theorem c_NewMac_e : EEntry Tryd.prog 18 c_NewMac := by
  refine ⟨callFunc_ok Tryd.func18 (by kernel_rfl) (by kernel_rfl), fun args rows ps alts h hp => ?_⟩
  unfold c_NewMac at h
  split at h
  · cases h; exact NewMac_ok _ _ (hp _ (List.mem_of_getElem? (i := 0) rfl))
  · cases h
noncomputable def pt_Cd : List (Nat × (List SV → Option (List Prop × SV))) := []
theorem pt_Cd_ok : PureOK Tryd.prog (fun f => List.lookup f pt_Cd) := pure_list pt_Cd trivial
noncomputable def et_Cd : List (Nat × ECon) := [(65, c_DSumO), (66, c_CopyO), (20, c_AddO)]
theorem et_Cd_ok : ConOK Tryd.prog (fun f => List.lookup f et_Cd) := con_list et_Cd ⟨c_DSumO_e, c_CopyO_e, c_AddO_e, trivial⟩
noncomputable abbrev cx_Cd (must : Nat → Option Bool := fun _ => none) (loop : Nat → SS → Option LoopSpec := fun _ _ => none) : Ctx := ⟨tab, inlG tab (fun f => List.lookup f pt_Cd) (fun f => List.lookup f et_Cd) fns (fun _ => {}) 1000 4, fun f => List.lookup f pt_Cd, must, loop, 0, 0, fun f => List.lookup f et_Cd⟩
theorem cx_Cd_ok (must : Nat → Option Bool) (loop : Nat → SS → Option LoopSpec) : CxOK Tryd.prog (cx_Cd must loop) := inlG_ok mixed tab_ok pt_Cd_ok et_Cd_ok fns_ok 4 _ _ _ _
theorem TagMac_ok (st : List Int) (n : Int) (xs : List Int) (st' : List Int) (n' : Int) (xs' : List Int) (h0 : xs.length < 16) (h1 : 0 ≤ n) (h2 : n ≤ 36028797018963968) (h3 : xs'.length < 16) (h4 : 0 ≤ n') (h5 : n' ≤ 36028797018963000) : SemCall Tryd.prog 21 [.ptr 0 0] [some ⟨40, [.ptr 1 0, .ptr 2 0], 0, none⟩, some ⟨123, [], 0, some (.own (.dig st n xs))⟩, some ⟨123, [], 0, some (.own (.dig st' n' xs'))⟩] (AltK [⟨none, .agg [.int .u32 ((endS (norm8 (addSt st' xs' (e8 (endS (norm8 st) xs 2147483648 (32 * n))))) (addWs xs' (e8 (endS (norm8 st) xs 2147483648 (32 * n)))) 2147483648 (32 * (n' + 8))).getD 0 0), .int .u32 ((endS (norm8 (addSt st' xs' (e8 (endS (norm8 st) xs 2147483648 (32 * n))))) (addWs xs' (e8 (endS (norm8 st) xs 2147483648 (32 * n)))) 2147483648 (32 * (n' + 8))).getD 1 0), .int .u32 ((endS (norm8 (addSt st' xs' (e8 (endS (norm8 st) xs 2147483648 (32 * n))))) (addWs xs' (e8 (endS (norm8 st) xs 2147483648 (32 * n)))) 2147483648 (32 * (n' + 8))).getD 2 0), .int .u32 ((endS (norm8 (addSt st' xs' (e8 (endS (norm8 st) xs 2147483648 (32 * n))))) (addWs xs' (e8 (endS (norm8 st) xs 2147483648 (32 * n)))) 2147483648 (32 * (n' + 8))).getD 3 0), .int .u32 ((endS (norm8 (addSt st' xs' (e8 (endS (norm8 st) xs 2147483648 (32 * n))))) (addWs xs' (e8 (endS (norm8 st) xs 2147483648 (32 * n)))) 2147483648 (32 * (n' + 8))).getD 4 0), .int .u32 ((endS (norm8 (addSt st' xs' (e8 (endS (norm8 st) xs 2147483648 (32 * n))))) (addWs xs' (e8 (endS (norm8 st) xs 2147483648 (32 * n)))) 2147483648 (32 * (n' + 8))).getD 5 0), .int .u32 ((endS (norm8 (addSt st' xs' (e8 (endS (norm8 st) xs 2147483648 (32 * n))))) (addWs xs' (e8 (endS (norm8 st) xs 2147483648 (32 * n)))) 2147483648 (32 * (n' + 8))).getD 6 0), .int .u32 ((endS (norm8 (addSt st' xs' (e8 (endS (norm8 st) xs 2147483648 (32 * n))))) (addWs xs' (e8 (endS (norm8 st) xs 2147483648 (32 * n)))) 2147483648 (32 * (n' + 8))).getD 7 0)], [some ⟨40, [.ptr 1 0, .ptr 2 0], 0, none⟩, some ⟨123, [], 0, some (.own (.dig st n xs))⟩, some ⟨123, [], 0, some (.own (.dig st' n' xs'))⟩]⟩]) := by
  refine con_intro mixed (cx_Cd_ok (fun _ => none) (fun _ _ => none)) Tryd.func21 1000 ?_
  refine of_nf (p := letI k1_ := (endS (norm8 st) xs (2147483648 : Int) ((32 : Int) * n)); letI k0_ := (endS (norm8 (addSt st' xs' (e8 k1_))) (addWs xs' (e8 k1_)) (2147483648 : Int) ((32 : Int) * (n' + (8 : Int)))); xs.length < (16 : Nat) ∧ (0 : Int) ≤ n ∧ n ≤ (36028797018963968 : Int) ∧ ∀ (m : Int), m = k1_.getD (0 : Nat) (0 : Int) → ∀ (m_1 : Int), m_1 = k1_.getD (1 : Nat) (0 : Int) → ∀ (m_2 : Int), m_2 = k1_.getD (2 : Nat) (0 : Int) → ∀ (m_3 : Int), m_3 = k1_.getD (3 : Nat) (0 : Int) → ∀ (m_4 : Int), m_4 = k1_.getD (4 : Nat) (0 : Int) → ∀ (m_5 : Int), m_5 = k1_.getD (5 : Nat) (0 : Int) → ∀ (m_6 : Int), m_6 = k1_.getD (6 : Nat) (0 : Int) → ∀ (m_7 : Int), m_7 = k1_.getD (7 : Nat) (0 : Int) → ∀ (st'_1 : List Int), st'_1 = st → ∀ (n'_1 : Int), n'_1 = n → ∀ (ws' : List Int), ws' = xs → ∀ (st'_2 : List Int), st'_2 = st' → ∀ (n'_2 : Int), n'_2 = n' → ∀ (ws'_1 : List Int), ws'_1 = xs' → ws'_1.length < (16 : Nat) ∧ ∀ (st'_3 : List Int), st'_3 = st'_1 → ∀ (n'_3 : Int), n'_3 = n'_1 → ∀ (ws'_2 : List Int), ws'_2 = ws' → ∀ (st'_4 : List Int), st'_4 = st'_2 → ∀ (n'_4 : Int), n'_4 = n'_2 → ∀ (ws' : List Int), ws' = ws'_1 → ∀ (m_8 : Int), m_8 = m → ∀ (m : Int), m = m_1 → ∀ (m_9 : Int), m_9 = m_2 → ∀ (m_10 : Int), m_10 = m_3 → ∀ (m_11 : Int), m_11 = m_4 → ∀ (m_12 : Int), m_12 = m_5 → ∀ (m_13 : Int), m_13 = m_6 → ∀ (m_14 : Int), m_14 = m_7 → ∀ (st'_5 : List Int), st'_5 = st'_2 → ∀ (n'_5 : Int), n'_5 = n'_2 → ∀ (ws'_3 : List Int), ws'_3 = ws'_1 → ∀ (v : Nat → Value), (8 : Nat) ≤ (8 : Nat) ∧ ws'_3.length < (16 : Nat) ∧ (0 : Int) ≤ n'_5 ∧ n'_5 + (((8 : Nat) : Nat) : Int) ≤ (36028797018963968 : Int) ∧ (((8 : Nat) : Nat) : Int) ≤ (60000000000 : Int) ∧ ∀ (st'_6 : List Int), st'_6 = st'_3 → ∀ (n'_6 : Int), n'_6 = n'_3 → ∀ (ws'_4 : List Int), ws'_4 = ws'_2 → ∀ (st'_7 : List Int), st'_7 = st'_4 → ∀ (n'_7 : Int), n'_7 = n'_4 → ∀ (ws'_5 : List Int), ws'_5 = ws' → ∀ (m_15 : Int), m_15 = m_8 → ∀ (m_16 : Int), m_16 = m → ∀ (m_17 : Int), m_17 = m_9 → ∀ (m_18 : Int), m_18 = m_10 → ∀ (m_19 : Int), m_19 = m_11 → ∀ (m_20 : Int), m_20 = m_12 → ∀ (m_21 : Int), m_21 = m_13 → ∀ (m_22 : Int), m_22 = m_14 → ∀ (st'_8 : List Int), st'_8 = addSt st'_5 ws'_3 [m_8, m, m_9, m_10, m_11, m_12, m_13, m_14] → ∀ (n'_8 : Int), n'_8 = n'_5 + (((8 : Nat) : Nat) : Int) → ∀ (ws' : List Int), ws' = addWs ws'_3 [m_8, m, m_9, m_10, m_11, m_12, m_13, m_14] → ws'.length < (16 : Nat) ∧ (0 : Int) ≤ n'_8 ∧ n'_8 ≤ (36028797018963968 : Int) ∧ ∀ (m : Int), m = (endS (norm8 st'_8) ws' (2147483648 : Int) ((32 : Int) * n'_8)).getD (0 : Nat) (0 : Int) → ∀ (m_23 : Int), m_23 = (endS (norm8 st'_8) ws' (2147483648 : Int) ((32 : Int) * n'_8)).getD (1 : Nat) (0 : Int) → ∀ (m_24 : Int), m_24 = (endS (norm8 st'_8) ws' (2147483648 : Int) ((32 : Int) * n'_8)).getD (2 : Nat) (0 : Int) → ∀ (m_25 : Int), m_25 = (endS (norm8 st'_8) ws' (2147483648 : Int) ((32 : Int) * n'_8)).getD (3 : Nat) (0 : Int) → ∀ (m_26 : Int), m_26 = (endS (norm8 st'_8) ws' (2147483648 : Int) ((32 : Int) * n'_8)).getD (4 : Nat) (0 : Int) → ∀ (m_27 : Int), m_27 = (endS (norm8 st'_8) ws' (2147483648 : Int) ((32 : Int) * n'_8)).getD (5 : Nat) (0 : Int) → ∀ (m_28 : Int), m_28 = (endS (norm8 st'_8) ws' (2147483648 : Int) ((32 : Int) * n'_8)).getD (6 : Nat) (0 : Int) → ∀ (m_29 : Int), m_29 = (endS (norm8 st'_8) ws' (2147483648 : Int) ((32 : Int) * n'_8)).getD (7 : Nat) (0 : Int) → ∀ (st'_9 : List Int), st'_9 = st'_6 → ∀ (n'_9 : Int), n'_9 = n'_6 → ∀ (ws'_6 : List Int), ws'_6 = ws'_4 → ∀ (st'_10 : List Int), st'_10 = st'_7 → ∀ (n'_10 : Int), n'_10 = n'_7 → ∀ (ws'_7 : List Int), ws'_7 = ws'_5 → ∀ (m_30 : Int), m_30 = m_15 → ∀ (m_31 : Int), m_31 = m_16 → ∀ (m_32 : Int), m_32 = m_17 → ∀ (m_33 : Int), m_33 = m_18 → ∀ (m_34 : Int), m_34 = m_19 → ∀ (m_35 : Int), m_35 = m_20 → ∀ (m_36 : Int), m_36 = m_21 → ∀ (m_37 : Int), m_37 = m_22 → ∀ (st'_11 : List Int), st'_11 = st'_8 → ∀ (n'_11 : Int), n'_11 = n'_8 → ∀ (ws'_8 : List Int), ws'_8 = ws' → ((m = k0_.getD (0 : Nat) (0 : Int) ∧ m_23 = k0_.getD (1 : Nat) (0 : Int) ∧ m_24 = k0_.getD (2 : Nat) (0 : Int) ∧ m_25 = k0_.getD (3 : Nat) (0 : Int) ∧ m_26 = k0_.getD (4 : Nat) (0 : Int) ∧ m_27 = k0_.getD (5 : Nat) (0 : Int) ∧ m_28 = k0_.getD (6 : Nat) (0 : Int) ∧ m_29 = k0_.getD (7 : Nat) (0 : Int) ∧ True) ∧ True) ∧ ((40 : Nat) = (40 : Nat) ∧ (0 : Nat) = (0 : Nat) ∧ SV.ptr (1 : Nat) (0 : Nat) = SV.ptr (1 : Nat) (0 : Nat) ∧ SV.ptr (2 : Nat) (0 : Nat) = SV.ptr (2 : Nat) (0 : Nat) ∧ True) ∧ (Ob.own (OT.dig st'_9 n'_9 ws'_6) = Ob.own (OT.dig st n xs) ∧ nat_lit 122 + (1 : Nat) = (123 : TypeId) ∧ (0 : Nat) = (0 : Nat) ∧ True) ∧ (Ob.own (OT.dig st'_10 n'_10 ws'_7) = Ob.own (OT.dig st' n' xs') ∧ nat_lit 122 + (1 : Nat) = (123 : TypeId) ∧ (0 : Nat) = (0 : Nat) ∧ True) ∧ True) (by kernel_rfl) ?_
  simp only [↓forall_eq]
  repeat' (first | with_reducible rfl | exact True.intro | with_reducible assumption | exact OwnSame.mk fun _ => rfl | exact OwnSameE.mk fun _ => rfl | apply And.intro | apply pieceEq | intro _)
  all_goals first | omega | rfl | (rw [addWs_len]; omega)
noncomputable def c_TagMac : ECon
  | [.ptr 0 0], [some ⟨40, [.ptr 1 0, .ptr 2 0], 0, none⟩, some ⟨123, [], 0, some (.own (.dig st n xs))⟩, some ⟨123, [], 0, some (.own (.dig st' n' xs'))⟩] => some ([xs.length < 16, 0 ≤ n, n ≤ 36028797018963968, xs'.length < 16, 0 ≤ n', n' ≤ 36028797018963000], [⟨none, .agg [.int .u32 ((endS (norm8 (addSt st' xs' (e8 (endS (norm8 st) xs 2147483648 (32 * n))))) (addWs xs' (e8 (endS (norm8 st) xs 2147483648 (32 * n)))) 2147483648 (32 * (n' + 8))).getD 0 0), .int .u32 ((endS (norm8 (addSt st' xs' (e8 (endS (norm8 st) xs 2147483648 (32 * n))))) (addWs xs' (e8 (endS (norm8 st) xs 2147483648 (32 * n)))) 2147483648 (32 * (n' + 8))).getD 1 0), .int .u32 ((endS (norm8 (addSt st' xs' (e8 (endS (norm8 st) xs 2147483648 (32 * n))))) (addWs xs' (e8 (endS (norm8 st) xs 2147483648 (32 * n)))) 2147483648 (32 * (n' + 8))).getD 2 0), .int .u32 ((endS (norm8 (addSt st' xs' (e8 (endS (norm8 st) xs 2147483648 (32 * n))))) (addWs xs' (e8 (endS (norm8 st) xs 2147483648 (32 * n)))) 2147483648 (32 * (n' + 8))).getD 3 0), .int .u32 ((endS (norm8 (addSt st' xs' (e8 (endS (norm8 st) xs 2147483648 (32 * n))))) (addWs xs' (e8 (endS (norm8 st) xs 2147483648 (32 * n)))) 2147483648 (32 * (n' + 8))).getD 4 0), .int .u32 ((endS (norm8 (addSt st' xs' (e8 (endS (norm8 st) xs 2147483648 (32 * n))))) (addWs xs' (e8 (endS (norm8 st) xs 2147483648 (32 * n)))) 2147483648 (32 * (n' + 8))).getD 5 0), .int .u32 ((endS (norm8 (addSt st' xs' (e8 (endS (norm8 st) xs 2147483648 (32 * n))))) (addWs xs' (e8 (endS (norm8 st) xs 2147483648 (32 * n)))) 2147483648 (32 * (n' + 8))).getD 6 0), .int .u32 ((endS (norm8 (addSt st' xs' (e8 (endS (norm8 st) xs 2147483648 (32 * n))))) (addWs xs' (e8 (endS (norm8 st) xs 2147483648 (32 * n)))) 2147483648 (32 * (n' + 8))).getD 7 0)], [some ⟨40, [.ptr 1 0, .ptr 2 0], 0, none⟩, some ⟨123, [], 0, some (.own (.dig st n xs))⟩, some ⟨123, [], 0, some (.own (.dig st' n' xs'))⟩]⟩])
  | _, _ => none
theorem c_TagMac_e : EEntry Tryd.prog 21 c_TagMac := by
  refine ⟨callFunc_ok Tryd.func21 (by kernel_rfl) (by kernel_rfl), fun args rows ps alts h hp => ?_⟩
  unfold c_TagMac at h
  split at h
  · cases h; exact TagMac_ok _ _ _ _ _ _ (hp _ (List.mem_of_getElem? (i := 0) rfl)) (hp _ (List.mem_of_getElem? (i := 1) rfl)) (hp _ (List.mem_of_getElem? (i := 2) rfl)) (hp _ (List.mem_of_getElem? (i := 3) rfl)) (hp _ (List.mem_of_getElem? (i := 4) rfl)) (hp _ (List.mem_of_getElem? (i := 5) rfl))
  · cases h

end Go.Proofs.YtheeaplnobdpoaaDoor
