/- What MacPieces calls: copies, tags by words, a place within. No condition beyond lengths. -/
import Derived.Test.YtheeaplnobdpoaaDoorMacD
namespace Go.Proofs.YtheeaplnobdpoaaDoor
open Go.RowKit Sx
set_option linter.unusedVariables false
set_option linter.unusedSimpArgs false
set_option maxRecDepth 100000
set_option maxHeartbeats 8000000
theorem mT_ex : ∃ f : List Int → Int → List Int → List Int → Int → List Int → List Int, ∀ st n xs st' n' xs', f st n xs st' n' xs' = endS (norm8 (addSt st' xs' (e8 (endS (norm8 st) xs 2147483648 (32 * n))))) (addWs xs' (e8 (endS (norm8 st) xs 2147483648 (32 * n)))) 2147483648 (32 * (n' + 8)) := ⟨_, fun _ _ _ _ _ _ => rfl⟩
noncomputable def mT : List Int → Int → List Int → List Int → Int → List Int → List Int := Classical.choose mT_ex
theorem mT_eq (st : List Int) (n : Int) (xs st' : List Int) (n' : Int) (xs' : List Int) : mT st n xs st' n' xs' = endS (norm8 (addSt st' xs' (e8 (endS (norm8 st) xs 2147483648 (32 * n))))) (addWs xs' (e8 (endS (norm8 st) xs 2147483648 (32 * n)))) 2147483648 (32 * (n' + 8)) := Classical.choose_spec mT_ex st n xs st' n' xs'
theorem TagM_ok (st : List Int) (n : Int) (xs : List Int) (st' : List Int) (n' : Int) (xs' : List Int) (h0 : xs.length < 16) (h1 : 0 ≤ n) (h2 : n ≤ 36028797018963968) (h3 : xs'.length < 16) (h4 : 0 ≤ n') (h5 : n' ≤ 36028797018963000) : SemCall Tryd.prog 21 [.ptr 0 0] [some ⟨40, [.ptr 1 0, .ptr 2 0], 0, none⟩, some ⟨123, [], 0, some (.own (.dig st n xs))⟩, some ⟨123, [], 0, some (.own (.dig st' n' xs'))⟩] (AltK [⟨none, .agg [.int .u32 ((mT st n xs st' n' xs').getD 0 0), .int .u32 ((mT st n xs st' n' xs').getD 1 0), .int .u32 ((mT st n xs st' n' xs').getD 2 0), .int .u32 ((mT st n xs st' n' xs').getD 3 0), .int .u32 ((mT st n xs st' n' xs').getD 4 0), .int .u32 ((mT st n xs st' n' xs').getD 5 0), .int .u32 ((mT st n xs st' n' xs').getD 6 0), .int .u32 ((mT st n xs st' n' xs').getD 7 0)], [some ⟨40, [.ptr 1 0, .ptr 2 0], 0, none⟩, some ⟨123, [], 0, some (.own (.dig st n xs))⟩, some ⟨123, [], 0, some (.own (.dig st' n' xs'))⟩]⟩]) := by
  rw [mT_eq]
  exact TagMac_ok st n xs st' n' xs' h0 h1 h2 h3 h4 h5
noncomputable def c_TagM : ECon
  | [.ptr 0 0], [some ⟨40, [.ptr 1 0, .ptr 2 0], 0, none⟩, some ⟨123, [], 0, some (.own (.dig st n xs))⟩, some ⟨123, [], 0, some (.own (.dig st' n' xs'))⟩] => some ([xs.length < 16, 0 ≤ n, n ≤ 36028797018963968, xs'.length < 16, 0 ≤ n', n' ≤ 36028797018963000], [⟨none, .agg [.int .u32 ((mT st n xs st' n' xs').getD 0 0), .int .u32 ((mT st n xs st' n' xs').getD 1 0), .int .u32 ((mT st n xs st' n' xs').getD 2 0), .int .u32 ((mT st n xs st' n' xs').getD 3 0), .int .u32 ((mT st n xs st' n' xs').getD 4 0), .int .u32 ((mT st n xs st' n' xs').getD 5 0), .int .u32 ((mT st n xs st' n' xs').getD 6 0), .int .u32 ((mT st n xs st' n' xs').getD 7 0)], [some ⟨40, [.ptr 1 0, .ptr 2 0], 0, none⟩, some ⟨123, [], 0, some (.own (.dig st n xs))⟩, some ⟨123, [], 0, some (.own (.dig st' n' xs'))⟩]⟩])
  | _, _ => none
theorem c_TagM_e : EEntry Tryd.prog 21 c_TagM := by
  refine ⟨callFunc_ok Tryd.func21 (by kernel_rfl) (by kernel_rfl), fun args rows ps alts h hp => ?_⟩
  unfold c_TagM at h
  split at h
  · cases h; exact TagM_ok _ _ _ _ _ _ (hp _ (List.mem_of_getElem? (i := 0) rfl)) (hp _ (List.mem_of_getElem? (i := 1) rfl)) (hp _ (List.mem_of_getElem? (i := 2) rfl)) (hp _ (List.mem_of_getElem? (i := 3) rfl)) (hp _ (List.mem_of_getElem? (i := 4) rfl)) (hp _ (List.mem_of_getElem? (i := 5) rfl))
  · cases h
/-- What a handle answers, by the law. -/
theorem mT_tag {ks ms : List Int} {k : Nat} (hk : ∀ x ∈ ks, InK .u32 x) (hm : ∀ x ∈ ms, InK .u32 x) (h : k ≤ ms.length) : e8 (mT (dgS (PK ks 54 ++ ms) (16 + k)) (16 + (k : Int)) (dgW (PK ks 54 ++ ms) (16 + k)) (addSt IVL [] (PK ks 92)) 16 (addWs [] (PK ks 92))) = e8 (tagV (bV ks) (bV (ms.take k))) := by
  rw [mT_eq]
  exact in_tag hk hm h
theorem e8_inj {a b : List Int} (h : e8 a = e8 b) : a.getD 0 0 = b.getD 0 0 ∧ a.getD 1 0 = b.getD 1 0 ∧ a.getD 2 0 = b.getD 2 0 ∧ a.getD 3 0 = b.getD 3 0 ∧ a.getD 4 0 = b.getD 4 0 ∧ a.getD 5 0 = b.getD 5 0 ∧ a.getD 6 0 = b.getD 6 0 ∧ a.getD 7 0 = b.getD 7 0 := by
  unfold e8 at h
  simp only [List.cons.injEq, and_true] at h
  exact h
theorem in_len (ks ms : List Int) {k : Nat} (h : k ≤ ms.length) : (dgW (PK ks 54 ++ ms) (16 + k)).length < 16 := by
  rw [dgW_len (by rw [List.length_append, PK_len]; omega)]; omega
noncomputable def pt_Ea : List (Nat × (List SV → Option (List Prop × SV))) := []
theorem pt_Ea_ok : PureOK Tryd.prog (fun f => List.lookup f pt_Ea) := pure_list pt_Ea trivial
noncomputable abbrev cx_Ea (must : Nat → Option Bool := fun _ => none) (loop : Nat → SS → Option LoopSpec := fun _ _ => none) : Ctx := ⟨tab, inl tab (fun f => List.lookup f pt_Ea) fns (fun _ => {}) 1000 4, fun f => List.lookup f pt_Ea, must, loop, 0, 0, fun _ => none⟩
theorem cx_Ea_ok (must : Nat → Option Bool) (loop : Nat → SS → Option LoopSpec) : CxOK Tryd.prog (cx_Ea must loop) := inl_ok mixed tab_ok pt_Ea_ok fns_ok 4 _ _ _ _
theorem words_ok (v : Value) (ws : List Int) (h0 : (ws.length : Int) ≤ 60000000000) : SemCall Tryd.prog 16 [.rd .u32 v ws] [] (AltK [⟨none, .on 0 ws.length true, [some ⟨28, [.ints .u32 ws.length ws], 1, none⟩]⟩]) := by
  refine con_intro mixed (cx_Ea_ok (fun _ => none) (fun _ _ => none)) Tryd.func16 1000 ?_
  refine of_nf (p := ws.length ≤ (68719476736 : Nat) ∧ ((ws.length = ws.length ∧ true = true) ∧ True) ∧ (nat_lit 27 + (1 : Nat) = (28 : TypeId) ∧ nat_lit 0 + (1 : Nat) = (1 : Nat) ∧ @Bool.rec (fun _ => Prop) False (ws = ws) (true && ws.length.beq ws.length) ∧ True) ∧ True) (by kernel_rfl) ?_
  simp only [↓forall_eq]
  repeat' (first | with_reducible rfl | exact True.intro | with_reducible assumption | exact OwnSame.mk fun _ => rfl | exact OwnSameE.mk fun _ => rfl | apply And.intro | apply pieceEq | intro _)
  all_goals first | omega | rfl | (simp; done) | trace_state
noncomputable def c_words : ECon
  | [.rd .u32 v ws], [] => some ([(ws.length : Int) ≤ 60000000000], [⟨none, .on 0 ws.length true, [some ⟨28, [.ints .u32 ws.length ws], 1, none⟩]⟩])
  | _, _ => none
theorem c_words_e : EEntry Tryd.prog 16 c_words := by
  refine ⟨callFunc_ok Tryd.func16 (by kernel_rfl) (by kernel_rfl), fun args rows ps alts h hp => ?_⟩
  unfold c_words at h
  split at h
  · cases h; exact words_ok _ _ (hp _ (List.mem_of_getElem? (i := 0) rfl))
  · cases h
theorem within_ok (n lo hi : Int) (h0 : 0 ≤ lo) (h1 : lo ≤ hi) (h2 : hi ≤ 1099511627776) : PureSem Tryd.prog 19 [.int .i64 n, .int .i64 lo, .int .i64 hi] (.int .i64 (lo + n % (hi - lo + 1))) := by
  refine pure_intro mixed (cx_Ea_ok (fun _ => none) (fun _ _ => none)) Tryd.func19 1000 rfl rfl ?_
  refine of_nf (p := ((-9223372036854775808 : Int) ≤ hi - lo ∧ hi - lo < (9223372036854775808 : Int)) ∧ ((-9223372036854775808 : Int) ≤ hi - lo + (1 : Int) ∧ hi - lo + (1 : Int) < (9223372036854775808 : Int)) ∧ hi - lo + (1 : Int) ≠ (0 : Int) ∧ (decide (n.tmod (hi - lo + (1 : Int)) < (0 : Int)) = true → ((-9223372036854775808 : Int) ≤ n.tmod (hi - lo + (1 : Int)) + hi ∧ n.tmod (hi - lo + (1 : Int)) + hi < (9223372036854775808 : Int)) ∧ ((-9223372036854775808 : Int) ≤ n.tmod (hi - lo + (1 : Int)) + hi - lo ∧ n.tmod (hi - lo + (1 : Int)) + hi - lo < (9223372036854775808 : Int)) ∧ ((-9223372036854775808 : Int) ≤ n.tmod (hi - lo + (1 : Int)) + hi - lo + (1 : Int) ∧ n.tmod (hi - lo + (1 : Int)) + hi - lo + (1 : Int) < (9223372036854775808 : Int)) ∧ ((-9223372036854775808 : Int) ≤ lo + (n.tmod (hi - lo + (1 : Int)) + hi - lo + (1 : Int)) ∧ lo + (n.tmod (hi - lo + (1 : Int)) + hi - lo + (1 : Int)) < (9223372036854775808 : Int)) ∧ lo + (n.tmod (hi - lo + (1 : Int)) + hi - lo + (1 : Int)) = lo + n % (hi - lo + (1 : Int))) ∧ (decide (n.tmod (hi - lo + (1 : Int)) < (0 : Int)) = false → ((-9223372036854775808 : Int) ≤ lo + n.tmod (hi - lo + (1 : Int)) ∧ lo + n.tmod (hi - lo + (1 : Int)) < (9223372036854775808 : Int)) ∧ lo + n.tmod (hi - lo + (1 : Int)) = lo + n % (hi - lo + (1 : Int)))) (by kernel_rfl) ?_
  have hm := Int.emod_nonneg n (show hi - lo + 1 ≠ 0 by omega)
  have hlt := Int.emod_lt_of_pos n (show 0 < hi - lo + 1 by omega)
  have hb : (0 ≤ n.tmod (hi - lo + 1) ∧ n.tmod (hi - lo + 1) = n % (hi - lo + 1)) ∨ (n.tmod (hi - lo + 1) < 0 ∧ n.tmod (hi - lo + 1) + (hi - lo + 1) = n % (hi - lo + 1)) := by
    rw [Int.tmod_eq_emod]
    have habs : ((hi - lo + 1).natAbs : Int) = hi - lo + 1 := by omega
    split
    · exact .inl ⟨by omega, by omega⟩
    · by_cases hz : n % (hi - lo + 1) = 0
      · rename_i hne
        exact absurd (.inr (Int.dvd_of_emod_eq_zero hz)) hne
      · exact .inr ⟨by omega, by omega⟩
  refine ⟨⟨by omega, by omega⟩, ⟨by omega, by omega⟩, by omega, fun hl => ?_, fun hg => ?_⟩
  · have hl := of_decide_eq_true hl
    repeat' apply And.intro
    all_goals omega
  · have hg := of_decide_eq_false hg
    repeat' apply And.intro
    all_goals omega
noncomputable def c_within : List SV → Option (List Prop × SV)
  | [.int .i64 n, .int .i64 lo, .int .i64 hi] => some ([0 ≤ lo, lo ≤ hi, hi ≤ 1099511627776], .int .i64 (lo + n % (hi - lo + 1)))
  | _ => none
theorem c_within_e : PEntry Tryd.prog 19 c_within := by
  refine ⟨callFunc_ok Tryd.func19 (by kernel_rfl) (by kernel_rfl), fun args ps v h hp => ?_⟩
  unfold c_within at h
  split at h
  · cases h; exact within_ok _ _ _ (hp _ (List.mem_of_getElem? (i := 0) rfl)) (hp _ (List.mem_of_getElem? (i := 1) rfl)) (hp _ (List.mem_of_getElem? (i := 2) rfl))
  · cases h
noncomputable def pt_Eb : List (Nat × (List SV → Option (List Prop × SV))) := []
theorem pt_Eb_ok : PureOK Tryd.prog (fun f => List.lookup f pt_Eb) := pure_list pt_Eb trivial
noncomputable def et_Eb : List (Nat × ECon) := [(18, c_NewMac), (20, c_AddO), (21, c_TagM)]
theorem et_Eb_ok : ConOK Tryd.prog (fun f => List.lookup f et_Eb) := con_list et_Eb ⟨c_NewMac_e, c_AddO_e, c_TagM_e, trivial⟩
noncomputable abbrev cx_Eb (must : Nat → Option Bool := fun _ => none) (loop : Nat → SS → Option LoopSpec := fun _ _ => none) : Ctx := ⟨tab, inlG tab (fun f => List.lookup f pt_Eb) (fun f => List.lookup f et_Eb) fns (fun _ => {}) 1000 4, fun f => List.lookup f pt_Eb, must, loop, 0, 0, fun f => List.lookup f et_Eb⟩
theorem cx_Eb_ok (must : Nat → Option Bool) (loop : Nat → SS → Option LoopSpec) : CxOK Tryd.prog (cx_Eb must loop) := inlG_ok mixed tab_ok pt_Eb_ok et_Eb_ok fns_ok 4 _ _ _ _
theorem macTag_ok (v : Value) (ks : List Int) (u : Value) (ms : List Int) (h0 : (∀ x ∈ ks, InK .u32 x)) (h1 : (∀ x ∈ ms, InK .u32 x)) (h2 : (ks.length : Int) ≤ 15000000000) (h3 : (ms.length : Int) ≤ 15000000000) : PureSem Tryd.prog 15 [.rd .u32 v ks, .rd .u32 u ms] (.agg [.int .u32 ((tagV (bV ks) (bV ms)).getD 0 0), .int .u32 ((tagV (bV ks) (bV ms)).getD 1 0), .int .u32 ((tagV (bV ks) (bV ms)).getD 2 0), .int .u32 ((tagV (bV ks) (bV ms)).getD 3 0), .int .u32 ((tagV (bV ks) (bV ms)).getD 4 0), .int .u32 ((tagV (bV ks) (bV ms)).getD 5 0), .int .u32 ((tagV (bV ks) (bV ms)).getD 6 0), .int .u32 ((tagV (bV ks) (bV ms)).getD 7 0)]) := by
  refine pure_intro mixed (cx_Eb_ok (fun _ => none) (fun _ _ => none)) Tryd.func15 1000 rfl rfl ?_
  refine of_nf (p := ((ks.length : Nat) : Int) ≤ (15000000000 : Int) ∧ ∀ (st' : List Int), st' = addSt IVL [] (wB (padS (bV (kwS ks)) (54 : Int)) (16 : Nat)) → ∀ (n' : Int), n' = (16 : Int) → ∀ (ws' : List Int), ws' = addWs [] (wB (padS (bV (kwS ks)) (54 : Int)) (16 : Nat)) → ∀ (st'_1 : List Int), st'_1 = addSt IVL [] (wB (padS (bV (kwS ks)) (92 : Int)) (16 : Nat)) → ∀ (n'_1 : Int), n'_1 = (16 : Int) → ∀ (ws'_1 : List Int), ws'_1 = addWs [] (wB (padS (bV (kwS ks)) (92 : Int)) (16 : Nat)) → ws'.length < (16 : Nat) ∧ (0 : Int) ≤ n' ∧ n' + ((ms.length : Nat) : Int) ≤ (36028797018963968 : Int) ∧ ((ms.length : Nat) : Int) ≤ (60000000000 : Int) ∧ ∀ (st'_2 : List Int), st'_2 = addSt st' ws' ms → ∀ (n'_2 : Int), n'_2 = n' + ((ms.length : Nat) : Int) → ∀ (ws'_2 : List Int), ws'_2 = addWs ws' ms → ∀ (st' : List Int), st' = st'_1 → ∀ (n' : Int), n' = n'_1 → ∀ (ws' : List Int), ws' = ws'_1 → ws'_2.length < (16 : Nat) ∧ (0 : Int) ≤ n'_2 ∧ n'_2 ≤ (36028797018963968 : Int) ∧ ws'.length < (16 : Nat) ∧ (0 : Int) ≤ n' ∧ n' ≤ (36028797018963000 : Int) ∧ ∀ (m : Int), m = (mT st'_2 n'_2 ws'_2 st' n' ws').getD (0 : Nat) (0 : Int) → ∀ (m_1 : Int), m_1 = (mT st'_2 n'_2 ws'_2 st' n' ws').getD (1 : Nat) (0 : Int) → ∀ (m_2 : Int), m_2 = (mT st'_2 n'_2 ws'_2 st' n' ws').getD (2 : Nat) (0 : Int) → ∀ (m_3 : Int), m_3 = (mT st'_2 n'_2 ws'_2 st' n' ws').getD (3 : Nat) (0 : Int) → ∀ (m_4 : Int), m_4 = (mT st'_2 n'_2 ws'_2 st' n' ws').getD (4 : Nat) (0 : Int) → ∀ (m_5 : Int), m_5 = (mT st'_2 n'_2 ws'_2 st' n' ws').getD (5 : Nat) (0 : Int) → ∀ (m_6 : Int), m_6 = (mT st'_2 n'_2 ws'_2 st' n' ws').getD (6 : Nat) (0 : Int) → ∀ (m_7 : Int), m_7 = (mT st'_2 n'_2 ws'_2 st' n' ws').getD (7 : Nat) (0 : Int) → ∀ (st'_3 : List Int), st'_3 = st'_2 → ∀ (n'_3 : Int), n'_3 = n'_2 → ∀ (ws'_3 : List Int), ws'_3 = ws'_2 → ∀ (st'_4 : List Int), st'_4 = st' → ∀ (n'_4 : Int), n'_4 = n' → ∀ (ws'_4 : List Int), ws'_4 = ws' → m = (tagV (bV ks) (bV ms)).getD (0 : Nat) (0 : Int) ∧ m_1 = (tagV (bV ks) (bV ms)).getD (1 : Nat) (0 : Int) ∧ m_2 = (tagV (bV ks) (bV ms)).getD (2 : Nat) (0 : Int) ∧ m_3 = (tagV (bV ks) (bV ms)).getD (3 : Nat) (0 : Int) ∧ m_4 = (tagV (bV ks) (bV ms)).getD (4 : Nat) (0 : Int) ∧ m_5 = (tagV (bV ks) (bV ms)).getD (5 : Nat) (0 : Int) ∧ m_6 = (tagV (bV ks) (bV ms)).getD (6 : Nat) (0 : Int) ∧ m_7 = (tagV (bV ks) (bV ms)).getD (7 : Nat) (0 : Int) ∧ True) (by kernel_rfl) ?_
  have hP : ∀ pad, wB (padS (bV (kwS ks)) pad) 16 = PK ks pad := fun _ => rfl
  have s0 : addSt IVL [] (PK ks 54) = dgS (PK ks 54 ++ ms) (16 + 0) := (in_0S ks ms).symm
  have w0 : addWs [] (PK ks 54) = dgW (PK ks 54 ++ ms) (16 + 0) := (in_0W ks ms).symm
  have s1 := in_addS (ks := ks) (ms := ms) (k := 0) (n := ms.length) (by omega)
  have w1 := in_addW (ks := ks) (ms := ms) (k := 0) (n := ms.length) (by omega)
  rw [List.drop_zero, List.take_length, Nat.zero_add] at s1 w1
  have hT := mT_tag h0 h1 (Nat.le_refl ms.length)
  rw [List.take_length] at hT
  obtain ⟨t0, t1, t2, t3, t4, t5, t6, t7⟩ := e8_inj hT
  have l0 := in_len ks ms (k := 0) (by omega)
  have l1 := in_len ks ms (k := ms.length) (by omega)
  have l2 : (addWs [] (PK ks 92)).length < 16 := by rw [addWs_len]; omega
  simp only [↓forall_eq, hP, s0, w0, s1, w1, t0, t1, t2, t3, t4, t5, t6, t7]
  repeat' (first | with_reducible rfl | exact True.intro | with_reducible assumption | exact OwnSame.mk fun _ => rfl | exact OwnSameE.mk fun _ => rfl | apply And.intro | apply pieceEq | intro _)
  all_goals first | omega | rfl
noncomputable def c_macTag : List SV → Option (List Prop × SV)
  | [.rd .u32 v ks, .rd .u32 u ms] => some ([(∀ x ∈ ks, InK .u32 x), (∀ x ∈ ms, InK .u32 x), (ks.length : Int) ≤ 15000000000, (ms.length : Int) ≤ 15000000000], .agg [.int .u32 ((tagV (bV ks) (bV ms)).getD 0 0), .int .u32 ((tagV (bV ks) (bV ms)).getD 1 0), .int .u32 ((tagV (bV ks) (bV ms)).getD 2 0), .int .u32 ((tagV (bV ks) (bV ms)).getD 3 0), .int .u32 ((tagV (bV ks) (bV ms)).getD 4 0), .int .u32 ((tagV (bV ks) (bV ms)).getD 5 0), .int .u32 ((tagV (bV ks) (bV ms)).getD 6 0), .int .u32 ((tagV (bV ks) (bV ms)).getD 7 0)])
  | _ => none
theorem c_macTag_e : PEntry Tryd.prog 15 c_macTag := by
  refine ⟨callFunc_ok Tryd.func15 (by kernel_rfl) (by kernel_rfl), fun args ps v h hp => ?_⟩
  unfold c_macTag at h
  split at h
  · cases h; exact macTag_ok _ _ _ _ (hp _ (List.mem_of_getElem? (i := 0) rfl)) (hp _ (List.mem_of_getElem? (i := 1) rfl)) (hp _ (List.mem_of_getElem? (i := 2) rfl)) (hp _ (List.mem_of_getElem? (i := 3) rfl))
  · cases h

end Go.Proofs.YtheeaplnobdpoaaDoor
