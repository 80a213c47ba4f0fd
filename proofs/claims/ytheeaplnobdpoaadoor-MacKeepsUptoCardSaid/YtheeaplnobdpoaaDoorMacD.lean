/- What a tag under a key is, by layers: plain facts. No condition beyond lengths. -/
import Derived.Test.YtheeaplnobdpoaaDoorMacC
namespace Go.Proofs.YtheeaplnobdpoaaDoor
open Go.RowKit Sx
set_option linter.unusedVariables false
set_option linter.unusedSimpArgs false
set_option maxRecDepth 100000
set_option maxHeartbeats 4000000
theorem stA_in {st : List Int} (h : ∀ i, InK .u32 (st.getD i 0)) (ws : List Int) : ∀ (k i : Nat), InK .u32 ((stA st ws k).getD i 0)
  | 0, i => h i
  | k + 1, i => by
    show InK .u32 ((sumL _ _).getD i 0)
    have hw : ∀ x : Int, 0 ≤ IntKind.u32.wrap x ∧ IntKind.u32.wrap x < 4294967296 := fun x => by rw [wmod32]; omega
    unfold sumL
    rcases i with _ | _ | _ | _ | _ | _ | _ | _ | i
    all_goals first | exact hw _ | (show InK .u32 0; simp [InK])
theorem IVL_in : ∀ i, InK .u32 ((norm8 IVL).getD i 0) := fun i => by
  rcases i with _ | _ | _ | _ | _ | _ | _ | _ | i
  all_goals first | (show InK .u32 0; simp [InK]; done) | (simp [norm8, IVL, InK]; done)
theorem stA_pre (st a b : List Int) : ∀ {q : Nat}, 16 * q ≤ a.length → stA st (a ++ b) q = stA st a q
  | 0, _ => rfl
  | q + 1, h => by
    show blockS _ _ = blockS _ _
    rw [stA_pre st a b (q := q) (by omega)]
    congr 1
    rw [List.drop_append_of_le_length (by omega), List.take_append_of_le_length (by simp; omega)]
theorem stA_app {st a b : List Int} {q : Nat} (ha : a.length = 16 * q) : ∀ k, stA st (a ++ b) (q + k) = stA (stA st a q) b k
  | 0 => stA_pre st a b (by omega)
  | k + 1 => by
    show blockS _ _ = blockS _ _
    have h := stA_app (st := st) (b := b) ha k
    have h' : stA st (a ++ b) (q + k) = stA (stA st a q) b k := h
    show blockS (stA st (a ++ b) (q + k)) (((a ++ b).drop (16 * (q + k))).take 16) = _
    rw [h', show 16 * (q + k) = a.length + 16 * k by omega, List.drop_length_add_append]
/-- A digest of the first k words. -/
def dgS (ws : List Int) (k : Nat) : List Int := stA IVL (ws.take k) (k / 16)
def dgW (ws : List Int) (k : Nat) : List Int := (ws.take k).drop (16 * (k / 16))
theorem dgS_0 (ws : List Int) : dgS ws 0 = IVL := rfl
theorem dgW_0 (ws : List Int) : dgW ws 0 = [] := by simp [dgW]
theorem IVL_8 : IVL = [IVL.getD 0 0, IVL.getD 1 0, IVL.getD 2 0, IVL.getD 3 0, IVL.getD 4 0, IVL.getD 5 0, IVL.getD 6 0, IVL.getD 7 0] := rfl
theorem norm_dgS (ws : List Int) (k : Nat) : norm8 (dgS ws k) = dgS ws k := stA_8 IVL_8 _
theorem dgW_len {ws : List Int} {k : Nat} (h : k ≤ ws.length) : (dgW ws k).length = k % 16 := by
  unfold dgW; rw [List.length_drop, List.length_take]; omega
theorem dg_split {ws : List Int} {k : Nat} (n : Nat) : (ws.take k).take (16 * (k / 16)) ++ (dgW ws k ++ (ws.drop k).take n) = ws.take (k + n) := by
  unfold dgW
  rw [← List.append_assoc, List.take_append_drop, List.take_add]
theorem dg_pre {ws : List Int} {k : Nat} (h : k ≤ ws.length) : ((ws.take k).take (16 * (k / 16))).length = 16 * (k / 16) := by
  rw [List.length_take, List.length_take]; omega
theorem add_dgS {ws : List Int} {k n : Nat} (h : k + n ≤ ws.length) : addSt (dgS ws k) (dgW ws k) ((ws.drop k).take n) = dgS ws (k + n) := by
  have hp := dg_pre (ws := ws) (k := k) (by omega)
  have hl : ((ws.drop k).take n).length = n := by rw [List.length_take, List.length_drop]; omega
  have hd := dgW_len (ws := ws) (k := k) (by omega)
  unfold addSt
  rw [norm_dgS, hl, hd]
  have e : (k + n) / 16 = k / 16 + (k % 16 + n) / 16 := by omega
  have e2 : dgS ws k = stA IVL ((ws.take k).take (16 * (k / 16))) (k / 16) := by
    unfold dgS
    conv => lhs; rw [← List.take_append_drop (16 * (k / 16)) (ws.take k)]
    exact stA_pre _ _ _ (by omega)
  rw [e2, ← stA_app hp, dg_split]
  unfold dgS
  rw [e]
theorem add_dgW {ws : List Int} {k n : Nat} (h : k + n ≤ ws.length) : addWs (dgW ws k) ((ws.drop k).take n) = dgW ws (k + n) := by
  have hp := dg_pre (ws := ws) (k := k) (by omega)
  have hl : ((ws.drop k).take n).length = n := by rw [List.length_take, List.length_drop]; omega
  have hd := dgW_len (ws := ws) (k := k) (by omega)
  unfold addWs
  rw [hl, hd]
  have e : 16 * ((k + n) / 16) = 16 * (k / 16) + 16 * ((k % 16 + n) / 16) := by omega
  unfold dgW
  rw [e, show List.take (k + n) ws = (ws.take k).take (16 * (k / 16)) ++ (dgW ws k ++ (ws.drop k).take n) from (dg_split n).symm]
  conv => rhs; rw [show 16 * (k / 16) + 16 * ((k % 16 + n) / 16) = ((ws.take k).take (16 * (k / 16))).length + 16 * ((k % 16 + n) / 16) by rw [hp], List.drop_length_add_append]
  rfl
theorem sum_dg (ws : List Int) {k : Nat} (h : k ≤ ws.length) (l n : Int) : sumW (ws.take k) l n = endS (dgS ws k) (dgW ws k) l n := by
  have hl : (ws.take k).length = k := by rw [List.length_take]; omega
  unfold sumW dgS dgW
  rw [hl]

theorem bO_wB {bs : List Int} {n : Nat} (hl : bs.length = 4 * n) (hb : ∀ x ∈ bs, InK .u8 x) : bO (wB bs n) = bs := by
  have hbl : (bO (wB bs n)).length = 4 * n := by rw [bO_len, wB_len]
  have hg := fun i => getD_u8 (l := bs) hb i
  refine list_eq (by omega) fun t ht => ?_
  rw [hbl] at ht
  obtain ⟨i, j, rfl, hj⟩ : ∃ i j, t = 4 * i + j ∧ j < 4 := ⟨t / 4, t % 4, by omega, by omega⟩
  have hi : i < n := by omega
  obtain ⟨q0, q1, q2, q3⟩ := bO_getD (wB bs n) i (by rw [wB_len]; omega)
  rw [wB_getD hi] at q0 q1 q2 q3
  have u0 := hg (4 * i); have u1 := hg (4 * i + 1); have u2 := hg (4 * i + 2); have u3 := hg (4 * i + 3)
  rcases (by omega : j = 0 ∨ j = 1 ∨ j = 2 ∨ j = 3) with rfl | rfl | rfl | rfl
  · rw [Nat.add_zero, q0]; omega
  · rw [q1]; omega
  · rw [q2]; omega
  · rw [q3]; omega
theorem mem_getD {l : List Int} {x : Int} (h : x ∈ l) : ∃ i, i < l.length ∧ x = l.getD i 0 := by
  obtain ⟨i, hi, he⟩ := List.mem_iff_getElem.1 h
  exact ⟨i, hi, by rw [List.getD_eq_getElem?_getD, List.getElem?_eq_getElem hi]; exact he.symm⟩
theorem wB_in {bs : List Int} {n : Nat} (hb : ∀ x ∈ bs, InK .u8 x) : ∀ x ∈ wB bs n, InK .u32 x := by
  intro x hx
  obtain ⟨i, hi, rfl⟩ := mem_getD hx
  rw [wB_len] at hi
  have hg := fun i => getD_u8 (l := bs) hb i
  rw [wB_getD hi]
  have u0 := hg (4 * i); have u1 := hg (4 * i + 1); have u2 := hg (4 * i + 2); have u3 := hg (4 * i + 3)
  simp only [InK]; omega
theorem e8_in {l : List Int} (h : ∀ i, InK .u32 (l.getD i 0)) : ∀ x ∈ e8 l, InK .u32 x := by
  intro x hx
  simp only [e8, List.mem_cons, List.not_mem_nil, or_false] at hx
  rcases hx with rfl | rfl | rfl | rfl | rfl | rfl | rfl | rfl <;> exact h _
theorem IVL_in2 : ∀ i, InK .u32 (IVL.getD i 0) := IVL_in
theorem sumW_in (ws : List Int) (l n : Int) (i : Nat) : InK .u32 ((sumW ws l n).getD i 0) := by
  unfold sumW endS
  exact stA_in (fun i => stA_in IVL_in2 _ _ i) _ _ _
theorem sum_bV {ws : List Int} (h : ∀ x ∈ ws, InK .u32 x) : s8 (bO ws) = e8 (sumW ws 2147483648 (32 * ws.length)) := by
  have e : 8 * ((bO ws).length : Int) = 32 * (ws.length : Int) := by rw [bO_len]; omega
  have h := sumW_bO h (8 * ((bO ws).length : Int))
  unfold s8
  rw [h, e]
  rfl
theorem kwS_in {ks : List Int} (h : ∀ x ∈ ks, InK .u32 x) : ∀ x ∈ kwS ks, InK .u32 x := by
  unfold kwS
  split
  · rw [wV_eq]; exact e8_in fun i => by
      rcases i with _ | _ | _ | _ | _ | _ | _ | _ | i
      all_goals first | exact sumW_in _ _ _ _ | (show InK .u32 0; simp [InK])
  · exact h
theorem padS_key {ks : List Int} (h : ∀ x ∈ ks, InK .u32 x) (pad : Int) : padS (bV ks) pad = padS (bV (kwS ks)) pad := by
  have e : keyS (bV ks) = keyS (bV (kwS ks)) := by
    by_cases hl : 16 < ks.length
    · have hk : kwS ks = e8 (wV ks) := by unfold kwS; rw [if_pos hl]
      unfold keyS
      rw [bV_len, bV_len, hk, if_pos (by omega), if_neg (by show ¬ 64 < 4 * 8; omega), bV_eq ks, sum_bV h, wV_eq]
      rfl
    · have hk : kwS ks = ks := by unfold kwS; rw [if_neg hl]
      rw [hk]
  unfold padS
  rw [e]
/-- The key's first block, turned. -/
noncomputable def PK (ks : List Int) (pad : Int) : List Int := wB (padS (bV (kwS ks)) pad) 16
theorem PK_len (ks : List Int) (pad : Int) : (PK ks pad).length = 16 := wB_len _ _
theorem PK_in (ks : List Int) (pad : Int) : ∀ x ∈ PK ks pad, InK .u32 x := wB_in (padS_in _ _)
theorem PK_bO (ks : List Int) (pad : Int) : bO (PK ks pad) = padS (bV (kwS ks)) pad := bO_wB (padS_len _ _) (padS_in _ _)
/-- A tag by words. -/
noncomputable def tI (ks ms : List Int) : List Int := e8 (sumW (PK ks 54 ++ ms) 2147483648 (32 * (16 + (ms.length : Int))))
theorem tag_is {ks ms : List Int} (hk : ∀ x ∈ ks, InK .u32 x) (hm : ∀ x ∈ ms, InK .u32 x) : e8 (tagV (bV ks) (bV ms)) = e8 (sumW (PK ks 92 ++ tI ks ms) 2147483648 (32 * (16 + 8))) := by
  have step : ∀ (pad : Int) (xs : List Int), (∀ x ∈ xs, InK .u32 x) → sV (padS (bV (kwS ks)) pad ++ bV xs) = e8 (sumW (PK ks pad ++ xs) 2147483648 (32 * (16 + (xs.length : Int)))) := fun pad xs hx => by
    rw [← PK_bO, bV_eq xs, ← bO_append, sV_eq, sum_bV (in_app (PK_in ks pad) hx), List.length_append, PK_len]
    rw [show (((16 + xs.length : Nat)) : Int) = 16 + (xs.length : Int) by omega]
  rw [tagV_eq, padS_key hk, padS_key hk, step 54 ms hm]
  have hi : e8 (e8 (sumW (PK ks 54 ++ ms) 2147483648 (32 * (16 + (ms.length : Int))))) = tI ks ms := rfl
  rw [hi, step 92 (tI ks ms) (e8_in fun i => sumW_in _ _ _ i)]
  rfl
theorem sum_head {P xs : List Int} (hp : P.length = 16) (l n : Int) : sumW (P ++ xs) l n = endS (addSt (stA IVL P 1) [] xs) (addWs [] xs) l n := by
  have h0 : (P ++ xs).length = 16 + xs.length := by rw [List.length_append, hp]
  have hq : (16 + xs.length) / 16 = 1 + xs.length / 16 := by omega
  have hn : norm8 (stA IVL P 1) = stA IVL P 1 := stA_8 IVL_8 _
  unfold sumW addSt addWs
  rw [h0, hq, stA_app (by omega), hn]
  have hd : (P ++ xs).drop (16 * (1 + xs.length / 16)) = xs.drop (16 * (xs.length / 16)) := by
    rw [show 16 * (1 + xs.length / 16) = P.length + 16 * (xs.length / 16) by omega, List.drop_length_add_append]
  rw [hd]
  simp
theorem add_head {P : List Int} (hp : P.length = 16) : addSt IVL [] P = stA IVL P 1 ∧ addWs [] P = [] := by
  have hn : norm8 IVL = IVL := rfl
  unfold addSt addWs
  rw [hn]
  simp [hp]
/-- The inner digest behind k words of a message. -/
theorem in_ex : ∃ f : List Int → List Int → Nat → List Int × List Int, ∀ ks ms k, f ks ms k = (dgS (PK ks 54 ++ ms) (16 + k), dgW (PK ks 54 ++ ms) (16 + k)) := ⟨_, fun _ _ _ => rfl⟩
theorem in_0S (ks ms : List Int) : dgS (PK ks 54 ++ ms) (16 + 0) = addSt IVL [] (PK ks 54) := by
  have hp := PK_len ks 54
  rw [(add_head hp).1]
  unfold dgS
  rw [show List.take (16 + 0) (PK ks 54 ++ ms) = PK ks 54 from by rw [List.take_append_of_le_length (by omega)]; exact List.take_of_length_le (by omega)]
theorem in_0W (ks ms : List Int) : dgW (PK ks 54 ++ ms) (16 + 0) = addWs [] (PK ks 54) := by
  have hp := PK_len ks 54
  rw [(add_head hp).2]
  unfold dgW
  rw [show List.take (16 + 0) (PK ks 54 ++ ms) = PK ks 54 from by rw [List.take_append_of_le_length (by omega)]; exact List.take_of_length_le (by omega)]
  exact List.drop_of_length_le (by omega)
theorem in_addS {ks ms : List Int} {k n : Nat} (h : k + n ≤ ms.length) : addSt (dgS (PK ks 54 ++ ms) (16 + k)) (dgW (PK ks 54 ++ ms) (16 + k)) ((ms.drop k).take n) = dgS (PK ks 54 ++ ms) (16 + (k + n)) := by
  have hp := PK_len ks 54
  have e : (PK ks 54 ++ ms).drop (16 + k) = ms.drop k := by rw [← hp, List.drop_length_add_append]
  have := add_dgS (ws := PK ks 54 ++ ms) (k := 16 + k) (n := n) (by rw [List.length_append, hp]; omega)
  rw [e] at this
  rw [this, Nat.add_assoc]
theorem in_addW {ks ms : List Int} {k n : Nat} (h : k + n ≤ ms.length) : addWs (dgW (PK ks 54 ++ ms) (16 + k)) ((ms.drop k).take n) = dgW (PK ks 54 ++ ms) (16 + (k + n)) := by
  have hp := PK_len ks 54
  have e : (PK ks 54 ++ ms).drop (16 + k) = ms.drop k := by rw [← hp, List.drop_length_add_append]
  have := add_dgW (ws := PK ks 54 ++ ms) (k := 16 + k) (n := n) (by rw [List.length_append, hp]; omega)
  rw [e] at this
  rw [this, Nat.add_assoc]
/-- What a handle answers behind k words: the tag of these words. -/
theorem in_tag {ks ms : List Int} {k : Nat} (hk : ∀ x ∈ ks, InK .u32 x) (hm : ∀ x ∈ ms, InK .u32 x) (h : k ≤ ms.length) : e8 (endS (norm8 (addSt (addSt IVL [] (PK ks 92)) (addWs [] (PK ks 92)) (e8 (endS (norm8 (dgS (PK ks 54 ++ ms) (16 + k))) (dgW (PK ks 54 ++ ms) (16 + k)) 2147483648 (32 * (16 + (k : Int))))))) (addWs (addWs [] (PK ks 92)) (e8 (endS (norm8 (dgS (PK ks 54 ++ ms) (16 + k))) (dgW (PK ks 54 ++ ms) (16 + k)) 2147483648 (32 * (16 + (k : Int)))))) 2147483648 (32 * (16 + 8))) = e8 (tagV (bV ks) (bV (ms.take k))) := by
  have hp := PK_len ks 54
  have hq := PK_len ks 92
  have e1 : endS (norm8 (dgS (PK ks 54 ++ ms) (16 + k))) (dgW (PK ks 54 ++ ms) (16 + k)) 2147483648 (32 * (16 + (k : Int))) = sumW (PK ks 54 ++ ms.take k) 2147483648 (32 * (16 + ((ms.take k).length : Int))) := by
    rw [norm_dgS, ← sum_dg _ (by rw [List.length_append, hp]; omega)]
    rw [show List.take (16 + k) (PK ks 54 ++ ms) = PK ks 54 ++ ms.take k from by rw [← hp, List.take_length_add_append]]
    rw [List.length_take, Nat.min_eq_left h]
  have e2 : norm8 (addSt (stA IVL (PK ks 92) 1) [] (tI ks (ms.take k))) = addSt (stA IVL (PK ks 92) 1) [] (tI ks (ms.take k)) := by
    unfold addSt; exact stA_8 (stA_8 IVL_8 _ : norm8 (stA IVL (PK ks 92) 1) = _).symm.symm _
  rw [e1, (add_head hq).1, (add_head hq).2, tag_is hk fun x hx => hm x (List.mem_of_mem_take hx)]
  rw [sum_head hq]
  have hi : e8 (sumW (PK ks 54 ++ ms.take k) 2147483648 (32 * (16 + ((ms.take k).length : Int)))) = tI ks (ms.take k) := rfl
  rw [hi, e2]
end Go.Proofs.YtheeaplnobdpoaaDoor
