/- Messages padded, the program's Block over them. No condition beyond lengths. -/
import Derived.Test.YtheeaplnobdpoaaDoorShaF
namespace Go.Proofs.YtheeaplnobdpoaaDoor
open Go.RowKit Sx
set_option linter.unusedVariables false
set_option linter.unusedSimpArgs false
set_option maxRecDepth 100000
set_option maxHeartbeats 4000000
theorem wB_app {a b : List Int} {k : Nat} (ha : a.length = 64 * k) : wB ((a ++ b).drop (64 * k)) 16 = wB (b.drop 0) 16 := by
  rw [← ha, List.drop_left]; rfl
theorem stB_app {st a b : List Int} {q : Nat} (ha : a.length = 64 * q) : ∀ k, stB st (a ++ b) (q + k) = stB (stB st (a ++ b) q) b k
  | 0 => rfl
  | k + 1 => by
    rw [← Nat.add_assoc]
    simp only [stB]
    rw [stB_app ha k, show 64 * (q + k) = a.length + 64 * k by omega, List.drop_append, List.drop_of_length_le (by omega), List.nil_append, show a.length + 64 * k - a.length = 64 * k by omega]
theorem wB_congr {a b : List Int} (h : ∀ i, i < 64 → a.getD i 0 = b.getD i 0) : wB a 16 = wB b 16 := by
  refine list_eq (by rw [wB_len, wB_len]) fun i hi => ?_
  rw [wB_len] at hi
  rw [wB_getD hi, wB_getD hi, h (4 * i) (by omega), h (4 * i + 1) (by omega), h (4 * i + 2) (by omega), h (4 * i + 3) (by omega)]
theorem getD_drop (l : List Int) (a i : Nat) : (l.drop a).getD i 0 = l.getD (a + i) 0 := by
  rw [List.getD_eq_getElem?_getD, List.getElem?_drop, List.getD_eq_getElem?_getD]
theorem stB_pre {st a b : List Int} : ∀ {k : Nat}, 64 * k ≤ a.length → stB st (a ++ b) k = stB st a k
  | 0, _ => rfl
  | k + 1, h => by
    simp only [stB]
    rw [stB_pre (by omega)]
    congr 1
    refine wB_congr fun i hi => ?_
    rw [getD_drop, getD_drop, getD_app_l (by omega)]
theorem padB_split (bs : List Int) (n : Int) {q : Nat} (h : 64 * q ≤ bs.length) : padB bs n = bs.take (64 * q) ++ padB (bs.drop (64 * q)) n := by
  unfold padB
  rw [List.length_drop, show zB (bs.length - 64 * q) = zB bs.length by unfold zB; omega]
  simp only [← List.append_assoc, List.take_append_drop]
/-- The blocks of the padded whole. -/
theorem stB_pad (bs : List Int) (n : Int) : stB IVL (padB bs n) ((padB bs n).length / 64) = stB (stB IVL bs (bs.length / 64)) (padB (bs.drop (64 * (bs.length / 64))) n) ((padB (bs.drop (64 * (bs.length / 64))) n).length / 64) := by
  have hq : 64 * (bs.length / 64) ≤ bs.length := by omega
  have ha : (bs.take (64 * (bs.length / 64))).length = 64 * (bs.length / 64) := by rw [List.length_take]; omega
  rw [padB_split bs n hq]
  rw [List.length_append, ha, show (64 * (bs.length / 64) + (padB (bs.drop (64 * (bs.length / 64))) n).length) / 64 = bs.length / 64 + (padB (bs.drop (64 * (bs.length / 64))) n).length / 64 by omega]
  rw [stB_app ha, stB_pre (by omega)]
  congr 1
  have := stB_pre (st := IVL) (a := bs.take (64 * (bs.length / 64))) (b := bs.drop (64 * (bs.length / 64))) (k := bs.length / 64) (by omega)
  rw [List.take_append_drop] at this
  exact this.symm
theorem sumP_eq (bs : List Int) {n : Int} (hn : 0 ≤ n ∧ n < 18446744073709551616) : sumW (wB bs (bs.length / 4)) (lastB bs) n = stB IVL (padB bs n) ((padB bs n).length / 64) := by
  rw [stB_pad, sumB_eq bs hn]
/-- A block's words while its bytes are laid. -/
def wQ (bs : List Int) (k : Nat) : List Int := (wP bs 16 (k / 4)).set (k / 4) (pB bs (k / 4) (k % 4))
theorem wQ_len (bs : List Int) {k : Nat} (h : k < 64) : (wQ bs k).length = 16 := by unfold wQ; rw [List.length_set, wP_len (by omega)]
theorem wQ_zero (bs : List Int) : wQ bs 0 = List.replicate 16 0 := by
  show (wP bs 16 0).set 0 0 = _
  rw [← wP_set0 (by omega)]
  simp [wP, wB]
theorem wQ_get (bs : List Int) {k : Nat} (h : k < 64) : (wQ bs k).getD (k / 4) 0 = pB bs (k / 4) (k % 4) := by unfold wQ; exact wP_getset (by omega) _
theorem wQ_next (bs : List Int) {k : Nat} (h : k < 64) : (wQ bs k).set (k / 4) (pB bs (k / 4) (k % 4 + 1)) = wQ bs (k + 1) := by
  unfold wQ
  rw [List.set_set]
  by_cases h4 : k % 4 = 3
  · rw [h4, wP_next (by omega), show (k + 1) / 4 = k / 4 + 1 by omega, show (k + 1) % 4 = 0 by omega]
    by_cases hk : k / 4 + 1 < 16
    · show _ = (wP bs 16 (k / 4 + 1)).set (k / 4 + 1) 0
      exact wP_set0 hk
    · obtain hk : k / 4 + 1 = 16 := by omega
      rw [hk, List.set_eq_of_length_le (by rw [wP_len (Nat.le_refl _)]; exact Nat.le_refl _)]
  · rw [show (k + 1) / 4 = k / 4 by omega, show (k + 1) % 4 = k % 4 + 1 by omega]
theorem wQ_all (bs : List Int) : wQ bs 64 = wB bs 16 := by
  unfold wQ
  rw [List.set_eq_of_length_le (by rw [wP_len (by omega)]; exact Nat.le_refl _)]
  exact wP_all
noncomputable def pt_sk : List (Nat × (List SV → Option (List Prop × SV))) := [(64, c_Block)]
theorem pt_sk_ok : PureOK Tryd.prog (fun f => List.lookup f pt_sk) := pure_list pt_sk ⟨c_Block_e, trivial⟩
noncomputable abbrev cx_sk (must : Nat → Option Bool := fun _ => none) (loop : Nat → SS → Option LoopSpec := fun _ _ => none) : Ctx := ⟨tab, inl tab (fun f => List.lookup f pt_sk) fns (fun _ => {}) 1000 4, fun f => List.lookup f pt_sk, must, loop, 0, 0, fun _ => none⟩
theorem cx_sk_ok (must : Nat → Option Bool) (loop : Nat → SS → Option LoopSpec) : CxOK Tryd.prog (cx_sk must loop) := inl_ok mixed tab_ok pt_sk_ok fns_ok 4 _ _ _ _
end Go.Proofs.YtheeaplnobdpoaaDoor
