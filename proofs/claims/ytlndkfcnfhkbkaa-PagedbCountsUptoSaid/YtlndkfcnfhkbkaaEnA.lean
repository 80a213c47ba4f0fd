/- The packages entry and wardenref11: Check, Encode, Decode, names. No condition beyond the arguments' types. -/
import Derived.Test.YtlndkfcnfhkbkaaSxTypes
import Derived.Test.YtlndkfcnfhkbkaaSxD
namespace Go.Proofs.Ytlndkfcnfhkbkaa
open Go.RowKit Sx
set_option linter.unusedVariables false
set_option linter.unusedSimpArgs false
set_option maxRecDepth 100000
set_option maxHeartbeats 1000000
def goodE (t o r s : Int) (n : Bool) : Prop := (0 ≤ t ∧ t ≤ 6) ∧ (0 ≤ o ∧ o ≤ 63) ∧ (0 ≤ r ∧ r ≤ 63) ∧ (t ≠ 0 ∨ o = 0) ∧ (t = 1 ∨ (r = 0 ∧ s = 0)) ∧ (t = 2 ∨ n = false) ∧ (t ≠ 1 ∨ (1 ≤ s ∧ s ≤ 3))
def goodB (t o r s : Int) (n : Bool) : Bool := decide (0 ≤ t ∧ t ≤ 6) && decide (0 ≤ o ∧ o ≤ 63) && decide (0 ≤ r ∧ r ≤ 63) && decide (t ≠ 0 ∨ o = 0) && decide (t = 1 ∨ (r = 0 ∧ s = 0)) && (decide (t = 2) || !n) && decide (t ≠ 1 ∨ (1 ≤ s ∧ s ≤ 3))
theorem goodB_iff {t o r s : Int} {n : Bool} : goodB t o r s n = true ↔ goodE t o r s n := by
  unfold goodB goodE
  cases n <;> simp only [Bool.and_eq_true, decide_eq_true_eq, Bool.or_eq_true, Bool.not_true, Bool.not_false, Bool.false_eq_true, or_false, or_true, and_true, true_and, reduceCtorEq] <;> omega
def chkE (t o r s : Int) (n : Bool) : Int := if goodB t o r s n then 0 else 110
theorem chk0 {t o r s : Int} {n : Bool} (h : goodE t o r s n) : chkE t o r s n = 0 := by unfold chkE; rw [if_pos (goodB_iff.2 h)]
theorem chk110 {t o r s : Int} {n : Bool} (h : ¬ goodE t o r s n) : chkE t o r s n = 110 := by unfold chkE; rw [if_neg (fun g => h (goodB_iff.1 g))]
theorem chk_good {t o r s : Int} {n : Bool} (h : chkE t o r s n = 0) : goodE t o r s n := by
  by_cases g : goodE t o r s n
  · exact g
  · rw [chk110 g] at h; omega
def wordE (t o s : Int) (n : Bool) : Int := t + 16 * s + 65536 * o + if n then 256 else 0
def zB (b : Bool) (n : Int) : Int := if b then n else 0
theorem zB_t {b : Bool} {n : Int} (h : b = true) : zB b n = n := by simp [zB, h]
theorem zB_f {b : Bool} {n : Int} (h : b = false) : zB b n = 0 := by simp [zB, h]
theorem wmod32 (x : Int) : IntKind.u32.wrap x = x % 4294967296 := by unfold IntKind.wrap; simp [IntKind.bits, IntKind.signed]
theorem or3 {t s o : Int} (h1 : 0 ≤ t ∧ t ≤ 6) (h2 : 0 ≤ s ∧ s ≤ 3) (h3 : 0 ≤ o ∧ o ≤ 63) : bits .or .u32 (bits .or .u32 t (s * 16)) (o * 65536) = t + 16 * s + 65536 * o := by
  rw [or_comm32 t, or_add (x := s * 16) (y := t) 4 (p := 16) (by decide) (by unfold U32; omega) (by omega) (by omega) (by omega) (by omega), or_comm32 _ (o * 65536), or_add (x := o * 65536) 16 (p := 65536) (by decide) (by unfold U32; omega) (by omega) (by omega) (by omega) (by omega)]
  omega
noncomputable def pt_en : List (Nat × (List SV → Option (List Prop × SV))) := []
theorem pt_en_ok : PureOK Try.prog (fun f => List.lookup f pt_en) := pure_list pt_en trivial
noncomputable abbrev cx_en (must : Nat → Option Bool := fun _ => none) (loop : Nat → SS → Option LoopSpec := fun _ _ => none) : Ctx := ⟨tab, inl tab (fun f => List.lookup f pt_en) fns (fun _ => {}) 1000 4, fun f => List.lookup f pt_en, must, loop, 0, 0, fun _ => none⟩
theorem cx_en_ok (must : Nat → Option Bool) (loop : Nat → SS → Option LoopSpec) : CxOK Try.prog (cx_en must loop) := inl_ok mixed tab_ok pt_en_ok fns_ok 4 _ _ _ _
theorem Check_ok (t o r s : Int) (n : Bool)  : PureSem Try.prog 169 [.agg [.int .i64 t, .int .i64 o, .int .i64 r, .int .i64 s, .bool n]] (.int .i64 (chkE t o r s n)) := by
  refine pure_intro mixed (cx_en_ok (fun _ => none) (fun _ _ => none)) Try.func169 1000 rfl rfl ?_
  refine of_nf (p := letI k0_ := ((t == 1) = false -> ((t == 2) = true -> 110 = chkE t o r s n) /\ ((t == 2) = false -> 110 = chkE t o r s n)); letI k1_ := (r == r && (s == s && (n == false && true))); letI k2_ := (r == 0 && (s == 0 && (n == false && true))); letI k3_ := (r == 0 && (s == 0 && (n == n && true))); letI k4_ := ((t == 1) = true -> 110 = chkE t o r s n); (decide (0 <= t) = true -> ((t != 0) = true -> (decide (t < 7) = true -> (decide (0 <= o) = true -> ((t == 1) = true -> (decide (o <= 63) = true -> (decide (0 <= r) = true -> (decide (r <= 63) = true -> (decide (0 < s) = true -> ((!decide (s < 4)) = true -> 110 = chkE t o r s n) /\ ((!decide (s < 4)) = false -> ((!(t == t && (o == o && k1_))) = true -> 110 = chkE t o r s n) /\ ((!(t == t && (o == o && k1_))) = false -> 0 = chkE t o r s n))) /\ (decide (0 < s) = false -> 110 = chkE t o r s n)) /\ (decide (r <= 63) = false -> 110 = chkE t o r s n)) /\ (decide (0 <= r) = false -> 110 = chkE t o r s n)) /\ (decide (o <= 63) = false -> 110 = chkE t o r s n)) /\ ((t == 1) = false -> ((t == 2) = true -> ((!decide (o <= 63)) = true -> 110 = chkE t o r s n) /\ ((!decide (o <= 63)) = false -> ((!(t == t && (o == o && k3_))) = true -> 110 = chkE t o r s n) /\ ((!(t == t && (o == o && k3_))) = false -> 0 = chkE t o r s n))) /\ ((t == 2) = false -> ((!decide (o <= 63)) = true -> 110 = chkE t o r s n) /\ ((!decide (o <= 63)) = false -> ((!(t == t && (o == o && k2_))) = true -> 110 = chkE t o r s n) /\ ((!(t == t && (o == o && k2_))) = false -> 0 = chkE t o r s n))))) /\ (decide (0 <= o) = false -> k4_ /\ k0_)) /\ (decide (t < 7) = false -> k4_ /\ k0_)) /\ ((t != 0) = false -> ((t == 1) = true -> (decide (t < 7) = true -> (decide (0 <= r) = true -> (decide (r <= 63) = true -> (decide (0 < s) = true -> ((!decide (s < 4)) = true -> 110 = chkE t o r s n) /\ ((!decide (s < 4)) = false -> ((!(t == t && (o == 0 && k1_))) = true -> 110 = chkE t o r s n) /\ ((!(t == t && (o == 0 && k1_))) = false -> 0 = chkE t o r s n))) /\ (decide (0 < s) = false -> 110 = chkE t o r s n)) /\ (decide (r <= 63) = false -> 110 = chkE t o r s n)) /\ (decide (0 <= r) = false -> 110 = chkE t o r s n)) /\ (decide (t < 7) = false -> 110 = chkE t o r s n)) /\ ((t == 1) = false -> ((t == 2) = true -> ((!decide (t < 7)) = true -> 110 = chkE t o r s n) /\ ((!decide (t < 7)) = false -> ((!(t == t && (o == 0 && k3_))) = true -> 110 = chkE t o r s n) /\ ((!(t == t && (o == 0 && k3_))) = false -> 0 = chkE t o r s n))) /\ ((t == 2) = false -> ((!decide (t < 7)) = true -> 110 = chkE t o r s n) /\ ((!decide (t < 7)) = false -> ((!(t == t && (o == 0 && k2_))) = true -> 110 = chkE t o r s n) /\ ((!(t == t && (o == 0 && k2_))) = false -> 0 = chkE t o r s n)))))) /\ (decide (0 <= t) = false -> ((t != 0) = true -> k4_ /\ k0_) /\ ((t != 0) = false -> k4_ /\ k0_))) (by kernel_rfl) ?_
  cases n
  all_goals (repeat' (first | with_reducible rfl | apply And.intro | intro _h))
  all_goals (simp only [decide_eq_true_eq, decide_eq_false_iff_not, Bool.not_eq_true', Bool.not_eq_false', bne_iff_ne, ne_eq, bne_eq_false_iff_eq, beq_iff_eq, beq_eq_false_iff_ne, Bool.and_eq_true, Bool.and_eq_false_imp, beq_self_eq_true, Bool.and_true, Bool.true_and, Bool.false_and, Bool.and_false, reduceCtorEq, Bool.not_true, Bool.not_false, Bool.false_eq_true, Bool.true_eq_false, true_and, and_true, not_true_eq_false, not_false_eq_true, BEq.rfl, Bool.beq_eq_decide_eq, decide_true, decide_false] at *)
  all_goals (first | trivial | (exact (chk110 (by unfold goodE; simp only [reduceCtorEq, or_false, or_true, and_true, true_and]; omega)).symm) | (exact (chk0 (by unfold goodE; simp only [reduceCtorEq, or_false, or_true, and_true, true_and]; omega)).symm) | (exfalso; omega))
noncomputable def c_Check : List SV → Option (List Prop × SV)
  | [.agg [.int .i64 t, .int .i64 o, .int .i64 r, .int .i64 s, .bool n]] => some ([], .int .i64 (chkE t o r s n))
  | _ => none
theorem c_Check_e : PEntry Try.prog 169 c_Check := by
  refine ⟨callFunc_ok Try.func169 (by kernel_rfl) (by kernel_rfl), fun args ps v h hp => ?_⟩
  unfold c_Check at h
  split at h
  · cases h; exact Check_ok _ _ _ _ _ 
  · cases h
theorem RCheck_ok (t o r s : Int) (n : Bool)  : PureSem Try.prog 170 [.agg [.int .i64 t, .int .i64 o, .int .i64 r, .int .i64 s, .bool n]] (.int .i64 (chkE t o r s n)) := by
  refine pure_intro mixed (cx_en_ok (fun _ => none) (fun _ _ => none)) Try.func170 1000 rfl rfl ?_
  refine of_nf (p := letI k0_ := ((t == 1) = true -> (decide (s < 1) = true -> 110 = chkE t o r s n) /\ (decide (s < 1) = false -> (decide (3 < s) = true -> 110 = chkE t o r s n) /\ (decide (3 < s) = false -> 0 = chkE t o r s n))); letI k1_ := ((t != 2) = true -> (n = true -> 110 = chkE t o r s n) /\ (n = false -> k0_ /\ ((t == 1) = false -> 0 = chkE t o r s n))); letI k3_ := ((t != 2) = false -> k0_ /\ ((t == 1) = false -> 0 = chkE t o r s n)); letI k2_ := ((t != 1) = true -> ((r != 0) = true -> 110 = chkE t o r s n) /\ ((r != 0) = false -> ((s != 0) = true -> 110 = chkE t o r s n) /\ ((s != 0) = false -> k1_ /\ k3_))); (decide (t < 0) = true -> 110 = chkE t o r s n) /\ (decide (t < 0) = false -> (decide (6 < t) = true -> 110 = chkE t o r s n) /\ (decide (6 < t) = false -> (decide (o < 0) = true -> 110 = chkE t o r s n) /\ (decide (o < 0) = false -> (decide (63 < o) = true -> 110 = chkE t o r s n) /\ (decide (63 < o) = false -> (decide (r < 0) = true -> 110 = chkE t o r s n) /\ (decide (r < 0) = false -> (decide (63 < r) = true -> 110 = chkE t o r s n) /\ (decide (63 < r) = false -> ((t == 0) = true -> ((o != 0) = true -> 110 = chkE t o r s n) /\ ((o != 0) = false -> k2_ /\ ((t != 1) = false -> k1_ /\ k3_))) /\ ((t == 0) = false -> k2_ /\ ((t != 1) = false -> k1_ /\ k3_))))))))) (by kernel_rfl) ?_
  cases n
  all_goals (repeat' (first | with_reducible rfl | apply And.intro | intro _h))
  all_goals (simp only [decide_eq_true_eq, decide_eq_false_iff_not, Bool.not_eq_true', Bool.not_eq_false', bne_iff_ne, ne_eq, bne_eq_false_iff_eq, beq_iff_eq, beq_eq_false_iff_ne, Bool.and_eq_true, Bool.and_eq_false_imp, beq_self_eq_true, Bool.and_true, Bool.true_and, Bool.false_and, Bool.and_false, reduceCtorEq, Bool.not_true, Bool.not_false, Bool.false_eq_true, Bool.true_eq_false, true_and, and_true, not_true_eq_false, not_false_eq_true, BEq.rfl, Bool.beq_eq_decide_eq, decide_true, decide_false] at *)
  all_goals (first | trivial | (exact (chk110 (by unfold goodE; simp only [reduceCtorEq, or_false, or_true, and_true, true_and]; omega)).symm) | (exact (chk0 (by unfold goodE; simp only [reduceCtorEq, or_false, or_true, and_true, true_and]; omega)).symm) | (exfalso; omega))
noncomputable def c_RCheck : List SV → Option (List Prop × SV)
  | [.agg [.int .i64 t, .int .i64 o, .int .i64 r, .int .i64 s, .bool n]] => some ([], .int .i64 (chkE t o r s n))
  | _ => none
theorem c_RCheck_e : PEntry Try.prog 170 c_RCheck := by
  refine ⟨callFunc_ok Try.func170 (by kernel_rfl) (by kernel_rfl), fun args ps v h hp => ?_⟩
  unfold c_RCheck at h
  split at h
  · cases h; exact RCheck_ok _ _ _ _ _ 
  · cases h
noncomputable def pt_en2 : List (Nat × (List SV → Option (List Prop × SV))) := [(169, c_Check), (170, c_RCheck)]
theorem pt_en2_ok : PureOK Try.prog (fun f => List.lookup f pt_en2) := pure_list pt_en2 ⟨c_Check_e, c_RCheck_e, trivial⟩
noncomputable abbrev cx_en2 (must : Nat → Option Bool := fun _ => none) (loop : Nat → SS → Option LoopSpec := fun _ _ => none) : Ctx := ⟨tab, inl tab (fun f => List.lookup f pt_en2) fns (fun _ => {}) 1000 4, fun f => List.lookup f pt_en2, must, loop, 0, 0, fun _ => none⟩
theorem cx_en2_ok (must : Nat → Option Bool) (loop : Nat → SS → Option LoopSpec) : CxOK Try.prog (cx_en2 must loop) := inl_ok mixed tab_ok pt_en2_ok fns_ok 4 _ _ _ _
theorem Encode_ok (t o r s : Int) (n : Bool)  : PureSem Try.prog 157 [.agg [.int .i64 t, .int .i64 o, .int .i64 r, .int .i64 s, .bool n]] (.tup [.agg [.int .u32 (zB (goodB t o r s n) (wordE t o s n)), .int .u32 (zB (goodB t o r s n) r)], .int .i64 (chkE t o r s n)]) := by
  refine pure_intro mixed (cx_en2_ok (fun _ => none) (fun _ _ => none)) Try.func157 1000 rfl rfl ?_
  refine of_nf (p := ((chkE t o r s n != 0) = true -> (0 = zB (goodB t o r s n) (wordE t o s n) /\ 0 = zB (goodB t o r s n) r /\ True) /\ 110 = chkE t o r s n /\ True) /\ ((chkE t o r s n != 0) = false -> (n = true -> (bits BinOp.or IntKind.u32 (bits BinOp.or IntKind.u32 (bits BinOp.or IntKind.u32 (IntKind.u32.wrap (IntKind.u32.wrap t * 1)) (IntKind.u32.wrap (IntKind.u32.wrap s * 16))) (IntKind.u32.wrap (IntKind.u32.wrap o * 65536))) 256 = zB (goodB t o r s n) (wordE t o s n) /\ IntKind.u32.wrap r = zB (goodB t o r s n) r /\ True) /\ 0 = chkE t o r s n /\ True) /\ (n = false -> (bits BinOp.or IntKind.u32 (bits BinOp.or IntKind.u32 (IntKind.u32.wrap (IntKind.u32.wrap t * 1)) (IntKind.u32.wrap (IntKind.u32.wrap s * 16))) (IntKind.u32.wrap (IntKind.u32.wrap o * 65536)) = zB (goodB t o r s n) (wordE t o s n) /\ IntKind.u32.wrap r = zB (goodB t o r s n) r /\ True) /\ 0 = chkE t o r s n /\ True))) (by kernel_rfl) ?_
  have hg : chkE t o r s n = 0 → goodE t o r s n := chk_good
  by_cases g : goodE t o r s n
  · have gb := goodB_iff.2 g
    rw [chk0 g, gb]
    unfold goodE at g
    obtain ⟨g1, g2, g3, g4, g5, g6, g7⟩ := g
    have gs : 0 ≤ s ∧ s ≤ 3 := by omega
    have e1 : IntKind.u32.wrap (IntKind.u32.wrap t * 1) = t := by rw [wmod32, wmod32]; omega
    have e2 : IntKind.u32.wrap (IntKind.u32.wrap s * 16) = s * 16 := by rw [wmod32, wmod32]; omega
    have e3 : IntKind.u32.wrap (IntKind.u32.wrap o * 65536) = o * 65536 := by rw [wmod32, wmod32]; omega
    rw [e1, e2, e3, or3 g1 gs g2, or_b8 (by omega) (by omega)]
    cases n
    all_goals (simp only [zB, wordE, wmod32, if_true, if_false, reduceIte, Bool.false_eq_true])
    all_goals (repeat' (first | with_reducible rfl | apply And.intro | intro _h))
    all_goals (first | trivial | omega | (simp at *; done))
  · have gb : goodB t o r s n = false := by
      cases h : goodB t o r s n with
      | false => rfl
      | true => exact absurd (goodB_iff.1 h) g
    rw [chk110 g, gb]
    refine ⟨fun _ => by simp [zB], fun h => by simp at h⟩
noncomputable def c_Encode : List SV → Option (List Prop × SV)
  | [.agg [.int .i64 t, .int .i64 o, .int .i64 r, .int .i64 s, .bool n]] => some ([], .tup [.agg [.int .u32 (zB (goodB t o r s n) (wordE t o s n)), .int .u32 (zB (goodB t o r s n) r)], .int .i64 (chkE t o r s n)])
  | _ => none
theorem c_Encode_e : PEntry Try.prog 157 c_Encode := by
  refine ⟨callFunc_ok Try.func157 (by kernel_rfl) (by kernel_rfl), fun args ps v h hp => ?_⟩
  unfold c_Encode at h
  split at h
  · cases h; exact Encode_ok _ _ _ _ _ 
  · cases h
theorem REncode_ok (t o r s : Int) (n : Bool)  : PureSem Try.prog 160 [.agg [.int .i64 t, .int .i64 o, .int .i64 r, .int .i64 s, .bool n]] (.tup [.agg [.int .u32 (zB (goodB t o r s n) (wordE t o s n)), .int .u32 (zB (goodB t o r s n) r)], .int .i64 (chkE t o r s n)]) := by
  refine pure_intro mixed (cx_en2_ok (fun _ => none) (fun _ _ => none)) Try.func160 1000 rfl rfl ?_
  refine of_nf (p := ((chkE t o r s n != 0) = true -> (0 = zB (goodB t o r s n) (wordE t o s n) /\ 0 = zB (goodB t o r s n) r /\ True) /\ chkE t o r s n = chkE t o r s n /\ True) /\ ((chkE t o r s n != 0) = false -> ((-9223372036854775808 : Int) <= (16 : Int) * s /\ (16 : Int) * s < 9223372036854775808) /\ ((-9223372036854775808 : Int) <= t + 16 * s /\ t + 16 * s < 9223372036854775808) /\ ((-9223372036854775808 : Int) <= (65536 : Int) * o /\ (65536 : Int) * o < 9223372036854775808) /\ ((-9223372036854775808 : Int) <= t + 16 * s + 65536 * o /\ t + 16 * s + 65536 * o < 9223372036854775808) /\ (n = true -> ((-9223372036854775808 : Int) <= t + 16 * s + 65536 * o + 256 /\ t + 16 * s + 65536 * o + 256 < (9223372036854775808 : Int)) /\ (IntKind.u32.wrap (t + 16 * s + 65536 * o + 256) = zB (goodB t o r s n) (wordE t o s n) /\ IntKind.u32.wrap r = zB (goodB t o r s n) r /\ True) /\ 0 = chkE t o r s n /\ True) /\ (n = false -> (IntKind.u32.wrap (t + 16 * s + 65536 * o) = zB (goodB t o r s n) (wordE t o s n) /\ IntKind.u32.wrap r = zB (goodB t o r s n) r /\ True) /\ 0 = chkE t o r s n /\ True))) (by kernel_rfl) ?_
  have hg : chkE t o r s n = 0 → goodE t o r s n := chk_good
  by_cases g : goodE t o r s n
  · have gb := goodB_iff.2 g
    rw [chk0 g, gb]
    unfold goodE at g
    obtain ⟨g1, g2, g3, g4, g5, g6, g7⟩ := g
    have gs : 0 ≤ s ∧ s ≤ 3 := by omega
    cases n
    all_goals (simp only [zB, wordE, wmod32, if_true, if_false, reduceIte, Bool.false_eq_true])
    all_goals (repeat' (first | with_reducible rfl | apply And.intro | intro _h))
    all_goals (first | trivial | omega | (simp at *; done))
  · have gb : goodB t o r s n = false := by
      cases h : goodB t o r s n with
      | false => rfl
      | true => exact absurd (goodB_iff.1 h) g
    rw [chk110 g, gb]
    refine ⟨fun _ => by simp [zB], fun h => by simp at h⟩
noncomputable def c_REncode : List SV → Option (List Prop × SV)
  | [.agg [.int .i64 t, .int .i64 o, .int .i64 r, .int .i64 s, .bool n]] => some ([], .tup [.agg [.int .u32 (zB (goodB t o r s n) (wordE t o s n)), .int .u32 (zB (goodB t o r s n) r)], .int .i64 (chkE t o r s n)])
  | _ => none
theorem c_REncode_e : PEntry Try.prog 160 c_REncode := by
  refine ⟨callFunc_ok Try.func160 (by kernel_rfl) (by kernel_rfl), fun args ps v h hp => ?_⟩
  unfold c_REncode at h
  split at h
  · cases h; exact REncode_ok _ _ _ _ _ 
  · cases h
def okD (w v : Int) : Bool := goodB (w % 8) (w / 65536 % 64) (v % 64) (w / 16 % 4) (w / 256 % 2 == 1) && decide (wordE (w % 8) (w / 65536 % 64) (w / 16 % 4) (w / 256 % 2 == 1) = w) && decide (v % 64 = v)
theorem okD_eq (w v : Int) : okD w v = (goodB (w % 8) (w / 65536 % 64) (v % 64) (w / 16 % 4) (w / 256 % 2 == 1) && decide (wordE (w % 8) (w / 65536 % 64) (w / 16 % 4) (w / 256 % 2 == 1) = w) && decide (v % 64 = v)) := rfl
noncomputable def pt_en3 : List (Nat × (List SV → Option (List Prop × SV))) := [(157, c_Encode), (160, c_REncode)]
theorem pt_en3_ok : PureOK Try.prog (fun f => List.lookup f pt_en3) := pure_list pt_en3 ⟨c_Encode_e, c_REncode_e, trivial⟩
noncomputable abbrev cx_en3 (must : Nat → Option Bool := fun _ => none) (loop : Nat → SS → Option LoopSpec := fun _ _ => none) : Ctx := ⟨tab, inl tab (fun f => List.lookup f pt_en3) fns (fun _ => {}) 1000 4, fun f => List.lookup f pt_en3, must, loop, 0, 0, fun _ => none⟩
theorem cx_en3_ok (must : Nat → Option Bool) (loop : Nat → SS → Option LoopSpec) : CxOK Try.prog (cx_en3 must loop) := inl_ok mixed tab_ok pt_en3_ok fns_ok 4 _ _ _ _
theorem Decode_ok (w v : Int) (h0 : InK .u32 w) (h1 : InK .u32 v) : PureSem Try.prog 118 [.agg [.int .u32 w, .int .u32 v]] (.tup [.agg [.int .i64 (zB (okD w v) (w % 8)), .int .i64 (zB (okD w v) (w / 65536 % 64)), .int .i64 (zB (okD w v) (v % 64)), .int .i64 (zB (okD w v) (w / 16 % 4)), .bool (okD w v && w / 256 % 2 == 1)], .int .i64 (if okD w v then 0 else 110)]) := by
  refine pure_intro mixed (cx_en3_ok (fun _ => none) (fun _ _ => none)) Try.func118 1000 rfl rfl ?_
  refine of_nf (p := letI k1_ := (bits BinOp.and IntKind.u32 (w / 256) (1 : Int) == (1 : Int)); letI k2_ := (chkE (bits BinOp.and IntKind.u32 (w / 1) (7 : Int)) (bits BinOp.and IntKind.u32 (w / 65536) (63 : Int)) (bits BinOp.and IntKind.u32 v (63 : Int)) (bits BinOp.and IntKind.u32 (w / 16) (3 : Int)) k1_ != 0); letI k3_ := (0 = zB (okD w v) (w % 8) /\ 0 = zB (okD w v) (w / 65536 % (64 : Int)) /\ 0 = zB (okD w v) (v % 64) /\ 0 = zB (okD w v) (w / 16 % (4 : Int)) /\ false = (okD w v && w / 256 % (2 : Int) == (1 : Int)) /\ True); letI k4_ := (goodB (bits BinOp.and IntKind.u32 (w / 1) (7 : Int)) (bits BinOp.and IntKind.u32 (w / 65536) (63 : Int)) (bits BinOp.and IntKind.u32 v (63 : Int)) (bits BinOp.and IntKind.u32 (w / 16) (3 : Int)) k1_); letI k0_ := (!(zB k4_ (wordE (bits BinOp.and IntKind.u32 (w / 1) (7 : Int)) (bits BinOp.and IntKind.u32 (w / 65536) (63 : Int)) (bits BinOp.and IntKind.u32 (w / 16) (3 : Int)) k1_) == w && (zB k4_ (bits BinOp.and IntKind.u32 v (63 : Int)) == v && true))); (0 <= bits BinOp.and IntKind.u32 (w / 1) (7 : Int) /\ bits BinOp.and IntKind.u32 (w / 1) (7 : Int) < (4294967296 : Int)) /\ (0 <= bits BinOp.and IntKind.u32 (w / 16) (3 : Int) /\ bits BinOp.and IntKind.u32 (w / 16) (3 : Int) < (4294967296 : Int)) /\ (0 <= bits BinOp.and IntKind.u32 (w / 65536) (63 : Int) /\ bits BinOp.and IntKind.u32 (w / 65536) (63 : Int) < (4294967296 : Int)) /\ (0 <= bits BinOp.and IntKind.u32 v (63 : Int) /\ bits BinOp.and IntKind.u32 v (63 : Int) < (4294967296 : Int)) /\ (k2_ = true -> k3_ /\ (110 = if okD w v = true then (0 : Int) else (110 : Int)) /\ True) /\ (k2_ = false -> (k0_ = true -> k3_ /\ (110 = if okD w v = true then (0 : Int) else (110 : Int)) /\ True) /\ (k0_ = false -> (bits BinOp.and IntKind.u32 (w / 1) 7 = zB (okD w v) (w % 8) /\ bits BinOp.and IntKind.u32 (w / 65536) 63 = zB (okD w v) (w / 65536 % (64 : Int)) /\ bits BinOp.and IntKind.u32 v 63 = zB (okD w v) (v % 64) /\ bits BinOp.and IntKind.u32 (w / 16) 3 = zB (okD w v) (w / 16 % (4 : Int)) /\ k1_ = (okD w v && w / 256 % (2 : Int) == (1 : Int)) /\ True) /\ (0 = if okD w v = true then (0 : Int) else (110 : Int)) /\ True))) (by kernel_rfl) ?_
  simp only [InK] at *
  rw [Int.ediv_one]
  have a1 := and_m3 h0
  have a2 := and_m6 h1
  rw [and_m3 h0, and_m6 (x := v) h1, and_m2 (x := w / 16) (by omega), and_m6 (x := w / 65536) (by omega), and_m1 (x := w / 256) (by omega)]
  have hg := @chk_good (w % 8) (w / 65536 % 64) (v % 64) (w / 16 % 4) (w / 256 % 2 == 1)
  rw [okD_eq]
  by_cases g : goodE (w % 8) (w / 65536 % 64) (v % 64) (w / 16 % 4) (w / 256 % 2 == 1)
  · rw [chk0 g, goodB_iff.2 g]
    generalize wordE (w % 8) (w / 65536 % 64) (w / 16 % 4) (w / 256 % 2 == 1) = x
    generalize (w / 256 % 2 == 1) = y
    by_cases e1 : x = w <;> by_cases e2 : v % 64 = v
    all_goals (repeat' (first | with_reducible rfl | apply And.intro | intro _h))
    all_goals (first | trivial | omega | (simp_all [zB]; done) | (simp_all [zB]; omega))
  · have gb : goodB (w % 8) (w / 65536 % 64) (v % 64) (w / 16 % 4) (w / 256 % 2 == 1) = false := by
      cases h : goodB (w % 8) (w / 65536 % 64) (v % 64) (w / 16 % 4) (w / 256 % 2 == 1) with
      | false => rfl
      | true => exact absurd (goodB_iff.1 h) g
    rw [chk110 g, gb]
    repeat' (first | with_reducible rfl | apply And.intro | intro _h)
    all_goals (first | trivial | omega | (simp [zB]; done) | (simp at *; done))
end Go.Proofs.Ytlndkfcnfhkbkaa
