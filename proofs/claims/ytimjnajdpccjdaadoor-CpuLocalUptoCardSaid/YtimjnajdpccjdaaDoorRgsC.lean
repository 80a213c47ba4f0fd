/- The packages regs and wardenref08: the register file. No condition beyond the arguments' types. -/
import Derived.Test.YtimjnajdpccjdaaDoorWkNum
namespace Go.Proofs.YtimjnajdpccjdaaDoor
set_option linter.unusedVariables false
set_option linter.unusedSimpArgs false
open Go.RowKit Sx
set_option maxRecDepth 100000
set_option maxHeartbeats 1000000
def sg (a : Int) : Int := if a < 2147483648 then a else a - 4294967296
theorem w_i32 {a : Int} (h : 0 ≤ a ∧ a < 4294967296) : IntKind.i32.wrap a = sg a := by
  unfold sg IntKind.wrap
  simp [IntKind.bits, IntKind.signed]
  split <;> split <;> omega
def holdsS (c : Int) (z n l : Bool) : Bool := if c = 0 then true else if c = 1 then z else if c = 2 then !z else if c = 3 then n else if c = 4 then !n else if c = 5 then l else if c = 6 then !l else false
noncomputable def pt_rg : List (Nat × (List SV → Option (List Prop × SV))) := []
theorem pt_rg_ok : PureOK Tryd.prog (fun f => List.lookup f pt_rg) := pure_list pt_rg trivial
noncomputable abbrev cx_rg (must : Nat → Option Bool := fun _ => none) (loop : Nat → SS → Option LoopSpec := fun _ _ => none) (fz : Nat → SS → List Nat := fun _ _ => []) (on : Bool := false) : Ctx := ⟨tab, inl tab (fun f => List.lookup f pt_rg) fns (fun _ => {}) 1000 6, fun f => List.lookup f pt_rg, must, loop, 0, 0, fun _ => none, fz, on⟩
theorem cx_rg_ok (must : Nat → Option Bool) (loop : Nat → SS → Option LoopSpec) (fz : Nat → SS → List Nat) (on : Bool) : CxOK Tryd.prog (cx_rg must loop fz on) := inl_ok mixed tab_ok pt_rg_ok fns_ok 6 _ _ _ _ _ _
theorem Compare_ok (R : List Int) (pc : Int) (z n l : Bool) (a b : Int) (h0 : InK .u32 a) (h1 : InK .u32 b) : PureSem Tryd.prog 95 [.agg [.ints .u32 15 R, .int .u32 pc, .bool z, .bool n, .bool l], .int .u32 a, .int .u32 b] (.agg [.ints .u32 15 R, .int .u32 pc, .bool (a == b), .bool (decide (sg a < sg b)), .bool (decide (a < b))]) := by
  refine pure_intro mixed (cx_rg_ok (fun _ => none) (fun _ _ => none) (fun _ _ => []) false) Tryd.func95 1000 rfl rfl ?_
  refine of_nf (p := R = R /\ pc = pc /\ (a == b) = (a == b) /\ decide (IntKind.i32.wrap a < IntKind.i32.wrap b) = decide (sg a < sg b) /\ decide (a < b) = decide (a < b) /\ True) (by kernel_rfl) ?_
  rw [w_i32 h0, w_i32 h1]
  all_goals (try dsimp only)
  repeat' (first | with_reducible rfl | (apply And.intro) | (intro _hc) | (apply Exists.intro))
  all_goals (try simp only [decide_eq_true_eq, decide_eq_false_iff_not, bne_iff_ne, ne_eq, beq_iff_eq, bne_eq_false_iff_eq, beq_eq_false_iff_ne, Bool.not_eq_true', Bool.not_eq_false', Bool.and_eq_true, Bool.or_eq_true, Bool.and_eq_false_imp, Bool.or_eq_false_iff, Sx.InK, reduceCtorEq, Bool.false_eq_true, Bool.true_eq_false, Bool.not_true, Bool.not_false, if_true, if_false, true_and, and_true, false_and, and_false, false_or, or_false, true_or, or_true, not_true_eq_false, not_false_eq_true, eq_self, ite_true, ite_false, fl, reduceIte, Bool.and_true, Bool.true_and, Bool.and_false, Bool.false_and, Bool.or_true, Bool.or_false, Bool.true_or, Bool.false_or] at *)
  all_goals (try simp (disch := omega) only [Int.tdiv_eq_ediv_of_nonneg, Int.tmod_eq_emod_of_nonneg, w_u32, w_i64, w_u64, w_u8, or_b0, or_b1, or_b2, or_b3, or_b4, or_b5, or_b6, or_b7, or_b8, or_b9, or_b10, or_b11, or_b12, or_b13, or_b14, or_b15, or_b16, or_b17, or_b18, or_b19, or_b20, or_b21, or_b22, or_b23, or_b24, or_b25, or_b26, or_b27, or_b28, or_b29, or_b30, or_b31, and_b0, and_b1, and_b2, and_b3, and_b4, and_b5, and_b6, and_b7, and_b8, and_b9, and_b10, and_b11, and_b12, and_b13, and_b14, and_b15, and_b16, and_b17, and_b18, and_b19, and_b20, and_b21, and_b22, and_b23, and_b24, and_b25, and_b26, and_b27, and_b28, and_b29, and_b30, and_b31, and_m2, and_m3, and_m4, and_m5, and_m6, and_m7, and_m8, and_m9, and_m10, and_m11, and_m12, and_m13, and_m14, and_m15, and_m16, and_m17, and_m18, and_m19, and_m20, and_m21, and_m22, and_m23, and_m24, and_m25, and_m26, and_m27, and_m28, and_m29, and_m30, and_m31, and_m32] at *)
  all_goals (first | trivial | assumption | omega | (exfalso; simp at *; done) | (simp only [apply_ite Prod.fst, apply_ite Prod.snd, decide_eq_true_eq, decide_eq_false_iff_not, bne_iff_ne, ne_eq, beq_iff_eq, bne_eq_false_iff_eq, beq_eq_false_iff_ne, Bool.not_eq_true', Bool.not_eq_false', Bool.and_eq_true, Bool.or_eq_true, Bool.and_eq_false_imp, Bool.or_eq_false_iff, Sx.InK, reduceCtorEq, Bool.false_eq_true, Bool.true_eq_false, Bool.not_true, Bool.not_false, if_true, if_false, true_and, and_true, false_and, and_false, false_or, or_false, true_or, or_true, not_true_eq_false, not_false_eq_true, eq_self, ite_true, ite_false, fl, reduceIte, Bool.and_true, Bool.true_and, Bool.and_false, Bool.false_and, Bool.or_true, Bool.or_false, Bool.true_or, Bool.false_or] at *; first | trivial | omega | ((repeat' split) <;> first | rfl | omega | (exfalso; omega) | (simp only []; omega) | (simp; omega))))
noncomputable def c_Compare : List SV → Option (List Prop × SV)
  | [.agg [.ints .u32 15 R, .int .u32 pc, .bool z, .bool n, .bool l], .int .u32 a, .int .u32 b] => some ([InK .u32 a, InK .u32 b], .agg [.ints .u32 15 R, .int .u32 pc, .bool (a == b), .bool (decide (sg a < sg b)), .bool (decide (a < b))])
  | _ => none
theorem c_Compare_e : PEntry Tryd.prog 95 c_Compare := by
  refine ⟨callFunc_ok Tryd.func95 (by kernel_rfl) (by kernel_rfl), fun args ps v h hp => ?_⟩
  unfold c_Compare at h
  split at h
  · cases h; exact Compare_ok _ _ _ _ _ _ _ (hp.i 0) (hp.i 1)
  · cases h
theorem Holds_ok (R : List Int) (pc : Int) (z n l : Bool) (c : Int)  : PureSem Tryd.prog 128 [.agg [.ints .u32 15 R, .int .u32 pc, .bool z, .bool n, .bool l], .int .i64 c] (.bool (holdsS c z n l)) := by
  refine pure_intro mixed (cx_rg_ok (fun _ => none) (fun _ _ => none) (fun _ _ => []) false) Tryd.func128 1000 rfl rfl ?_
  refine of_nf (p := ((c == 0) = true -> true = holdsS c z n l) /\ ((c == 0) = false -> ((c == 1) = true -> z = holdsS c z n l) /\ ((c == 1) = false -> ((c == 2) = true -> (!z) = holdsS c z n l) /\ ((c == 2) = false -> ((c == 3) = true -> n = holdsS c z n l) /\ ((c == 3) = false -> ((c == 4) = true -> (!n) = holdsS c z n l) /\ ((c == 4) = false -> ((c == 5) = true -> l = holdsS c z n l) /\ ((c == 5) = false -> ((c == 6) = true -> (!l) = holdsS c z n l) /\ ((c == 6) = false -> false = holdsS c z n l)))))))) (by kernel_rfl) ?_
  all_goals (try dsimp only)
  repeat' (first | with_reducible rfl | (apply And.intro) | (intro _hc) | (apply Exists.intro))
  all_goals (try simp only [decide_eq_true_eq, decide_eq_false_iff_not, bne_iff_ne, ne_eq, beq_iff_eq, bne_eq_false_iff_eq, beq_eq_false_iff_ne, Bool.not_eq_true', Bool.not_eq_false', Bool.and_eq_true, Bool.or_eq_true, Bool.and_eq_false_imp, Bool.or_eq_false_iff, Sx.InK, reduceCtorEq, Bool.false_eq_true, Bool.true_eq_false, Bool.not_true, Bool.not_false, if_true, if_false, true_and, and_true, false_and, and_false, false_or, or_false, true_or, or_true, not_true_eq_false, not_false_eq_true, eq_self, ite_true, ite_false, fl, reduceIte, Bool.and_true, Bool.true_and, Bool.and_false, Bool.false_and, Bool.or_true, Bool.or_false, Bool.true_or, Bool.false_or] at *)
  all_goals (try simp (disch := omega) only [Int.tdiv_eq_ediv_of_nonneg, Int.tmod_eq_emod_of_nonneg, w_u32, w_i64, w_u64, w_u8, or_b0, or_b1, or_b2, or_b3, or_b4, or_b5, or_b6, or_b7, or_b8, or_b9, or_b10, or_b11, or_b12, or_b13, or_b14, or_b15, or_b16, or_b17, or_b18, or_b19, or_b20, or_b21, or_b22, or_b23, or_b24, or_b25, or_b26, or_b27, or_b28, or_b29, or_b30, or_b31, and_b0, and_b1, and_b2, and_b3, and_b4, and_b5, and_b6, and_b7, and_b8, and_b9, and_b10, and_b11, and_b12, and_b13, and_b14, and_b15, and_b16, and_b17, and_b18, and_b19, and_b20, and_b21, and_b22, and_b23, and_b24, and_b25, and_b26, and_b27, and_b28, and_b29, and_b30, and_b31, and_m2, and_m3, and_m4, and_m5, and_m6, and_m7, and_m8, and_m9, and_m10, and_m11, and_m12, and_m13, and_m14, and_m15, and_m16, and_m17, and_m18, and_m19, and_m20, and_m21, and_m22, and_m23, and_m24, and_m25, and_m26, and_m27, and_m28, and_m29, and_m30, and_m31, and_m32] at *)
  all_goals (first | trivial | assumption | omega | (exfalso; simp at *; done) | (simp only [apply_ite Prod.fst, apply_ite Prod.snd, fl, holdsS, decide_eq_true_eq, decide_eq_false_iff_not, bne_iff_ne, ne_eq, beq_iff_eq, bne_eq_false_iff_eq, beq_eq_false_iff_ne, Bool.not_eq_true', Bool.not_eq_false', Bool.and_eq_true, Bool.or_eq_true, Bool.and_eq_false_imp, Bool.or_eq_false_iff, Sx.InK, reduceCtorEq, Bool.false_eq_true, Bool.true_eq_false, Bool.not_true, Bool.not_false, if_true, if_false, true_and, and_true, false_and, and_false, false_or, or_false, true_or, or_true, not_true_eq_false, not_false_eq_true, eq_self, ite_true, ite_false, fl, reduceIte, Bool.and_true, Bool.true_and, Bool.and_false, Bool.false_and, Bool.or_true, Bool.or_false, Bool.true_or, Bool.false_or] at *; first | trivial | omega | ((repeat' split) <;> first | rfl | omega | (exfalso; omega) | (simp only []; omega) | (simp; omega))))
noncomputable def c_Holds : List SV → Option (List Prop × SV)
  | [.agg [.ints .u32 15 R, .int .u32 pc, .bool z, .bool n, .bool l], .int .i64 c] => some ([], .bool (holdsS c z n l))
  | _ => none
theorem c_Holds_e : PEntry Tryd.prog 128 c_Holds := by
  refine ⟨callFunc_ok Tryd.func128 (by kernel_rfl) (by kernel_rfl), fun args ps v h hp => ?_⟩
  unfold c_Holds at h
  split at h
  · cases h; exact Holds_ok _ _ _ _ _ _ 
  · cases h
theorem Start_ok (p a b c : Int)  : PureSem Tryd.prog 51 [.int .u32 p, .int .u32 a, .int .u32 b, .int .u32 c] (.agg [.ints .u32 15 [a, b, c, 0, 0, 0, 0, 0, 0, 0, 0, 0, 0, 0, 0], .int .u32 p, .bool false, .bool false, .bool false]) := by
  refine pure_intro mixed (cx_rg_ok (fun _ => none) (fun _ _ => none) (fun _ _ => []) false) Tryd.func51 1000 rfl rfl ?_
  refine of_nf (p := (15 : Nat) = (15 : Nat) /\ (15 : Nat) = (15 : Nat) /\ (15 : Nat) = (15 : Nat) /\ (([(0 : Int), 0, 0, 0, 0, 0, 0, 0, 0, 0, 0, 0, 0, 0, 0].set (0 : Nat) a).set (1 : Nat) b).set (2 : Nat) c = [a, b, c, (0 : Int), (0 : Int), (0 : Int), (0 : Int), (0 : Int), (0 : Int), (0 : Int), (0 : Int), (0 : Int), (0 : Int), (0 : Int), (0 : Int)] /\ p = p /\ false = false /\ false = false /\ false = false /\ True) (by kernel_rfl) ?_
  all_goals (try dsimp only)
  repeat' (first | with_reducible rfl | (apply And.intro) | (intro _hc) | (apply Exists.intro))
  all_goals (try simp only [decide_eq_true_eq, decide_eq_false_iff_not, bne_iff_ne, ne_eq, beq_iff_eq, bne_eq_false_iff_eq, beq_eq_false_iff_ne, Bool.not_eq_true', Bool.not_eq_false', Bool.and_eq_true, Bool.or_eq_true, Bool.and_eq_false_imp, Bool.or_eq_false_iff, Sx.InK, reduceCtorEq, Bool.false_eq_true, Bool.true_eq_false, Bool.not_true, Bool.not_false, if_true, if_false, true_and, and_true, false_and, and_false, false_or, or_false, true_or, or_true, not_true_eq_false, not_false_eq_true, eq_self, ite_true, ite_false, fl, reduceIte, Bool.and_true, Bool.true_and, Bool.and_false, Bool.false_and, Bool.or_true, Bool.or_false, Bool.true_or, Bool.false_or] at *)
  all_goals (try simp (disch := omega) only [Int.tdiv_eq_ediv_of_nonneg, Int.tmod_eq_emod_of_nonneg, w_u32, w_i64, w_u64, w_u8, or_b0, or_b1, or_b2, or_b3, or_b4, or_b5, or_b6, or_b7, or_b8, or_b9, or_b10, or_b11, or_b12, or_b13, or_b14, or_b15, or_b16, or_b17, or_b18, or_b19, or_b20, or_b21, or_b22, or_b23, or_b24, or_b25, or_b26, or_b27, or_b28, or_b29, or_b30, or_b31, and_b0, and_b1, and_b2, and_b3, and_b4, and_b5, and_b6, and_b7, and_b8, and_b9, and_b10, and_b11, and_b12, and_b13, and_b14, and_b15, and_b16, and_b17, and_b18, and_b19, and_b20, and_b21, and_b22, and_b23, and_b24, and_b25, and_b26, and_b27, and_b28, and_b29, and_b30, and_b31, and_m2, and_m3, and_m4, and_m5, and_m6, and_m7, and_m8, and_m9, and_m10, and_m11, and_m12, and_m13, and_m14, and_m15, and_m16, and_m17, and_m18, and_m19, and_m20, and_m21, and_m22, and_m23, and_m24, and_m25, and_m26, and_m27, and_m28, and_m29, and_m30, and_m31, and_m32] at *)
  all_goals (first | trivial | assumption | omega | (exfalso; simp at *; done) | (simp only [apply_ite Prod.fst, apply_ite Prod.snd, decide_eq_true_eq, decide_eq_false_iff_not, bne_iff_ne, ne_eq, beq_iff_eq, bne_eq_false_iff_eq, beq_eq_false_iff_ne, Bool.not_eq_true', Bool.not_eq_false', Bool.and_eq_true, Bool.or_eq_true, Bool.and_eq_false_imp, Bool.or_eq_false_iff, Sx.InK, reduceCtorEq, Bool.false_eq_true, Bool.true_eq_false, Bool.not_true, Bool.not_false, if_true, if_false, true_and, and_true, false_and, and_false, false_or, or_false, true_or, or_true, not_true_eq_false, not_false_eq_true, eq_self, ite_true, ite_false, fl, reduceIte, Bool.and_true, Bool.true_and, Bool.and_false, Bool.false_and, Bool.or_true, Bool.or_false, Bool.true_or, Bool.false_or] at *; first | trivial | omega | ((repeat' split) <;> first | rfl | omega | (exfalso; omega) | (simp only []; omega) | (simp; omega))))
noncomputable def c_Start : List SV → Option (List Prop × SV)
  | [.int .u32 p, .int .u32 a, .int .u32 b, .int .u32 c] => some ([], .agg [.ints .u32 15 [a, b, c, 0, 0, 0, 0, 0, 0, 0, 0, 0, 0, 0, 0], .int .u32 p, .bool false, .bool false, .bool false])
  | _ => none
theorem c_Start_e : PEntry Tryd.prog 51 c_Start := by
  refine ⟨callFunc_ok Tryd.func51 (by kernel_rfl) (by kernel_rfl), fun args ps v h hp => ?_⟩
  unfold c_Start at h
  split at h
  · cases h; exact Start_ok _ _ _ _ 
  · cases h
end Go.Proofs.YtimjnajdpccjdaaDoor
