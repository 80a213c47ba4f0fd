/- The packages walk and wardenref09: descriptors read and made; the law WalkCodes. No condition beyond the arguments' types. -/
import Derived.Test.YtimjnajdpccjdaaDoorWkNum
namespace Go.Proofs.YtimjnajdpccjdaaDoor
set_option linter.unusedVariables false
set_option linter.unusedSimpArgs false
open Go.RowKit Sx
set_option maxRecDepth 100000
set_option maxHeartbeats 1000000
def pfS (x : Int) : Int × Int := if x = 0 then (0, 92) else if x % 256 = 1 ∧ x / 256 < 64 then (x / 256, 0) else (0, 90)
def secS (se : Bool) (p : Int) (wr ex : Bool) : Int × Int := if p < 0 ∨ 64 ≤ p then (0, 4) else if se = false ∧ ex = true then (0, 1) else (p * 256 + 1 + fl se 2 + fl wr 4 + fl ex 8, 0)
noncomputable def pt_f : List (Nat × (List SV → Option (List Prop × SV))) := [(130, c_First)]
theorem pt_f_ok : PureOK Tryd.prog (fun f => List.lookup f pt_f) := pure_list pt_f ⟨c_First_e, trivial⟩
noncomputable abbrev cx_f (must : Nat → Option Bool := fun _ => none) (loop : Nat → SS → Option LoopSpec := fun _ _ => none) (fz : Nat → SS → List Nat := fun _ _ => []) (on : Bool := false) : Ctx := ⟨tab, inl tab (fun f => List.lookup f pt_f) fns (fun _ => {}) 1000 4, fun f => List.lookup f pt_f, must, loop, 0, 0, fun _ => none, fz, on⟩
theorem cx_f_ok (must : Nat → Option Bool) (loop : Nat → SS → Option LoopSpec) (fz : Nat → SS → List Nat) (on : Bool) : CxOK Tryd.prog (cx_f must loop fz on) := inl_ok mixed tab_ok pt_f_ok fns_ok 4 _ _ _ _ _ _
theorem ParseFirst_ok (x : Int) (h0 : InK .u32 x) : PureSem Tryd.prog 102 [.int .u32 x] (.tup [.int .i64 (pfS x).1, .int .i64 (pfS x).2]) := by
  refine pure_intro mixed (cx_f_ok (fun _ => none) (fun _ _ => none) (fun _ _ => []) false) Tryd.func102 1000 rfl rfl ?_
  refine of_nf (p := (0 <= x / 256 /\ x / 256 < (4294967296 : Int)) /\ ((x == 0) = true -> (0 : Int) = (pfS x).1 /\ (92 : Int) = (pfS x).2 /\ True) /\ ((x == 0) = false -> (((firstS (IntKind.u32, x / 256, false).snd.fst).2 != 0) = true -> (0 : Int) = (pfS x).1 /\ (90 : Int) = (pfS x).2 /\ True) /\ (((firstS (IntKind.u32, x / 256, false).snd.fst).2 != 0) = false -> (((firstS (IntKind.u32, x / 256, false).snd.fst).1 != x) = true -> (0 : Int) = (pfS x).1 /\ (90 : Int) = (pfS x).2 /\ True) /\ (((firstS (IntKind.u32, x / 256, false).snd.fst).1 != x) = false -> x / 256 = (pfS x).1 /\ (0 : Int) = (pfS x).2 /\ True)))) (by kernel_rfl) ?_
  all_goals (try dsimp only)
  repeat' (first | with_reducible rfl | (apply And.intro) | (intro _hc) | (apply Exists.intro))
  all_goals (try simp only [decide_eq_true_eq, decide_eq_false_iff_not, bne_iff_ne, ne_eq, beq_iff_eq, bne_eq_false_iff_eq, beq_eq_false_iff_ne, Bool.not_eq_true', Bool.not_eq_false', Bool.and_eq_true, Bool.or_eq_true, Bool.and_eq_false_imp, Bool.or_eq_false_iff, Sx.InK, reduceCtorEq, Bool.false_eq_true, Bool.true_eq_false, Bool.not_true, Bool.not_false, if_true, if_false, true_and, and_true, false_and, and_false, false_or, or_false, true_or, or_true, not_true_eq_false, not_false_eq_true, eq_self, ite_true, ite_false, fl, reduceIte, Bool.and_true, Bool.true_and, Bool.and_false, Bool.false_and, Bool.or_true, Bool.or_false, Bool.true_or, Bool.false_or] at *)
  all_goals (try simp (disch := omega) only [Int.tdiv_eq_ediv_of_nonneg, Int.tmod_eq_emod_of_nonneg, w_u32, w_i64, w_u64, w_u8, or_b0, or_b1, or_b2, or_b3, or_b4, or_b5, or_b6, or_b7, or_b8, or_b9, or_b10, or_b11, or_b12, or_b13, or_b14, or_b15, or_b16, or_b17, or_b18, or_b19, or_b20, or_b21, or_b22, or_b23, or_b24, or_b25, or_b26, or_b27, or_b28, or_b29, or_b30, or_b31, and_b0, and_b1, and_b2, and_b3, and_b4, and_b5, and_b6, and_b7, and_b8, and_b9, and_b10, and_b11, and_b12, and_b13, and_b14, and_b15, and_b16, and_b17, and_b18, and_b19, and_b20, and_b21, and_b22, and_b23, and_b24, and_b25, and_b26, and_b27, and_b28, and_b29, and_b30, and_b31, and_m2, and_m3, and_m4, and_m5, and_m6, and_m7, and_m8, and_m9, and_m10, and_m11, and_m12, and_m13, and_m14, and_m15, and_m16, and_m17, and_m18, and_m19, and_m20, and_m21, and_m22, and_m23, and_m24, and_m25, and_m26, and_m27, and_m28, and_m29, and_m30, and_m31, and_m32] at *)
  all_goals (first | trivial | assumption | omega | (exfalso; simp at *; done) | (simp only [apply_ite Prod.fst, apply_ite Prod.snd, fl, pfS, firstS, decide_eq_true_eq, decide_eq_false_iff_not, bne_iff_ne, ne_eq, beq_iff_eq, bne_eq_false_iff_eq, beq_eq_false_iff_ne, Bool.not_eq_true', Bool.not_eq_false', Bool.and_eq_true, Bool.or_eq_true, Bool.and_eq_false_imp, Bool.or_eq_false_iff, Sx.InK, reduceCtorEq, Bool.false_eq_true, Bool.true_eq_false, Bool.not_true, Bool.not_false, if_true, if_false, true_and, and_true, false_and, and_false, false_or, or_false, true_or, or_true, not_true_eq_false, not_false_eq_true, eq_self, ite_true, ite_false, fl, reduceIte, Bool.and_true, Bool.true_and, Bool.and_false, Bool.false_and, Bool.or_true, Bool.or_false, Bool.true_or, Bool.false_or] at *; first | trivial | omega | ((repeat' split) <;> first | rfl | omega | (exfalso; omega) | (simp only []; omega) | (simp; omega))))
noncomputable def c_ParseFirst : List SV → Option (List Prop × SV)
  | [.int .u32 x] => some ([InK .u32 x], .tup [.int .i64 (pfS x).1, .int .i64 (pfS x).2])
  | _ => none
theorem c_ParseFirst_e : PEntry Tryd.prog 102 c_ParseFirst := by
  refine ⟨callFunc_ok Tryd.func102 (by kernel_rfl) (by kernel_rfl), fun args ps v h hp => ?_⟩
  unfold c_ParseFirst at h
  split at h
  · cases h; exact ParseFirst_ok _ (hp _ (by simp))
  · cases h
theorem Second_ok (se : Bool) (p : Int) (wr ex : Bool) (h0 : InK .i64 p) : PureSem Tryd.prog 146 [.agg [.bool se, .int .i64 p, .bool wr, .bool ex]] (sv2 .u32 .i64 (secS se p wr ex)) := by
  refine pure_intro mixed (cx_f_ok (fun _ => none) (fun _ _ => none) (fun _ _ => []) false) Tryd.func146 1000 rfl rfl ?_
  refine of_nf (p := letI k0_ := (bits BinOp.or IntKind.u32 (IntKind.u32.wrap (IntKind.u32.wrap p * 256)) (1 : Int)); letI k1_ := (se = true -> (wr = true -> (ex = true -> bits BinOp.or IntKind.u32 (bits BinOp.or IntKind.u32 (bits BinOp.or IntKind.u32 k0_ (2 : Int)) (4 : Int)) (8 : Int) = (secS se p wr ex).1 /\ (0 : Int) = (secS se p wr ex).2 /\ True) /\ (ex = false -> bits BinOp.or IntKind.u32 (bits BinOp.or IntKind.u32 k0_ (2 : Int)) (4 : Int) = (secS se p wr ex).1 /\ (0 : Int) = (secS se p wr ex).2 /\ True)) /\ (wr = false -> (ex = true -> bits BinOp.or IntKind.u32 (bits BinOp.or IntKind.u32 k0_ (2 : Int)) (8 : Int) = (secS se p wr ex).1 /\ (0 : Int) = (secS se p wr ex).2 /\ True) /\ (ex = false -> bits BinOp.or IntKind.u32 k0_ (2 : Int) = (secS se p wr ex).1 /\ (0 : Int) = (secS se p wr ex).2 /\ True))); letI k2_ := (se = false -> (wr = true -> (ex = true -> bits BinOp.or IntKind.u32 (bits BinOp.or IntKind.u32 k0_ (4 : Int)) (8 : Int) = (secS se p wr ex).1 /\ (0 : Int) = (secS se p wr ex).2 /\ True) /\ (ex = false -> bits BinOp.or IntKind.u32 k0_ (4 : Int) = (secS se p wr ex).1 /\ (0 : Int) = (secS se p wr ex).2 /\ True)) /\ (wr = false -> (ex = true -> bits BinOp.or IntKind.u32 k0_ (8 : Int) = (secS se p wr ex).1 /\ (0 : Int) = (secS se p wr ex).2 /\ True) /\ (ex = false -> bits BinOp.or IntKind.u32 (IntKind.u32.wrap (IntKind.u32.wrap p * 256)) (1 : Int) = (secS se p wr ex).1 /\ (0 : Int) = (secS se p wr ex).2 /\ True))); (decide (p < 0) = true -> (0 : Int) = (secS se p wr ex).1 /\ (4 : Int) = (secS se p wr ex).2 /\ True) /\ (decide (p < 0) = false -> (decide (63 < p) = true -> (0 : Int) = (secS se p wr ex).1 /\ (4 : Int) = (secS se p wr ex).2 /\ True) /\ (decide (63 < p) = false -> (ex = true -> ((!se) = true -> (0 : Int) = (secS se p wr ex).1 /\ (1 : Int) = (secS se p wr ex).2 /\ True) /\ ((!se) = false -> k1_ /\ k2_)) /\ (ex = false -> k1_ /\ k2_)))) (by kernel_rfl) ?_
  cases se <;> cases wr <;> cases ex
  all_goals (try dsimp only)
  repeat' (first | with_reducible rfl | (apply And.intro) | (intro _hc) | (apply Exists.intro))
  all_goals (try simp only [decide_eq_true_eq, decide_eq_false_iff_not, bne_iff_ne, ne_eq, beq_iff_eq, bne_eq_false_iff_eq, beq_eq_false_iff_ne, Bool.not_eq_true', Bool.not_eq_false', Bool.and_eq_true, Bool.or_eq_true, Bool.and_eq_false_imp, Bool.or_eq_false_iff, Sx.InK, reduceCtorEq, Bool.false_eq_true, Bool.true_eq_false, Bool.not_true, Bool.not_false, if_true, if_false, true_and, and_true, false_and, and_false, false_or, or_false, true_or, or_true, not_true_eq_false, not_false_eq_true, eq_self, ite_true, ite_false, fl, reduceIte, Bool.and_true, Bool.true_and, Bool.and_false, Bool.false_and, Bool.or_true, Bool.or_false, Bool.true_or, Bool.false_or] at *)
  all_goals (try simp (disch := omega) only [Int.tdiv_eq_ediv_of_nonneg, Int.tmod_eq_emod_of_nonneg, w_u32, w_i64, w_u64, w_u8, or_b0, or_b1, or_b2, or_b3, or_b4, or_b5, or_b6, or_b7, or_b8, or_b9, or_b10, or_b11, or_b12, or_b13, or_b14, or_b15, or_b16, or_b17, or_b18, or_b19, or_b20, or_b21, or_b22, or_b23, or_b24, or_b25, or_b26, or_b27, or_b28, or_b29, or_b30, or_b31, and_b0, and_b1, and_b2, and_b3, and_b4, and_b5, and_b6, and_b7, and_b8, and_b9, and_b10, and_b11, and_b12, and_b13, and_b14, and_b15, and_b16, and_b17, and_b18, and_b19, and_b20, and_b21, and_b22, and_b23, and_b24, and_b25, and_b26, and_b27, and_b28, and_b29, and_b30, and_b31, and_m2, and_m3, and_m4, and_m5, and_m6, and_m7, and_m8, and_m9, and_m10, and_m11, and_m12, and_m13, and_m14, and_m15, and_m16, and_m17, and_m18, and_m19, and_m20, and_m21, and_m22, and_m23, and_m24, and_m25, and_m26, and_m27, and_m28, and_m29, and_m30, and_m31, and_m32] at *)
  all_goals (first | trivial | assumption | omega | (exfalso; simp at *; done) | (simp only [apply_ite Prod.fst, apply_ite Prod.snd, fl, secS, fl, decide_eq_true_eq, decide_eq_false_iff_not, bne_iff_ne, ne_eq, beq_iff_eq, bne_eq_false_iff_eq, beq_eq_false_iff_ne, Bool.not_eq_true', Bool.not_eq_false', Bool.and_eq_true, Bool.or_eq_true, Bool.and_eq_false_imp, Bool.or_eq_false_iff, Sx.InK, reduceCtorEq, Bool.false_eq_true, Bool.true_eq_false, Bool.not_true, Bool.not_false, if_true, if_false, true_and, and_true, false_and, and_false, false_or, or_false, true_or, or_true, not_true_eq_false, not_false_eq_true, eq_self, ite_true, ite_false, fl, reduceIte, Bool.and_true, Bool.true_and, Bool.and_false, Bool.false_and, Bool.or_true, Bool.or_false, Bool.true_or, Bool.false_or] at *; first | trivial | omega | ((repeat' split) <;> first | rfl | omega | (exfalso; omega) | (simp only []; omega) | (simp; omega))))
noncomputable def c_Second : List SV → Option (List Prop × SV)
  | [.agg [.bool se, .int .i64 p, .bool wr, .bool ex]] => some ([InK .i64 p], sv2 .u32 .i64 (secS se p wr ex))
  | _ => none
theorem c_Second_e : PEntry Tryd.prog 146 c_Second := by
  refine ⟨callFunc_ok Tryd.func146 (by kernel_rfl) (by kernel_rfl), fun args ps v h hp => ?_⟩
  unfold c_Second at h
  split at h
  · cases h; exact Second_ok _ _ _ _ (hp _ (by simp))
  · cases h
def psS (x : Int) : Bool × Int × Bool × Bool × Int := if x = 0 then (false, 0, false, false, 92) else if secS (decide (x / 2 % 2 = 1)) (x / 256) (decide (x / 4 % 2 = 1)) (decide (x / 8 % 2 = 1)) = (x, 0) then (decide (x / 2 % 2 = 1), x / 256, decide (x / 4 % 2 = 1), decide (x / 8 % 2 = 1), 0) else (false, 0, false, false, 90)
theorem bit_ne (y : Int) (k : Int) (h : 0 < k) : (y % 2 * k != 0) = decide (y % 2 = 1) := by
  have : y % 2 = 0 ∨ y % 2 = 1 := by omega
  rcases this with h1 | h1 <;> simp [h1] <;> omega
noncomputable def pt_g : List (Nat × (List SV → Option (List Prop × SV))) := [(91, c_Split), (130, c_First), (102, c_ParseFirst), (146, c_Second)]
theorem pt_g_ok : PureOK Tryd.prog (fun f => List.lookup f pt_g) := pure_list pt_g ⟨c_Split_e, c_First_e, c_ParseFirst_e, c_Second_e, trivial⟩
noncomputable abbrev cx_g (must : Nat → Option Bool := fun _ => none) (loop : Nat → SS → Option LoopSpec := fun _ _ => none) (fz : Nat → SS → List Nat := fun _ _ => []) (on : Bool := false) : Ctx := ⟨tab, inl tab (fun f => List.lookup f pt_g) fns (fun _ => {}) 1000 4, fun f => List.lookup f pt_g, must, loop, 0, 0, fun _ => none, fz, on⟩
theorem cx_g_ok (must : Nat → Option Bool) (loop : Nat → SS → Option LoopSpec) (fz : Nat → SS → List Nat) (on : Bool) : CxOK Tryd.prog (cx_g must loop fz on) := inl_ok mixed tab_ok pt_g_ok fns_ok 4 _ _ _ _ _ _
theorem ParseSecond_ok (x : Int) (h0 : InK .u32 x) : PureSem Tryd.prog 139 [.int .u32 x] (.tup [.agg [.bool (psS x).1, .int .i64 (psS x).2.1, .bool (psS x).2.2.1, .bool (psS x).2.2.2.1], .int .i64 (psS x).2.2.2.2]) := by
  refine pure_intro mixed (cx_g_ok (fun _ => none) (fun _ _ => none) (fun _ _ => []) false) Tryd.func139 1000 rfl rfl ?_
  refine of_nf (p := letI k0_ := (secS (bits BinOp.and IntKind.u32 x (2 : Int) != (0 : Int)) (IntKind.u32, x / 256, false).snd.fst (bits BinOp.and IntKind.u32 x (4 : Int) != (0 : Int)) (bits BinOp.and IntKind.u32 x (8 : Int) != (0 : Int))); letI k1_ := (false = (psS x).1 /\ (0 : Int) = (psS x).snd.1 /\ false = (psS x).snd.snd.1 /\ false = (psS x).snd.snd.snd.1 /\ True); (0 <= x / 256 /\ x / 256 < (4294967296 : Int)) /\ ((x == 0) = true -> k1_ /\ (92 : Int) = (psS x).snd.snd.snd.2 /\ True) /\ ((x == 0) = false -> ((-9223372036854775808 : Int) <= x / 256 /\ x / 256 < (9223372036854775808 : Int)) /\ ((k0_.2 != 0) = true -> k1_ /\ (90 : Int) = (psS x).snd.snd.snd.2 /\ True) /\ ((k0_.2 != 0) = false -> ((k0_.1 != x) = true -> k1_ /\ (90 : Int) = (psS x).snd.snd.snd.2 /\ True) /\ ((k0_.1 != x) = false -> ((bits BinOp.and IntKind.u32 x (2 : Int) != (0 : Int)) = (psS x).1 /\ x / 256 = (psS x).snd.1 /\ (bits BinOp.and IntKind.u32 x (4 : Int) != (0 : Int)) = (psS x).snd.snd.1 /\ (bits BinOp.and IntKind.u32 x (8 : Int) != (0 : Int)) = (psS x).snd.snd.snd.1 /\ True) /\ (0 : Int) = (psS x).snd.snd.snd.2 /\ True)))) (by kernel_rfl) ?_
  have hx : 0 ≤ x ∧ x < 4294967296 := h0
  dsimp only
  simp only [and_b1 hx, and_b2 hx, and_b3 hx, bit_ne _ 2 (by decide), bit_ne _ 4 (by decide), bit_ne _ 8 (by decide)]
  simp only [psS]
  generalize secS (decide (x / 2 % 2 = 1)) (x / 256) (decide (x / 4 % 2 = 1)) (decide (x / 8 % 2 = 1)) = q
  obtain ⟨u, e⟩ := q
  by_cases h1 : x = 0
  · simp [h1]
  by_cases h2 : e = 0
  · by_cases h3 : u = x
    · simp [h1, h2, h3]; omega
    · simp [h1, h2, h3]; omega
  · simp [h1, h2]; omega
noncomputable def c_ParseSecond : List SV → Option (List Prop × SV)
  | [.int .u32 x] => some ([InK .u32 x], .tup [.agg [.bool (psS x).1, .int .i64 (psS x).2.1, .bool (psS x).2.2.1, .bool (psS x).2.2.2.1], .int .i64 (psS x).2.2.2.2])
  | _ => none
theorem c_ParseSecond_e : PEntry Tryd.prog 139 c_ParseSecond := by
  refine ⟨callFunc_ok Tryd.func139 (by kernel_rfl) (by kernel_rfl), fun args ps v h hp => ?_⟩
  unfold c_ParseSecond at h
  split at h
  · cases h; exact ParseSecond_ok _ (hp _ (by simp))
  · cases h
end Go.Proofs.YtimjnajdpccjdaaDoor
