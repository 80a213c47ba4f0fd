/- The packages walk and wardenref09: addresses and descriptors. No condition beyond the arguments' types. -/
import Derived.Test.YtimjnajdpccjdaaDoorSxTypes
import Derived.Test.YtimjnajdpccjdaaDoorSxD
namespace Go.Proofs.YtimjnajdpccjdaaDoor
set_option linter.unusedVariables false
set_option linter.unusedSimpArgs false
open Go.RowKit Sx
set_option maxRecDepth 100000
theorem and_mask' {x : Int} (m : Int) (k : Nat) (hm : m + 1 = 2 ^ k) (hk : k ≤ 32) (hx : 0 ≤ x ∧ x < 4294967296) : bits .and .u32 x m = x % (m + 1) := and_mask k hm hk hx
theorem wrap_u32 {x : Int} (h : 0 ≤ x ∧ x < 4294967296) : IntKind.u32.wrap x = x := wrap_in (k := .u32) h
abbrev sv2 (k l : IntKind) (q : Int × Int) : SV := .tup [.int k q.1, .int l q.2]
abbrev sv4 (q : Int × Int × Int × Int) : SV := .tup [.int .i64 q.1, .int .i64 q.2.1, .int .i64 q.2.2.1, .int .i64 q.2.2.2]
def fl (b : Bool) (n : Int) : Int := if b then n else 0
def splitS (va : Int) : Int × Int × Int × Int := if va < 1073741824 ∧ va % 4 = 0 then (va / 4194304, va / 4096 % 1024, va / 4 % 1024, 0) else (0, 0, 0, 91)
def firstS (p : Int) : Int × Int := if 0 ≤ p ∧ p < 64 then (p * 256 + 1, 0) else (0, 4)
noncomputable def pt_e : List (Nat × (List SV → Option (List Prop × SV))) := []
theorem pt_e_ok : PureOK Tryd.prog (fun f => List.lookup f pt_e) := pure_list pt_e trivial
noncomputable abbrev cx_e (must : Nat → Option Bool := fun _ => none) (loop : Nat → SS → Option LoopSpec := fun _ _ => none) (fz : Nat → SS → List Nat := fun _ _ => []) (on : Bool := false) : Ctx := ⟨tab, inl tab (fun f => List.lookup f pt_e) fns (fun _ => {}) 1000 4, fun f => List.lookup f pt_e, must, loop, 0, 0, fun _ => none, fz, on⟩
theorem cx_e_ok (must : Nat → Option Bool) (loop : Nat → SS → Option LoopSpec) (fz : Nat → SS → List Nat) (on : Bool) : CxOK Tryd.prog (cx_e must loop fz on) := inl_ok mixed tab_ok pt_e_ok fns_ok 4 _ _ _ _ _ _
theorem Split_ok (va : Int) (h0 : InK .u32 va) : PureSem Tryd.prog 91 [.int .u32 va] (sv4 (splitS va)) := by
  refine pure_intro mixed (cx_e_ok (fun _ => none) (fun _ _ => none) (fun _ _ => []) false) Tryd.func91 1000 rfl rfl ?_
  refine of_nf (p := (decide (1073741824 <= va) = true -> (0 : Int) = (splitS va).1 /\ (0 : Int) = (splitS va).snd.1 /\ (0 : Int) = (splitS va).snd.snd.1 /\ (91 : Int) = (splitS va).snd.snd.2 /\ True) /\ (decide (1073741824 <= va) = false -> 0 <= va /\ ((va % 4 != (0 : Int)) = true -> (0 : Int) = (splitS va).1 /\ (0 : Int) = (splitS va).snd.1 /\ (0 : Int) = (splitS va).snd.snd.1 /\ (91 : Int) = (splitS va).snd.snd.2 /\ True) /\ ((va % 4 != (0 : Int)) = false -> (0 <= va / 4194304 /\ va / 4194304 < (4294967296 : Int)) /\ (0 <= bits BinOp.and IntKind.u32 (va / 4096) (1023 : Int) /\ bits BinOp.and IntKind.u32 (va / 4096) (1023 : Int) < (4294967296 : Int)) /\ (0 <= bits BinOp.and IntKind.u32 (va / 4) (1023 : Int) /\ bits BinOp.and IntKind.u32 (va / 4) (1023 : Int) < (4294967296 : Int)) /\ va / 4194304 = (splitS va).1 /\ bits BinOp.and IntKind.u32 (va / 4096) (1023 : Int) = (splitS va).snd.1 /\ bits BinOp.and IntKind.u32 (va / 4) (1023 : Int) = (splitS va).snd.snd.1 /\ (0 : Int) = (splitS va).snd.snd.2 /\ True))) (by kernel_rfl) ?_
  simp only [InK] at h0
  have e1 : va / 4096 < 4294967296 := by omega
  have e2 : va / 4 < 4294967296 := by omega
  rw [and_mask' 1023 10 (by decide) (by decide) (by omega), and_mask' 1023 10 (by decide) (by decide) (by omega)]
  simp only [splitS]
  refine ⟨fun h1 => ?_, fun h1 => ⟨by omega, fun h2 => ?_, fun h2 => ?_⟩⟩
  · have : ¬ va < 1073741824 := by simpa using h1
    simp [this]
  · have : ¬ va % 4 = 0 := by simpa using h2
    simp [this]
  · have a1 : va < 1073741824 := by simpa using h1
    have a2 : va % 4 = 0 := by simpa using h2
    simp [a1, a2]
    omega
noncomputable def c_Split : List SV → Option (List Prop × SV)
  | [.int .u32 va] => some ([InK .u32 va], sv4 (splitS va))
  | _ => none
theorem c_Split_e : PEntry Tryd.prog 91 c_Split := by
  refine ⟨callFunc_ok Tryd.func91 (by kernel_rfl) (by kernel_rfl), fun args ps v h hp => ?_⟩
  unfold c_Split at h
  split at h
  · cases h; exact Split_ok _ (hp _ (by simp))
  · cases h
theorem First_ok (p : Int)  : PureSem Tryd.prog 130 [.int .i64 p] (sv2 .u32 .i64 (firstS p)) := by
  refine pure_intro mixed (cx_e_ok (fun _ => none) (fun _ _ => none) (fun _ _ => []) false) Tryd.func130 1000 rfl rfl ?_
  refine of_nf (p := (decide (p < 0) = true -> (0 : Int) = (firstS p).1 /\ (4 : Int) = (firstS p).2 /\ True) /\ (decide (p < 0) = false -> (decide (64 <= p) = true -> (0 : Int) = (firstS p).1 /\ (4 : Int) = (firstS p).2 /\ True) /\ (decide (64 <= p) = false -> bits BinOp.or IntKind.u32 (IntKind.u32.wrap (IntKind.u32.wrap p * 256)) (1 : Int) = (firstS p).1 /\ (0 : Int) = (firstS p).2 /\ True))) (by kernel_rfl) ?_
  have key : 0 ≤ p → p < 64 → bits .or .u32 (IntKind.u32.wrap (IntKind.u32.wrap p * 256)) 1 = p * 256 + 1 := by
    intro h1 h2
    simp (disch := omega) only [wrap_u32]
    rw [or_add 8 (p := 256) (by decide) (by unfold U32; omega) (by omega) (by omega) (by omega) (by omega)]
  all_goals (try dsimp only)
  repeat' (first | with_reducible rfl | (apply And.intro) | (intro _hc) | (apply Exists.intro))
  all_goals (try simp only [decide_eq_true_eq, decide_eq_false_iff_not, bne_iff_ne, ne_eq, beq_iff_eq, bne_eq_false_iff_eq, beq_eq_false_iff_ne, Bool.not_eq_true', Bool.not_eq_false', Bool.and_eq_true, Bool.or_eq_true, Bool.and_eq_false_imp, Bool.or_eq_false_iff, Sx.InK, reduceCtorEq, Bool.false_eq_true, Bool.true_eq_false, Bool.not_true, Bool.not_false, if_true, if_false, true_and, and_true, false_and, and_false, false_or, or_false, true_or, or_true, not_true_eq_false, not_false_eq_true, eq_self, ite_true, ite_false, fl, reduceIte, Bool.and_true, Bool.true_and, Bool.and_false, Bool.false_and, Bool.or_true, Bool.or_false, Bool.true_or, Bool.false_or] at *)
  all_goals (try simp (disch := omega) only [Int.tdiv_eq_ediv_of_nonneg, Int.tmod_eq_emod_of_nonneg, w_u32, w_i64, w_u64, w_u8, or_b0, or_b1, or_b2, or_b3, or_b4, or_b5, or_b6, or_b7, or_b8, or_b9, or_b10, or_b11, or_b12, or_b13, or_b14, or_b15, or_b16, or_b17, or_b18, or_b19, or_b20, or_b21, or_b22, or_b23, or_b24, or_b25, or_b26, or_b27, or_b28, or_b29, or_b30, or_b31, and_b0, and_b1, and_b2, and_b3, and_b4, and_b5, and_b6, and_b7, and_b8, and_b9, and_b10, and_b11, and_b12, and_b13, and_b14, and_b15, and_b16, and_b17, and_b18, and_b19, and_b20, and_b21, and_b22, and_b23, and_b24, and_b25, and_b26, and_b27, and_b28, and_b29, and_b30, and_b31, and_m2, and_m3, and_m4, and_m5, and_m6, and_m7, and_m8, and_m9, and_m10, and_m11, and_m12, and_m13, and_m14, and_m15, and_m16, and_m17, and_m18, and_m19, and_m20, and_m21, and_m22, and_m23, and_m24, and_m25, and_m26, and_m27, and_m28, and_m29, and_m30, and_m31, and_m32, key] at *)
  all_goals (first | trivial | assumption | omega | (exfalso; simp at *; done) | (simp only [apply_ite Prod.fst, apply_ite Prod.snd, fl, firstS, decide_eq_true_eq, decide_eq_false_iff_not, bne_iff_ne, ne_eq, beq_iff_eq, bne_eq_false_iff_eq, beq_eq_false_iff_ne, Bool.not_eq_true', Bool.not_eq_false', Bool.and_eq_true, Bool.or_eq_true, Bool.and_eq_false_imp, Bool.or_eq_false_iff, Sx.InK, reduceCtorEq, Bool.false_eq_true, Bool.true_eq_false, Bool.not_true, Bool.not_false, if_true, if_false, true_and, and_true, false_and, and_false, false_or, or_false, true_or, or_true, not_true_eq_false, not_false_eq_true, eq_self, ite_true, ite_false, fl, reduceIte, Bool.and_true, Bool.true_and, Bool.and_false, Bool.false_and, Bool.or_true, Bool.or_false, Bool.true_or, Bool.false_or] at *; first | trivial | omega | ((repeat' split) <;> first | rfl | omega | (exfalso; omega) | (simp only []; omega) | (simp; omega))))
noncomputable def c_First : List SV → Option (List Prop × SV)
  | [.int .i64 p] => some ([], sv2 .u32 .i64 (firstS p))
  | _ => none
theorem c_First_e : PEntry Tryd.prog 130 c_First := by
  refine ⟨callFunc_ok Tryd.func130 (by kernel_rfl) (by kernel_rfl), fun args ps v h hp => ?_⟩
  unfold c_First at h
  split at h
  · cases h; exact First_ok _ 
  · cases h
end Go.Proofs.YtimjnajdpccjdaaDoor
