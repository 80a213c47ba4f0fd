/- The packages isa and wardenref05: names. No condition beyond the arguments' types. -/
import Derived.Test.YtijgngiocmnakaaDoorIsaA
namespace Go.Proofs.YtijgngiocmnakaaDoor
open Go.RowKit Sx
set_option linter.unusedVariables false
set_option linter.unusedSimpArgs false
set_option maxRecDepth 100000
set_option maxHeartbeats 1000000
noncomputable def pt_iann : List (Nat × (List SV → Option (List Prop × SV))) := []
theorem pt_iann_ok : PureOK Tryd.prog (fun f => List.lookup f pt_iann) := pure_list pt_iann trivial
noncomputable abbrev cx_iann (must : Nat → Option Bool := fun _ => none) (loop : Nat → Option LoopSpec := fun _ => none) : Ctx := ⟨tab, inl tab (fun f => List.lookup f pt_iann) fns (fun _ => {}) 1000 6, fun f => List.lookup f pt_iann, must, loop, 0, 0⟩
theorem cx_iann_ok (must : Nat → Option Bool) (loop : Nat → Option LoopSpec) : CxOK Tryd.prog (cx_iann must loop) := inl_ok mixed tab_ok pt_iann_ok fns_ok 6 _ _ _ _
theorem Name_ok (op : Int) (h0 : InK .i64 op) : PureSem Tryd.prog 18 [.int .i64 op] (.str (nameS op)) := by
  refine pure_intro mixed (cx_iann_ok (fun _ => none) (fun _ => none)) Tryd.func18 1000 rfl rfl ?_
  refine of_nf (p := (decide ((1 : Int) ≤ op) = true → ((!decide (op < (25 : Int))) = true → SV.str { data := #[] } = SV.str (nameS op)) ∧ ((!decide (op < (25 : Int))) = false → (0 : Int) ≤ op ∧ op < (25 : Int) ∧ SV.str ([{ data := #[] }, { data := #[(109 : UInt8), (111 : UInt8), (118 : UInt8), (105 : UInt8)] }, { data := #[(109 : UInt8), (111 : UInt8), (118 : UInt8), (116 : UInt8)] }, { data := #[(109 : UInt8), (111 : UInt8), (118 : UInt8)] }, { data := #[(97 : UInt8), (100 : UInt8), (100 : UInt8)] }, { data := #[(115 : UInt8), (117 : UInt8), (98 : UInt8)] }, { data := #[(109 : UInt8), (117 : UInt8), (108 : UInt8)] }, { data := #[(100 : UInt8), (105 : UInt8), (118 : UInt8)] }, { data := #[(97 : UInt8), (110 : UInt8), (100 : UInt8)] }, { data := #[(111 : UInt8), (114 : UInt8)] }, { data := #[(120 : UInt8), (111 : UInt8), (114 : UInt8)] }, { data := #[(115 : UInt8), (104 : UInt8), (108 : UInt8)] }, { data := #[(115 : UInt8), (104 : UInt8), (114 : UInt8)] }, { data := #[(115 : UInt8), (97 : UInt8), (114 : UInt8)] }, { data := #[(97 : UInt8), (100 : UInt8), (100 : UInt8), (105 : UInt8)] }, { data := #[(108 : UInt8), (100 : UInt8), (114 : UInt8)] }, { data := #[(115 : UInt8), (116 : UInt8), (114 : UInt8)] }, { data := #[(108 : UInt8), (100 : UInt8), (120 : UInt8)] }, { data := #[(115 : UInt8), (116 : UInt8), (120 : UInt8)] }, { data := #[(99 : UInt8), (109 : UInt8), (112 : UInt8)] }, { data := #[(99 : UInt8), (109 : UInt8), (112 : UInt8), (105 : UInt8)] }, { data := #[(98 : UInt8)] }, { data := #[(98 : UInt8), (108 : UInt8)] }, { data := #[(98 : UInt8), (114 : UInt8)] }, { data := #[(115 : UInt8), (118 : UInt8), (99 : UInt8)] }].getD op.toNat { data := #[] }) = SV.str (nameS op))) ∧ (decide ((1 : Int) ≤ op) = false → SV.str { data := #[] } = SV.str (nameS op))) (by kernel_rfl) ?_
  simp only [decide_eq_true_eq, decide_eq_false_iff_not, Bool.not_eq_true', Bool.not_eq_false'] at *
  refine ⟨fun h => ⟨fun h2 => sv_str ?_, fun h2 => ⟨by omega, h2, sv_str ?_⟩⟩, fun h => sv_str ?_⟩
  · unfold nameS; rw [if_neg (by omega)]
  · unfold nameS; rw [if_pos (by omega)]; rfl
  · unfold nameS; rw [if_neg (by omega)]
def c_Name : List SV → Option (List Prop × SV)
  | [.int .i64 op] => some ([InK .i64 op], .str (nameS op))
  | _ => none
theorem c_Name_e : PEntry Tryd.prog 18 c_Name := by
  refine ⟨callFunc_ok Tryd.func18 (by kernel_rfl) (by kernel_rfl), fun args ps v h hp => ?_⟩
  unfold c_Name at h
  split at h
  · cases h; exact Name_ok _ (hp _ (by simp))
  · cases h
theorem RName_ok (op : Int) (h0 : InK .i64 op) : PureSem Tryd.prog 10 [.int .i64 op] (.str (nameS op)) := by
  refine pure_intro mixed (cx_iann_ok (fun _ => none) (fun _ => none)) Tryd.func10 1000 rfl rfl ?_
  refine of_nf (p := (decide (op < (1 : Int)) = true → SV.str { data := #[] } = SV.str (nameS op)) ∧ (decide (op < (1 : Int)) = false → (decide ((25 : Int) ≤ op) = true → SV.str { data := #[] } = SV.str (nameS op)) ∧ (decide ((25 : Int) ≤ op) = false → (0 : Int) ≤ op ∧ op < (25 : Int) ∧ SV.str ([{ data := #[] }, { data := #[(109 : UInt8), (111 : UInt8), (118 : UInt8), (105 : UInt8)] }, { data := #[(109 : UInt8), (111 : UInt8), (118 : UInt8), (116 : UInt8)] }, { data := #[(109 : UInt8), (111 : UInt8), (118 : UInt8)] }, { data := #[(97 : UInt8), (100 : UInt8), (100 : UInt8)] }, { data := #[(115 : UInt8), (117 : UInt8), (98 : UInt8)] }, { data := #[(109 : UInt8), (117 : UInt8), (108 : UInt8)] }, { data := #[(100 : UInt8), (105 : UInt8), (118 : UInt8)] }, { data := #[(97 : UInt8), (110 : UInt8), (100 : UInt8)] }, { data := #[(111 : UInt8), (114 : UInt8)] }, { data := #[(120 : UInt8), (111 : UInt8), (114 : UInt8)] }, { data := #[(115 : UInt8), (104 : UInt8), (108 : UInt8)] }, { data := #[(115 : UInt8), (104 : UInt8), (114 : UInt8)] }, { data := #[(115 : UInt8), (97 : UInt8), (114 : UInt8)] }, { data := #[(97 : UInt8), (100 : UInt8), (100 : UInt8), (105 : UInt8)] }, { data := #[(108 : UInt8), (100 : UInt8), (114 : UInt8)] }, { data := #[(115 : UInt8), (116 : UInt8), (114 : UInt8)] }, { data := #[(108 : UInt8), (100 : UInt8), (120 : UInt8)] }, { data := #[(115 : UInt8), (116 : UInt8), (120 : UInt8)] }, { data := #[(99 : UInt8), (109 : UInt8), (112 : UInt8)] }, { data := #[(99 : UInt8), (109 : UInt8), (112 : UInt8), (105 : UInt8)] }, { data := #[(98 : UInt8)] }, { data := #[(98 : UInt8), (108 : UInt8)] }, { data := #[(98 : UInt8), (114 : UInt8)] }, { data := #[(115 : UInt8), (118 : UInt8), (99 : UInt8)] }].getD op.toNat { data := #[] }) = SV.str (nameS op)))) (by kernel_rfl) ?_
  simp only [decide_eq_true_eq, decide_eq_false_iff_not, Bool.not_eq_true', Bool.not_eq_false'] at *
  refine ⟨fun h => sv_str ?_, fun h => ⟨fun h2 => sv_str ?_, fun h2 => ⟨by omega, by omega, sv_str ?_⟩⟩⟩
  · unfold nameS; rw [if_neg (by omega)]
  · unfold nameS; rw [if_neg (by omega)]
  · unfold nameS; rw [if_pos (by omega)]; rfl
def c_RName : List SV → Option (List Prop × SV)
  | [.int .i64 op] => some ([InK .i64 op], .str (nameS op))
  | _ => none
theorem c_RName_e : PEntry Tryd.prog 10 c_RName := by
  refine ⟨callFunc_ok Tryd.func10 (by kernel_rfl) (by kernel_rfl), fun args ps v h hp => ?_⟩
  unfold c_RName at h
  split at h
  · cases h; exact RName_ok _ (hp _ (by simp))
  · cases h
theorem CondName_ok (op : Int) (h0 : InK .i64 op) : PureSem Tryd.prog 19 [.int .i64 op] (.str (condS op)) := by
  refine pure_intro mixed (cx_iann_ok (fun _ => none) (fun _ => none)) Tryd.func19 1000 rfl rfl ?_
  refine of_nf (p := (decide (op < (0 : Int)) = true → SV.str { data := #[] } = SV.str (condS op)) ∧ (decide (op < (0 : Int)) = false → (decide ((7 : Int) ≤ op) = true → SV.str { data := #[] } = SV.str (condS op)) ∧ (decide ((7 : Int) ≤ op) = false → (0 : Int) ≤ op ∧ op < (7 : Int) ∧ SV.str ([{ data := #[(97 : UInt8), (108 : UInt8)] }, { data := #[(101 : UInt8), (113 : UInt8)] }, { data := #[(110 : UInt8), (101 : UInt8)] }, { data := #[(108 : UInt8), (116 : UInt8)] }, { data := #[(103 : UInt8), (101 : UInt8)] }, { data := #[(108 : UInt8), (111 : UInt8)] }, { data := #[(104 : UInt8), (115 : UInt8)] }].getD op.toNat { data := #[] }) = SV.str (condS op)))) (by kernel_rfl) ?_
  simp only [decide_eq_true_eq, decide_eq_false_iff_not, Bool.not_eq_true', Bool.not_eq_false'] at *
  refine ⟨fun h => sv_str ?_, fun h => ⟨fun h2 => sv_str ?_, fun h2 => ⟨by omega, by omega, sv_str ?_⟩⟩⟩
  · unfold condS; rw [if_neg (by omega)]
  · unfold condS; rw [if_neg (by omega)]
  · unfold condS; rw [if_pos (by omega)]; rfl
def c_CondName : List SV → Option (List Prop × SV)
  | [.int .i64 op] => some ([InK .i64 op], .str (condS op))
  | _ => none
theorem c_CondName_e : PEntry Tryd.prog 19 c_CondName := by
  refine ⟨callFunc_ok Tryd.func19 (by kernel_rfl) (by kernel_rfl), fun args ps v h hp => ?_⟩
  unfold c_CondName at h
  split at h
  · cases h; exact CondName_ok _ (hp _ (by simp))
  · cases h
theorem RCondName_ok (op : Int) (h0 : InK .i64 op) : PureSem Tryd.prog 13 [.int .i64 op] (.str (condS op)) := by
  refine pure_intro mixed (cx_iann_ok (fun _ => none) (fun _ => none)) Tryd.func13 1000 rfl rfl ?_
  refine of_nf (p := (decide (op < (0 : Int)) = true → SV.str { data := #[] } = SV.str (condS op)) ∧ (decide (op < (0 : Int)) = false → (decide ((7 : Int) ≤ op) = true → SV.str { data := #[] } = SV.str (condS op)) ∧ (decide ((7 : Int) ≤ op) = false → (0 : Int) ≤ op ∧ op < (7 : Int) ∧ SV.str ([{ data := #[(97 : UInt8), (108 : UInt8)] }, { data := #[(101 : UInt8), (113 : UInt8)] }, { data := #[(110 : UInt8), (101 : UInt8)] }, { data := #[(108 : UInt8), (116 : UInt8)] }, { data := #[(103 : UInt8), (101 : UInt8)] }, { data := #[(108 : UInt8), (111 : UInt8)] }, { data := #[(104 : UInt8), (115 : UInt8)] }].getD op.toNat { data := #[] }) = SV.str (condS op)))) (by kernel_rfl) ?_
  simp only [decide_eq_true_eq, decide_eq_false_iff_not, Bool.not_eq_true', Bool.not_eq_false'] at *
  refine ⟨fun h => sv_str ?_, fun h => ⟨fun h2 => sv_str ?_, fun h2 => ⟨by omega, by omega, sv_str ?_⟩⟩⟩
  · unfold condS; rw [if_neg (by omega)]
  · unfold condS; rw [if_neg (by omega)]
  · unfold condS; rw [if_pos (by omega)]; rfl
def c_RCondName : List SV → Option (List Prop × SV)
  | [.int .i64 op] => some ([InK .i64 op], .str (condS op))
  | _ => none
theorem c_RCondName_e : PEntry Tryd.prog 13 c_RCondName := by
  refine ⟨callFunc_ok Tryd.func13 (by kernel_rfl) (by kernel_rfl), fun args ps v h hp => ?_⟩
  unfold c_RCondName at h
  split at h
  · cases h; exact RCondName_ok _ (hp _ (by simp))
  · cases h
theorem Named_ok (s : ByteArray)  : PureSem Tryd.prog 9 [.str s] (.tup [.int .i64 (namedS s).1, .int .i64 (namedS s).2]) := by
  refine pure_intro mixed (cx_iann_ok (fun _ => none) (fun _ => none)) Tryd.func9 1000 rfl rfl ?_
  refine of_nf (p := (strEq { data := #[(109 : UInt8), (111 : UInt8), (118 : UInt8), (105 : UInt8)] } s = true → (1 : Int) = (namedS s).1 ∧ (0 : Int) = (namedS s).2 ∧ True) ∧ (strEq { data := #[(109 : UInt8), (111 : UInt8), (118 : UInt8), (105 : UInt8)] } s = false → (strEq { data := #[(109 : UInt8), (111 : UInt8), (118 : UInt8), (116 : UInt8)] } s = true → (2 : Int) = (namedS s).1 ∧ (0 : Int) = (namedS s).2 ∧ True) ∧ (strEq { data := #[(109 : UInt8), (111 : UInt8), (118 : UInt8), (116 : UInt8)] } s = false → (strEq { data := #[(109 : UInt8), (111 : UInt8), (118 : UInt8)] } s = true → (3 : Int) = (namedS s).1 ∧ (0 : Int) = (namedS s).2 ∧ True) ∧ (strEq { data := #[(109 : UInt8), (111 : UInt8), (118 : UInt8)] } s = false → (strEq { data := #[(97 : UInt8), (100 : UInt8), (100 : UInt8)] } s = true → (4 : Int) = (namedS s).1 ∧ (0 : Int) = (namedS s).2 ∧ True) ∧ (strEq { data := #[(97 : UInt8), (100 : UInt8), (100 : UInt8)] } s = false → (strEq { data := #[(115 : UInt8), (117 : UInt8), (98 : UInt8)] } s = true → (5 : Int) = (namedS s).1 ∧ (0 : Int) = (namedS s).2 ∧ True) ∧ (strEq { data := #[(115 : UInt8), (117 : UInt8), (98 : UInt8)] } s = false → (strEq { data := #[(109 : UInt8), (117 : UInt8), (108 : UInt8)] } s = true → (6 : Int) = (namedS s).1 ∧ (0 : Int) = (namedS s).2 ∧ True) ∧ (strEq { data := #[(109 : UInt8), (117 : UInt8), (108 : UInt8)] } s = false → (strEq { data := #[(100 : UInt8), (105 : UInt8), (118 : UInt8)] } s = true → (7 : Int) = (namedS s).1 ∧ (0 : Int) = (namedS s).2 ∧ True) ∧ (strEq { data := #[(100 : UInt8), (105 : UInt8), (118 : UInt8)] } s = false → (strEq { data := #[(97 : UInt8), (110 : UInt8), (100 : UInt8)] } s = true → (8 : Int) = (namedS s).1 ∧ (0 : Int) = (namedS s).2 ∧ True) ∧ (strEq { data := #[(97 : UInt8), (110 : UInt8), (100 : UInt8)] } s = false → (strEq { data := #[(111 : UInt8), (114 : UInt8)] } s = true → (9 : Int) = (namedS s).1 ∧ (0 : Int) = (namedS s).2 ∧ True) ∧ (strEq { data := #[(111 : UInt8), (114 : UInt8)] } s = false → (strEq { data := #[(120 : UInt8), (111 : UInt8), (114 : UInt8)] } s = true → (10 : Int) = (namedS s).1 ∧ (0 : Int) = (namedS s).2 ∧ True) ∧ (strEq { data := #[(120 : UInt8), (111 : UInt8), (114 : UInt8)] } s = false → (strEq { data := #[(115 : UInt8), (104 : UInt8), (108 : UInt8)] } s = true → (11 : Int) = (namedS s).1 ∧ (0 : Int) = (namedS s).2 ∧ True) ∧ (strEq { data := #[(115 : UInt8), (104 : UInt8), (108 : UInt8)] } s = false → (strEq { data := #[(115 : UInt8), (104 : UInt8), (114 : UInt8)] } s = true → (12 : Int) = (namedS s).1 ∧ (0 : Int) = (namedS s).2 ∧ True) ∧ (strEq { data := #[(115 : UInt8), (104 : UInt8), (114 : UInt8)] } s = false → (strEq { data := #[(115 : UInt8), (97 : UInt8), (114 : UInt8)] } s = true → (13 : Int) = (namedS s).1 ∧ (0 : Int) = (namedS s).2 ∧ True) ∧ (strEq { data := #[(115 : UInt8), (97 : UInt8), (114 : UInt8)] } s = false → (strEq { data := #[(97 : UInt8), (100 : UInt8), (100 : UInt8), (105 : UInt8)] } s = true → (14 : Int) = (namedS s).1 ∧ (0 : Int) = (namedS s).2 ∧ True) ∧ (strEq { data := #[(97 : UInt8), (100 : UInt8), (100 : UInt8), (105 : UInt8)] } s = false → (strEq { data := #[(108 : UInt8), (100 : UInt8), (114 : UInt8)] } s = true → (15 : Int) = (namedS s).1 ∧ (0 : Int) = (namedS s).2 ∧ True) ∧ (strEq { data := #[(108 : UInt8), (100 : UInt8), (114 : UInt8)] } s = false → (strEq { data := #[(115 : UInt8), (116 : UInt8), (114 : UInt8)] } s = true → (16 : Int) = (namedS s).1 ∧ (0 : Int) = (namedS s).2 ∧ True) ∧ (strEq { data := #[(115 : UInt8), (116 : UInt8), (114 : UInt8)] } s = false → (strEq { data := #[(108 : UInt8), (100 : UInt8), (120 : UInt8)] } s = true → (17 : Int) = (namedS s).1 ∧ (0 : Int) = (namedS s).2 ∧ True) ∧ (strEq { data := #[(108 : UInt8), (100 : UInt8), (120 : UInt8)] } s = false → (strEq { data := #[(115 : UInt8), (116 : UInt8), (120 : UInt8)] } s = true → (18 : Int) = (namedS s).1 ∧ (0 : Int) = (namedS s).2 ∧ True) ∧ (strEq { data := #[(115 : UInt8), (116 : UInt8), (120 : UInt8)] } s = false → (strEq { data := #[(99 : UInt8), (109 : UInt8), (112 : UInt8)] } s = true → (19 : Int) = (namedS s).1 ∧ (0 : Int) = (namedS s).2 ∧ True) ∧ (strEq { data := #[(99 : UInt8), (109 : UInt8), (112 : UInt8)] } s = false → (strEq { data := #[(99 : UInt8), (109 : UInt8), (112 : UInt8), (105 : UInt8)] } s = true → (20 : Int) = (namedS s).1 ∧ (0 : Int) = (namedS s).2 ∧ True) ∧ (strEq { data := #[(99 : UInt8), (109 : UInt8), (112 : UInt8), (105 : UInt8)] } s = false → (strEq { data := #[(98 : UInt8)] } s = true → (21 : Int) = (namedS s).1 ∧ (0 : Int) = (namedS s).2 ∧ True) ∧ (strEq { data := #[(98 : UInt8)] } s = false → (strEq { data := #[(98 : UInt8), (108 : UInt8)] } s = true → (22 : Int) = (namedS s).1 ∧ (0 : Int) = (namedS s).2 ∧ True) ∧ (strEq { data := #[(98 : UInt8), (108 : UInt8)] } s = false → (strEq { data := #[(98 : UInt8), (114 : UInt8)] } s = true → (23 : Int) = (namedS s).1 ∧ (0 : Int) = (namedS s).2 ∧ True) ∧ (strEq { data := #[(98 : UInt8), (114 : UInt8)] } s = false → (strEq { data := #[(115 : UInt8), (118 : UInt8), (99 : UInt8)] } s = true → (24 : Int) = (namedS s).1 ∧ (0 : Int) = (namedS s).2 ∧ True) ∧ (strEq { data := #[(115 : UInt8), (118 : UInt8), (99 : UInt8)] } s = false → (0 : Int) = (namedS s).1 ∧ (50 : Int) = (namedS s).2 ∧ True))))))))))))))))))))))))) (by kernel_rfl) ?_
  repeat' (first | apply And.intro | intro _h)
  all_goals simp [namedS, namesL, findS, *]
def c_Named : List SV → Option (List Prop × SV)
  | [.str s] => some ([], .tup [.int .i64 (namedS s).1, .int .i64 (namedS s).2])
  | _ => none
theorem c_Named_e : PEntry Tryd.prog 9 c_Named := by
  refine ⟨callFunc_ok Tryd.func9 (by kernel_rfl) (by kernel_rfl), fun args ps v h hp => ?_⟩
  unfold c_Named at h
  split at h
  · cases h; exact Named_ok _ 
  · cases h
theorem RNamed_ok (s : ByteArray)  : PureSem Tryd.prog 11 [.str s] (.tup [.int .i64 (namedS s).1, .int .i64 (namedS s).2]) := by
  refine pure_intro mixed (cx_iann_ok (fun _ => none) (fun _ => none)) Tryd.func11 1000 rfl rfl ?_
  refine of_nf (p := (strEq { data := #[(109 : UInt8), (111 : UInt8), (118 : UInt8), (105 : UInt8)] } s = true → (1 : Int) = (namedS s).1 ∧ (0 : Int) = (namedS s).2 ∧ True) ∧ (strEq { data := #[(109 : UInt8), (111 : UInt8), (118 : UInt8), (105 : UInt8)] } s = false → (strEq { data := #[(109 : UInt8), (111 : UInt8), (118 : UInt8), (116 : UInt8)] } s = true → (2 : Int) = (namedS s).1 ∧ (0 : Int) = (namedS s).2 ∧ True) ∧ (strEq { data := #[(109 : UInt8), (111 : UInt8), (118 : UInt8), (116 : UInt8)] } s = false → (strEq { data := #[(109 : UInt8), (111 : UInt8), (118 : UInt8)] } s = true → (3 : Int) = (namedS s).1 ∧ (0 : Int) = (namedS s).2 ∧ True) ∧ (strEq { data := #[(109 : UInt8), (111 : UInt8), (118 : UInt8)] } s = false → (strEq { data := #[(97 : UInt8), (100 : UInt8), (100 : UInt8)] } s = true → (4 : Int) = (namedS s).1 ∧ (0 : Int) = (namedS s).2 ∧ True) ∧ (strEq { data := #[(97 : UInt8), (100 : UInt8), (100 : UInt8)] } s = false → (strEq { data := #[(115 : UInt8), (117 : UInt8), (98 : UInt8)] } s = true → (5 : Int) = (namedS s).1 ∧ (0 : Int) = (namedS s).2 ∧ True) ∧ (strEq { data := #[(115 : UInt8), (117 : UInt8), (98 : UInt8)] } s = false → (strEq { data := #[(109 : UInt8), (117 : UInt8), (108 : UInt8)] } s = true → (6 : Int) = (namedS s).1 ∧ (0 : Int) = (namedS s).2 ∧ True) ∧ (strEq { data := #[(109 : UInt8), (117 : UInt8), (108 : UInt8)] } s = false → (strEq { data := #[(100 : UInt8), (105 : UInt8), (118 : UInt8)] } s = true → (7 : Int) = (namedS s).1 ∧ (0 : Int) = (namedS s).2 ∧ True) ∧ (strEq { data := #[(100 : UInt8), (105 : UInt8), (118 : UInt8)] } s = false → (strEq { data := #[(97 : UInt8), (110 : UInt8), (100 : UInt8)] } s = true → (8 : Int) = (namedS s).1 ∧ (0 : Int) = (namedS s).2 ∧ True) ∧ (strEq { data := #[(97 : UInt8), (110 : UInt8), (100 : UInt8)] } s = false → (strEq { data := #[(111 : UInt8), (114 : UInt8)] } s = true → (9 : Int) = (namedS s).1 ∧ (0 : Int) = (namedS s).2 ∧ True) ∧ (strEq { data := #[(111 : UInt8), (114 : UInt8)] } s = false → (strEq { data := #[(120 : UInt8), (111 : UInt8), (114 : UInt8)] } s = true → (10 : Int) = (namedS s).1 ∧ (0 : Int) = (namedS s).2 ∧ True) ∧ (strEq { data := #[(120 : UInt8), (111 : UInt8), (114 : UInt8)] } s = false → (strEq { data := #[(115 : UInt8), (104 : UInt8), (108 : UInt8)] } s = true → (11 : Int) = (namedS s).1 ∧ (0 : Int) = (namedS s).2 ∧ True) ∧ (strEq { data := #[(115 : UInt8), (104 : UInt8), (108 : UInt8)] } s = false → (strEq { data := #[(115 : UInt8), (104 : UInt8), (114 : UInt8)] } s = true → (12 : Int) = (namedS s).1 ∧ (0 : Int) = (namedS s).2 ∧ True) ∧ (strEq { data := #[(115 : UInt8), (104 : UInt8), (114 : UInt8)] } s = false → (strEq { data := #[(115 : UInt8), (97 : UInt8), (114 : UInt8)] } s = true → (13 : Int) = (namedS s).1 ∧ (0 : Int) = (namedS s).2 ∧ True) ∧ (strEq { data := #[(115 : UInt8), (97 : UInt8), (114 : UInt8)] } s = false → (strEq { data := #[(97 : UInt8), (100 : UInt8), (100 : UInt8), (105 : UInt8)] } s = true → (14 : Int) = (namedS s).1 ∧ (0 : Int) = (namedS s).2 ∧ True) ∧ (strEq { data := #[(97 : UInt8), (100 : UInt8), (100 : UInt8), (105 : UInt8)] } s = false → (strEq { data := #[(108 : UInt8), (100 : UInt8), (114 : UInt8)] } s = true → (15 : Int) = (namedS s).1 ∧ (0 : Int) = (namedS s).2 ∧ True) ∧ (strEq { data := #[(108 : UInt8), (100 : UInt8), (114 : UInt8)] } s = false → (strEq { data := #[(115 : UInt8), (116 : UInt8), (114 : UInt8)] } s = true → (16 : Int) = (namedS s).1 ∧ (0 : Int) = (namedS s).2 ∧ True) ∧ (strEq { data := #[(115 : UInt8), (116 : UInt8), (114 : UInt8)] } s = false → (strEq { data := #[(108 : UInt8), (100 : UInt8), (120 : UInt8)] } s = true → (17 : Int) = (namedS s).1 ∧ (0 : Int) = (namedS s).2 ∧ True) ∧ (strEq { data := #[(108 : UInt8), (100 : UInt8), (120 : UInt8)] } s = false → (strEq { data := #[(115 : UInt8), (116 : UInt8), (120 : UInt8)] } s = true → (18 : Int) = (namedS s).1 ∧ (0 : Int) = (namedS s).2 ∧ True) ∧ (strEq { data := #[(115 : UInt8), (116 : UInt8), (120 : UInt8)] } s = false → (strEq { data := #[(99 : UInt8), (109 : UInt8), (112 : UInt8)] } s = true → (19 : Int) = (namedS s).1 ∧ (0 : Int) = (namedS s).2 ∧ True) ∧ (strEq { data := #[(99 : UInt8), (109 : UInt8), (112 : UInt8)] } s = false → (strEq { data := #[(99 : UInt8), (109 : UInt8), (112 : UInt8), (105 : UInt8)] } s = true → (20 : Int) = (namedS s).1 ∧ (0 : Int) = (namedS s).2 ∧ True) ∧ (strEq { data := #[(99 : UInt8), (109 : UInt8), (112 : UInt8), (105 : UInt8)] } s = false → (strEq { data := #[(98 : UInt8)] } s = true → (21 : Int) = (namedS s).1 ∧ (0 : Int) = (namedS s).2 ∧ True) ∧ (strEq { data := #[(98 : UInt8)] } s = false → (strEq { data := #[(98 : UInt8), (108 : UInt8)] } s = true → (22 : Int) = (namedS s).1 ∧ (0 : Int) = (namedS s).2 ∧ True) ∧ (strEq { data := #[(98 : UInt8), (108 : UInt8)] } s = false → (strEq { data := #[(98 : UInt8), (114 : UInt8)] } s = true → (23 : Int) = (namedS s).1 ∧ (0 : Int) = (namedS s).2 ∧ True) ∧ (strEq { data := #[(98 : UInt8), (114 : UInt8)] } s = false → (strEq { data := #[(115 : UInt8), (118 : UInt8), (99 : UInt8)] } s = true → (24 : Int) = (namedS s).1 ∧ (0 : Int) = (namedS s).2 ∧ True) ∧ (strEq { data := #[(115 : UInt8), (118 : UInt8), (99 : UInt8)] } s = false → (0 : Int) = (namedS s).1 ∧ (50 : Int) = (namedS s).2 ∧ True))))))))))))))))))))))))) (by kernel_rfl) ?_
  repeat' (first | apply And.intro | intro _h)
  all_goals simp [namedS, namesL, findS, *]
def c_RNamed : List SV → Option (List Prop × SV)
  | [.str s] => some ([], .tup [.int .i64 (namedS s).1, .int .i64 (namedS s).2])
  | _ => none
theorem c_RNamed_e : PEntry Tryd.prog 11 c_RNamed := by
  refine ⟨callFunc_ok Tryd.func11 (by kernel_rfl) (by kernel_rfl), fun args ps v h hp => ?_⟩
  unfold c_RNamed at h
  split at h
  · cases h; exact RNamed_ok _ 
  · cases h
theorem CondNamed_ok (s : ByteArray)  : PureSem Tryd.prog 12 [.str s] (.tup [.int .i64 (condNamedS s).1, .int .i64 (condNamedS s).2]) := by
  refine pure_intro mixed (cx_iann_ok (fun _ => none) (fun _ => none)) Tryd.func12 1000 rfl rfl ?_
  refine of_nf (p := (strEq { data := #[(97 : UInt8), (108 : UInt8)] } s = true → (0 : Int) = (condNamedS s).1 ∧ (0 : Int) = (condNamedS s).2 ∧ True) ∧ (strEq { data := #[(97 : UInt8), (108 : UInt8)] } s = false → (strEq { data := #[(101 : UInt8), (113 : UInt8)] } s = true → (1 : Int) = (condNamedS s).1 ∧ (0 : Int) = (condNamedS s).2 ∧ True) ∧ (strEq { data := #[(101 : UInt8), (113 : UInt8)] } s = false → (strEq { data := #[(110 : UInt8), (101 : UInt8)] } s = true → (2 : Int) = (condNamedS s).1 ∧ (0 : Int) = (condNamedS s).2 ∧ True) ∧ (strEq { data := #[(110 : UInt8), (101 : UInt8)] } s = false → (strEq { data := #[(108 : UInt8), (116 : UInt8)] } s = true → (3 : Int) = (condNamedS s).1 ∧ (0 : Int) = (condNamedS s).2 ∧ True) ∧ (strEq { data := #[(108 : UInt8), (116 : UInt8)] } s = false → (strEq { data := #[(103 : UInt8), (101 : UInt8)] } s = true → (4 : Int) = (condNamedS s).1 ∧ (0 : Int) = (condNamedS s).2 ∧ True) ∧ (strEq { data := #[(103 : UInt8), (101 : UInt8)] } s = false → (strEq { data := #[(108 : UInt8), (111 : UInt8)] } s = true → (5 : Int) = (condNamedS s).1 ∧ (0 : Int) = (condNamedS s).2 ∧ True) ∧ (strEq { data := #[(108 : UInt8), (111 : UInt8)] } s = false → (strEq { data := #[(104 : UInt8), (115 : UInt8)] } s = true → (6 : Int) = (condNamedS s).1 ∧ (0 : Int) = (condNamedS s).2 ∧ True) ∧ (strEq { data := #[(104 : UInt8), (115 : UInt8)] } s = false → (0 : Int) = (condNamedS s).1 ∧ (50 : Int) = (condNamedS s).2 ∧ True)))))))) (by kernel_rfl) ?_
  repeat' (first | apply And.intro | intro _h)
  all_goals simp [condNamedS, condsL, findS, *]
def c_CondNamed : List SV → Option (List Prop × SV)
  | [.str s] => some ([], .tup [.int .i64 (condNamedS s).1, .int .i64 (condNamedS s).2])
  | _ => none
theorem c_CondNamed_e : PEntry Tryd.prog 12 c_CondNamed := by
  refine ⟨callFunc_ok Tryd.func12 (by kernel_rfl) (by kernel_rfl), fun args ps v h hp => ?_⟩
  unfold c_CondNamed at h
  split at h
  · cases h; exact CondNamed_ok _ 
  · cases h
theorem RCondNamed_ok (s : ByteArray)  : PureSem Tryd.prog 14 [.str s] (.tup [.int .i64 (condNamedS s).1, .int .i64 (condNamedS s).2]) := by
  refine pure_intro mixed (cx_iann_ok (fun _ => none) (fun _ => none)) Tryd.func14 1000 rfl rfl ?_
  refine of_nf (p := (strEq { data := #[(97 : UInt8), (108 : UInt8)] } s = true → (0 : Int) = (condNamedS s).1 ∧ (0 : Int) = (condNamedS s).2 ∧ True) ∧ (strEq { data := #[(97 : UInt8), (108 : UInt8)] } s = false → (strEq { data := #[(101 : UInt8), (113 : UInt8)] } s = true → (1 : Int) = (condNamedS s).1 ∧ (0 : Int) = (condNamedS s).2 ∧ True) ∧ (strEq { data := #[(101 : UInt8), (113 : UInt8)] } s = false → (strEq { data := #[(110 : UInt8), (101 : UInt8)] } s = true → (2 : Int) = (condNamedS s).1 ∧ (0 : Int) = (condNamedS s).2 ∧ True) ∧ (strEq { data := #[(110 : UInt8), (101 : UInt8)] } s = false → (strEq { data := #[(108 : UInt8), (116 : UInt8)] } s = true → (3 : Int) = (condNamedS s).1 ∧ (0 : Int) = (condNamedS s).2 ∧ True) ∧ (strEq { data := #[(108 : UInt8), (116 : UInt8)] } s = false → (strEq { data := #[(103 : UInt8), (101 : UInt8)] } s = true → (4 : Int) = (condNamedS s).1 ∧ (0 : Int) = (condNamedS s).2 ∧ True) ∧ (strEq { data := #[(103 : UInt8), (101 : UInt8)] } s = false → (strEq { data := #[(108 : UInt8), (111 : UInt8)] } s = true → (5 : Int) = (condNamedS s).1 ∧ (0 : Int) = (condNamedS s).2 ∧ True) ∧ (strEq { data := #[(108 : UInt8), (111 : UInt8)] } s = false → (strEq { data := #[(104 : UInt8), (115 : UInt8)] } s = true → (6 : Int) = (condNamedS s).1 ∧ (0 : Int) = (condNamedS s).2 ∧ True) ∧ (strEq { data := #[(104 : UInt8), (115 : UInt8)] } s = false → (0 : Int) = (condNamedS s).1 ∧ (50 : Int) = (condNamedS s).2 ∧ True)))))))) (by kernel_rfl) ?_
  repeat' (first | apply And.intro | intro _h)
  all_goals simp [condNamedS, condsL, findS, *]
def c_RCondNamed : List SV → Option (List Prop × SV)
  | [.str s] => some ([], .tup [.int .i64 (condNamedS s).1, .int .i64 (condNamedS s).2])
  | _ => none
theorem c_RCondNamed_e : PEntry Tryd.prog 14 c_RCondNamed := by
  refine ⟨callFunc_ok Tryd.func14 (by kernel_rfl) (by kernel_rfl), fun args ps v h hp => ?_⟩
  unfold c_RCondNamed at h
  split at h
  · cases h; exact RCondNamed_ok _ 
  · cases h
end Go.Proofs.YtijgngiocmnakaaDoor
