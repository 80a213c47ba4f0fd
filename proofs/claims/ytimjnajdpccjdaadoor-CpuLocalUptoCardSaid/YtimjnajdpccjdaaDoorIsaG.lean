/- The package isa: shapes by groups. No condition. -/
import Derived.Test.YtimjnajdpccjdaaDoorIsaA
namespace Go.Proofs.YtimjnajdpccjdaaDoor
set_option linter.unusedVariables false
set_option linter.unusedSimpArgs false
open Go.RowKit Sx
set_option maxRecDepth 100000
set_option maxHeartbeats 1000000
theorem shape_au {op : Int} (h : op = 1 ∨ op = 2) : shapeS op = ⟨#[97, 117]⟩ := by
  rcases h with rfl | rfl <;> rfl
theorem has_au_a : hasB ⟨#[97, 117]⟩ 97 = true := by decide
theorem has_au_b : hasB ⟨#[97, 117]⟩ 98 = false := by decide
theorem has_au_c : hasB ⟨#[97, 117]⟩ 99 = false := by decide
theorem has_au_k : hasB ⟨#[97, 117]⟩ 107 = false := by decide
theorem has_au_u : hasB ⟨#[97, 117]⟩ 117 = true := by decide
theorem has_au_s : hasB ⟨#[97, 117]⟩ 115 = false := by decide
theorem has_au_o : hasB ⟨#[97, 117]⟩ 111 = false := by decide
def c_Shape_au : List SV → Option (List Prop × SV)
  | [.int .i64 op] => some ([InK .i64 op, op = 1 ∨ op = 2], .str ⟨#[97, 117]⟩)
  | _ => none
theorem c_Shape_au_e : PEntry Tryd.prog 60 c_Shape_au := by
  refine ⟨callFunc_ok Tryd.func60 (by kernel_rfl) (by kernel_rfl), fun args ps v h hp => ?_⟩
  unfold c_Shape_au at h
  split at h
  · rename_i op
    cases h
    exact (Shape_ok op (hp.i 0)).as (by rw [shape_au (hp.i 1)])
  · cases h
theorem shape_ab {op : Int} (h : op = 3 ∨ op = 19) : shapeS op = ⟨#[97, 98]⟩ := by
  rcases h with rfl | rfl <;> rfl
theorem has_ab_a : hasB ⟨#[97, 98]⟩ 97 = true := by decide
theorem has_ab_b : hasB ⟨#[97, 98]⟩ 98 = true := by decide
theorem has_ab_c : hasB ⟨#[97, 98]⟩ 99 = false := by decide
theorem has_ab_k : hasB ⟨#[97, 98]⟩ 107 = false := by decide
theorem has_ab_u : hasB ⟨#[97, 98]⟩ 117 = false := by decide
theorem has_ab_s : hasB ⟨#[97, 98]⟩ 115 = false := by decide
theorem has_ab_o : hasB ⟨#[97, 98]⟩ 111 = false := by decide
def c_Shape_ab : List SV → Option (List Prop × SV)
  | [.int .i64 op] => some ([InK .i64 op, op = 3 ∨ op = 19], .str ⟨#[97, 98]⟩)
  | _ => none
theorem c_Shape_ab_e : PEntry Tryd.prog 60 c_Shape_ab := by
  refine ⟨callFunc_ok Tryd.func60 (by kernel_rfl) (by kernel_rfl), fun args ps v h hp => ?_⟩
  unfold c_Shape_ab at h
  split at h
  · rename_i op
    cases h
    exact (Shape_ok op (hp.i 0)).as (by rw [shape_ab (hp.i 1)])
  · cases h
theorem shape_abc {op : Int} (h : op = 4 ∨ op = 5 ∨ op = 6 ∨ op = 7 ∨ op = 8 ∨ op = 9 ∨ op = 10 ∨ op = 11 ∨ op = 12 ∨ op = 13 ∨ op = 17 ∨ op = 18) : shapeS op = ⟨#[97, 98, 99]⟩ := by
  rcases h with rfl | rfl | rfl | rfl | rfl | rfl | rfl | rfl | rfl | rfl | rfl | rfl <;> rfl
theorem has_abc_a : hasB ⟨#[97, 98, 99]⟩ 97 = true := by decide
theorem has_abc_b : hasB ⟨#[97, 98, 99]⟩ 98 = true := by decide
theorem has_abc_c : hasB ⟨#[97, 98, 99]⟩ 99 = true := by decide
theorem has_abc_k : hasB ⟨#[97, 98, 99]⟩ 107 = false := by decide
theorem has_abc_u : hasB ⟨#[97, 98, 99]⟩ 117 = false := by decide
theorem has_abc_s : hasB ⟨#[97, 98, 99]⟩ 115 = false := by decide
theorem has_abc_o : hasB ⟨#[97, 98, 99]⟩ 111 = false := by decide
def c_Shape_abc : List SV → Option (List Prop × SV)
  | [.int .i64 op] => some ([InK .i64 op, op = 4 ∨ op = 5 ∨ op = 6 ∨ op = 7 ∨ op = 8 ∨ op = 9 ∨ op = 10 ∨ op = 11 ∨ op = 12 ∨ op = 13 ∨ op = 17 ∨ op = 18], .str ⟨#[97, 98, 99]⟩)
  | _ => none
theorem c_Shape_abc_e : PEntry Tryd.prog 60 c_Shape_abc := by
  refine ⟨callFunc_ok Tryd.func60 (by kernel_rfl) (by kernel_rfl), fun args ps v h hp => ?_⟩
  unfold c_Shape_abc at h
  split at h
  · rename_i op
    cases h
    exact (Shape_ok op (hp.i 0)).as (by rw [shape_abc (hp.i 1)])
  · cases h
theorem shape_abs {op : Int} (h : op = 14 ∨ op = 15 ∨ op = 16) : shapeS op = ⟨#[97, 98, 115]⟩ := by
  rcases h with rfl | rfl | rfl <;> rfl
theorem has_abs_a : hasB ⟨#[97, 98, 115]⟩ 97 = true := by decide
theorem has_abs_b : hasB ⟨#[97, 98, 115]⟩ 98 = true := by decide
theorem has_abs_c : hasB ⟨#[97, 98, 115]⟩ 99 = false := by decide
theorem has_abs_k : hasB ⟨#[97, 98, 115]⟩ 107 = false := by decide
theorem has_abs_u : hasB ⟨#[97, 98, 115]⟩ 117 = false := by decide
theorem has_abs_s : hasB ⟨#[97, 98, 115]⟩ 115 = true := by decide
theorem has_abs_o : hasB ⟨#[97, 98, 115]⟩ 111 = false := by decide
def c_Shape_abs : List SV → Option (List Prop × SV)
  | [.int .i64 op] => some ([InK .i64 op, op = 14 ∨ op = 15 ∨ op = 16], .str ⟨#[97, 98, 115]⟩)
  | _ => none
theorem c_Shape_abs_e : PEntry Tryd.prog 60 c_Shape_abs := by
  refine ⟨callFunc_ok Tryd.func60 (by kernel_rfl) (by kernel_rfl), fun args ps v h hp => ?_⟩
  unfold c_Shape_abs at h
  split at h
  · rename_i op
    cases h
    exact (Shape_ok op (hp.i 0)).as (by rw [shape_abs (hp.i 1)])
  · cases h
theorem shape_as {op : Int} (h : op = 20) : shapeS op = ⟨#[97, 115]⟩ := by
  subst h; rfl
theorem has_as_a : hasB ⟨#[97, 115]⟩ 97 = true := by decide
theorem has_as_b : hasB ⟨#[97, 115]⟩ 98 = false := by decide
theorem has_as_c : hasB ⟨#[97, 115]⟩ 99 = false := by decide
theorem has_as_k : hasB ⟨#[97, 115]⟩ 107 = false := by decide
theorem has_as_u : hasB ⟨#[97, 115]⟩ 117 = false := by decide
theorem has_as_s : hasB ⟨#[97, 115]⟩ 115 = true := by decide
theorem has_as_o : hasB ⟨#[97, 115]⟩ 111 = false := by decide
def c_Shape_as : List SV → Option (List Prop × SV)
  | [.int .i64 op] => some ([InK .i64 op, op = 20], .str ⟨#[97, 115]⟩)
  | _ => none
theorem c_Shape_as_e : PEntry Tryd.prog 60 c_Shape_as := by
  refine ⟨callFunc_ok Tryd.func60 (by kernel_rfl) (by kernel_rfl), fun args ps v h hp => ?_⟩
  unfold c_Shape_as at h
  split at h
  · rename_i op
    cases h
    exact (Shape_ok op (hp.i 0)).as (by rw [shape_as (hp.i 1)])
  · cases h
theorem shape_ko {op : Int} (h : op = 21) : shapeS op = ⟨#[107, 111]⟩ := by
  subst h; rfl
theorem has_ko_a : hasB ⟨#[107, 111]⟩ 97 = false := by decide
theorem has_ko_b : hasB ⟨#[107, 111]⟩ 98 = false := by decide
theorem has_ko_c : hasB ⟨#[107, 111]⟩ 99 = false := by decide
theorem has_ko_k : hasB ⟨#[107, 111]⟩ 107 = true := by decide
theorem has_ko_u : hasB ⟨#[107, 111]⟩ 117 = false := by decide
theorem has_ko_s : hasB ⟨#[107, 111]⟩ 115 = false := by decide
theorem has_ko_o : hasB ⟨#[107, 111]⟩ 111 = true := by decide
def c_Shape_ko : List SV → Option (List Prop × SV)
  | [.int .i64 op] => some ([InK .i64 op, op = 21], .str ⟨#[107, 111]⟩)
  | _ => none
theorem c_Shape_ko_e : PEntry Tryd.prog 60 c_Shape_ko := by
  refine ⟨callFunc_ok Tryd.func60 (by kernel_rfl) (by kernel_rfl), fun args ps v h hp => ?_⟩
  unfold c_Shape_ko at h
  split at h
  · rename_i op
    cases h
    exact (Shape_ok op (hp.i 0)).as (by rw [shape_ko (hp.i 1)])
  · cases h
theorem shape_o {op : Int} (h : op = 22) : shapeS op = ⟨#[111]⟩ := by
  subst h; rfl
theorem has_o_a : hasB ⟨#[111]⟩ 97 = false := by decide
theorem has_o_b : hasB ⟨#[111]⟩ 98 = false := by decide
theorem has_o_c : hasB ⟨#[111]⟩ 99 = false := by decide
theorem has_o_k : hasB ⟨#[111]⟩ 107 = false := by decide
theorem has_o_u : hasB ⟨#[111]⟩ 117 = false := by decide
theorem has_o_s : hasB ⟨#[111]⟩ 115 = false := by decide
theorem has_o_o : hasB ⟨#[111]⟩ 111 = true := by decide
def c_Shape_o : List SV → Option (List Prop × SV)
  | [.int .i64 op] => some ([InK .i64 op, op = 22], .str ⟨#[111]⟩)
  | _ => none
theorem c_Shape_o_e : PEntry Tryd.prog 60 c_Shape_o := by
  refine ⟨callFunc_ok Tryd.func60 (by kernel_rfl) (by kernel_rfl), fun args ps v h hp => ?_⟩
  unfold c_Shape_o at h
  split at h
  · rename_i op
    cases h
    exact (Shape_ok op (hp.i 0)).as (by rw [shape_o (hp.i 1)])
  · cases h
theorem shape_a {op : Int} (h : op = 23) : shapeS op = ⟨#[97]⟩ := by
  subst h; rfl
theorem has_a_a : hasB ⟨#[97]⟩ 97 = true := by decide
theorem has_a_b : hasB ⟨#[97]⟩ 98 = false := by decide
theorem has_a_c : hasB ⟨#[97]⟩ 99 = false := by decide
theorem has_a_k : hasB ⟨#[97]⟩ 107 = false := by decide
theorem has_a_u : hasB ⟨#[97]⟩ 117 = false := by decide
theorem has_a_s : hasB ⟨#[97]⟩ 115 = false := by decide
theorem has_a_o : hasB ⟨#[97]⟩ 111 = false := by decide
def c_Shape_a : List SV → Option (List Prop × SV)
  | [.int .i64 op] => some ([InK .i64 op, op = 23], .str ⟨#[97]⟩)
  | _ => none
theorem c_Shape_a_e : PEntry Tryd.prog 60 c_Shape_a := by
  refine ⟨callFunc_ok Tryd.func60 (by kernel_rfl) (by kernel_rfl), fun args ps v h hp => ?_⟩
  unfold c_Shape_a at h
  split at h
  · rename_i op
    cases h
    exact (Shape_ok op (hp.i 0)).as (by rw [shape_a (hp.i 1)])
  · cases h
theorem shape_u {op : Int} (h : op = 24) : shapeS op = ⟨#[117]⟩ := by
  subst h; rfl
theorem has_u_a : hasB ⟨#[117]⟩ 97 = false := by decide
theorem has_u_b : hasB ⟨#[117]⟩ 98 = false := by decide
theorem has_u_c : hasB ⟨#[117]⟩ 99 = false := by decide
theorem has_u_k : hasB ⟨#[117]⟩ 107 = false := by decide
theorem has_u_u : hasB ⟨#[117]⟩ 117 = true := by decide
theorem has_u_s : hasB ⟨#[117]⟩ 115 = false := by decide
theorem has_u_o : hasB ⟨#[117]⟩ 111 = false := by decide
def c_Shape_u : List SV → Option (List Prop × SV)
  | [.int .i64 op] => some ([InK .i64 op, op = 24], .str ⟨#[117]⟩)
  | _ => none
theorem c_Shape_u_e : PEntry Tryd.prog 60 c_Shape_u := by
  refine ⟨callFunc_ok Tryd.func60 (by kernel_rfl) (by kernel_rfl), fun args ps v h hp => ?_⟩
  unfold c_Shape_u at h
  split at h
  · rename_i op
    cases h
    exact (Shape_ok op (hp.i 0)).as (by rw [shape_u (hp.i 1)])
  · cases h
def c_isT : List SV → Option (List Prop × SV)
  | [.int .i64 op] => some ([1 ≤ op, op < 25], .litb true)
  | _ => none
theorem c_isT_e : PEntry Tryd.prog 98 c_isT := by
  refine ⟨callFunc_ok Tryd.func98 (by kernel_rfl) (by kernel_rfl), fun args ps v h hp => ?_⟩
  unfold c_isT at h
  split at h
  · rename_i op
    cases h
    have h1 : 1 ≤ op := hp _ (List.mem_of_getElem? (i := 0) rfl)
    have h2 : op < 25 := hp _ (List.mem_of_getElem? (i := 1) rfl)
    have := (isOp_ok op).closeb
    simpa [h1, h2] using this
  · cases h
def c_isF : List SV → Option (List Prop × SV)
  | [.int .i64 op] => some ([¬ (1 ≤ op ∧ op < 25)], .litb false)
  | _ => none
theorem c_isF_e : PEntry Tryd.prog 98 c_isF := by
  refine ⟨callFunc_ok Tryd.func98 (by kernel_rfl) (by kernel_rfl), fun args ps v h hp => ?_⟩
  unfold c_isF at h
  split at h
  · rename_i op
    cases h
    have h1 : ¬ (1 ≤ op ∧ op < 25) := hp _ (List.mem_of_getElem? (i := 0) rfl)
    have e : (decide (1 ≤ op) && decide (op < 25)) = false := by simpa using h1
    have := isOp_ok op
    rw [e] at this
    exact this.closeb
  · cases h
theorem grp_of {op : Int} (h : 1 ≤ op ∧ op < 25) : (op = 1 ∨ op = 2) ∨ (op = 3 ∨ op = 19) ∨ (op = 4 ∨ op = 5 ∨ op = 6 ∨ op = 7 ∨ op = 8 ∨ op = 9 ∨ op = 10 ∨ op = 11 ∨ op = 12 ∨ op = 13 ∨ op = 17 ∨ op = 18) ∨ (op = 14 ∨ op = 15 ∨ op = 16) ∨ (op = 20) ∨ (op = 21) ∨ (op = 22) ∨ (op = 23) ∨ (op = 24) := by omega
theorem shape_none {op : Int} (h : ¬ (1 ≤ op ∧ op < 25)) : shapeS op = ⟨#[]⟩ := by unfold shapeS; rw [if_neg h]
theorem eq_none : strEq ⟨#[]⟩ ⟨#[]⟩ = true := by kernel_rfl
theorem ne_au : strEq ⟨#[97, 117]⟩ ⟨#[]⟩ = false := by kernel_rfl
theorem ne_ab : strEq ⟨#[97, 98]⟩ ⟨#[]⟩ = false := by kernel_rfl
theorem ne_abc : strEq ⟨#[97, 98, 99]⟩ ⟨#[]⟩ = false := by kernel_rfl
theorem ne_abs : strEq ⟨#[97, 98, 115]⟩ ⟨#[]⟩ = false := by kernel_rfl
theorem ne_as : strEq ⟨#[97, 115]⟩ ⟨#[]⟩ = false := by kernel_rfl
theorem ne_ko : strEq ⟨#[107, 111]⟩ ⟨#[]⟩ = false := by kernel_rfl
theorem ne_o : strEq ⟨#[111]⟩ ⟨#[]⟩ = false := by kernel_rfl
theorem ne_a : strEq ⟨#[97]⟩ ⟨#[]⟩ = false := by kernel_rfl
theorem ne_u : strEq ⟨#[117]⟩ ⟨#[]⟩ = false := by kernel_rfl
end Go.Proofs.YtimjnajdpccjdaaDoor
