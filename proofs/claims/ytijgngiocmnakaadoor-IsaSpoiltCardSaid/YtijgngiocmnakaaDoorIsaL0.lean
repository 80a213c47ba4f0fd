/- The laws of chapter 5: what they share. No condition beyond the arguments' types. -/
import Derived.Test.YtijgngiocmnakaaDoorIsaF
namespace Go.Proofs.YtijgngiocmnakaaDoor
open Go.RowKit Sx
set_option linter.unusedVariables false
set_option linter.unusedSimpArgs false
set_option maxRecDepth 100000
set_option maxHeartbeats 1000000
/-- Tests that must be so. -/
def ml (l m : List Nat) : Nat → Option Bool := fun q => bif l.any (Nat.beq q) then some true else bif m.any (Nat.beq q) then some false else none
theorem enc_one : encS 4 0 1 2 3 0 = 273203200 := by kernel_rfl
theorem chk_one : chkS 4 0 1 2 3 0 = 0 := by kernel_rfl

theorem getD_mem {l : List Int} {n : Nat} (h : n < l.length) : l.getD n 0 ∈ l := by
  rw [List.getD_eq_getElem?_getD, List.getElem?_eq_getElem h]; exact List.getElem_mem h
theorem strEq_self (s : ByteArray) : strEq s s = true := by unfold strEq; simp

noncomputable def pt_il0 : List (Nat × (List SV → Option (List Prop × SV))) := []
theorem pt_il0_ok : PureOK Tryd.prog (fun f => List.lookup f pt_il0) := pure_list pt_il0 trivial
noncomputable abbrev cx_il0 (must : Nat → Option Bool := fun _ => none) (loop : Nat → Option LoopSpec := fun _ => none) : Ctx := ⟨tab, inl tab (fun f => List.lookup f pt_il0) fns (fun _ => {}) 1000 4, fun f => List.lookup f pt_il0, must, loop, 0, 0⟩
theorem cx_il0_ok (must : Nat → Option Bool) (loop : Nat → Option LoopSpec) : CxOK Tryd.prog (cx_il0 must loop) := inl_ok mixed tab_ok pt_il0_ok fns_ok 4 _ _ _ _
theorem num05_ok (x : Int)  : PureSem Tryd.prog 15 [.int .i64 x] (.int .i64 x) := by
  refine pure_intro mixed (cx_il0_ok (fun _ => none) (fun _ => none)) Tryd.func15 1000 rfl rfl ?_
  refine of_nf (p := x = x) (by kernel_rfl) ?_
  trivial
def c_num05 : List SV → Option (List Prop × SV)
  | [.int .i64 x] => some ([], .int .i64 x)
  | _ => none
theorem c_num05_e : PEntry Tryd.prog 15 c_num05 := by
  refine ⟨callFunc_ok Tryd.func15 (by kernel_rfl) (by kernel_rfl), fun args ps v h hp => ?_⟩
  unfold c_num05 at h
  split at h
  · cases h; exact num05_ok _ 
  · cases h
theorem doc05_ok (op cond a b c imm : Int) (h0 : InK .i32 imm) : PureSem Tryd.prog 22 [.agg [.int .i64 op, .int .i64 cond, .int .i64 a, .int .i64 b, .int .i64 c, .int .i32 imm]] (.agg [.int .i64 op, .int .i64 cond, .int .i64 a, .int .i64 b, .int .i64 c, .int .i64 imm]) := by
  refine pure_intro mixed (cx_il0_ok (fun _ => none) (fun _ => none)) Tryd.func22 1000 rfl rfl ?_
  refine of_nf (p := ((-2147483648 : Int) ≤ imm ∧ imm < (2147483648 : Int)) ∧ op = op ∧ cond = cond ∧ a = a ∧ b = b ∧ c = c ∧ imm = imm ∧ True) (by kernel_rfl) ?_
  simp_all [InK]
def c_doc05 : List SV → Option (List Prop × SV)
  | [.agg [.int .i64 op, .int .i64 cond, .int .i64 a, .int .i64 b, .int .i64 c, .int .i32 imm]] => some ([InK .i32 imm], .agg [.int .i64 op, .int .i64 cond, .int .i64 a, .int .i64 b, .int .i64 c, .int .i64 imm])
  | _ => none
theorem c_doc05_e : PEntry Tryd.prog 22 c_doc05 := by
  refine ⟨callFunc_ok Tryd.func22 (by kernel_rfl) (by kernel_rfl), fun args ps v h hp => ?_⟩
  unfold c_doc05 at h
  split at h
  · cases h; exact doc05_ok _ _ _ _ _ _ (hp _ (by simp))
  · cases h
noncomputable def pt_il1 : List (Nat × (List SV → Option (List Prop × SV))) := [(15, c_num05), (20, c_Encode)]
theorem pt_il1_ok : PureOK Tryd.prog (fun f => List.lookup f pt_il1) := pure_list pt_il1 ⟨c_num05_e, c_Encode_e, trivial⟩
noncomputable abbrev cx_il1 (must : Nat → Option Bool := fun _ => none) (loop : Nat → Option LoopSpec := fun _ => none) : Ctx := ⟨tab, inl tab (fun f => List.lookup f pt_il1) fns (fun _ => {}) 1000 4, fun f => List.lookup f pt_il1, must, loop, 0, 0⟩
theorem cx_il1_ok (must : Nat → Option Bool) (loop : Nat → Option LoopSpec) : CxOK Tryd.prog (cx_il1 must loop) := inl_ok mixed tab_ok pt_il1_ok fns_ok 4 _ _ _ _
theorem one05_ok   : PureSem Tryd.prog 8 [] (.bool true) := by
  refine pure_intro mixed (cx_il1_ok (fun _ => none) (fun _ => none)) Tryd.func8 1000 rfl rfl ?_
  refine of_nf (p := ((-9223372036854775808 : Int) ≤ (4 : Int) ∧ (4 : Int) < (9223372036854775808 : Int)) ∧ ((-9223372036854775808 : Int) ≤ (0 : Int) ∧ (0 : Int) < (9223372036854775808 : Int)) ∧ ((-9223372036854775808 : Int) ≤ (1 : Int) ∧ (1 : Int) < (9223372036854775808 : Int)) ∧ ((-9223372036854775808 : Int) ≤ (2 : Int) ∧ (2 : Int) < (9223372036854775808 : Int)) ∧ ((-9223372036854775808 : Int) ≤ (3 : Int) ∧ (3 : Int) < (9223372036854775808 : Int)) ∧ ((-2147483648 : Int) ≤ (0 : Int) ∧ (0 : Int) < (2147483648 : Int)) ∧ (true = true → true = true) ∧ (true = false → false = true)) (by kernel_rfl) ?_
  simp [chk_one, enc_one, zB, InK]
def c_one05 : List SV → Option (List Prop × SV)
  | [] => some ([], .bool true)
  | _ => none
theorem c_one05_e : PEntry Tryd.prog 8 c_one05 := by
  refine ⟨callFunc_ok Tryd.func8 (by kernel_rfl) (by kernel_rfl), fun args ps v h hp => ?_⟩
  unfold c_one05 at h
  split at h
  · cases h; exact one05_ok  
  · cases h
end Go.Proofs.YtijgngiocmnakaaDoor
