/- The law RegsHolds gone through. No condition beyond the arguments' types. -/
import Derived.Test.YtmmejomalfjcnaaRgs3
namespace Go.Proofs.Ytmmejomalfjcnaa
open Go.RowKit Sx
set_option linter.unusedVariables false
set_option linter.unusedSimpArgs false
set_option maxRecDepth 100000
set_option maxHeartbeats 1000000

noncomputable def pt_rj : List (Nat × (List SV → Option (List Prop × SV))) := [(51, c_Flagged), (65, c_RFlagged), (20, c_Compare), (63, c_RCompare), (22, c_Holds), (64, c_RHolds), (29, c_Set), (30, c_Get), (61, c_RSet), (60, c_RGet), (52, c_Flags), (66, c_RFlags), (49, c_Pack), (67, c_RPack), (50, c_Unpack), (68, c_RUnpack), (28, c_Start), (69, c_RStart), (21, c_file), (19, c_head)]
theorem pt_rj_ok : PureOK Try.prog (fun f => List.lookup f pt_rj) := pure_list pt_rj ⟨c_Flagged_e, c_RFlagged_e, c_Compare_e, c_RCompare_e, c_Holds_e, c_RHolds_e, c_Set_e, c_Get_e, c_RSet_e, c_RGet_e, c_Flags_e, c_RFlags_e, c_Pack_e, c_RPack_e, c_Unpack_e, c_RUnpack_e, c_Start_e, c_RStart_e, c_file_e, c_head_e, trivial⟩
noncomputable abbrev cx_rj (must : Nat → Option Bool := fun _ => none) (loop : Nat → Option LoopSpec := fun _ => none) : Ctx := ⟨tab, inl tab (fun f => List.lookup f pt_rj) fns (fun _ => {}) 1000 6, fun f => List.lookup f pt_rj, must, loop, 0, 0⟩
theorem cx_rj_ok (must : Nat → Option Bool) (loop : Nat → Option LoopSpec) : CxOK Try.prog (cx_rj must loop) := inl_ok mixed tab_ok pt_rj_ok fns_ok 6 _ _ _ _

theorem RegsHoldsL_ok (R : List Int) (pc : Int) (z n l : Bool) (a b : Int) (h0 : R.length = 15) (h1 : InK .u32 a) (h2 : InK .u32 b) : PureSem Try.prog 5 [.agg [.ints .u32 15 R, .int .u32 pc, .bool z, .bool n, .bool l], .int .u32 a, .int .u32 b] (.bool true) := by
  refine pure_intro mixed (cx_rj_ok (fun _ => none) (fun _ => none)) Try.func5 1000 rfl rfl ?_
  refine of_nf (p := (false = true → false = true) ∧ (false = false → ((0 : Int) ≤ a ∧ a < (4294967296 : Int)) ∧ ((0 : Int) ≤ b ∧ b < (4294967296 : Int)) ∧ ((holdsS (0 : Int) (a == b) (decide (sg a < sg b)) (decide (a < b)) != true) = true → false = true) ∧ ((holdsS (0 : Int) (a == b) (decide (sg a < sg b)) (decide (a < b)) != true) = false → ((holdsS (1 : Int) (a == b) (decide (sg a < sg b)) (decide (a < b)) != (a == b)) = true → false = true) ∧ ((holdsS (1 : Int) (a == b) (decide (sg a < sg b)) (decide (a < b)) != (a == b)) = false → ((holdsS (2 : Int) (a == b) (decide (sg a < sg b)) (decide (a < b)) != (a != b)) = true → false = true) ∧ ((holdsS (2 : Int) (a == b) (decide (sg a < sg b)) (decide (a < b)) != (a != b)) = false → ((holdsS (3 : Int) (a == b) (decide (sg a < sg b)) (decide (a < b)) != decide (IntKind.i32.wrap a < IntKind.i32.wrap b)) = true → false = true) ∧ ((holdsS (3 : Int) (a == b) (decide (sg a < sg b)) (decide (a < b)) != decide (IntKind.i32.wrap a < IntKind.i32.wrap b)) = false → ((holdsS (4 : Int) (a == b) (decide (sg a < sg b)) (decide (a < b)) != decide (IntKind.i32.wrap b ≤ IntKind.i32.wrap a)) = true → false = true) ∧ ((holdsS (4 : Int) (a == b) (decide (sg a < sg b)) (decide (a < b)) != decide (IntKind.i32.wrap b ≤ IntKind.i32.wrap a)) = false → ((holdsS (5 : Int) (a == b) (decide (sg a < sg b)) (decide (a < b)) != decide (a < b)) = true → false = true) ∧ ((holdsS (5 : Int) (a == b) (decide (sg a < sg b)) (decide (a < b)) != decide (a < b)) = false → ((holdsS (6 : Int) (a == b) (decide (sg a < sg b)) (decide (a < b)) != decide (b ≤ a)) = true → false = true) ∧ ((holdsS (6 : Int) (a == b) (decide (sg a < sg b)) (decide (a < b)) != decide (b ≤ a)) = false → R.length = (15 : Nat) ∧ R.length = (15 : Nat) ∧ ((!(R == R && (pc == pc && (z == z && (n == n && (l == l && true)))))) = false → (holdsS (7 : Int) (a == b) (decide (sg a < sg b)) (decide (a < b)) = false → (holdsS (-1 : Int) (a == b) (decide (sg a < sg b)) (decide (a < b)) = false → ((0 : Int) ≤ a ∧ a < (4294967296 : Int)) ∧ ((-9223372036854775808 : Int) ≤ a + (7 : Int) ∧ a + (7 : Int) < (9223372036854775808 : Int)) ∧ (holdsS (a + (7 : Int)) (a == b) (decide (sg a < sg b)) (decide (a < b)) = true → false = true) ∧ (holdsS (a + (7 : Int)) (a == b) (decide (sg a < sg b)) (decide (a < b)) = false → ((holdsS (1 : Int) z n l == holdsS (2 : Int) z n l) = true → false = true) ∧ ((holdsS (1 : Int) z n l == holdsS (2 : Int) z n l) = false → ((holdsS (3 : Int) z n l == holdsS (4 : Int) z n l) = true → false = true) ∧ ((holdsS (3 : Int) z n l == holdsS (4 : Int) z n l) = false → ((holdsS (5 : Int) z n l == holdsS (6 : Int) z n l) = true → false = true) ∧ ((holdsS (5 : Int) z n l == holdsS (6 : Int) z n l) = false → true = true))))) ∧ (holdsS (-1 : Int) (a == b) (decide (sg a < sg b)) (decide (a < b)) = true → false = true)) ∧ (holdsS (7 : Int) (a == b) (decide (sg a < sg b)) (decide (a < b)) = true → false = true)) ∧ ((!(R == R && (pc == pc && (z == z && (n == n && (l == l && true)))))) = true → false = true)))))))))) (by kernel_rfl) ?_
  have ha : 0 ≤ a ∧ a < 4294967296 := h1
  have hb : 0 ≤ b ∧ b < 4294967296 := h2
  rw [w_i32 h1, w_i32 h2]
  have e1 : decide (sg b ≤ sg a) = !decide (sg a < sg b) := by rw [← decide_not]; congr 1; apply propext; omega
  have e2 : decide (b ≤ a) = !decide (a < b) := by rw [← decide_not]; congr 1; apply propext; omega
  have e3 : ∀ x y w, holdsS (a + 7) x y w = false := by
    intro x y w
    unfold holdsS
    repeat rw [if_neg (by omega)]
  rw [e1, e2]
  simp only [e3]
  generalize decide (sg a < sg b) = u
  generalize decide (a < b) = w
  have e4 : (a != b) = !(a == b) := rfl
  rw [e4]
  generalize (a == b) = q
  simp [holdsS, h0, ha, hb]
  try (cases z <;> cases n <;> cases l <;> simp)
  try omega
def c_RegsHoldsL : List SV → Option (List Prop × SV)
  | [.agg [.ints .u32 15 R, .int .u32 pc, .bool z, .bool n, .bool l], .int .u32 a, .int .u32 b] => some ([R.length = 15, InK .u32 a, InK .u32 b], .bool true)
  | _ => none
theorem c_RegsHoldsL_e : PEntry Try.prog 5 c_RegsHoldsL := by
  refine ⟨callFunc_ok Try.func5 (by kernel_rfl) (by kernel_rfl), fun args ps v h hp => ?_⟩
  unfold c_RegsHoldsL at h
  split at h
  · cases h; exact RegsHoldsL_ok _ _ _ _ _ _ _ (hp _ (List.mem_of_getElem? (i := 0) rfl)) (hp _ (List.mem_of_getElem? (i := 1) rfl)) (hp _ (List.mem_of_getElem? (i := 2) rfl))
  · cases h
end Go.Proofs.Ytmmejomalfjcnaa
