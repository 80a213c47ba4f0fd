/- The packages regs and wardenref08: flags, packed files. No condition beyond the arguments' types. -/
import Derived.Test.YtmmejomalfjcnaaRgs
namespace Go.Proofs.Ytmmejomalfjcnaa
open Go.RowKit Sx
set_option linter.unusedVariables false
set_option linter.unusedSimpArgs false
set_option maxRecDepth 100000
set_option maxHeartbeats 1000000

theorem list15 : ∀ {R : List Int}, R.length = 15 → ∃ r0 r1 r2 r3 r4 r5 r6 r7 r8 r9 r10 r11 r12 r13 r14, R = [r0, r1, r2, r3, r4, r5, r6, r7, r8, r9, r10, r11, r12, r13, r14]
  | [r0, r1, r2, r3, r4, r5, r6, r7, r8, r9, r10, r11, r12, r13, r14], _ => ⟨r0, r1, r2, r3, r4, r5, r6, r7, r8, r9, r10, r11, r12, r13, r14, rfl⟩

theorem w_six (w : Int) : w = 0 ∨ w = 1 ∨ w = 2 ∨ w = 4 ∨ w = 6 ∨ (w ≠ 0 ∧ w ≠ 1 ∧ w ≠ 2 ∧ w ≠ 4 ∧ w ≠ 6) := by omega
theorem flagsS_six (z n l : Bool) : flagsS z n l = 0 ∨ flagsS z n l = 1 ∨ flagsS z n l = 2 ∨ flagsS z n l = 4 ∨ flagsS z n l = 6 := by cases z <;> cases n <;> cases l <;> simp [flagsS, fl]

noncomputable def pt_rh : List (Nat × (List SV → Option (List Prop × SV))) := [(52, c_Flags), (66, c_RFlags)]
theorem pt_rh_ok : PureOK Try.prog (fun f => List.lookup f pt_rh) := pure_list pt_rh ⟨c_Flags_e, c_RFlags_e, trivial⟩
noncomputable abbrev cx_rh (must : Nat → Option Bool := fun _ => none) (loop : Nat → Option LoopSpec := fun _ => none) : Ctx := ⟨tab, inl tab (fun f => List.lookup f pt_rh) fns (fun _ => {}) 1000 6, fun f => List.lookup f pt_rh, must, loop, 0, 0⟩
theorem cx_rh_ok (must : Nat → Option Bool) (loop : Nat → Option LoopSpec) : CxOK Try.prog (cx_rh must loop) := inl_ok mixed tab_ok pt_rh_ok fns_ok 6 _ _ _ _

theorem RFlagged_ok (R : List Int) (pc : Int) (z n l : Bool) (w : Int) (h0 : InK .u32 w) : PureSem Try.prog 65 [.agg [.ints .u32 15 R, .int .u32 pc, .bool z, .bool n, .bool l], .int .u32 w] (.tup [.agg [.ints .u32 15 (lB (okW w) R), .int .u32 (iB (okW w) pc 0), .bool (okW w && w == 1), .bool (okW w && (w == 2 || w == 6)), .bool (okW w && (w == 4 || w == 6))], .int .i64 (iB (okW w) 0 80)]) := by
  refine pure_intro mixed (cx_rh_ok (fun _ => none) (fun _ => none)) Try.func65 1000 rfl rfl ?_
  refine of_nf (p := ((w != (0 : Int)) = true → ((w != (1 : Int)) = true → ((w != (2 : Int)) = true → ((w != (4 : Int)) = true → ((w != (6 : Int)) = true → ([(0 : Int), (0 : Int), (0 : Int), (0 : Int), (0 : Int), (0 : Int), (0 : Int), (0 : Int), (0 : Int), (0 : Int), (0 : Int), (0 : Int), (0 : Int), (0 : Int), (0 : Int)] = lB (okW w) R ∧ (0 : Int) = iB (okW w) pc (0 : Int) ∧ false = (okW w && w == (1 : Int)) ∧ false = (okW w && (w == (2 : Int) || w == (6 : Int))) ∧ false = (okW w && (w == (4 : Int) || w == (6 : Int))) ∧ True) ∧ (80 : Int) = iB (okW w) (0 : Int) (80 : Int) ∧ True) ∧ ((w != (6 : Int)) = false → ((w == (2 : Int)) = true → ((w == (4 : Int)) = true → (R = lB (okW w) R ∧ pc = iB (okW w) pc (0 : Int) ∧ (w == (1 : Int)) = (okW w && w == (1 : Int)) ∧ true = (okW w && (w == (2 : Int) || w == (6 : Int))) ∧ true = (okW w && (w == (4 : Int) || w == (6 : Int))) ∧ True) ∧ (0 : Int) = iB (okW w) (0 : Int) (80 : Int) ∧ True) ∧ ((w == (4 : Int)) = false → (R = lB (okW w) R ∧ pc = iB (okW w) pc (0 : Int) ∧ (w == (1 : Int)) = (okW w && w == (1 : Int)) ∧ true = (okW w && (w == (2 : Int) || w == (6 : Int))) ∧ (w == (6 : Int)) = (okW w && (w == (4 : Int) || w == (6 : Int))) ∧ True) ∧ (0 : Int) = iB (okW w) (0 : Int) (80 : Int) ∧ True)) ∧ ((w == (2 : Int)) = false → ((w == (4 : Int)) = true → (R = lB (okW w) R ∧ pc = iB (okW w) pc (0 : Int) ∧ (w == (1 : Int)) = (okW w && w == (1 : Int)) ∧ (w == (6 : Int)) = (okW w && (w == (2 : Int) || w == (6 : Int))) ∧ true = (okW w && (w == (4 : Int) || w == (6 : Int))) ∧ True) ∧ (0 : Int) = iB (okW w) (0 : Int) (80 : Int) ∧ True) ∧ ((w == (4 : Int)) = false → (R = lB (okW w) R ∧ pc = iB (okW w) pc (0 : Int) ∧ (w == (1 : Int)) = (okW w && w == (1 : Int)) ∧ (w == (6 : Int)) = (okW w && (w == (2 : Int) || w == (6 : Int))) ∧ (w == (6 : Int)) = (okW w && (w == (4 : Int) || w == (6 : Int))) ∧ True) ∧ (0 : Int) = iB (okW w) (0 : Int) (80 : Int) ∧ True)))) ∧ ((w != (4 : Int)) = false → ((w == (2 : Int)) = true → ((w == (4 : Int)) = true → (R = lB (okW w) R ∧ pc = iB (okW w) pc (0 : Int) ∧ (w == (1 : Int)) = (okW w && w == (1 : Int)) ∧ true = (okW w && (w == (2 : Int) || w == (6 : Int))) ∧ true = (okW w && (w == (4 : Int) || w == (6 : Int))) ∧ True) ∧ (0 : Int) = iB (okW w) (0 : Int) (80 : Int) ∧ True) ∧ ((w == (4 : Int)) = false → (R = lB (okW w) R ∧ pc = iB (okW w) pc (0 : Int) ∧ (w == (1 : Int)) = (okW w && w == (1 : Int)) ∧ true = (okW w && (w == (2 : Int) || w == (6 : Int))) ∧ (w == (6 : Int)) = (okW w && (w == (4 : Int) || w == (6 : Int))) ∧ True) ∧ (0 : Int) = iB (okW w) (0 : Int) (80 : Int) ∧ True)) ∧ ((w == (2 : Int)) = false → ((w == (4 : Int)) = true → (R = lB (okW w) R ∧ pc = iB (okW w) pc (0 : Int) ∧ (w == (1 : Int)) = (okW w && w == (1 : Int)) ∧ (w == (6 : Int)) = (okW w && (w == (2 : Int) || w == (6 : Int))) ∧ true = (okW w && (w == (4 : Int) || w == (6 : Int))) ∧ True) ∧ (0 : Int) = iB (okW w) (0 : Int) (80 : Int) ∧ True) ∧ ((w == (4 : Int)) = false → (R = lB (okW w) R ∧ pc = iB (okW w) pc (0 : Int) ∧ (w == (1 : Int)) = (okW w && w == (1 : Int)) ∧ (w == (6 : Int)) = (okW w && (w == (2 : Int) || w == (6 : Int))) ∧ (w == (6 : Int)) = (okW w && (w == (4 : Int) || w == (6 : Int))) ∧ True) ∧ (0 : Int) = iB (okW w) (0 : Int) (80 : Int) ∧ True)))) ∧ ((w != (2 : Int)) = false → ((w == (2 : Int)) = true → ((w == (4 : Int)) = true → (R = lB (okW w) R ∧ pc = iB (okW w) pc (0 : Int) ∧ (w == (1 : Int)) = (okW w && w == (1 : Int)) ∧ true = (okW w && (w == (2 : Int) || w == (6 : Int))) ∧ true = (okW w && (w == (4 : Int) || w == (6 : Int))) ∧ True) ∧ (0 : Int) = iB (okW w) (0 : Int) (80 : Int) ∧ True) ∧ ((w == (4 : Int)) = false → (R = lB (okW w) R ∧ pc = iB (okW w) pc (0 : Int) ∧ (w == (1 : Int)) = (okW w && w == (1 : Int)) ∧ true = (okW w && (w == (2 : Int) || w == (6 : Int))) ∧ (w == (6 : Int)) = (okW w && (w == (4 : Int) || w == (6 : Int))) ∧ True) ∧ (0 : Int) = iB (okW w) (0 : Int) (80 : Int) ∧ True)) ∧ ((w == (2 : Int)) = false → ((w == (4 : Int)) = true → (R = lB (okW w) R ∧ pc = iB (okW w) pc (0 : Int) ∧ (w == (1 : Int)) = (okW w && w == (1 : Int)) ∧ (w == (6 : Int)) = (okW w && (w == (2 : Int) || w == (6 : Int))) ∧ true = (okW w && (w == (4 : Int) || w == (6 : Int))) ∧ True) ∧ (0 : Int) = iB (okW w) (0 : Int) (80 : Int) ∧ True) ∧ ((w == (4 : Int)) = false → (R = lB (okW w) R ∧ pc = iB (okW w) pc (0 : Int) ∧ (w == (1 : Int)) = (okW w && w == (1 : Int)) ∧ (w == (6 : Int)) = (okW w && (w == (2 : Int) || w == (6 : Int))) ∧ (w == (6 : Int)) = (okW w && (w == (4 : Int) || w == (6 : Int))) ∧ True) ∧ (0 : Int) = iB (okW w) (0 : Int) (80 : Int) ∧ True)))) ∧ ((w != (1 : Int)) = false → ((w == (2 : Int)) = true → ((w == (4 : Int)) = true → (R = lB (okW w) R ∧ pc = iB (okW w) pc (0 : Int) ∧ (w == (1 : Int)) = (okW w && w == (1 : Int)) ∧ true = (okW w && (w == (2 : Int) || w == (6 : Int))) ∧ true = (okW w && (w == (4 : Int) || w == (6 : Int))) ∧ True) ∧ (0 : Int) = iB (okW w) (0 : Int) (80 : Int) ∧ True) ∧ ((w == (4 : Int)) = false → (R = lB (okW w) R ∧ pc = iB (okW w) pc (0 : Int) ∧ (w == (1 : Int)) = (okW w && w == (1 : Int)) ∧ true = (okW w && (w == (2 : Int) || w == (6 : Int))) ∧ (w == (6 : Int)) = (okW w && (w == (4 : Int) || w == (6 : Int))) ∧ True) ∧ (0 : Int) = iB (okW w) (0 : Int) (80 : Int) ∧ True)) ∧ ((w == (2 : Int)) = false → ((w == (4 : Int)) = true → (R = lB (okW w) R ∧ pc = iB (okW w) pc (0 : Int) ∧ (w == (1 : Int)) = (okW w && w == (1 : Int)) ∧ (w == (6 : Int)) = (okW w && (w == (2 : Int) || w == (6 : Int))) ∧ true = (okW w && (w == (4 : Int) || w == (6 : Int))) ∧ True) ∧ (0 : Int) = iB (okW w) (0 : Int) (80 : Int) ∧ True) ∧ ((w == (4 : Int)) = false → (R = lB (okW w) R ∧ pc = iB (okW w) pc (0 : Int) ∧ (w == (1 : Int)) = (okW w && w == (1 : Int)) ∧ (w == (6 : Int)) = (okW w && (w == (2 : Int) || w == (6 : Int))) ∧ (w == (6 : Int)) = (okW w && (w == (4 : Int) || w == (6 : Int))) ∧ True) ∧ (0 : Int) = iB (okW w) (0 : Int) (80 : Int) ∧ True)))) ∧ ((w != (0 : Int)) = false → ((w == (2 : Int)) = true → ((w == (4 : Int)) = true → (R = lB (okW w) R ∧ pc = iB (okW w) pc (0 : Int) ∧ (w == (1 : Int)) = (okW w && w == (1 : Int)) ∧ true = (okW w && (w == (2 : Int) || w == (6 : Int))) ∧ true = (okW w && (w == (4 : Int) || w == (6 : Int))) ∧ True) ∧ (0 : Int) = iB (okW w) (0 : Int) (80 : Int) ∧ True) ∧ ((w == (4 : Int)) = false → (R = lB (okW w) R ∧ pc = iB (okW w) pc (0 : Int) ∧ (w == (1 : Int)) = (okW w && w == (1 : Int)) ∧ true = (okW w && (w == (2 : Int) || w == (6 : Int))) ∧ (w == (6 : Int)) = (okW w && (w == (4 : Int) || w == (6 : Int))) ∧ True) ∧ (0 : Int) = iB (okW w) (0 : Int) (80 : Int) ∧ True)) ∧ ((w == (2 : Int)) = false → ((w == (4 : Int)) = true → (R = lB (okW w) R ∧ pc = iB (okW w) pc (0 : Int) ∧ (w == (1 : Int)) = (okW w && w == (1 : Int)) ∧ (w == (6 : Int)) = (okW w && (w == (2 : Int) || w == (6 : Int))) ∧ true = (okW w && (w == (4 : Int) || w == (6 : Int))) ∧ True) ∧ (0 : Int) = iB (okW w) (0 : Int) (80 : Int) ∧ True) ∧ ((w == (4 : Int)) = false → (R = lB (okW w) R ∧ pc = iB (okW w) pc (0 : Int) ∧ (w == (1 : Int)) = (okW w && w == (1 : Int)) ∧ (w == (6 : Int)) = (okW w && (w == (2 : Int) || w == (6 : Int))) ∧ (w == (6 : Int)) = (okW w && (w == (4 : Int) || w == (6 : Int))) ∧ True) ∧ (0 : Int) = iB (okW w) (0 : Int) (80 : Int) ∧ True)))) (by kernel_rfl) ?_
  rcases w_six w with rfl | rfl | rfl | rfl | rfl | ⟨g0, g1, g2, g3, g4⟩
  all_goals simp_all [okW, iB, lB]
def c_RFlagged : List SV → Option (List Prop × SV)
  | [.agg [.ints .u32 15 R, .int .u32 pc, .bool z, .bool n, .bool l], .int .u32 w] => some ([InK .u32 w], .tup [.agg [.ints .u32 15 (lB (okW w) R), .int .u32 (iB (okW w) pc 0), .bool (okW w && w == 1), .bool (okW w && (w == 2 || w == 6)), .bool (okW w && (w == 4 || w == 6))], .int .i64 (iB (okW w) 0 80)])
  | _ => none
theorem c_RFlagged_e : PEntry Try.prog 65 c_RFlagged := by
  refine ⟨callFunc_ok Try.func65 (by kernel_rfl) (by kernel_rfl), fun args ps v h hp => ?_⟩
  unfold c_RFlagged at h
  split at h
  · cases h; exact RFlagged_ok _ _ _ _ _ _ (hp _ (by simp))
  · cases h
theorem Flagged_ok (R : List Int) (pc : Int) (z n l : Bool) (w : Int) (h0 : InK .u32 w) : PureSem Try.prog 51 [.agg [.ints .u32 15 R, .int .u32 pc, .bool z, .bool n, .bool l], .int .u32 w] (.tup [.agg [.ints .u32 15 (lB (okW w) R), .int .u32 (iB (okW w) pc 0), .bool (okW w && w == 1), .bool (okW w && (w == 2 || w == 6)), .bool (okW w && (w == 4 || w == 6))], .int .i64 (iB (okW w) 0 80)]) := by
  refine pure_intro mixed (cx_rh_ok (fun _ => none) (fun _ => none)) Try.func51 1000 rfl rfl ?_
  refine of_nf (p := ((flagsS (bits BinOp.and IntKind.u32 w (1 : Int) != (0 : Int)) (bits BinOp.and IntKind.u32 w (2 : Int) != (0 : Int)) (bits BinOp.and IntKind.u32 w (4 : Int) != (0 : Int)) != w) = true → ([(0 : Int), (0 : Int), (0 : Int), (0 : Int), (0 : Int), (0 : Int), (0 : Int), (0 : Int), (0 : Int), (0 : Int), (0 : Int), (0 : Int), (0 : Int), (0 : Int), (0 : Int)] = lB (okW w) R ∧ (0 : Int) = iB (okW w) pc (0 : Int) ∧ false = (okW w && w == (1 : Int)) ∧ false = (okW w && (w == (2 : Int) || w == (6 : Int))) ∧ false = (okW w && (w == (4 : Int) || w == (6 : Int))) ∧ True) ∧ (80 : Int) = iB (okW w) (0 : Int) (80 : Int) ∧ True) ∧ ((flagsS (bits BinOp.and IntKind.u32 w (1 : Int) != (0 : Int)) (bits BinOp.and IntKind.u32 w (2 : Int) != (0 : Int)) (bits BinOp.and IntKind.u32 w (4 : Int) != (0 : Int)) != w) = false → (R = lB (okW w) R ∧ pc = iB (okW w) pc (0 : Int) ∧ (bits BinOp.and IntKind.u32 w (1 : Int) != (0 : Int)) = (okW w && w == (1 : Int)) ∧ (bits BinOp.and IntKind.u32 w (2 : Int) != (0 : Int)) = (okW w && (w == (2 : Int) || w == (6 : Int))) ∧ (bits BinOp.and IntKind.u32 w (4 : Int) != (0 : Int)) = (okW w && (w == (4 : Int) || w == (6 : Int))) ∧ True) ∧ (0 : Int) = iB (okW w) (0 : Int) (80 : Int) ∧ True)) (by kernel_rfl) ?_
  have hx : 0 ≤ w ∧ w < 4294967296 := h0
  simp only [and_b0 hx, and_b1 hx, and_b2 hx]
  rcases w_six w with rfl | rfl | rfl | rfl | rfl | ⟨g0, g1, g2, g3, g4⟩
  · simp [okW, iB, lB, flagsS, fl]
  · simp [okW, iB, lB, flagsS, fl]
  · simp [okW, iB, lB, flagsS, fl]
  · simp [okW, iB, lB, flagsS, fl]
  · simp [okW, iB, lB, flagsS, fl]
  · have := flagsS_six (w / 1 % 2 * 1 != 0) (w / 2 % 2 * 2 != 0) (w / 4 % 2 * 4 != 0)
    refine ⟨fun _ => ?_, fun h => ?_⟩
    · simp [okW, iB, lB, g0, g1, g2, g3, g4]
    · exfalso
      simp only [bne_eq_false_iff_eq] at h
      omega
def c_Flagged : List SV → Option (List Prop × SV)
  | [.agg [.ints .u32 15 R, .int .u32 pc, .bool z, .bool n, .bool l], .int .u32 w] => some ([InK .u32 w], .tup [.agg [.ints .u32 15 (lB (okW w) R), .int .u32 (iB (okW w) pc 0), .bool (okW w && w == 1), .bool (okW w && (w == 2 || w == 6)), .bool (okW w && (w == 4 || w == 6))], .int .i64 (iB (okW w) 0 80)])
  | _ => none
theorem c_Flagged_e : PEntry Try.prog 51 c_Flagged := by
  refine ⟨callFunc_ok Try.func51 (by kernel_rfl) (by kernel_rfl), fun args ps v h hp => ?_⟩
  unfold c_Flagged at h
  split at h
  · cases h; exact Flagged_ok _ _ _ _ _ _ (hp _ (by simp))
  · cases h
theorem Pack_ok (R : List Int) (pc : Int) (z n l : Bool) (h0 : R.length = 15) : PureSem Try.prog 49 [.agg [.ints .u32 15 R, .int .u32 pc, .bool z, .bool n, .bool l]] (.agg [.ints .u32 17 (R ++ [pc, flagsS z n l])]) := by
  refine pure_intro mixed (cx_rh_ok (fun _ => none) (fun _ => none)) Try.func49 1000 rfl rfl ?_
  refine of_nf (p := R.length = (15 : Nat) ∧ (List.take (17 : Nat) R).length ≤ (17 : Nat) ∧ (17 : Nat) = (17 : Nat) ∧ (List.take (17 : Nat) R).length ≤ (17 : Nat) ∧ ((List.take (17 : Nat) R).append (List.drop ((0 : Nat) + (List.take (17 : Nat) R).length) [(0 : Int), (0 : Int), (0 : Int), (0 : Int), (0 : Int), (0 : Int), (0 : Int), (0 : Int), (0 : Int), (0 : Int), (0 : Int), (0 : Int), (0 : Int), (0 : Int), (0 : Int), (0 : Int), (0 : Int)])).length = (17 : Nat) ∧ (((List.take (17 : Nat) R).append (List.drop ((0 : Nat) + (List.take (17 : Nat) R).length) [(0 : Int), (0 : Int), (0 : Int), (0 : Int), (0 : Int), (0 : Int), (0 : Int), (0 : Int), (0 : Int), (0 : Int), (0 : Int), (0 : Int), (0 : Int), (0 : Int), (0 : Int), (0 : Int), (0 : Int)])).set (15 : Nat) pc).length = (17 : Nat) ∧ (((List.take (17 : Nat) R).append (List.drop ((0 : Nat) + (List.take (17 : Nat) R).length) [(0 : Int), (0 : Int), (0 : Int), (0 : Int), (0 : Int), (0 : Int), (0 : Int), (0 : Int), (0 : Int), (0 : Int), (0 : Int), (0 : Int), (0 : Int), (0 : Int), (0 : Int), (0 : Int), (0 : Int)])).set (15 : Nat) pc).set (16 : Nat) (flagsS z n l) = R.append [pc, flagsS z n l] ∧ True) (by kernel_rfl) ?_
  obtain ⟨r0, r1, r2, r3, r4, r5, r6, r7, r8, r9, r10, r11, r12, r13, r14, rfl⟩ := list15 h0
  repeat' apply And.intro
  all_goals first | rfl | simp | trivial
def c_Pack : List SV → Option (List Prop × SV)
  | [.agg [.ints .u32 15 R, .int .u32 pc, .bool z, .bool n, .bool l]] => some ([R.length = 15], .agg [.ints .u32 17 (R ++ [pc, flagsS z n l])])
  | _ => none
theorem c_Pack_e : PEntry Try.prog 49 c_Pack := by
  refine ⟨callFunc_ok Try.func49 (by kernel_rfl) (by kernel_rfl), fun args ps v h hp => ?_⟩
  unfold c_Pack at h
  split at h
  · cases h; exact Pack_ok _ _ _ _ _ (hp _ (by simp))
  · cases h
theorem RPack_ok (R : List Int) (pc : Int) (z n l : Bool) (h0 : R.length = 15) : PureSem Try.prog 67 [.agg [.ints .u32 15 R, .int .u32 pc, .bool z, .bool n, .bool l]] (.agg [.ints .u32 17 (R ++ [pc, flagsS z n l])]) := by
  refine pure_intro mixed (cx_rh_ok (fun _ => none) (fun _ => none)) Try.func67 1000 rfl rfl ?_
  refine of_nf (p := (17 : Nat) = (17 : Nat) ∧ (17 : Nat) = (17 : Nat) ∧ (17 : Nat) = (17 : Nat) ∧ (17 : Nat) = (17 : Nat) ∧ (17 : Nat) = (17 : Nat) ∧ (17 : Nat) = (17 : Nat) ∧ (17 : Nat) = (17 : Nat) ∧ (17 : Nat) = (17 : Nat) ∧ (17 : Nat) = (17 : Nat) ∧ (17 : Nat) = (17 : Nat) ∧ (17 : Nat) = (17 : Nat) ∧ (17 : Nat) = (17 : Nat) ∧ (17 : Nat) = (17 : Nat) ∧ (17 : Nat) = (17 : Nat) ∧ (17 : Nat) = (17 : Nat) ∧ (17 : Nat) = (17 : Nat) ∧ (17 : Nat) = (17 : Nat) ∧ (((((((((((((((([(0 : Int), (0 : Int), (0 : Int), (0 : Int), (0 : Int), (0 : Int), (0 : Int), (0 : Int), (0 : Int), (0 : Int), (0 : Int), (0 : Int), (0 : Int), (0 : Int), (0 : Int), (0 : Int), (0 : Int)].set (0 : Nat) (R.getD (0 : Nat) (0 : Int))).set (1 : Nat) (R.getD (1 : Nat) (0 : Int))).set (2 : Nat) (R.getD (2 : Nat) (0 : Int))).set (3 : Nat) (R.getD (3 : Nat) (0 : Int))).set (4 : Nat) (R.getD (4 : Nat) (0 : Int))).set (5 : Nat) (R.getD (5 : Nat) (0 : Int))).set (6 : Nat) (R.getD (6 : Nat) (0 : Int))).set (7 : Nat) (R.getD (7 : Nat) (0 : Int))).set (8 : Nat) (R.getD (8 : Nat) (0 : Int))).set (9 : Nat) (R.getD (9 : Nat) (0 : Int))).set (10 : Nat) (R.getD (10 : Nat) (0 : Int))).set (11 : Nat) (R.getD (11 : Nat) (0 : Int))).set (12 : Nat) (R.getD (12 : Nat) (0 : Int))).set (13 : Nat) (R.getD (13 : Nat) (0 : Int))).set (14 : Nat) (R.getD (14 : Nat) (0 : Int))).set (15 : Nat) pc).set (16 : Nat) (flagsS z n l) = R.append [pc, flagsS z n l] ∧ True) (by kernel_rfl) ?_
  obtain ⟨r0, r1, r2, r3, r4, r5, r6, r7, r8, r9, r10, r11, r12, r13, r14, rfl⟩ := list15 h0
  repeat' apply And.intro
  all_goals first | rfl | simp | trivial
def c_RPack : List SV → Option (List Prop × SV)
  | [.agg [.ints .u32 15 R, .int .u32 pc, .bool z, .bool n, .bool l]] => some ([R.length = 15], .agg [.ints .u32 17 (R ++ [pc, flagsS z n l])])
  | _ => none
theorem c_RPack_e : PEntry Try.prog 67 c_RPack := by
  refine ⟨callFunc_ok Try.func67 (by kernel_rfl) (by kernel_rfl), fun args ps v h hp => ?_⟩
  unfold c_RPack at h
  split at h
  · cases h; exact RPack_ok _ _ _ _ _ (hp _ (by simp))
  · cases h
end Go.Proofs.Ytmmejomalfjcnaa
