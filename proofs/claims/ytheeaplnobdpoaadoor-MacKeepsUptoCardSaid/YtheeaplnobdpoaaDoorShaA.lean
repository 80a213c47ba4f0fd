/- Words turned. No condition. -/
import Derived.Test.YtheeaplnobdpoaaDoorSxTypes
import Derived.Test.YtheeaplnobdpoaaDoorSxD
namespace Go.Proofs.YtheeaplnobdpoaaDoor
open Go.RowKit Sx
set_option linter.unusedVariables false
set_option linter.unusedSimpArgs false
set_option maxRecDepth 100000
set_option maxHeartbeats 1000000
def ml (l m : List Nat) : Nat → Option Bool := fun q => bif l.any (Nat.beq q) then some true else bif m.any (Nat.beq q) then some false else none
def rotS (w : Int) (n : Nat) : Int := bits .or .u32 (IntKind.u32.wrap (w * 2 ^ (32 - n))) (w / 2 ^ n)
theorem wmod32 (x : Int) : IntKind.u32.wrap x = x % 4294967296 := by unfold IntKind.wrap; simp [IntKind.bits, IntKind.signed]
noncomputable def pt_sa : List (Nat × (List SV → Option (List Prop × SV))) := []
theorem pt_sa_ok : PureOK Tryd.prog (fun f => List.lookup f pt_sa) := pure_list pt_sa trivial
noncomputable abbrev cx_sa (must : Nat → Option Bool := fun _ => none) (loop : Nat → SS → Option LoopSpec := fun _ _ => none) : Ctx := ⟨tab, inl tab (fun f => List.lookup f pt_sa) fns (fun _ => {}) 1000 6, fun f => List.lookup f pt_sa, must, loop, 0, 0, fun _ => none⟩
theorem cx_sa_ok (must : Nat → Option Bool) (loop : Nat → SS → Option LoopSpec) : CxOK Tryd.prog (cx_sa must loop) := inl_ok mixed tab_ok pt_sa_ok fns_ok 6 _ _ _ _
theorem right2X_ok (w : Int)  : PureSem Tryd.prog 92 [.int .u32 w, .lit .i64 2] (.int .u32 (rotS w 2)) := by
  refine pure_intro mixed (cx_sa_ok (fun _ => none) (fun _ _ => none)) Tryd.func92 1000 rfl rfl ?_
  refine of_nf (p := bits BinOp.or IntKind.u32 (IntKind.u32.wrap (w * (1073741824 : Int))) (w / (4 : Int)) = rotS w (2 : Nat)) (by kernel_rfl) ?_
  simp only [rotS]
  rfl
theorem turn2X_ok (w : Int)  : PureSem Tryd.prog 107 [.int .u32 w, .lit .u64 2] (.int .u32 (rotS w 2)) := by
  refine pure_intro mixed (cx_sa_ok (fun _ => none) (fun _ _ => none)) Tryd.func107 1000 rfl rfl ?_
  refine of_nf (p := bits BinOp.or IntKind.u32 (w / (4 : Int)) (IntKind.u32.wrap (w * (1073741824 : Int))) = rotS w (2 : Nat)) (by kernel_rfl) ?_
  simp only [rotS]
  rw [or_comm32]
  rfl
theorem right6X_ok (w : Int)  : PureSem Tryd.prog 92 [.int .u32 w, .lit .i64 6] (.int .u32 (rotS w 6)) := by
  refine pure_intro mixed (cx_sa_ok (fun _ => none) (fun _ _ => none)) Tryd.func92 1000 rfl rfl ?_
  refine of_nf (p := bits BinOp.or IntKind.u32 (IntKind.u32.wrap (w * (67108864 : Int))) (w / (64 : Int)) = rotS w (6 : Nat)) (by kernel_rfl) ?_
  simp only [rotS]
  rfl
theorem turn6X_ok (w : Int)  : PureSem Tryd.prog 107 [.int .u32 w, .lit .u64 6] (.int .u32 (rotS w 6)) := by
  refine pure_intro mixed (cx_sa_ok (fun _ => none) (fun _ _ => none)) Tryd.func107 1000 rfl rfl ?_
  refine of_nf (p := bits BinOp.or IntKind.u32 (w / (64 : Int)) (IntKind.u32.wrap (w * (67108864 : Int))) = rotS w (6 : Nat)) (by kernel_rfl) ?_
  simp only [rotS]
  rw [or_comm32]
  rfl
theorem right7X_ok (w : Int)  : PureSem Tryd.prog 92 [.int .u32 w, .lit .i64 7] (.int .u32 (rotS w 7)) := by
  refine pure_intro mixed (cx_sa_ok (fun _ => none) (fun _ _ => none)) Tryd.func92 1000 rfl rfl ?_
  refine of_nf (p := bits BinOp.or IntKind.u32 (IntKind.u32.wrap (w * (33554432 : Int))) (w / (128 : Int)) = rotS w (7 : Nat)) (by kernel_rfl) ?_
  simp only [rotS]
  rfl
theorem turn7X_ok (w : Int)  : PureSem Tryd.prog 107 [.int .u32 w, .lit .u64 7] (.int .u32 (rotS w 7)) := by
  refine pure_intro mixed (cx_sa_ok (fun _ => none) (fun _ _ => none)) Tryd.func107 1000 rfl rfl ?_
  refine of_nf (p := bits BinOp.or IntKind.u32 (w / (128 : Int)) (IntKind.u32.wrap (w * (33554432 : Int))) = rotS w (7 : Nat)) (by kernel_rfl) ?_
  simp only [rotS]
  rw [or_comm32]
  rfl
theorem right11X_ok (w : Int)  : PureSem Tryd.prog 92 [.int .u32 w, .lit .i64 11] (.int .u32 (rotS w 11)) := by
  refine pure_intro mixed (cx_sa_ok (fun _ => none) (fun _ _ => none)) Tryd.func92 1000 rfl rfl ?_
  refine of_nf (p := bits BinOp.or IntKind.u32 (IntKind.u32.wrap (w * (2097152 : Int))) (w / (2048 : Int)) = rotS w (11 : Nat)) (by kernel_rfl) ?_
  simp only [rotS]
  rfl
theorem turn11X_ok (w : Int)  : PureSem Tryd.prog 107 [.int .u32 w, .lit .u64 11] (.int .u32 (rotS w 11)) := by
  refine pure_intro mixed (cx_sa_ok (fun _ => none) (fun _ _ => none)) Tryd.func107 1000 rfl rfl ?_
  refine of_nf (p := bits BinOp.or IntKind.u32 (w / (2048 : Int)) (IntKind.u32.wrap (w * (2097152 : Int))) = rotS w (11 : Nat)) (by kernel_rfl) ?_
  simp only [rotS]
  rw [or_comm32]
  rfl
theorem right13X_ok (w : Int)  : PureSem Tryd.prog 92 [.int .u32 w, .lit .i64 13] (.int .u32 (rotS w 13)) := by
  refine pure_intro mixed (cx_sa_ok (fun _ => none) (fun _ _ => none)) Tryd.func92 1000 rfl rfl ?_
  refine of_nf (p := bits BinOp.or IntKind.u32 (IntKind.u32.wrap (w * (524288 : Int))) (w / (8192 : Int)) = rotS w (13 : Nat)) (by kernel_rfl) ?_
  simp only [rotS]
  rfl
theorem turn13X_ok (w : Int)  : PureSem Tryd.prog 107 [.int .u32 w, .lit .u64 13] (.int .u32 (rotS w 13)) := by
  refine pure_intro mixed (cx_sa_ok (fun _ => none) (fun _ _ => none)) Tryd.func107 1000 rfl rfl ?_
  refine of_nf (p := bits BinOp.or IntKind.u32 (w / (8192 : Int)) (IntKind.u32.wrap (w * (524288 : Int))) = rotS w (13 : Nat)) (by kernel_rfl) ?_
  simp only [rotS]
  rw [or_comm32]
  rfl
theorem right17X_ok (w : Int)  : PureSem Tryd.prog 92 [.int .u32 w, .lit .i64 17] (.int .u32 (rotS w 17)) := by
  refine pure_intro mixed (cx_sa_ok (fun _ => none) (fun _ _ => none)) Tryd.func92 1000 rfl rfl ?_
  refine of_nf (p := bits BinOp.or IntKind.u32 (IntKind.u32.wrap (w * (32768 : Int))) (w / (131072 : Int)) = rotS w (17 : Nat)) (by kernel_rfl) ?_
  simp only [rotS]
  rfl
theorem turn17X_ok (w : Int)  : PureSem Tryd.prog 107 [.int .u32 w, .lit .u64 17] (.int .u32 (rotS w 17)) := by
  refine pure_intro mixed (cx_sa_ok (fun _ => none) (fun _ _ => none)) Tryd.func107 1000 rfl rfl ?_
  refine of_nf (p := bits BinOp.or IntKind.u32 (w / (131072 : Int)) (IntKind.u32.wrap (w * (32768 : Int))) = rotS w (17 : Nat)) (by kernel_rfl) ?_
  simp only [rotS]
  rw [or_comm32]
  rfl
theorem right18X_ok (w : Int)  : PureSem Tryd.prog 92 [.int .u32 w, .lit .i64 18] (.int .u32 (rotS w 18)) := by
  refine pure_intro mixed (cx_sa_ok (fun _ => none) (fun _ _ => none)) Tryd.func92 1000 rfl rfl ?_
  refine of_nf (p := bits BinOp.or IntKind.u32 (IntKind.u32.wrap (w * (16384 : Int))) (w / (262144 : Int)) = rotS w (18 : Nat)) (by kernel_rfl) ?_
  simp only [rotS]
  rfl
theorem turn18X_ok (w : Int)  : PureSem Tryd.prog 107 [.int .u32 w, .lit .u64 18] (.int .u32 (rotS w 18)) := by
  refine pure_intro mixed (cx_sa_ok (fun _ => none) (fun _ _ => none)) Tryd.func107 1000 rfl rfl ?_
  refine of_nf (p := bits BinOp.or IntKind.u32 (w / (262144 : Int)) (IntKind.u32.wrap (w * (16384 : Int))) = rotS w (18 : Nat)) (by kernel_rfl) ?_
  simp only [rotS]
  rw [or_comm32]
  rfl
theorem right19X_ok (w : Int)  : PureSem Tryd.prog 92 [.int .u32 w, .lit .i64 19] (.int .u32 (rotS w 19)) := by
  refine pure_intro mixed (cx_sa_ok (fun _ => none) (fun _ _ => none)) Tryd.func92 1000 rfl rfl ?_
  refine of_nf (p := bits BinOp.or IntKind.u32 (IntKind.u32.wrap (w * (8192 : Int))) (w / (524288 : Int)) = rotS w (19 : Nat)) (by kernel_rfl) ?_
  simp only [rotS]
  rfl
theorem turn19X_ok (w : Int)  : PureSem Tryd.prog 107 [.int .u32 w, .lit .u64 19] (.int .u32 (rotS w 19)) := by
  refine pure_intro mixed (cx_sa_ok (fun _ => none) (fun _ _ => none)) Tryd.func107 1000 rfl rfl ?_
  refine of_nf (p := bits BinOp.or IntKind.u32 (w / (524288 : Int)) (IntKind.u32.wrap (w * (8192 : Int))) = rotS w (19 : Nat)) (by kernel_rfl) ?_
  simp only [rotS]
  rw [or_comm32]
  rfl
theorem right22X_ok (w : Int)  : PureSem Tryd.prog 92 [.int .u32 w, .lit .i64 22] (.int .u32 (rotS w 22)) := by
  refine pure_intro mixed (cx_sa_ok (fun _ => none) (fun _ _ => none)) Tryd.func92 1000 rfl rfl ?_
  refine of_nf (p := bits BinOp.or IntKind.u32 (IntKind.u32.wrap (w * (1024 : Int))) (w / (4194304 : Int)) = rotS w (22 : Nat)) (by kernel_rfl) ?_
  simp only [rotS]
  rfl
theorem turn22X_ok (w : Int)  : PureSem Tryd.prog 107 [.int .u32 w, .lit .u64 22] (.int .u32 (rotS w 22)) := by
  refine pure_intro mixed (cx_sa_ok (fun _ => none) (fun _ _ => none)) Tryd.func107 1000 rfl rfl ?_
  refine of_nf (p := bits BinOp.or IntKind.u32 (w / (4194304 : Int)) (IntKind.u32.wrap (w * (1024 : Int))) = rotS w (22 : Nat)) (by kernel_rfl) ?_
  simp only [rotS]
  rw [or_comm32]
  rfl
theorem right25X_ok (w : Int)  : PureSem Tryd.prog 92 [.int .u32 w, .lit .i64 25] (.int .u32 (rotS w 25)) := by
  refine pure_intro mixed (cx_sa_ok (fun _ => none) (fun _ _ => none)) Tryd.func92 1000 rfl rfl ?_
  refine of_nf (p := bits BinOp.or IntKind.u32 (IntKind.u32.wrap (w * (128 : Int))) (w / (33554432 : Int)) = rotS w (25 : Nat)) (by kernel_rfl) ?_
  simp only [rotS]
  rfl
theorem turn25X_ok (w : Int)  : PureSem Tryd.prog 107 [.int .u32 w, .lit .u64 25] (.int .u32 (rotS w 25)) := by
  refine pure_intro mixed (cx_sa_ok (fun _ => none) (fun _ _ => none)) Tryd.func107 1000 rfl rfl ?_
  refine of_nf (p := bits BinOp.or IntKind.u32 (w / (33554432 : Int)) (IntKind.u32.wrap (w * (128 : Int))) = rotS w (25 : Nat)) (by kernel_rfl) ?_
  simp only [rotS]
  rw [or_comm32]
  rfl
def c_right : List SV → Option (List Prop × SV)
  | [.int .u32 w, .int .i64 n] =>
    bif decide (n = 2) then some ([], .int .u32 (rotS w 2)) else bif decide (n = 6) then some ([], .int .u32 (rotS w 6)) else bif decide (n = 7) then some ([], .int .u32 (rotS w 7)) else bif decide (n = 11) then some ([], .int .u32 (rotS w 11)) else bif decide (n = 13) then some ([], .int .u32 (rotS w 13)) else bif decide (n = 17) then some ([], .int .u32 (rotS w 17)) else bif decide (n = 18) then some ([], .int .u32 (rotS w 18)) else bif decide (n = 19) then some ([], .int .u32 (rotS w 19)) else bif decide (n = 22) then some ([], .int .u32 (rotS w 22)) else bif decide (n = 25) then some ([], .int .u32 (rotS w 25)) else none
  | _ => none
theorem c_right_e : PEntry Tryd.prog 92 c_right := by
  refine ⟨callFunc_ok Tryd.func92 (by kernel_rfl) (by kernel_rfl), fun args ps v h hp => ?_⟩
  unfold c_right at h
  split at h
  · rename_i w n
    rcases cond_some h with ⟨e, h9⟩ | ⟨e, h9⟩ <;> clear h
    · cases h9
      obtain rfl : n = 2 := by simpa using e
      exact (right2X_ok w).soft fun _ _ _ => ⟨trivial, trivial, trivial⟩
    have h := h9
    clear h9
    rcases cond_some h with ⟨e, h9⟩ | ⟨e, h9⟩ <;> clear h
    · cases h9
      obtain rfl : n = 6 := by simpa using e
      exact (right6X_ok w).soft fun _ _ _ => ⟨trivial, trivial, trivial⟩
    have h := h9
    clear h9
    rcases cond_some h with ⟨e, h9⟩ | ⟨e, h9⟩ <;> clear h
    · cases h9
      obtain rfl : n = 7 := by simpa using e
      exact (right7X_ok w).soft fun _ _ _ => ⟨trivial, trivial, trivial⟩
    have h := h9
    clear h9
    rcases cond_some h with ⟨e, h9⟩ | ⟨e, h9⟩ <;> clear h
    · cases h9
      obtain rfl : n = 11 := by simpa using e
      exact (right11X_ok w).soft fun _ _ _ => ⟨trivial, trivial, trivial⟩
    have h := h9
    clear h9
    rcases cond_some h with ⟨e, h9⟩ | ⟨e, h9⟩ <;> clear h
    · cases h9
      obtain rfl : n = 13 := by simpa using e
      exact (right13X_ok w).soft fun _ _ _ => ⟨trivial, trivial, trivial⟩
    have h := h9
    clear h9
    rcases cond_some h with ⟨e, h9⟩ | ⟨e, h9⟩ <;> clear h
    · cases h9
      obtain rfl : n = 17 := by simpa using e
      exact (right17X_ok w).soft fun _ _ _ => ⟨trivial, trivial, trivial⟩
    have h := h9
    clear h9
    rcases cond_some h with ⟨e, h9⟩ | ⟨e, h9⟩ <;> clear h
    · cases h9
      obtain rfl : n = 18 := by simpa using e
      exact (right18X_ok w).soft fun _ _ _ => ⟨trivial, trivial, trivial⟩
    have h := h9
    clear h9
    rcases cond_some h with ⟨e, h9⟩ | ⟨e, h9⟩ <;> clear h
    · cases h9
      obtain rfl : n = 19 := by simpa using e
      exact (right19X_ok w).soft fun _ _ _ => ⟨trivial, trivial, trivial⟩
    have h := h9
    clear h9
    rcases cond_some h with ⟨e, h9⟩ | ⟨e, h9⟩ <;> clear h
    · cases h9
      obtain rfl : n = 22 := by simpa using e
      exact (right22X_ok w).soft fun _ _ _ => ⟨trivial, trivial, trivial⟩
    have h := h9
    clear h9
    rcases cond_some h with ⟨e, h9⟩ | ⟨e, h9⟩ <;> clear h
    · cases h9
      obtain rfl : n = 25 := by simpa using e
      exact (right25X_ok w).soft fun _ _ _ => ⟨trivial, trivial, trivial⟩
    have h := h9
    clear h9
    cases h
  · cases h
def c_turn : List SV → Option (List Prop × SV)
  | [.int .u32 w, .int .u64 n] =>
    bif decide (n = 2) then some ([], .int .u32 (rotS w 2)) else bif decide (n = 6) then some ([], .int .u32 (rotS w 6)) else bif decide (n = 7) then some ([], .int .u32 (rotS w 7)) else bif decide (n = 11) then some ([], .int .u32 (rotS w 11)) else bif decide (n = 13) then some ([], .int .u32 (rotS w 13)) else bif decide (n = 17) then some ([], .int .u32 (rotS w 17)) else bif decide (n = 18) then some ([], .int .u32 (rotS w 18)) else bif decide (n = 19) then some ([], .int .u32 (rotS w 19)) else bif decide (n = 22) then some ([], .int .u32 (rotS w 22)) else bif decide (n = 25) then some ([], .int .u32 (rotS w 25)) else none
  | _ => none
theorem c_turn_e : PEntry Tryd.prog 107 c_turn := by
  refine ⟨callFunc_ok Tryd.func107 (by kernel_rfl) (by kernel_rfl), fun args ps v h hp => ?_⟩
  unfold c_turn at h
  split at h
  · rename_i w n
    rcases cond_some h with ⟨e, h9⟩ | ⟨e, h9⟩ <;> clear h
    · cases h9
      obtain rfl : n = 2 := by simpa using e
      exact (turn2X_ok w).soft fun _ _ _ => ⟨trivial, trivial, trivial⟩
    have h := h9
    clear h9
    rcases cond_some h with ⟨e, h9⟩ | ⟨e, h9⟩ <;> clear h
    · cases h9
      obtain rfl : n = 6 := by simpa using e
      exact (turn6X_ok w).soft fun _ _ _ => ⟨trivial, trivial, trivial⟩
    have h := h9
    clear h9
    rcases cond_some h with ⟨e, h9⟩ | ⟨e, h9⟩ <;> clear h
    · cases h9
      obtain rfl : n = 7 := by simpa using e
      exact (turn7X_ok w).soft fun _ _ _ => ⟨trivial, trivial, trivial⟩
    have h := h9
    clear h9
    rcases cond_some h with ⟨e, h9⟩ | ⟨e, h9⟩ <;> clear h
    · cases h9
      obtain rfl : n = 11 := by simpa using e
      exact (turn11X_ok w).soft fun _ _ _ => ⟨trivial, trivial, trivial⟩
    have h := h9
    clear h9
    rcases cond_some h with ⟨e, h9⟩ | ⟨e, h9⟩ <;> clear h
    · cases h9
      obtain rfl : n = 13 := by simpa using e
      exact (turn13X_ok w).soft fun _ _ _ => ⟨trivial, trivial, trivial⟩
    have h := h9
    clear h9
    rcases cond_some h with ⟨e, h9⟩ | ⟨e, h9⟩ <;> clear h
    · cases h9
      obtain rfl : n = 17 := by simpa using e
      exact (turn17X_ok w).soft fun _ _ _ => ⟨trivial, trivial, trivial⟩
    have h := h9
    clear h9
    rcases cond_some h with ⟨e, h9⟩ | ⟨e, h9⟩ <;> clear h
    · cases h9
      obtain rfl : n = 18 := by simpa using e
      exact (turn18X_ok w).soft fun _ _ _ => ⟨trivial, trivial, trivial⟩
    have h := h9
    clear h9
    rcases cond_some h with ⟨e, h9⟩ | ⟨e, h9⟩ <;> clear h
    · cases h9
      obtain rfl : n = 19 := by simpa using e
      exact (turn19X_ok w).soft fun _ _ _ => ⟨trivial, trivial, trivial⟩
    have h := h9
    clear h9
    rcases cond_some h with ⟨e, h9⟩ | ⟨e, h9⟩ <;> clear h
    · cases h9
      obtain rfl : n = 22 := by simpa using e
      exact (turn22X_ok w).soft fun _ _ _ => ⟨trivial, trivial, trivial⟩
    have h := h9
    clear h9
    rcases cond_some h with ⟨e, h9⟩ | ⟨e, h9⟩ <;> clear h
    · cases h9
      obtain rfl : n = 25 := by simpa using e
      exact (turn25X_ok w).soft fun _ _ _ => ⟨trivial, trivial, trivial⟩
    have h := h9
    clear h9
    cases h
  · cases h
end Go.Proofs.YtheeaplnobdpoaaDoor
