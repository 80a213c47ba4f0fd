/- The packages word, isa, wardenref05: fields, shapes, names. No condition beyond the arguments' types. -/
import Derived.Test.YtimjnajdpccjdaaDoorIsaDef
import Derived.Test.YtimjnajdpccjdaaDoorFieldBits
import Derived.Test.YtimjnajdpccjdaaDoorSxD
namespace Go.Proofs.YtimjnajdpccjdaaDoor
set_option linter.unusedVariables false
set_option linter.unusedSimpArgs false
open Go.RowKit Sx
set_option maxRecDepth 100000
set_option maxHeartbeats 1000000
theorem sv_str {a b : ByteArray} (h : a = b) : SV.str a = SV.str b := by rw [h]
noncomputable def pt_ia : List (Nat × (List SV → Option (List Prop × SV))) := []
theorem pt_ia_ok : PureOK Tryd.prog (fun f => List.lookup f pt_ia) := pure_list pt_ia trivial
noncomputable abbrev cx_ia (must : Nat → Option Bool := fun _ => none) (loop : Nat → SS → Option LoopSpec := fun _ _ => none) (fz : Nat → SS → List Nat := fun _ _ => []) (on : Bool := false) : Ctx := ⟨tab, inl tab (fun f => List.lookup f pt_ia) fns (fun _ => {}) 1000 6, fun f => List.lookup f pt_ia, must, loop, 0, 0, fun _ => none, fz, on⟩
theorem cx_ia_ok (must : Nat → Option Bool) (loop : Nat → SS → Option LoopSpec) (fz : Nat → SS → List Nat) (on : Bool) : CxOK Tryd.prog (cx_ia must loop fz on) := inl_ok mixed tab_ok pt_ia_ok fns_ok 6 _ _ _ _ _ _
theorem isOp_ok (op : Int)  : PureSem Tryd.prog 98 [.int .i64 op] (.bool (decide (1 ≤ op) && decide (op < 25))) := by
  refine pure_intro mixed (cx_ia_ok (fun _ => none) (fun _ _ => none) (fun _ _ => []) false) Tryd.func98 1000 rfl rfl ?_
  refine of_nf (p := (decide (1 <= op) = true -> decide (op < 25) = (decide (1 <= op) && decide (op < 25))) /\ (decide (1 <= op) = false -> false = (decide (1 <= op) && decide (op < 25)))) (by kernel_rfl) ?_
  refine ⟨fun h => by rw [h]; rfl, fun h => by rw [h]; rfl⟩
theorem Shape_ok (op : Int) (h0 : InK .i64 op) : PureSem Tryd.prog 60 [.int .i64 op] (.str (shapeS op)) := by
  refine pure_intro mixed (cx_ia_ok (fun _ => none) (fun _ _ => none) (fun _ _ => []) false) Tryd.func60 1000 rfl rfl ?_
  refine of_nf (p := (decide (1 <= op) = true -> ((!decide (op < 25)) = true -> SV.str { data := #[] } = SV.str (shapeS op)) /\ ((!decide (op < 25)) = false -> 0 <= op /\ op < 25 /\ SV.str ([{ data := #[] }, { data := #[(97 : UInt8), (117 : UInt8)] }, { data := #[(97 : UInt8), (117 : UInt8)] }, { data := #[(97 : UInt8), (98 : UInt8)] }, { data := #[(97 : UInt8), (98 : UInt8), (99 : UInt8)] }, { data := #[(97 : UInt8), (98 : UInt8), (99 : UInt8)] }, { data := #[(97 : UInt8), (98 : UInt8), (99 : UInt8)] }, { data := #[(97 : UInt8), (98 : UInt8), (99 : UInt8)] }, { data := #[(97 : UInt8), (98 : UInt8), (99 : UInt8)] }, { data := #[(97 : UInt8), (98 : UInt8), (99 : UInt8)] }, { data := #[(97 : UInt8), (98 : UInt8), (99 : UInt8)] }, { data := #[(97 : UInt8), (98 : UInt8), (99 : UInt8)] }, { data := #[(97 : UInt8), (98 : UInt8), (99 : UInt8)] }, { data := #[(97 : UInt8), (98 : UInt8), (99 : UInt8)] }, { data := #[(97 : UInt8), (98 : UInt8), (115 : UInt8)] }, { data := #[(97 : UInt8), (98 : UInt8), (115 : UInt8)] }, { data := #[(97 : UInt8), (98 : UInt8), (115 : UInt8)] }, { data := #[(97 : UInt8), (98 : UInt8), (99 : UInt8)] }, { data := #[(97 : UInt8), (98 : UInt8), (99 : UInt8)] }, { data := #[(97 : UInt8), (98 : UInt8)] }, { data := #[(97 : UInt8), (115 : UInt8)] }, { data := #[(107 : UInt8), (111 : UInt8)] }, { data := #[(111 : UInt8)] }, { data := #[(97 : UInt8)] }, { data := #[(117 : UInt8)] }].getD op.toNat { data := #[] }) = SV.str (shapeS op))) /\ (decide (1 <= op) = false -> SV.str { data := #[] } = SV.str (shapeS op))) (by kernel_rfl) ?_
  simp only [decide_eq_true_eq, decide_eq_false_iff_not, Bool.not_eq_true', Bool.not_eq_false'] at *
  refine ⟨fun h => ⟨fun h2 => sv_str ?_, fun h2 => ⟨by omega, h2, sv_str ?_⟩⟩, fun h => sv_str ?_⟩
  · unfold shapeS; rw [if_neg (by omega)]
  · unfold shapeS; rw [if_pos (by omega)]; rfl
  · unfold shapeS; rw [if_neg (by omega)]
theorem Field26_6X_ok (w : Int) (h0 : InK .u32 w) : PureSem Tryd.prog 59 [.int .u32 w, .lit .i64 26, .lit .i64 6] (.int .u32 (w / 67108864)) := by
  refine pure_intro mixed (cx_ia_ok (fun _ => none) (fun _ _ => none) (fun _ _ => []) false) Tryd.func59 1000 rfl rfl ?_
  refine of_nf (p := bits BinOp.and IntKind.u32 w (4227858432 : Int) / (67108864 : Int) = w / 67108864) (by kernel_rfl) ?_
  simp only [InK] at h0
  have e := and_field (x := w) (m := 4227858432) 26 6 (by decide) (by decide) h0
  simp only [Int.reducePow, Nat.reducePow] at e
  first | (rw [e]; omega) | (simp only [Int.ediv_one] ; rw [e]; omega)
theorem Field22_4X_ok (w : Int) (h0 : InK .u32 w) : PureSem Tryd.prog 59 [.int .u32 w, .lit .i64 22, .lit .i64 4] (.int .u32 (w / 4194304 % 16)) := by
  refine pure_intro mixed (cx_ia_ok (fun _ => none) (fun _ _ => none) (fun _ _ => []) false) Tryd.func59 1000 rfl rfl ?_
  refine of_nf (p := bits BinOp.and IntKind.u32 w (62914560 : Int) / (4194304 : Int) = w / 4194304 % (16 : Int)) (by kernel_rfl) ?_
  simp only [InK] at h0
  have e := and_field (x := w) (m := 62914560) 22 4 (by decide) (by decide) h0
  simp only [Int.reducePow, Nat.reducePow] at e
  first | (rw [e]; omega) | (simp only [Int.ediv_one] ; rw [e]; omega)
theorem Field22_3X_ok (w : Int) (h0 : InK .u32 w) : PureSem Tryd.prog 59 [.int .u32 w, .lit .i64 22, .lit .i64 3] (.int .u32 (w / 4194304 % 8)) := by
  refine pure_intro mixed (cx_ia_ok (fun _ => none) (fun _ _ => none) (fun _ _ => []) false) Tryd.func59 1000 rfl rfl ?_
  refine of_nf (p := bits BinOp.and IntKind.u32 w (29360128 : Int) / (4194304 : Int) = w / 4194304 % (8 : Int)) (by kernel_rfl) ?_
  simp only [InK] at h0
  have e := and_field (x := w) (m := 29360128) 22 3 (by decide) (by decide) h0
  simp only [Int.reducePow, Nat.reducePow] at e
  first | (rw [e]; omega) | (simp only [Int.ediv_one] ; rw [e]; omega)
theorem Field18_4X_ok (w : Int) (h0 : InK .u32 w) : PureSem Tryd.prog 59 [.int .u32 w, .lit .i64 18, .lit .i64 4] (.int .u32 (w / 262144 % 16)) := by
  refine pure_intro mixed (cx_ia_ok (fun _ => none) (fun _ _ => none) (fun _ _ => []) false) Tryd.func59 1000 rfl rfl ?_
  refine of_nf (p := bits BinOp.and IntKind.u32 w (3932160 : Int) / (262144 : Int) = w / 262144 % (16 : Int)) (by kernel_rfl) ?_
  simp only [InK] at h0
  have e := and_field (x := w) (m := 3932160) 18 4 (by decide) (by decide) h0
  simp only [Int.reducePow, Nat.reducePow] at e
  first | (rw [e]; omega) | (simp only [Int.ediv_one] ; rw [e]; omega)
theorem Field14_4X_ok (w : Int) (h0 : InK .u32 w) : PureSem Tryd.prog 59 [.int .u32 w, .lit .i64 14, .lit .i64 4] (.int .u32 (w / 16384 % 16)) := by
  refine pure_intro mixed (cx_ia_ok (fun _ => none) (fun _ _ => none) (fun _ _ => []) false) Tryd.func59 1000 rfl rfl ?_
  refine of_nf (p := bits BinOp.and IntKind.u32 w (245760 : Int) / (16384 : Int) = w / 16384 % (16 : Int)) (by kernel_rfl) ?_
  simp only [InK] at h0
  have e := and_field (x := w) (m := 245760) 14 4 (by decide) (by decide) h0
  simp only [Int.reducePow, Nat.reducePow] at e
  first | (rw [e]; omega) | (simp only [Int.ediv_one] ; rw [e]; omega)
theorem Field0_16X_ok (w : Int) (h0 : InK .u32 w) : PureSem Tryd.prog 59 [.int .u32 w, .lit .i64 0, .lit .i64 16] (.int .u32 (w % 65536)) := by
  refine pure_intro mixed (cx_ia_ok (fun _ => none) (fun _ _ => none) (fun _ _ => []) false) Tryd.func59 1000 rfl rfl ?_
  refine of_nf (p := bits BinOp.and IntKind.u32 w (65535 : Int) / (1 : Int) = w % 65536) (by kernel_rfl) ?_
  simp only [InK] at h0
  have e := and_field (x := w) (m := 65535) 0 16 (by decide) (by decide) h0
  simp only [Int.reducePow, Nat.reducePow] at e
  first | (rw [e]; omega) | (simp only [Int.ediv_one] ; rw [e]; omega)
theorem SetField22_4X_ok (w v : Int) (h0 : InK .u32 w) (h1 : InK .u32 v) (h2 : w % 67108864 = 0) : PureSem Tryd.prog 101 [.int .u32 w, .lit .i64 22, .lit .i64 4, .int .u32 v] (.int .u32 (w + v % 16 * 4194304)) := by
  refine pure_intro mixed (cx_ia_ok (fun _ => none) (fun _ _ => none) (fun _ _ => []) false) Tryd.func101 1000 rfl rfl ?_
  refine of_nf (p := bits BinOp.or IntKind.u32 (bits BinOp.andNot IntKind.u32 w (62914560 : Int)) (bits BinOp.and IntKind.u32 (IntKind.u32.wrap (v * 4194304)) (62914560 : Int)) = w + v % 16 * (4194304 : Int)) (by kernel_rfl) ?_
  simp only [InK] at h0 h1
  have e := lay_field (x := w) (v := v) (m := 62914560) (p := 67108864) 22 4 (by decide) (by decide) (by decide) h0 h2
  simp only [Int.reducePow, Nat.reducePow] at e
  first | exact e | (simp only [Int.mul_one] at *; exact e)
theorem SetField22_3X_ok (w v : Int) (h0 : InK .u32 w) (h1 : InK .u32 v) (h2 : w % 33554432 = 0) : PureSem Tryd.prog 101 [.int .u32 w, .lit .i64 22, .lit .i64 3, .int .u32 v] (.int .u32 (w + v % 8 * 4194304)) := by
  refine pure_intro mixed (cx_ia_ok (fun _ => none) (fun _ _ => none) (fun _ _ => []) false) Tryd.func101 1000 rfl rfl ?_
  refine of_nf (p := bits BinOp.or IntKind.u32 (bits BinOp.andNot IntKind.u32 w (29360128 : Int)) (bits BinOp.and IntKind.u32 (IntKind.u32.wrap (v * 4194304)) (29360128 : Int)) = w + v % 8 * (4194304 : Int)) (by kernel_rfl) ?_
  simp only [InK] at h0 h1
  have e := lay_field (x := w) (v := v) (m := 29360128) (p := 33554432) 22 3 (by decide) (by decide) (by decide) h0 h2
  simp only [Int.reducePow, Nat.reducePow] at e
  first | exact e | (simp only [Int.mul_one] at *; exact e)
theorem SetField18_4X_ok (w v : Int) (h0 : InK .u32 w) (h1 : InK .u32 v) (h2 : w % 4194304 = 0) : PureSem Tryd.prog 101 [.int .u32 w, .lit .i64 18, .lit .i64 4, .int .u32 v] (.int .u32 (w + v % 16 * 262144)) := by
  refine pure_intro mixed (cx_ia_ok (fun _ => none) (fun _ _ => none) (fun _ _ => []) false) Tryd.func101 1000 rfl rfl ?_
  refine of_nf (p := bits BinOp.or IntKind.u32 (bits BinOp.andNot IntKind.u32 w (3932160 : Int)) (bits BinOp.and IntKind.u32 (IntKind.u32.wrap (v * 262144)) (3932160 : Int)) = w + v % 16 * (262144 : Int)) (by kernel_rfl) ?_
  simp only [InK] at h0 h1
  have e := lay_field (x := w) (v := v) (m := 3932160) (p := 4194304) 18 4 (by decide) (by decide) (by decide) h0 h2
  simp only [Int.reducePow, Nat.reducePow] at e
  first | exact e | (simp only [Int.mul_one] at *; exact e)
theorem SetField14_4X_ok (w v : Int) (h0 : InK .u32 w) (h1 : InK .u32 v) (h2 : w % 262144 = 0) : PureSem Tryd.prog 101 [.int .u32 w, .lit .i64 14, .lit .i64 4, .int .u32 v] (.int .u32 (w + v % 16 * 16384)) := by
  refine pure_intro mixed (cx_ia_ok (fun _ => none) (fun _ _ => none) (fun _ _ => []) false) Tryd.func101 1000 rfl rfl ?_
  refine of_nf (p := bits BinOp.or IntKind.u32 (bits BinOp.andNot IntKind.u32 w (245760 : Int)) (bits BinOp.and IntKind.u32 (IntKind.u32.wrap (v * 16384)) (245760 : Int)) = w + v % 16 * (16384 : Int)) (by kernel_rfl) ?_
  simp only [InK] at h0 h1
  have e := lay_field (x := w) (v := v) (m := 245760) (p := 262144) 14 4 (by decide) (by decide) (by decide) h0 h2
  simp only [Int.reducePow, Nat.reducePow] at e
  first | exact e | (simp only [Int.mul_one] at *; exact e)
theorem SetField0_16X_ok (w v : Int) (h0 : InK .u32 w) (h1 : InK .u32 v) (h2 : w % 65536 = 0) : PureSem Tryd.prog 101 [.int .u32 w, .lit .i64 0, .lit .i64 16, .int .u32 v] (.int .u32 (w + v % 65536 * 1)) := by
  refine pure_intro mixed (cx_ia_ok (fun _ => none) (fun _ _ => none) (fun _ _ => []) false) Tryd.func101 1000 rfl rfl ?_
  refine of_nf (p := bits BinOp.or IntKind.u32 (bits BinOp.andNot IntKind.u32 w (65535 : Int)) (bits BinOp.and IntKind.u32 (IntKind.u32.wrap (v * 1)) (65535 : Int)) = w + v % 65536 * (1 : Int)) (by kernel_rfl) ?_
  simp only [InK] at h0 h1
  have e := lay_field (x := w) (v := v) (m := 65535) (p := 65536) 0 16 (by decide) (by decide) (by decide) h0 h2
  simp only [Int.reducePow, Nat.reducePow] at e
  first | exact e | (simp only [Int.mul_one] at *; exact e)
theorem Ext16X_ok (w : Int) (h0 : InK .u32 w) : PureSem Tryd.prog 61 [.int .u32 w, .lit .i64 16] (.int .i32 (extS w)) := by
  refine pure_intro mixed (cx_ia_ok (fun _ => none) (fun _ _ => none) (fun _ _ => []) false) Tryd.func61 1000 rfl rfl ?_
  refine of_nf (p := IntKind.i32.wrap (IntKind.u32.wrap (w * 65536)) / 65536 = extS w) (by kernel_rfl) ?_
  simp only [InK] at h0
  unfold extS IntKind.wrap
  simp [IntKind.bits, IntKind.signed]
  repeat' split
  all_goals omega
def c_Field : List SV → Option (List Prop × SV)
  | [.int .u32 w, .int .i64 lo, .int .i64 n] =>
    bif decide (lo = 26) && decide (n = 6) then some ([InK .u32 w], .int .u32 (w / 67108864)) else bif decide (lo = 22) && decide (n = 4) then some ([InK .u32 w], .int .u32 (w / 4194304 % 16)) else bif decide (lo = 22) && decide (n = 3) then some ([InK .u32 w], .int .u32 (w / 4194304 % 8)) else bif decide (lo = 18) && decide (n = 4) then some ([InK .u32 w], .int .u32 (w / 262144 % 16)) else bif decide (lo = 14) && decide (n = 4) then some ([InK .u32 w], .int .u32 (w / 16384 % 16)) else bif decide (lo = 0) && decide (n = 16) then some ([InK .u32 w], .int .u32 (w % 65536)) else none
  | _ => none
theorem c_Field_e : PEntry Tryd.prog 59 c_Field := by
  refine ⟨callFunc_ok Tryd.func59 (by kernel_rfl) (by kernel_rfl), fun args ps v h hp => ?_⟩
  unfold c_Field at h
  split at h
  · rename_i w lo n
    rcases cond_some h with ⟨e, h9⟩ | ⟨e, h9⟩ <;> clear h
    · cases h9
      obtain ⟨rfl, rfl⟩ : lo = 26 ∧ n = 6 := by simpa using e
      exact (Field26_6X_ok w (hp _ (by simp))).soft fun _ _ _ => ⟨trivial, trivial, trivial, trivial⟩
    have h := h9
    clear h9
    rcases cond_some h with ⟨e, h9⟩ | ⟨e, h9⟩ <;> clear h
    · cases h9
      obtain ⟨rfl, rfl⟩ : lo = 22 ∧ n = 4 := by simpa using e
      exact (Field22_4X_ok w (hp _ (by simp))).soft fun _ _ _ => ⟨trivial, trivial, trivial, trivial⟩
    have h := h9
    clear h9
    rcases cond_some h with ⟨e, h9⟩ | ⟨e, h9⟩ <;> clear h
    · cases h9
      obtain ⟨rfl, rfl⟩ : lo = 22 ∧ n = 3 := by simpa using e
      exact (Field22_3X_ok w (hp _ (by simp))).soft fun _ _ _ => ⟨trivial, trivial, trivial, trivial⟩
    have h := h9
    clear h9
    rcases cond_some h with ⟨e, h9⟩ | ⟨e, h9⟩ <;> clear h
    · cases h9
      obtain ⟨rfl, rfl⟩ : lo = 18 ∧ n = 4 := by simpa using e
      exact (Field18_4X_ok w (hp _ (by simp))).soft fun _ _ _ => ⟨trivial, trivial, trivial, trivial⟩
    have h := h9
    clear h9
    rcases cond_some h with ⟨e, h9⟩ | ⟨e, h9⟩ <;> clear h
    · cases h9
      obtain ⟨rfl, rfl⟩ : lo = 14 ∧ n = 4 := by simpa using e
      exact (Field14_4X_ok w (hp _ (by simp))).soft fun _ _ _ => ⟨trivial, trivial, trivial, trivial⟩
    have h := h9
    clear h9
    rcases cond_some h with ⟨e, h9⟩ | ⟨e, h9⟩ <;> clear h
    · cases h9
      obtain ⟨rfl, rfl⟩ : lo = 0 ∧ n = 16 := by simpa using e
      exact (Field0_16X_ok w (hp _ (by simp))).soft fun _ _ _ => ⟨trivial, trivial, trivial, trivial⟩
    have h := h9
    clear h9
    cases h
  · cases h
def c_SetField : List SV → Option (List Prop × SV)
  | [.int .u32 w, .int .i64 lo, .int .i64 n, .int .u32 v] =>
    bif decide (lo = 22) && decide (n = 4) then some ([InK .u32 w, InK .u32 v, w % 67108864 = 0], .int .u32 (w + v % 16 * 4194304)) else bif decide (lo = 22) && decide (n = 3) then some ([InK .u32 w, InK .u32 v, w % 33554432 = 0], .int .u32 (w + v % 8 * 4194304)) else bif decide (lo = 18) && decide (n = 4) then some ([InK .u32 w, InK .u32 v, w % 4194304 = 0], .int .u32 (w + v % 16 * 262144)) else bif decide (lo = 14) && decide (n = 4) then some ([InK .u32 w, InK .u32 v, w % 262144 = 0], .int .u32 (w + v % 16 * 16384)) else bif decide (lo = 0) && decide (n = 16) then some ([InK .u32 w, InK .u32 v, w % 65536 = 0], .int .u32 (w + v % 65536 * 1)) else none
  | _ => none
theorem c_SetField_e : PEntry Tryd.prog 101 c_SetField := by
  refine ⟨callFunc_ok Tryd.func101 (by kernel_rfl) (by kernel_rfl), fun args ps v h hp => ?_⟩
  unfold c_SetField at h
  split at h
  · rename_i w lo n x
    rcases cond_some h with ⟨e, h9⟩ | ⟨e, h9⟩ <;> clear h
    · cases h9
      obtain ⟨rfl, rfl⟩ : lo = 22 ∧ n = 4 := by simpa using e
      exact (SetField22_4X_ok w x (hp.i 0) (hp.i 1) (hp.i 2)).soft fun _ _ _ => ⟨trivial, trivial, trivial, trivial, trivial⟩
    have h := h9
    clear h9
    rcases cond_some h with ⟨e, h9⟩ | ⟨e, h9⟩ <;> clear h
    · cases h9
      obtain ⟨rfl, rfl⟩ : lo = 22 ∧ n = 3 := by simpa using e
      exact (SetField22_3X_ok w x (hp.i 0) (hp.i 1) (hp.i 2)).soft fun _ _ _ => ⟨trivial, trivial, trivial, trivial, trivial⟩
    have h := h9
    clear h9
    rcases cond_some h with ⟨e, h9⟩ | ⟨e, h9⟩ <;> clear h
    · cases h9
      obtain ⟨rfl, rfl⟩ : lo = 18 ∧ n = 4 := by simpa using e
      exact (SetField18_4X_ok w x (hp.i 0) (hp.i 1) (hp.i 2)).soft fun _ _ _ => ⟨trivial, trivial, trivial, trivial, trivial⟩
    have h := h9
    clear h9
    rcases cond_some h with ⟨e, h9⟩ | ⟨e, h9⟩ <;> clear h
    · cases h9
      obtain ⟨rfl, rfl⟩ : lo = 14 ∧ n = 4 := by simpa using e
      exact (SetField14_4X_ok w x (hp.i 0) (hp.i 1) (hp.i 2)).soft fun _ _ _ => ⟨trivial, trivial, trivial, trivial, trivial⟩
    have h := h9
    clear h9
    rcases cond_some h with ⟨e, h9⟩ | ⟨e, h9⟩ <;> clear h
    · cases h9
      obtain ⟨rfl, rfl⟩ : lo = 0 ∧ n = 16 := by simpa using e
      exact (SetField0_16X_ok w x (hp.i 0) (hp.i 1) (hp.i 2)).soft fun _ _ _ => ⟨trivial, trivial, trivial, trivial, trivial⟩
    have h := h9
    clear h9
    cases h
  · cases h
def c_Extend : List SV → Option (List Prop × SV)
  | [.int .u32 w, .int .i64 n] => bif decide (n = 16) then some ([InK .u32 w], .int .i32 (extS w)) else none
  | _ => none
theorem c_Extend_e : PEntry Tryd.prog 61 c_Extend := by
  refine ⟨callFunc_ok Tryd.func61 (by kernel_rfl) (by kernel_rfl), fun args ps v h hp => ?_⟩
  unfold c_Extend at h
  split at h
  · rename_i w n
    rcases cond_some h with ⟨e, h⟩ | ⟨e, h⟩
    · cases h
      have e : n = 16 := by simpa using e
      subst e
      exact (Ext16X_ok w (hp _ (by simp))).soft fun _ _ _ => ⟨trivial, trivial, trivial⟩
    · cases h
  · cases h
end Go.Proofs.YtimjnajdpccjdaaDoor
