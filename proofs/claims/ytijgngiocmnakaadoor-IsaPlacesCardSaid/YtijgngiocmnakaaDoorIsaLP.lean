/- The law IsaPlaces. No condition beyond the arguments' types. -/
import Derived.Test.YtijgngiocmnakaaDoorIsaL0
import Derived.Test.YtijgngiocmnakaaDoorIsaP
namespace Go.Proofs.YtijgngiocmnakaaDoor
open Go.RowKit Sx
set_option linter.unusedVariables false
set_option linter.unusedSimpArgs false
set_option maxRecDepth 100000
set_option maxHeartbeats 1000000
theorem aN26 {x : Int} (h : 0 ≤ x ∧ x < 4294967296) : bits .andNot .u32 x 4227858432 = x - x / 67108864 % 64 * 67108864 := by
  have := and_field (x := x) (m := 4227858432) 26 6 (by decide) (by decide) h
  rw [andNot_eq h, this]; rfl
theorem aN22_4 {x : Int} (h : 0 ≤ x ∧ x < 4294967296) : bits .andNot .u32 x 62914560 = x - x / 4194304 % 16 * 4194304 := by
  have := and_field (x := x) (m := 62914560) 22 4 (by decide) (by decide) h
  rw [andNot_eq h, this]; rfl
theorem aN22_3 {x : Int} (h : 0 ≤ x ∧ x < 4294967296) : bits .andNot .u32 x 29360128 = x - x / 4194304 % 8 * 4194304 := by
  have := and_field (x := x) (m := 29360128) 22 3 (by decide) (by decide) h
  rw [andNot_eq h, this]; rfl
theorem aN18_4 {x : Int} (h : 0 ≤ x ∧ x < 4294967296) : bits .andNot .u32 x 3932160 = x - x / 262144 % 16 * 262144 := by
  have := and_field (x := x) (m := 3932160) 18 4 (by decide) (by decide) h
  rw [andNot_eq h, this]; rfl
theorem aN14_4 {x : Int} (h : 0 ≤ x ∧ x < 4294967296) : bits .andNot .u32 x 245760 = x - x / 16384 % 16 * 16384 := by
  have := and_field (x := x) (m := 245760) 14 4 (by decide) (by decide) h
  rw [andNot_eq h, this]; rfl
theorem aN0_16 {x : Int} (h : 0 ≤ x ∧ x < 4294967296) : bits .andNot .u32 x 65535 = x - x / 1 % 65536 * 1 := by
  have := and_field (x := x) (m := 65535) 0 16 (by decide) (by decide) h
  rw [andNot_eq h, this]; rfl
/-- A word that is an instruction. -/
structure OkW (w : Int) : Prop where
  out : okW w = true
noncomputable def pt_ipf : List (Nat × (List SV → Option (List Prop × SV))) := []
theorem pt_ipf_ok : PureOK Tryd.prog (fun f => List.lookup f pt_ipf) := pure_list pt_ipf trivial
noncomputable abbrev cx_ipf (must : Nat → Option Bool := fun _ => none) (loop : Nat → Option LoopSpec := fun _ => none) : Ctx := ⟨tab, inl tab (fun f => List.lookup f pt_ipf) fns (fun _ => {}) 1000 4, fun f => List.lookup f pt_ipf, must, loop, 0, 0⟩
theorem cx_ipf_ok (must : Nat → Option Bool) (loop : Nat → Option LoopSpec) : CxOK Tryd.prog (cx_ipf must loop) := inl_ok mixed tab_ok pt_ipf_ok fns_ok 4 _ _ _ _
theorem field26_6X_ok (w : Int) (h0 : InK .u32 w) : PureSem Tryd.prog 27 [.int .u32 w, .lit .i64 26, .lit .i64 6] (.int .i64 (w / 67108864)) := by
  refine pure_intro mixed (cx_ipf_ok (fun _ => none) (fun _ => none)) Tryd.func27 1000 rfl rfl ?_
  refine of_nf (p := ((0 : Int) ≤ bits BinOp.and IntKind.u32 (w / (67108864 : Int)) (63 : Int) ∧ bits BinOp.and IntKind.u32 (w / (67108864 : Int)) (63 : Int) < (4294967296 : Int)) ∧ bits BinOp.and IntKind.u32 (w / (67108864 : Int)) (63 : Int) = w / (67108864 : Int)) (by kernel_rfl) ?_
  simp only [InK] at h0
  have e1 : 0 ≤ w / 67108864 ∧ w / 67108864 < 4294967296 := by omega
  have e2 := and_mask (x := w / 67108864) (m := 63) 6 (by decide) (by decide) e1
  simp only [Int.reduceAdd] at e2
  (try simp only [Int.ediv_one] at *)
  rw [e2]
  omega
theorem field22_4X_ok (w : Int) (h0 : InK .u32 w) : PureSem Tryd.prog 27 [.int .u32 w, .lit .i64 22, .lit .i64 4] (.int .i64 (w / 4194304 % 16)) := by
  refine pure_intro mixed (cx_ipf_ok (fun _ => none) (fun _ => none)) Tryd.func27 1000 rfl rfl ?_
  refine of_nf (p := ((0 : Int) ≤ bits BinOp.and IntKind.u32 (w / (4194304 : Int)) (15 : Int) ∧ bits BinOp.and IntKind.u32 (w / (4194304 : Int)) (15 : Int) < (4294967296 : Int)) ∧ bits BinOp.and IntKind.u32 (w / (4194304 : Int)) (15 : Int) = w / (4194304 : Int) % (16 : Int)) (by kernel_rfl) ?_
  simp only [InK] at h0
  have e1 : 0 ≤ w / 4194304 ∧ w / 4194304 < 4294967296 := by omega
  have e2 := and_mask (x := w / 4194304) (m := 15) 4 (by decide) (by decide) e1
  simp only [Int.reduceAdd] at e2
  (try simp only [Int.ediv_one] at *)
  rw [e2]
  omega
theorem field22_3X_ok (w : Int) (h0 : InK .u32 w) : PureSem Tryd.prog 27 [.int .u32 w, .lit .i64 22, .lit .i64 3] (.int .i64 (w / 4194304 % 8)) := by
  refine pure_intro mixed (cx_ipf_ok (fun _ => none) (fun _ => none)) Tryd.func27 1000 rfl rfl ?_
  refine of_nf (p := ((0 : Int) ≤ bits BinOp.and IntKind.u32 (w / (4194304 : Int)) (7 : Int) ∧ bits BinOp.and IntKind.u32 (w / (4194304 : Int)) (7 : Int) < (4294967296 : Int)) ∧ bits BinOp.and IntKind.u32 (w / (4194304 : Int)) (7 : Int) = w / (4194304 : Int) % (8 : Int)) (by kernel_rfl) ?_
  simp only [InK] at h0
  have e1 : 0 ≤ w / 4194304 ∧ w / 4194304 < 4294967296 := by omega
  have e2 := and_mask (x := w / 4194304) (m := 7) 3 (by decide) (by decide) e1
  simp only [Int.reduceAdd] at e2
  (try simp only [Int.ediv_one] at *)
  rw [e2]
  omega
theorem field18_4X_ok (w : Int) (h0 : InK .u32 w) : PureSem Tryd.prog 27 [.int .u32 w, .lit .i64 18, .lit .i64 4] (.int .i64 (w / 262144 % 16)) := by
  refine pure_intro mixed (cx_ipf_ok (fun _ => none) (fun _ => none)) Tryd.func27 1000 rfl rfl ?_
  refine of_nf (p := ((0 : Int) ≤ bits BinOp.and IntKind.u32 (w / (262144 : Int)) (15 : Int) ∧ bits BinOp.and IntKind.u32 (w / (262144 : Int)) (15 : Int) < (4294967296 : Int)) ∧ bits BinOp.and IntKind.u32 (w / (262144 : Int)) (15 : Int) = w / (262144 : Int) % (16 : Int)) (by kernel_rfl) ?_
  simp only [InK] at h0
  have e1 : 0 ≤ w / 262144 ∧ w / 262144 < 4294967296 := by omega
  have e2 := and_mask (x := w / 262144) (m := 15) 4 (by decide) (by decide) e1
  simp only [Int.reduceAdd] at e2
  (try simp only [Int.ediv_one] at *)
  rw [e2]
  omega
theorem field14_4X_ok (w : Int) (h0 : InK .u32 w) : PureSem Tryd.prog 27 [.int .u32 w, .lit .i64 14, .lit .i64 4] (.int .i64 (w / 16384 % 16)) := by
  refine pure_intro mixed (cx_ipf_ok (fun _ => none) (fun _ => none)) Tryd.func27 1000 rfl rfl ?_
  refine of_nf (p := ((0 : Int) ≤ bits BinOp.and IntKind.u32 (w / (16384 : Int)) (15 : Int) ∧ bits BinOp.and IntKind.u32 (w / (16384 : Int)) (15 : Int) < (4294967296 : Int)) ∧ bits BinOp.and IntKind.u32 (w / (16384 : Int)) (15 : Int) = w / (16384 : Int) % (16 : Int)) (by kernel_rfl) ?_
  simp only [InK] at h0
  have e1 : 0 ≤ w / 16384 ∧ w / 16384 < 4294967296 := by omega
  have e2 := and_mask (x := w / 16384) (m := 15) 4 (by decide) (by decide) e1
  simp only [Int.reduceAdd] at e2
  (try simp only [Int.ediv_one] at *)
  rw [e2]
  omega
theorem field0_16X_ok (w : Int) (h0 : InK .u32 w) : PureSem Tryd.prog 27 [.int .u32 w, .lit .i64 0, .lit .i64 16] (.int .i64 (w % 65536)) := by
  refine pure_intro mixed (cx_ipf_ok (fun _ => none) (fun _ => none)) Tryd.func27 1000 rfl rfl ?_
  refine of_nf (p := ((0 : Int) ≤ bits BinOp.and IntKind.u32 (w / (1 : Int)) (65535 : Int) ∧ bits BinOp.and IntKind.u32 (w / (1 : Int)) (65535 : Int) < (4294967296 : Int)) ∧ bits BinOp.and IntKind.u32 (w / (1 : Int)) (65535 : Int) = w % (65536 : Int)) (by kernel_rfl) ?_
  simp only [InK] at h0
  have e1 : 0 ≤ w / 1 ∧ w / 1 < 4294967296 := by omega
  have e2 := and_mask (x := w / 1) (m := 65535) 16 (by decide) (by decide) e1
  simp only [Int.reduceAdd] at e2
  (try simp only [Int.ediv_one] at *)
  rw [e2]
  omega
def c_field05 : List SV → Option (List Prop × SV)
  | [.int .u32 w, .int .i64 lo, .int .i64 n] =>
    bif decide (lo = 26) && decide (n = 6) then some ([InK .u32 w], .int .i64 (w / 67108864)) else bif decide (lo = 22) && decide (n = 4) then some ([InK .u32 w], .int .i64 (w / 4194304 % 16)) else bif decide (lo = 22) && decide (n = 3) then some ([InK .u32 w], .int .i64 (w / 4194304 % 8)) else bif decide (lo = 18) && decide (n = 4) then some ([InK .u32 w], .int .i64 (w / 262144 % 16)) else bif decide (lo = 14) && decide (n = 4) then some ([InK .u32 w], .int .i64 (w / 16384 % 16)) else bif decide (lo = 0) && decide (n = 16) then some ([InK .u32 w], .int .i64 (w % 65536)) else none
  | _ => none
theorem c_field05_e : PEntry Tryd.prog 27 c_field05 := by
  refine ⟨callFunc_ok Tryd.func27 (by kernel_rfl) (by kernel_rfl), fun args ps v h hp => ?_⟩
  unfold c_field05 at h
  split at h
  · rename_i w lo n
    rcases cond_some h with ⟨e, h9⟩ | ⟨e, h9⟩ <;> clear h
    · cases h9
      obtain ⟨rfl, rfl⟩ : lo = 26 ∧ n = 6 := by simpa using e
      exact (field26_6X_ok w (hp _ (by simp))).soft fun _ _ _ => ⟨trivial, trivial, trivial, trivial⟩
    have h := h9
    clear h9
    rcases cond_some h with ⟨e, h9⟩ | ⟨e, h9⟩ <;> clear h
    · cases h9
      obtain ⟨rfl, rfl⟩ : lo = 22 ∧ n = 4 := by simpa using e
      exact (field22_4X_ok w (hp _ (by simp))).soft fun _ _ _ => ⟨trivial, trivial, trivial, trivial⟩
    have h := h9
    clear h9
    rcases cond_some h with ⟨e, h9⟩ | ⟨e, h9⟩ <;> clear h
    · cases h9
      obtain ⟨rfl, rfl⟩ : lo = 22 ∧ n = 3 := by simpa using e
      exact (field22_3X_ok w (hp _ (by simp))).soft fun _ _ _ => ⟨trivial, trivial, trivial, trivial⟩
    have h := h9
    clear h9
    rcases cond_some h with ⟨e, h9⟩ | ⟨e, h9⟩ <;> clear h
    · cases h9
      obtain ⟨rfl, rfl⟩ : lo = 18 ∧ n = 4 := by simpa using e
      exact (field18_4X_ok w (hp _ (by simp))).soft fun _ _ _ => ⟨trivial, trivial, trivial, trivial⟩
    have h := h9
    clear h9
    rcases cond_some h with ⟨e, h9⟩ | ⟨e, h9⟩ <;> clear h
    · cases h9
      obtain ⟨rfl, rfl⟩ : lo = 14 ∧ n = 4 := by simpa using e
      exact (field14_4X_ok w (hp _ (by simp))).soft fun _ _ _ => ⟨trivial, trivial, trivial, trivial⟩
    have h := h9
    clear h9
    rcases cond_some h with ⟨e, h9⟩ | ⟨e, h9⟩ <;> clear h
    · cases h9
      obtain ⟨rfl, rfl⟩ : lo = 0 ∧ n = 16 := by simpa using e
      exact (field0_16X_ok w (hp _ (by simp))).soft fun _ _ _ => ⟨trivial, trivial, trivial, trivial⟩
    have h := h9
    clear h9
    cases h
  · cases h
def c_DecodeT_au : List SV → Option (List Prop × SV)
  | [.int .u32 w] => some ([InK .u32 w, OkW w, w / 67108864 = 1 ∨ w / 67108864 = 2], .tup [.agg [.int .i64 (w / 67108864), .int .i64 (0), .int .i64 (w / 4194304 % 16), .int .i64 (0), .int .i64 (0), .int .i32 (w % 65536)], .int .i64 0])
  | _ => none
theorem c_DecodeT_au_e : PEntry Tryd.prog 25 c_DecodeT_au := by
  refine ⟨callFunc_ok Tryd.func25 (by kernel_rfl) (by kernel_rfl), fun args ps v h hp => ?_⟩
  unfold c_DecodeT_au at h
  split at h
  · rename_i w
    cases h
    have h1 : OkW w := hp _ (List.mem_of_getElem? (i := 1) rfl)
    have h1 := h1.out
    have h2 := hp _ (List.mem_of_getElem? (i := 2) rfl)
    exact (Decode_ok w (hp _ (List.mem_of_getElem? (i := 0) rfl))).as (by rw [h1, dK_au h2, dA_au h2, dB_au h2, dC_au h2, dI_au h2]; rfl)
  · cases h
noncomputable def pt_iplau : List (Nat × (List SV → Option (List Prop × SV))) := [(15, c_num05), (8, c_one05), (27, c_field05), (25, c_DecodeT_au), (16, c_Shape_au)]
theorem pt_iplau_ok : PureOK Tryd.prog (fun f => List.lookup f pt_iplau) := pure_list pt_iplau ⟨c_num05_e, c_one05_e, c_field05_e, c_DecodeT_au_e, c_Shape_au_e, trivial⟩
noncomputable abbrev cx_iplau (must : Nat → Option Bool := fun _ => none) (loop : Nat → Option LoopSpec := fun _ => none) : Ctx := ⟨tab, inl tab (fun f => List.lookup f pt_iplau) fns (fun _ => {}) 1000 4, fun f => List.lookup f pt_iplau, must, loop, 0, 0⟩
theorem cx_iplau_ok (must : Nat → Option Bool) (loop : Nat → Option LoopSpec) : CxOK Tryd.prog (cx_iplau must loop) := inl_ok mixed tab_ok pt_iplau_ok fns_ok 4 _ _ _ _
theorem Places_auX_ok (w : Int) (h0 : InK .u32 w) (h1 : okW w = true) (h2 : w / 67108864 = 1 ∨ w / 67108864 = 2) : PureSem Tryd.prog 6 [.int .u32 w] (.bool true) := by
  refine pure_intro mixed (cx_iplau_ok (ml [44, 48, 58, 62, 72, 76, 86, 90, 100, 113, 118, 117, 122, 128, 133] [16, 24, 126]) (fun _ => none)) Tryd.func6 1000 rfl rfl ?_
  refine of_nf (p := ((0 : Int) ≤ w ∧ w < (4294967296 : Int)) ∧ OkW w ∧ (w / (67108864 : Int) = (1 : Int) ∨ w / (67108864 : Int) = (2 : Int)) ∧ false = false ∧ ((0 : Int) ≤ w ∧ w < (4294967296 : Int)) ∧ (w / (67108864 : Int) != w / (67108864 : Int)) = false ∧ ((-9223372036854775808 : Int) ≤ w / (67108864 : Int) ∧ w / (67108864 : Int) < (9223372036854775808 : Int)) ∧ (w / (67108864 : Int) = (1 : Int) ∨ w / (67108864 : Int) = (2 : Int)) ∧ (true = true → (0 : Int) ≤ (0 : Int) ∧ (0 : Int) < (2 : Int) ∧ ((0 : Int) ≤ w ∧ w < (4294967296 : Int)) ∧ (w / (4194304 : Int) % (16 : Int) == w / (4194304 : Int) % (16 : Int)) = true ∧ (!decide (w / (4194304 : Int) % (16 : Int) ≤ (14 : Int))) = false ∧ (true = true → (0 : Int) ≤ (1 : Int) ∧ (1 : Int) < (2 : Int) ∧ ((0 : Int) ≤ w ∧ w < (4294967296 : Int)) ∧ ((-2147483648 : Int) ≤ w % (65536 : Int) ∧ w % (65536 : Int) < (2147483648 : Int)) ∧ (!w % (65536 : Int) == w % (65536 : Int)) = false ∧ (false = true → (0 : Int) ≤ (2 : Int) ∧ (2 : Int) < (2 : Int) ∧ false = true) ∧ (false = false → ((bits BinOp.andNot IntKind.u32 (bits BinOp.andNot IntKind.u32 (bits BinOp.andNot IntKind.u32 w (4227858432 : Int)) (62914560 : Int)) (65535 : Int) == (0 : Int)) = true → true = true) ∧ ((bits BinOp.andNot IntKind.u32 (bits BinOp.andNot IntKind.u32 (bits BinOp.andNot IntKind.u32 w (4227858432 : Int)) (62914560 : Int)) (65535 : Int) == (0 : Int)) = false → false = true))) ∧ (true = false → ((bits BinOp.andNot IntKind.u32 (bits BinOp.andNot IntKind.u32 w (4227858432 : Int)) (62914560 : Int) == (0 : Int)) = true → true = true) ∧ ((bits BinOp.andNot IntKind.u32 (bits BinOp.andNot IntKind.u32 w (4227858432 : Int)) (62914560 : Int) == (0 : Int)) = false → false = true))) ∧ (true = false → ((bits BinOp.andNot IntKind.u32 w (4227858432 : Int) == (0 : Int)) = true → true = true) ∧ ((bits BinOp.andNot IntKind.u32 w (4227858432 : Int) == (0 : Int)) = false → false = true))) (by kernel_rfl) ?_
  have kk := ok_au h0 h2 h1
  simp only [InK] at *
  have xx := extS_in w
  have x2 : IntKind.i16.wrap (IntKind.u16.wrap w) = extS w := by unfold extS IntKind.wrap; simp [IntKind.bits, IntKind.signed]; split <;> (split <;> omega)
  have x3 : IntKind.i16.wrap (extS w) = extS w := wrap_in (k := .i16) (by simp only [InK]; omega)
  simp (disch := omega) only [aN26, aN22_4, aN22_3, aN18_4, aN14_4, aN0_16, x2, x3, Int.ediv_one]
  repeat' (first | with_reducible rfl | apply And.intro | intro _h | apply Exists.intro)
  all_goals (first | exact ⟨h1⟩ | omega | (simp; done) | (simp; omega) | (exfalso; simp only [beq_eq_false_iff_ne, ne_eq] at *; first | omega | (simp at *; done)) | (simp at *; done) | (simp at *; omega))
def c_DecodeT_ab : List SV → Option (List Prop × SV)
  | [.int .u32 w] => some ([InK .u32 w, OkW w, w / 67108864 = 3 ∨ w / 67108864 = 19], .tup [.agg [.int .i64 (w / 67108864), .int .i64 (0), .int .i64 (w / 4194304 % 16), .int .i64 (w / 262144 % 16), .int .i64 (0), .int .i32 (0)], .int .i64 0])
  | _ => none
theorem c_DecodeT_ab_e : PEntry Tryd.prog 25 c_DecodeT_ab := by
  refine ⟨callFunc_ok Tryd.func25 (by kernel_rfl) (by kernel_rfl), fun args ps v h hp => ?_⟩
  unfold c_DecodeT_ab at h
  split at h
  · rename_i w
    cases h
    have h1 : OkW w := hp _ (List.mem_of_getElem? (i := 1) rfl)
    have h1 := h1.out
    have h2 := hp _ (List.mem_of_getElem? (i := 2) rfl)
    exact (Decode_ok w (hp _ (List.mem_of_getElem? (i := 0) rfl))).as (by rw [h1, dK_ab h2, dA_ab h2, dB_ab h2, dC_ab h2, dI_ab h2]; rfl)
  · cases h
noncomputable def pt_iplab : List (Nat × (List SV → Option (List Prop × SV))) := [(15, c_num05), (8, c_one05), (27, c_field05), (25, c_DecodeT_ab), (16, c_Shape_ab)]
theorem pt_iplab_ok : PureOK Tryd.prog (fun f => List.lookup f pt_iplab) := pure_list pt_iplab ⟨c_num05_e, c_one05_e, c_field05_e, c_DecodeT_ab_e, c_Shape_ab_e, trivial⟩
noncomputable abbrev cx_iplab (must : Nat → Option Bool := fun _ => none) (loop : Nat → Option LoopSpec := fun _ => none) : Ctx := ⟨tab, inl tab (fun f => List.lookup f pt_iplab) fns (fun _ => {}) 1000 4, fun f => List.lookup f pt_iplab, must, loop, 0, 0⟩
theorem cx_iplab_ok (must : Nat → Option Bool) (loop : Nat → Option LoopSpec) : CxOK Tryd.prog (cx_iplab must loop) := inl_ok mixed tab_ok pt_iplab_ok fns_ok 4 _ _ _ _
theorem Places_abX_ok (w : Int) (h0 : InK .u32 w) (h1 : okW w = true) (h2 : w / 67108864 = 3 ∨ w / 67108864 = 19) : PureSem Tryd.prog 6 [.int .u32 w] (.bool true) := by
  refine pure_intro mixed (cx_iplab_ok (ml [44, 48, 58, 62, 72, 76, 86, 90, 100, 113, 118, 117, 122, 128, 133] [16, 24, 126]) (fun _ => none)) Tryd.func6 1000 rfl rfl ?_
  refine of_nf (p := ((0 : Int) ≤ w ∧ w < (4294967296 : Int)) ∧ OkW w ∧ (w / (67108864 : Int) = (3 : Int) ∨ w / (67108864 : Int) = (19 : Int)) ∧ false = false ∧ ((0 : Int) ≤ w ∧ w < (4294967296 : Int)) ∧ (w / (67108864 : Int) != w / (67108864 : Int)) = false ∧ ((-9223372036854775808 : Int) ≤ w / (67108864 : Int) ∧ w / (67108864 : Int) < (9223372036854775808 : Int)) ∧ (w / (67108864 : Int) = (3 : Int) ∨ w / (67108864 : Int) = (19 : Int)) ∧ (true = true → (0 : Int) ≤ (0 : Int) ∧ (0 : Int) < (2 : Int) ∧ ((0 : Int) ≤ w ∧ w < (4294967296 : Int)) ∧ (w / (4194304 : Int) % (16 : Int) == w / (4194304 : Int) % (16 : Int)) = true ∧ (!decide (w / (4194304 : Int) % (16 : Int) ≤ (14 : Int))) = false ∧ (true = true → (0 : Int) ≤ (1 : Int) ∧ (1 : Int) < (2 : Int) ∧ ((0 : Int) ≤ w ∧ w < (4294967296 : Int)) ∧ (w / (262144 : Int) % (16 : Int) == w / (262144 : Int) % (16 : Int)) = true ∧ (!decide (w / (262144 : Int) % (16 : Int) ≤ (14 : Int))) = false ∧ (false = true → (0 : Int) ≤ (2 : Int) ∧ (2 : Int) < (2 : Int) ∧ false = true) ∧ (false = false → ((bits BinOp.andNot IntKind.u32 (bits BinOp.andNot IntKind.u32 (bits BinOp.andNot IntKind.u32 w (4227858432 : Int)) (62914560 : Int)) (3932160 : Int) == (0 : Int)) = true → true = true) ∧ ((bits BinOp.andNot IntKind.u32 (bits BinOp.andNot IntKind.u32 (bits BinOp.andNot IntKind.u32 w (4227858432 : Int)) (62914560 : Int)) (3932160 : Int) == (0 : Int)) = false → false = true))) ∧ (true = false → ((bits BinOp.andNot IntKind.u32 (bits BinOp.andNot IntKind.u32 w (4227858432 : Int)) (62914560 : Int) == (0 : Int)) = true → true = true) ∧ ((bits BinOp.andNot IntKind.u32 (bits BinOp.andNot IntKind.u32 w (4227858432 : Int)) (62914560 : Int) == (0 : Int)) = false → false = true))) ∧ (true = false → ((bits BinOp.andNot IntKind.u32 w (4227858432 : Int) == (0 : Int)) = true → true = true) ∧ ((bits BinOp.andNot IntKind.u32 w (4227858432 : Int) == (0 : Int)) = false → false = true))) (by kernel_rfl) ?_
  have kk := ok_ab h0 h2 h1
  simp only [InK] at *
  have xx := extS_in w
  have x2 : IntKind.i16.wrap (IntKind.u16.wrap w) = extS w := by unfold extS IntKind.wrap; simp [IntKind.bits, IntKind.signed]; split <;> (split <;> omega)
  have x3 : IntKind.i16.wrap (extS w) = extS w := wrap_in (k := .i16) (by simp only [InK]; omega)
  simp (disch := omega) only [aN26, aN22_4, aN22_3, aN18_4, aN14_4, aN0_16, x2, x3, Int.ediv_one]
  repeat' (first | with_reducible rfl | apply And.intro | intro _h | apply Exists.intro)
  all_goals (first | exact ⟨h1⟩ | omega | (simp; done) | (simp; omega) | (exfalso; simp only [beq_eq_false_iff_ne, ne_eq] at *; first | omega | (simp at *; done)) | (simp at *; done) | (simp at *; omega))
def c_DecodeT_abc : List SV → Option (List Prop × SV)
  | [.int .u32 w] => some ([InK .u32 w, OkW w, w / 67108864 = 4 ∨ w / 67108864 = 5 ∨ w / 67108864 = 6 ∨ w / 67108864 = 7 ∨ w / 67108864 = 8 ∨ w / 67108864 = 9 ∨ w / 67108864 = 10 ∨ w / 67108864 = 11 ∨ w / 67108864 = 12 ∨ w / 67108864 = 13 ∨ w / 67108864 = 17 ∨ w / 67108864 = 18], .tup [.agg [.int .i64 (w / 67108864), .int .i64 (0), .int .i64 (w / 4194304 % 16), .int .i64 (w / 262144 % 16), .int .i64 (w / 16384 % 16), .int .i32 (0)], .int .i64 0])
  | _ => none
theorem c_DecodeT_abc_e : PEntry Tryd.prog 25 c_DecodeT_abc := by
  refine ⟨callFunc_ok Tryd.func25 (by kernel_rfl) (by kernel_rfl), fun args ps v h hp => ?_⟩
  unfold c_DecodeT_abc at h
  split at h
  · rename_i w
    cases h
    have h1 : OkW w := hp _ (List.mem_of_getElem? (i := 1) rfl)
    have h1 := h1.out
    have h2 := hp _ (List.mem_of_getElem? (i := 2) rfl)
    exact (Decode_ok w (hp _ (List.mem_of_getElem? (i := 0) rfl))).as (by rw [h1, dK_abc h2, dA_abc h2, dB_abc h2, dC_abc h2, dI_abc h2]; rfl)
  · cases h
noncomputable def pt_iplabc : List (Nat × (List SV → Option (List Prop × SV))) := [(15, c_num05), (8, c_one05), (27, c_field05), (25, c_DecodeT_abc), (16, c_Shape_abc)]
theorem pt_iplabc_ok : PureOK Tryd.prog (fun f => List.lookup f pt_iplabc) := pure_list pt_iplabc ⟨c_num05_e, c_one05_e, c_field05_e, c_DecodeT_abc_e, c_Shape_abc_e, trivial⟩
noncomputable abbrev cx_iplabc (must : Nat → Option Bool := fun _ => none) (loop : Nat → Option LoopSpec := fun _ => none) : Ctx := ⟨tab, inl tab (fun f => List.lookup f pt_iplabc) fns (fun _ => {}) 1000 4, fun f => List.lookup f pt_iplabc, must, loop, 0, 0⟩
theorem cx_iplabc_ok (must : Nat → Option Bool) (loop : Nat → Option LoopSpec) : CxOK Tryd.prog (cx_iplabc must loop) := inl_ok mixed tab_ok pt_iplabc_ok fns_ok 4 _ _ _ _
theorem Places_abcX_ok (w : Int) (h0 : InK .u32 w) (h1 : okW w = true) (h2 : w / 67108864 = 4 ∨ w / 67108864 = 5 ∨ w / 67108864 = 6 ∨ w / 67108864 = 7 ∨ w / 67108864 = 8 ∨ w / 67108864 = 9 ∨ w / 67108864 = 10 ∨ w / 67108864 = 11 ∨ w / 67108864 = 12 ∨ w / 67108864 = 13 ∨ w / 67108864 = 17 ∨ w / 67108864 = 18) : PureSem Tryd.prog 6 [.int .u32 w] (.bool true) := by
  refine pure_intro mixed (cx_iplabc_ok (ml [44, 48, 58, 62, 72, 76, 86, 90, 100, 113, 118, 117, 122, 128, 133] [16, 24, 126]) (fun _ => none)) Tryd.func6 1000 rfl rfl ?_
  refine of_nf (p := ((0 : Int) ≤ w ∧ w < (4294967296 : Int)) ∧ OkW w ∧ (w / (67108864 : Int) = (4 : Int) ∨ w / (67108864 : Int) = (5 : Int) ∨ w / (67108864 : Int) = (6 : Int) ∨ w / (67108864 : Int) = (7 : Int) ∨ w / (67108864 : Int) = (8 : Int) ∨ w / (67108864 : Int) = (9 : Int) ∨ w / (67108864 : Int) = (10 : Int) ∨ w / (67108864 : Int) = (11 : Int) ∨ w / (67108864 : Int) = (12 : Int) ∨ w / (67108864 : Int) = (13 : Int) ∨ w / (67108864 : Int) = (17 : Int) ∨ w / (67108864 : Int) = (18 : Int)) ∧ false = false ∧ ((0 : Int) ≤ w ∧ w < (4294967296 : Int)) ∧ (w / (67108864 : Int) != w / (67108864 : Int)) = false ∧ ((-9223372036854775808 : Int) ≤ w / (67108864 : Int) ∧ w / (67108864 : Int) < (9223372036854775808 : Int)) ∧ (w / (67108864 : Int) = (4 : Int) ∨ w / (67108864 : Int) = (5 : Int) ∨ w / (67108864 : Int) = (6 : Int) ∨ w / (67108864 : Int) = (7 : Int) ∨ w / (67108864 : Int) = (8 : Int) ∨ w / (67108864 : Int) = (9 : Int) ∨ w / (67108864 : Int) = (10 : Int) ∨ w / (67108864 : Int) = (11 : Int) ∨ w / (67108864 : Int) = (12 : Int) ∨ w / (67108864 : Int) = (13 : Int) ∨ w / (67108864 : Int) = (17 : Int) ∨ w / (67108864 : Int) = (18 : Int)) ∧ (true = true → (0 : Int) ≤ (0 : Int) ∧ (0 : Int) < (3 : Int) ∧ ((0 : Int) ≤ w ∧ w < (4294967296 : Int)) ∧ (w / (4194304 : Int) % (16 : Int) == w / (4194304 : Int) % (16 : Int)) = true ∧ (!decide (w / (4194304 : Int) % (16 : Int) ≤ (14 : Int))) = false ∧ (true = true → (0 : Int) ≤ (1 : Int) ∧ (1 : Int) < (3 : Int) ∧ ((0 : Int) ≤ w ∧ w < (4294967296 : Int)) ∧ (w / (262144 : Int) % (16 : Int) == w / (262144 : Int) % (16 : Int)) = true ∧ (!decide (w / (262144 : Int) % (16 : Int) ≤ (14 : Int))) = false ∧ (true = true → (0 : Int) ≤ (2 : Int) ∧ (2 : Int) < (3 : Int) ∧ ((0 : Int) ≤ w ∧ w < (4294967296 : Int)) ∧ (w / (16384 : Int) % (16 : Int) == w / (16384 : Int) % (16 : Int)) = true ∧ (!decide (w / (16384 : Int) % (16 : Int) ≤ (14 : Int))) = false ∧ (false = true → (0 : Int) ≤ (3 : Int) ∧ (3 : Int) < (3 : Int) ∧ false = true) ∧ (false = false → ((bits BinOp.andNot IntKind.u32 (bits BinOp.andNot IntKind.u32 (bits BinOp.andNot IntKind.u32 (bits BinOp.andNot IntKind.u32 w (4227858432 : Int)) (62914560 : Int)) (3932160 : Int)) (245760 : Int) == (0 : Int)) = true → true = true) ∧ ((bits BinOp.andNot IntKind.u32 (bits BinOp.andNot IntKind.u32 (bits BinOp.andNot IntKind.u32 (bits BinOp.andNot IntKind.u32 w (4227858432 : Int)) (62914560 : Int)) (3932160 : Int)) (245760 : Int) == (0 : Int)) = false → false = true))) ∧ (true = false → ((bits BinOp.andNot IntKind.u32 (bits BinOp.andNot IntKind.u32 (bits BinOp.andNot IntKind.u32 w (4227858432 : Int)) (62914560 : Int)) (3932160 : Int) == (0 : Int)) = true → true = true) ∧ ((bits BinOp.andNot IntKind.u32 (bits BinOp.andNot IntKind.u32 (bits BinOp.andNot IntKind.u32 w (4227858432 : Int)) (62914560 : Int)) (3932160 : Int) == (0 : Int)) = false → false = true))) ∧ (true = false → ((bits BinOp.andNot IntKind.u32 (bits BinOp.andNot IntKind.u32 w (4227858432 : Int)) (62914560 : Int) == (0 : Int)) = true → true = true) ∧ ((bits BinOp.andNot IntKind.u32 (bits BinOp.andNot IntKind.u32 w (4227858432 : Int)) (62914560 : Int) == (0 : Int)) = false → false = true))) ∧ (true = false → ((bits BinOp.andNot IntKind.u32 w (4227858432 : Int) == (0 : Int)) = true → true = true) ∧ ((bits BinOp.andNot IntKind.u32 w (4227858432 : Int) == (0 : Int)) = false → false = true))) (by kernel_rfl) ?_
  have kk := ok_abc h0 h2 h1
  simp only [InK] at *
  have xx := extS_in w
  have x2 : IntKind.i16.wrap (IntKind.u16.wrap w) = extS w := by unfold extS IntKind.wrap; simp [IntKind.bits, IntKind.signed]; split <;> (split <;> omega)
  have x3 : IntKind.i16.wrap (extS w) = extS w := wrap_in (k := .i16) (by simp only [InK]; omega)
  simp (disch := omega) only [aN26, aN22_4, aN22_3, aN18_4, aN14_4, aN0_16, x2, x3, Int.ediv_one]
  repeat' (first | with_reducible rfl | apply And.intro | intro _h | apply Exists.intro)
  all_goals (first | exact ⟨h1⟩ | omega | (simp; done) | (simp; omega) | (exfalso; simp only [beq_eq_false_iff_ne, ne_eq] at *; first | omega | (simp at *; done)) | (simp at *; done) | (simp at *; omega))
def c_DecodeT_abs : List SV → Option (List Prop × SV)
  | [.int .u32 w] => some ([InK .u32 w, OkW w, w / 67108864 = 14 ∨ w / 67108864 = 15 ∨ w / 67108864 = 16], .tup [.agg [.int .i64 (w / 67108864), .int .i64 (0), .int .i64 (w / 4194304 % 16), .int .i64 (w / 262144 % 16), .int .i64 (0), .int .i32 (extS w)], .int .i64 0])
  | _ => none
theorem c_DecodeT_abs_e : PEntry Tryd.prog 25 c_DecodeT_abs := by
  refine ⟨callFunc_ok Tryd.func25 (by kernel_rfl) (by kernel_rfl), fun args ps v h hp => ?_⟩
  unfold c_DecodeT_abs at h
  split at h
  · rename_i w
    cases h
    have h1 : OkW w := hp _ (List.mem_of_getElem? (i := 1) rfl)
    have h1 := h1.out
    have h2 := hp _ (List.mem_of_getElem? (i := 2) rfl)
    exact (Decode_ok w (hp _ (List.mem_of_getElem? (i := 0) rfl))).as (by rw [h1, dK_abs h2, dA_abs h2, dB_abs h2, dC_abs h2, dI_abs h2]; rfl)
  · cases h
noncomputable def pt_iplabs : List (Nat × (List SV → Option (List Prop × SV))) := [(15, c_num05), (8, c_one05), (27, c_field05), (25, c_DecodeT_abs), (16, c_Shape_abs)]
theorem pt_iplabs_ok : PureOK Tryd.prog (fun f => List.lookup f pt_iplabs) := pure_list pt_iplabs ⟨c_num05_e, c_one05_e, c_field05_e, c_DecodeT_abs_e, c_Shape_abs_e, trivial⟩
noncomputable abbrev cx_iplabs (must : Nat → Option Bool := fun _ => none) (loop : Nat → Option LoopSpec := fun _ => none) : Ctx := ⟨tab, inl tab (fun f => List.lookup f pt_iplabs) fns (fun _ => {}) 1000 4, fun f => List.lookup f pt_iplabs, must, loop, 0, 0⟩
theorem cx_iplabs_ok (must : Nat → Option Bool) (loop : Nat → Option LoopSpec) : CxOK Tryd.prog (cx_iplabs must loop) := inl_ok mixed tab_ok pt_iplabs_ok fns_ok 4 _ _ _ _
theorem Places_absX_ok (w : Int) (h0 : InK .u32 w) (h1 : okW w = true) (h2 : w / 67108864 = 14 ∨ w / 67108864 = 15 ∨ w / 67108864 = 16) : PureSem Tryd.prog 6 [.int .u32 w] (.bool true) := by
  refine pure_intro mixed (cx_iplabs_ok (ml [44, 48, 58, 62, 72, 76, 86, 90, 100, 113, 118, 117, 122, 128, 133] [16, 24, 126]) (fun _ => none)) Tryd.func6 1000 rfl rfl ?_
  refine of_nf (p := ((0 : Int) ≤ w ∧ w < (4294967296 : Int)) ∧ OkW w ∧ (w / (67108864 : Int) = (14 : Int) ∨ w / (67108864 : Int) = (15 : Int) ∨ w / (67108864 : Int) = (16 : Int)) ∧ false = false ∧ ((0 : Int) ≤ w ∧ w < (4294967296 : Int)) ∧ (w / (67108864 : Int) != w / (67108864 : Int)) = false ∧ ((-9223372036854775808 : Int) ≤ w / (67108864 : Int) ∧ w / (67108864 : Int) < (9223372036854775808 : Int)) ∧ (w / (67108864 : Int) = (14 : Int) ∨ w / (67108864 : Int) = (15 : Int) ∨ w / (67108864 : Int) = (16 : Int)) ∧ (true = true → (0 : Int) ≤ (0 : Int) ∧ (0 : Int) < (3 : Int) ∧ ((0 : Int) ≤ w ∧ w < (4294967296 : Int)) ∧ (w / (4194304 : Int) % (16 : Int) == w / (4194304 : Int) % (16 : Int)) = true ∧ (!decide (w / (4194304 : Int) % (16 : Int) ≤ (14 : Int))) = false ∧ (true = true → (0 : Int) ≤ (1 : Int) ∧ (1 : Int) < (3 : Int) ∧ ((0 : Int) ≤ w ∧ w < (4294967296 : Int)) ∧ (w / (262144 : Int) % (16 : Int) == w / (262144 : Int) % (16 : Int)) = true ∧ (!decide (w / (262144 : Int) % (16 : Int) ≤ (14 : Int))) = false ∧ (true = true → (0 : Int) ≤ (2 : Int) ∧ (2 : Int) < (3 : Int) ∧ (IntKind.i16.wrap (IntKind.u16.wrap w) == IntKind.i16.wrap (extS w)) = true ∧ decide ((-32768 : Int) ≤ extS w) = true ∧ (!decide (extS w ≤ (32767 : Int))) = false ∧ (false = true → (0 : Int) ≤ (3 : Int) ∧ (3 : Int) < (3 : Int) ∧ false = true) ∧ (false = false → ((bits BinOp.andNot IntKind.u32 (bits BinOp.andNot IntKind.u32 (bits BinOp.andNot IntKind.u32 (bits BinOp.andNot IntKind.u32 w (4227858432 : Int)) (62914560 : Int)) (3932160 : Int)) (65535 : Int) == (0 : Int)) = true → true = true) ∧ ((bits BinOp.andNot IntKind.u32 (bits BinOp.andNot IntKind.u32 (bits BinOp.andNot IntKind.u32 (bits BinOp.andNot IntKind.u32 w (4227858432 : Int)) (62914560 : Int)) (3932160 : Int)) (65535 : Int) == (0 : Int)) = false → false = true))) ∧ (true = false → ((bits BinOp.andNot IntKind.u32 (bits BinOp.andNot IntKind.u32 (bits BinOp.andNot IntKind.u32 w (4227858432 : Int)) (62914560 : Int)) (3932160 : Int) == (0 : Int)) = true → true = true) ∧ ((bits BinOp.andNot IntKind.u32 (bits BinOp.andNot IntKind.u32 (bits BinOp.andNot IntKind.u32 w (4227858432 : Int)) (62914560 : Int)) (3932160 : Int) == (0 : Int)) = false → false = true))) ∧ (true = false → ((bits BinOp.andNot IntKind.u32 (bits BinOp.andNot IntKind.u32 w (4227858432 : Int)) (62914560 : Int) == (0 : Int)) = true → true = true) ∧ ((bits BinOp.andNot IntKind.u32 (bits BinOp.andNot IntKind.u32 w (4227858432 : Int)) (62914560 : Int) == (0 : Int)) = false → false = true))) ∧ (true = false → ((bits BinOp.andNot IntKind.u32 w (4227858432 : Int) == (0 : Int)) = true → true = true) ∧ ((bits BinOp.andNot IntKind.u32 w (4227858432 : Int) == (0 : Int)) = false → false = true))) (by kernel_rfl) ?_
  have kk := ok_abs h0 h2 h1
  simp only [InK] at *
  have xx := extS_in w
  have x2 : IntKind.i16.wrap (IntKind.u16.wrap w) = extS w := by unfold extS IntKind.wrap; simp [IntKind.bits, IntKind.signed]; split <;> (split <;> omega)
  have x3 : IntKind.i16.wrap (extS w) = extS w := wrap_in (k := .i16) (by simp only [InK]; omega)
  simp (disch := omega) only [aN26, aN22_4, aN22_3, aN18_4, aN14_4, aN0_16, x2, x3, Int.ediv_one]
  repeat' (first | with_reducible rfl | apply And.intro | intro _h | apply Exists.intro)
  all_goals (first | exact ⟨h1⟩ | omega | (simp; done) | (simp; omega) | (exfalso; simp only [beq_eq_false_iff_ne, ne_eq] at *; first | omega | (simp at *; done)) | (simp at *; done) | (simp at *; omega))
def c_DecodeT_as : List SV → Option (List Prop × SV)
  | [.int .u32 w] => some ([InK .u32 w, OkW w, w / 67108864 = 20], .tup [.agg [.int .i64 (w / 67108864), .int .i64 (0), .int .i64 (w / 4194304 % 16), .int .i64 (0), .int .i64 (0), .int .i32 (extS w)], .int .i64 0])
  | _ => none
theorem c_DecodeT_as_e : PEntry Tryd.prog 25 c_DecodeT_as := by
  refine ⟨callFunc_ok Tryd.func25 (by kernel_rfl) (by kernel_rfl), fun args ps v h hp => ?_⟩
  unfold c_DecodeT_as at h
  split at h
  · rename_i w
    cases h
    have h1 : OkW w := hp _ (List.mem_of_getElem? (i := 1) rfl)
    have h1 := h1.out
    have h2 := hp _ (List.mem_of_getElem? (i := 2) rfl)
    exact (Decode_ok w (hp _ (List.mem_of_getElem? (i := 0) rfl))).as (by rw [h1, dK_as h2, dA_as h2, dB_as h2, dC_as h2, dI_as h2]; rfl)
  · cases h
noncomputable def pt_iplas : List (Nat × (List SV → Option (List Prop × SV))) := [(15, c_num05), (8, c_one05), (27, c_field05), (25, c_DecodeT_as), (16, c_Shape_as)]
theorem pt_iplas_ok : PureOK Tryd.prog (fun f => List.lookup f pt_iplas) := pure_list pt_iplas ⟨c_num05_e, c_one05_e, c_field05_e, c_DecodeT_as_e, c_Shape_as_e, trivial⟩
noncomputable abbrev cx_iplas (must : Nat → Option Bool := fun _ => none) (loop : Nat → Option LoopSpec := fun _ => none) : Ctx := ⟨tab, inl tab (fun f => List.lookup f pt_iplas) fns (fun _ => {}) 1000 4, fun f => List.lookup f pt_iplas, must, loop, 0, 0⟩
theorem cx_iplas_ok (must : Nat → Option Bool) (loop : Nat → Option LoopSpec) : CxOK Tryd.prog (cx_iplas must loop) := inl_ok mixed tab_ok pt_iplas_ok fns_ok 4 _ _ _ _
theorem Places_asX_ok (w : Int) (h0 : InK .u32 w) (h1 : okW w = true) (h2 : w / 67108864 = 20) : PureSem Tryd.prog 6 [.int .u32 w] (.bool true) := by
  refine pure_intro mixed (cx_iplas_ok (ml [44, 48, 58, 62, 72, 76, 86, 90, 100, 113, 118, 117, 122, 128, 133] [16, 24, 126]) (fun _ => none)) Tryd.func6 1000 rfl rfl ?_
  refine of_nf (p := ((0 : Int) ≤ w ∧ w < (4294967296 : Int)) ∧ OkW w ∧ w / (67108864 : Int) = (20 : Int) ∧ false = false ∧ ((0 : Int) ≤ w ∧ w < (4294967296 : Int)) ∧ (w / (67108864 : Int) != w / (67108864 : Int)) = false ∧ ((-9223372036854775808 : Int) ≤ w / (67108864 : Int) ∧ w / (67108864 : Int) < (9223372036854775808 : Int)) ∧ w / (67108864 : Int) = (20 : Int) ∧ (true = true → (0 : Int) ≤ (0 : Int) ∧ (0 : Int) < (2 : Int) ∧ ((0 : Int) ≤ w ∧ w < (4294967296 : Int)) ∧ (w / (4194304 : Int) % (16 : Int) == w / (4194304 : Int) % (16 : Int)) = true ∧ (!decide (w / (4194304 : Int) % (16 : Int) ≤ (14 : Int))) = false ∧ (true = true → (0 : Int) ≤ (1 : Int) ∧ (1 : Int) < (2 : Int) ∧ (IntKind.i16.wrap (IntKind.u16.wrap w) == IntKind.i16.wrap (extS w)) = true ∧ decide ((-32768 : Int) ≤ extS w) = true ∧ (!decide (extS w ≤ (32767 : Int))) = false ∧ (false = true → (0 : Int) ≤ (2 : Int) ∧ (2 : Int) < (2 : Int) ∧ false = true) ∧ (false = false → ((bits BinOp.andNot IntKind.u32 (bits BinOp.andNot IntKind.u32 (bits BinOp.andNot IntKind.u32 w (4227858432 : Int)) (62914560 : Int)) (65535 : Int) == (0 : Int)) = true → true = true) ∧ ((bits BinOp.andNot IntKind.u32 (bits BinOp.andNot IntKind.u32 (bits BinOp.andNot IntKind.u32 w (4227858432 : Int)) (62914560 : Int)) (65535 : Int) == (0 : Int)) = false → false = true))) ∧ (true = false → ((bits BinOp.andNot IntKind.u32 (bits BinOp.andNot IntKind.u32 w (4227858432 : Int)) (62914560 : Int) == (0 : Int)) = true → true = true) ∧ ((bits BinOp.andNot IntKind.u32 (bits BinOp.andNot IntKind.u32 w (4227858432 : Int)) (62914560 : Int) == (0 : Int)) = false → false = true))) ∧ (true = false → ((bits BinOp.andNot IntKind.u32 w (4227858432 : Int) == (0 : Int)) = true → true = true) ∧ ((bits BinOp.andNot IntKind.u32 w (4227858432 : Int) == (0 : Int)) = false → false = true))) (by kernel_rfl) ?_
  have kk := ok_as h0 h2 h1
  simp only [InK] at *
  have xx := extS_in w
  have x2 : IntKind.i16.wrap (IntKind.u16.wrap w) = extS w := by unfold extS IntKind.wrap; simp [IntKind.bits, IntKind.signed]; split <;> (split <;> omega)
  have x3 : IntKind.i16.wrap (extS w) = extS w := wrap_in (k := .i16) (by simp only [InK]; omega)
  simp (disch := omega) only [aN26, aN22_4, aN22_3, aN18_4, aN14_4, aN0_16, x2, x3, Int.ediv_one]
  repeat' (first | with_reducible rfl | apply And.intro | intro _h | apply Exists.intro)
  all_goals (first | exact ⟨h1⟩ | omega | (simp; done) | (simp; omega) | (exfalso; simp only [beq_eq_false_iff_ne, ne_eq] at *; first | omega | (simp at *; done)) | (simp at *; done) | (simp at *; omega))
def c_DecodeT_ko : List SV → Option (List Prop × SV)
  | [.int .u32 w] => some ([InK .u32 w, OkW w, w / 67108864 = 21], .tup [.agg [.int .i64 (w / 67108864), .int .i64 (w / 4194304 % 8), .int .i64 (0), .int .i64 (0), .int .i64 (0), .int .i32 (extS w)], .int .i64 0])
  | _ => none
theorem c_DecodeT_ko_e : PEntry Tryd.prog 25 c_DecodeT_ko := by
  refine ⟨callFunc_ok Tryd.func25 (by kernel_rfl) (by kernel_rfl), fun args ps v h hp => ?_⟩
  unfold c_DecodeT_ko at h
  split at h
  · rename_i w
    cases h
    have h1 : OkW w := hp _ (List.mem_of_getElem? (i := 1) rfl)
    have h1 := h1.out
    have h2 := hp _ (List.mem_of_getElem? (i := 2) rfl)
    exact (Decode_ok w (hp _ (List.mem_of_getElem? (i := 0) rfl))).as (by rw [h1, dK_ko h2, dA_ko h2, dB_ko h2, dC_ko h2, dI_ko h2]; rfl)
  · cases h
noncomputable def pt_iplko : List (Nat × (List SV → Option (List Prop × SV))) := [(15, c_num05), (8, c_one05), (27, c_field05), (25, c_DecodeT_ko), (16, c_Shape_ko)]
theorem pt_iplko_ok : PureOK Tryd.prog (fun f => List.lookup f pt_iplko) := pure_list pt_iplko ⟨c_num05_e, c_one05_e, c_field05_e, c_DecodeT_ko_e, c_Shape_ko_e, trivial⟩
noncomputable abbrev cx_iplko (must : Nat → Option Bool := fun _ => none) (loop : Nat → Option LoopSpec := fun _ => none) : Ctx := ⟨tab, inl tab (fun f => List.lookup f pt_iplko) fns (fun _ => {}) 1000 4, fun f => List.lookup f pt_iplko, must, loop, 0, 0⟩
theorem cx_iplko_ok (must : Nat → Option Bool) (loop : Nat → Option LoopSpec) : CxOK Tryd.prog (cx_iplko must loop) := inl_ok mixed tab_ok pt_iplko_ok fns_ok 4 _ _ _ _
theorem Places_koX_ok (w : Int) (h0 : InK .u32 w) (h1 : okW w = true) (h2 : w / 67108864 = 21) : PureSem Tryd.prog 6 [.int .u32 w] (.bool true) := by
  refine pure_intro mixed (cx_iplko_ok (ml [44, 48, 58, 62, 72, 76, 86, 90, 100, 113, 118, 117, 122, 128, 133] [16, 24, 126]) (fun _ => none)) Tryd.func6 1000 rfl rfl ?_
  refine of_nf (p := ((0 : Int) ≤ w ∧ w < (4294967296 : Int)) ∧ OkW w ∧ w / (67108864 : Int) = (21 : Int) ∧ false = false ∧ ((0 : Int) ≤ w ∧ w < (4294967296 : Int)) ∧ (w / (67108864 : Int) != w / (67108864 : Int)) = false ∧ ((-9223372036854775808 : Int) ≤ w / (67108864 : Int) ∧ w / (67108864 : Int) < (9223372036854775808 : Int)) ∧ w / (67108864 : Int) = (21 : Int) ∧ (true = true → (0 : Int) ≤ (0 : Int) ∧ (0 : Int) < (2 : Int) ∧ ((0 : Int) ≤ w ∧ w < (4294967296 : Int)) ∧ (w / (4194304 : Int) % (8 : Int) == w / (4194304 : Int) % (8 : Int)) = true ∧ (!decide (w / (4194304 : Int) % (8 : Int) ≤ (6 : Int))) = false ∧ (true = true → (0 : Int) ≤ (1 : Int) ∧ (1 : Int) < (2 : Int) ∧ (IntKind.i16.wrap (IntKind.u16.wrap w) == IntKind.i16.wrap (extS w)) = true ∧ decide ((-32768 : Int) ≤ extS w) = true ∧ (!decide (extS w ≤ (32767 : Int))) = false ∧ (false = true → (0 : Int) ≤ (2 : Int) ∧ (2 : Int) < (2 : Int) ∧ false = true) ∧ (false = false → ((bits BinOp.andNot IntKind.u32 (bits BinOp.andNot IntKind.u32 (bits BinOp.andNot IntKind.u32 w (4227858432 : Int)) (29360128 : Int)) (65535 : Int) == (0 : Int)) = true → true = true) ∧ ((bits BinOp.andNot IntKind.u32 (bits BinOp.andNot IntKind.u32 (bits BinOp.andNot IntKind.u32 w (4227858432 : Int)) (29360128 : Int)) (65535 : Int) == (0 : Int)) = false → false = true))) ∧ (true = false → ((bits BinOp.andNot IntKind.u32 (bits BinOp.andNot IntKind.u32 w (4227858432 : Int)) (29360128 : Int) == (0 : Int)) = true → true = true) ∧ ((bits BinOp.andNot IntKind.u32 (bits BinOp.andNot IntKind.u32 w (4227858432 : Int)) (29360128 : Int) == (0 : Int)) = false → false = true))) ∧ (true = false → ((bits BinOp.andNot IntKind.u32 w (4227858432 : Int) == (0 : Int)) = true → true = true) ∧ ((bits BinOp.andNot IntKind.u32 w (4227858432 : Int) == (0 : Int)) = false → false = true))) (by kernel_rfl) ?_
  have kk := ok_ko h0 h2 h1
  simp only [InK] at *
  have xx := extS_in w
  have x2 : IntKind.i16.wrap (IntKind.u16.wrap w) = extS w := by unfold extS IntKind.wrap; simp [IntKind.bits, IntKind.signed]; split <;> (split <;> omega)
  have x3 : IntKind.i16.wrap (extS w) = extS w := wrap_in (k := .i16) (by simp only [InK]; omega)
  simp (disch := omega) only [aN26, aN22_4, aN22_3, aN18_4, aN14_4, aN0_16, x2, x3, Int.ediv_one]
  repeat' (first | with_reducible rfl | apply And.intro | intro _h | apply Exists.intro)
  all_goals (first | exact ⟨h1⟩ | omega | (simp; done) | (simp; omega) | (exfalso; simp only [beq_eq_false_iff_ne, ne_eq] at *; first | omega | (simp at *; done)) | (simp at *; done) | (simp at *; omega))
def c_DecodeT_o : List SV → Option (List Prop × SV)
  | [.int .u32 w] => some ([InK .u32 w, OkW w, w / 67108864 = 22], .tup [.agg [.int .i64 (w / 67108864), .int .i64 (0), .int .i64 (0), .int .i64 (0), .int .i64 (0), .int .i32 (extS w)], .int .i64 0])
  | _ => none
theorem c_DecodeT_o_e : PEntry Tryd.prog 25 c_DecodeT_o := by
  refine ⟨callFunc_ok Tryd.func25 (by kernel_rfl) (by kernel_rfl), fun args ps v h hp => ?_⟩
  unfold c_DecodeT_o at h
  split at h
  · rename_i w
    cases h
    have h1 : OkW w := hp _ (List.mem_of_getElem? (i := 1) rfl)
    have h1 := h1.out
    have h2 := hp _ (List.mem_of_getElem? (i := 2) rfl)
    exact (Decode_ok w (hp _ (List.mem_of_getElem? (i := 0) rfl))).as (by rw [h1, dK_o h2, dA_o h2, dB_o h2, dC_o h2, dI_o h2]; rfl)
  · cases h
noncomputable def pt_iplo : List (Nat × (List SV → Option (List Prop × SV))) := [(15, c_num05), (8, c_one05), (27, c_field05), (25, c_DecodeT_o), (16, c_Shape_o)]
theorem pt_iplo_ok : PureOK Tryd.prog (fun f => List.lookup f pt_iplo) := pure_list pt_iplo ⟨c_num05_e, c_one05_e, c_field05_e, c_DecodeT_o_e, c_Shape_o_e, trivial⟩
noncomputable abbrev cx_iplo (must : Nat → Option Bool := fun _ => none) (loop : Nat → Option LoopSpec := fun _ => none) : Ctx := ⟨tab, inl tab (fun f => List.lookup f pt_iplo) fns (fun _ => {}) 1000 4, fun f => List.lookup f pt_iplo, must, loop, 0, 0⟩
theorem cx_iplo_ok (must : Nat → Option Bool) (loop : Nat → Option LoopSpec) : CxOK Tryd.prog (cx_iplo must loop) := inl_ok mixed tab_ok pt_iplo_ok fns_ok 4 _ _ _ _
theorem Places_oX_ok (w : Int) (h0 : InK .u32 w) (h1 : okW w = true) (h2 : w / 67108864 = 22) : PureSem Tryd.prog 6 [.int .u32 w] (.bool true) := by
  refine pure_intro mixed (cx_iplo_ok (ml [44, 48, 58, 62, 72, 76, 86, 90, 100, 113, 118, 117, 122, 128, 133] [16, 24, 126]) (fun _ => none)) Tryd.func6 1000 rfl rfl ?_
  refine of_nf (p := ((0 : Int) ≤ w ∧ w < (4294967296 : Int)) ∧ OkW w ∧ w / (67108864 : Int) = (22 : Int) ∧ false = false ∧ ((0 : Int) ≤ w ∧ w < (4294967296 : Int)) ∧ (w / (67108864 : Int) != w / (67108864 : Int)) = false ∧ ((-9223372036854775808 : Int) ≤ w / (67108864 : Int) ∧ w / (67108864 : Int) < (9223372036854775808 : Int)) ∧ w / (67108864 : Int) = (22 : Int) ∧ (true = true → (0 : Int) ≤ (0 : Int) ∧ (0 : Int) < (1 : Int) ∧ (IntKind.i16.wrap (IntKind.u16.wrap w) == IntKind.i16.wrap (extS w)) = true ∧ decide ((-32768 : Int) ≤ extS w) = true ∧ (!decide (extS w ≤ (32767 : Int))) = false ∧ (false = true → (0 : Int) ≤ (1 : Int) ∧ (1 : Int) < (1 : Int) ∧ false = true) ∧ (false = false → ((bits BinOp.andNot IntKind.u32 (bits BinOp.andNot IntKind.u32 w (4227858432 : Int)) (65535 : Int) == (0 : Int)) = true → true = true) ∧ ((bits BinOp.andNot IntKind.u32 (bits BinOp.andNot IntKind.u32 w (4227858432 : Int)) (65535 : Int) == (0 : Int)) = false → false = true))) ∧ (true = false → ((bits BinOp.andNot IntKind.u32 w (4227858432 : Int) == (0 : Int)) = true → true = true) ∧ ((bits BinOp.andNot IntKind.u32 w (4227858432 : Int) == (0 : Int)) = false → false = true))) (by kernel_rfl) ?_
  have kk := ok_o h0 h2 h1
  simp only [InK] at *
  have xx := extS_in w
  have x2 : IntKind.i16.wrap (IntKind.u16.wrap w) = extS w := by unfold extS IntKind.wrap; simp [IntKind.bits, IntKind.signed]; split <;> (split <;> omega)
  have x3 : IntKind.i16.wrap (extS w) = extS w := wrap_in (k := .i16) (by simp only [InK]; omega)
  simp (disch := omega) only [aN26, aN22_4, aN22_3, aN18_4, aN14_4, aN0_16, x2, x3, Int.ediv_one]
  repeat' (first | with_reducible rfl | apply And.intro | intro _h | apply Exists.intro)
  all_goals (first | exact ⟨h1⟩ | omega | (simp; done) | (simp; omega) | (exfalso; simp only [beq_eq_false_iff_ne, ne_eq] at *; first | omega | (simp at *; done)) | (simp at *; done) | (simp at *; omega))
def c_DecodeT_a : List SV → Option (List Prop × SV)
  | [.int .u32 w] => some ([InK .u32 w, OkW w, w / 67108864 = 23], .tup [.agg [.int .i64 (w / 67108864), .int .i64 (0), .int .i64 (w / 4194304 % 16), .int .i64 (0), .int .i64 (0), .int .i32 (0)], .int .i64 0])
  | _ => none
theorem c_DecodeT_a_e : PEntry Tryd.prog 25 c_DecodeT_a := by
  refine ⟨callFunc_ok Tryd.func25 (by kernel_rfl) (by kernel_rfl), fun args ps v h hp => ?_⟩
  unfold c_DecodeT_a at h
  split at h
  · rename_i w
    cases h
    have h1 : OkW w := hp _ (List.mem_of_getElem? (i := 1) rfl)
    have h1 := h1.out
    have h2 := hp _ (List.mem_of_getElem? (i := 2) rfl)
    exact (Decode_ok w (hp _ (List.mem_of_getElem? (i := 0) rfl))).as (by rw [h1, dK_a h2, dA_a h2, dB_a h2, dC_a h2, dI_a h2]; rfl)
  · cases h
noncomputable def pt_ipla : List (Nat × (List SV → Option (List Prop × SV))) := [(15, c_num05), (8, c_one05), (27, c_field05), (25, c_DecodeT_a), (16, c_Shape_a)]
theorem pt_ipla_ok : PureOK Tryd.prog (fun f => List.lookup f pt_ipla) := pure_list pt_ipla ⟨c_num05_e, c_one05_e, c_field05_e, c_DecodeT_a_e, c_Shape_a_e, trivial⟩
noncomputable abbrev cx_ipla (must : Nat → Option Bool := fun _ => none) (loop : Nat → Option LoopSpec := fun _ => none) : Ctx := ⟨tab, inl tab (fun f => List.lookup f pt_ipla) fns (fun _ => {}) 1000 4, fun f => List.lookup f pt_ipla, must, loop, 0, 0⟩
theorem cx_ipla_ok (must : Nat → Option Bool) (loop : Nat → Option LoopSpec) : CxOK Tryd.prog (cx_ipla must loop) := inl_ok mixed tab_ok pt_ipla_ok fns_ok 4 _ _ _ _
theorem Places_aX_ok (w : Int) (h0 : InK .u32 w) (h1 : okW w = true) (h2 : w / 67108864 = 23) : PureSem Tryd.prog 6 [.int .u32 w] (.bool true) := by
  refine pure_intro mixed (cx_ipla_ok (ml [44, 48, 58, 62, 72, 76, 86, 90, 100, 113, 118, 117, 122, 128, 133] [16, 24, 126]) (fun _ => none)) Tryd.func6 1000 rfl rfl ?_
  refine of_nf (p := ((0 : Int) ≤ w ∧ w < (4294967296 : Int)) ∧ OkW w ∧ w / (67108864 : Int) = (23 : Int) ∧ false = false ∧ ((0 : Int) ≤ w ∧ w < (4294967296 : Int)) ∧ (w / (67108864 : Int) != w / (67108864 : Int)) = false ∧ ((-9223372036854775808 : Int) ≤ w / (67108864 : Int) ∧ w / (67108864 : Int) < (9223372036854775808 : Int)) ∧ w / (67108864 : Int) = (23 : Int) ∧ (true = true → (0 : Int) ≤ (0 : Int) ∧ (0 : Int) < (1 : Int) ∧ ((0 : Int) ≤ w ∧ w < (4294967296 : Int)) ∧ (w / (4194304 : Int) % (16 : Int) == w / (4194304 : Int) % (16 : Int)) = true ∧ (!decide (w / (4194304 : Int) % (16 : Int) ≤ (14 : Int))) = false ∧ (false = true → (0 : Int) ≤ (1 : Int) ∧ (1 : Int) < (1 : Int) ∧ false = true) ∧ (false = false → ((bits BinOp.andNot IntKind.u32 (bits BinOp.andNot IntKind.u32 w (4227858432 : Int)) (62914560 : Int) == (0 : Int)) = true → true = true) ∧ ((bits BinOp.andNot IntKind.u32 (bits BinOp.andNot IntKind.u32 w (4227858432 : Int)) (62914560 : Int) == (0 : Int)) = false → false = true))) ∧ (true = false → ((bits BinOp.andNot IntKind.u32 w (4227858432 : Int) == (0 : Int)) = true → true = true) ∧ ((bits BinOp.andNot IntKind.u32 w (4227858432 : Int) == (0 : Int)) = false → false = true))) (by kernel_rfl) ?_
  have kk := ok_a h0 h2 h1
  simp only [InK] at *
  have xx := extS_in w
  have x2 : IntKind.i16.wrap (IntKind.u16.wrap w) = extS w := by unfold extS IntKind.wrap; simp [IntKind.bits, IntKind.signed]; split <;> (split <;> omega)
  have x3 : IntKind.i16.wrap (extS w) = extS w := wrap_in (k := .i16) (by simp only [InK]; omega)
  simp (disch := omega) only [aN26, aN22_4, aN22_3, aN18_4, aN14_4, aN0_16, x2, x3, Int.ediv_one]
  repeat' (first | with_reducible rfl | apply And.intro | intro _h | apply Exists.intro)
  all_goals (first | exact ⟨h1⟩ | omega | (simp; done) | (simp; omega) | (exfalso; simp only [beq_eq_false_iff_ne, ne_eq] at *; first | omega | (simp at *; done)) | (simp at *; done) | (simp at *; omega))
def c_DecodeT_u : List SV → Option (List Prop × SV)
  | [.int .u32 w] => some ([InK .u32 w, OkW w, w / 67108864 = 24], .tup [.agg [.int .i64 (w / 67108864), .int .i64 (0), .int .i64 (0), .int .i64 (0), .int .i64 (0), .int .i32 (w % 65536)], .int .i64 0])
  | _ => none
theorem c_DecodeT_u_e : PEntry Tryd.prog 25 c_DecodeT_u := by
  refine ⟨callFunc_ok Tryd.func25 (by kernel_rfl) (by kernel_rfl), fun args ps v h hp => ?_⟩
  unfold c_DecodeT_u at h
  split at h
  · rename_i w
    cases h
    have h1 : OkW w := hp _ (List.mem_of_getElem? (i := 1) rfl)
    have h1 := h1.out
    have h2 := hp _ (List.mem_of_getElem? (i := 2) rfl)
    exact (Decode_ok w (hp _ (List.mem_of_getElem? (i := 0) rfl))).as (by rw [h1, dK_u h2, dA_u h2, dB_u h2, dC_u h2, dI_u h2]; rfl)
  · cases h
noncomputable def pt_iplu : List (Nat × (List SV → Option (List Prop × SV))) := [(15, c_num05), (8, c_one05), (27, c_field05), (25, c_DecodeT_u), (16, c_Shape_u)]
theorem pt_iplu_ok : PureOK Tryd.prog (fun f => List.lookup f pt_iplu) := pure_list pt_iplu ⟨c_num05_e, c_one05_e, c_field05_e, c_DecodeT_u_e, c_Shape_u_e, trivial⟩
noncomputable abbrev cx_iplu (must : Nat → Option Bool := fun _ => none) (loop : Nat → Option LoopSpec := fun _ => none) : Ctx := ⟨tab, inl tab (fun f => List.lookup f pt_iplu) fns (fun _ => {}) 1000 4, fun f => List.lookup f pt_iplu, must, loop, 0, 0⟩
theorem cx_iplu_ok (must : Nat → Option Bool) (loop : Nat → Option LoopSpec) : CxOK Tryd.prog (cx_iplu must loop) := inl_ok mixed tab_ok pt_iplu_ok fns_ok 4 _ _ _ _
theorem Places_uX_ok (w : Int) (h0 : InK .u32 w) (h1 : okW w = true) (h2 : w / 67108864 = 24) : PureSem Tryd.prog 6 [.int .u32 w] (.bool true) := by
  refine pure_intro mixed (cx_iplu_ok (ml [44, 48, 58, 62, 72, 76, 86, 90, 100, 113, 118, 117, 122, 128, 133] [16, 24, 126]) (fun _ => none)) Tryd.func6 1000 rfl rfl ?_
  refine of_nf (p := ((0 : Int) ≤ w ∧ w < (4294967296 : Int)) ∧ OkW w ∧ w / (67108864 : Int) = (24 : Int) ∧ false = false ∧ ((0 : Int) ≤ w ∧ w < (4294967296 : Int)) ∧ (w / (67108864 : Int) != w / (67108864 : Int)) = false ∧ ((-9223372036854775808 : Int) ≤ w / (67108864 : Int) ∧ w / (67108864 : Int) < (9223372036854775808 : Int)) ∧ w / (67108864 : Int) = (24 : Int) ∧ (true = true → (0 : Int) ≤ (0 : Int) ∧ (0 : Int) < (1 : Int) ∧ ((0 : Int) ≤ w ∧ w < (4294967296 : Int)) ∧ ((-2147483648 : Int) ≤ w % (65536 : Int) ∧ w % (65536 : Int) < (2147483648 : Int)) ∧ (!w % (65536 : Int) == w % (65536 : Int)) = false ∧ (false = true → (0 : Int) ≤ (1 : Int) ∧ (1 : Int) < (1 : Int) ∧ false = true) ∧ (false = false → ((bits BinOp.andNot IntKind.u32 (bits BinOp.andNot IntKind.u32 w (4227858432 : Int)) (65535 : Int) == (0 : Int)) = true → true = true) ∧ ((bits BinOp.andNot IntKind.u32 (bits BinOp.andNot IntKind.u32 w (4227858432 : Int)) (65535 : Int) == (0 : Int)) = false → false = true))) ∧ (true = false → ((bits BinOp.andNot IntKind.u32 w (4227858432 : Int) == (0 : Int)) = true → true = true) ∧ ((bits BinOp.andNot IntKind.u32 w (4227858432 : Int) == (0 : Int)) = false → false = true))) (by kernel_rfl) ?_
  have kk := ok_u h0 h2 h1
  simp only [InK] at *
  have xx := extS_in w
  have x2 : IntKind.i16.wrap (IntKind.u16.wrap w) = extS w := by unfold extS IntKind.wrap; simp [IntKind.bits, IntKind.signed]; split <;> (split <;> omega)
  have x3 : IntKind.i16.wrap (extS w) = extS w := wrap_in (k := .i16) (by simp only [InK]; omega)
  simp (disch := omega) only [aN26, aN22_4, aN22_3, aN18_4, aN14_4, aN0_16, x2, x3, Int.ediv_one]
  repeat' (first | with_reducible rfl | apply And.intro | intro _h | apply Exists.intro)
  all_goals (first | exact ⟨h1⟩ | omega | (simp; done) | (simp; omega) | (exfalso; simp only [beq_eq_false_iff_ne, ne_eq] at *; first | omega | (simp at *; done)) | (simp at *; done) | (simp at *; omega))
noncomputable def pt_ipln : List (Nat × (List SV → Option (List Prop × SV))) := [(15, c_num05), (8, c_one05), (25, c_Decode)]
theorem pt_ipln_ok : PureOK Tryd.prog (fun f => List.lookup f pt_ipln) := pure_list pt_ipln ⟨c_num05_e, c_one05_e, c_Decode_e, trivial⟩
noncomputable abbrev cx_ipln (must : Nat → Option Bool := fun _ => none) (loop : Nat → Option LoopSpec := fun _ => none) : Ctx := ⟨tab, inl tab (fun f => List.lookup f pt_ipln) fns (fun _ => {}) 1000 4, fun f => List.lookup f pt_ipln, must, loop, 0, 0⟩
theorem cx_ipln_ok (must : Nat → Option Bool) (loop : Nat → Option LoopSpec) : CxOK Tryd.prog (cx_ipln must loop) := inl_ok mixed tab_ok pt_ipln_ok fns_ok 4 _ _ _ _
theorem PlacesN_X_ok (w : Int) (h0 : InK .u32 w) (h1 : okW w = false) : PureSem Tryd.prog 6 [.int .u32 w] (.bool true) := by
  refine pure_intro mixed (cx_ipln_ok (ml [16] []) (fun _ => none)) Tryd.func6 1000 rfl rfl ?_
  refine of_nf (p := ((0 : Int) ≤ w ∧ w < (4294967296 : Int)) ∧ (e50 (okW w) != (0 : Int)) = true ∧ true = true) (by kernel_rfl) ?_
  simp only [InK] at h0
  rw [h1]
  exact ⟨h0, by simp [e50], rfl⟩
theorem IsaPlacesL_ok (w : Int) (h0 : InK .u32 w) : PureSem Tryd.prog 6 [.int .u32 w] (.bool true) := by
  by_cases hk : okW w = true
  · by_cases hg : 1 ≤ w / 67108864 ∧ w / 67108864 < 25
    · rcases grp_of hg with hg | hg | hg | hg | hg | hg | hg | hg | hg
      · exact Places_auX_ok w h0 hk hg
      · exact Places_abX_ok w h0 hk hg
      · exact Places_abcX_ok w h0 hk hg
      · exact Places_absX_ok w h0 hk hg
      · exact Places_asX_ok w h0 hk hg
      · exact Places_koX_ok w h0 hk hg
      · exact Places_oX_ok w h0 hk hg
      · exact Places_aX_ok w h0 hk hg
      · exact Places_uX_ok w h0 hk hg
    · rw [okW_none hg] at hk; cases hk
  · exact PlacesN_X_ok w h0 (by simpa using hk)
end Go.Proofs.YtijgngiocmnakaaDoor
