/- Package cpu: sums of two registers. No condition beyond the arguments' types. -/
import Derived.Test.YtimjnajdpccjdaaDoorIsaF
import Derived.Test.YtimjnajdpccjdaaDoorRgsC
import Derived.Test.YtimjnajdpccjdaaDoorWkM
namespace Go.Proofs.YtimjnajdpccjdaaDoor
set_option linter.unusedVariables false
set_option linter.unusedSimpArgs false
open Go.RowKit Sx
set_option maxRecDepth 100000
set_option maxHeartbeats 8000000
def smV (op b c : Int) : Int :=
  if op = 4 then IntKind.u32.wrap (b + c) else if op = 5 then IntKind.u32.wrap (b - c) else if op = 6 then IntKind.u32.wrap (b * c) else if op = 7 then (if c = 0 then 4294967295 else b / c)
  else if op = 8 then bits .and .u32 b c else if op = 9 then bits .or .u32 b c else if op = 10 then bits .xor .u32 b c else if op = 11 then IntKind.u32.wrap (b * (2 : Int) ^ c.toNat.min 32)
  else if op = 12 then b / (2 : Int) ^ c.toNat.min 32 else IntKind.u32.wrap (IntKind.i32.wrap b / (2 : Int) ^ c.toNat.min 32)
def stH (w v : Int) : Int := bits .or .u32 (bits .andNot .u32 w 4294901760) (bits .and .u32 (IntKind.u32.wrap (v * 65536)) 4294901760)
theorem u32_bits (op : BinOp) (x y : Int) : InK .u32 (bits op .u32 x y) := by
  have h := bits_U32 op x y
  simp only [InK]
  unfold U32 at h
  omega
theorem u32_wrap (x : Int) : InK .u32 (IntKind.u32.wrap x) := by
  rw [wmod32]
  simp only [InK]
  omega
theorem div_in {b c : Int} (hb : InK .u32 b) (hc : 0 < c) : InK .u32 (b / c) := by
  simp only [InK] at *
  have := Int.ediv_nonneg hb.1 (Int.le_of_lt hc)
  have := Int.ediv_le_self c hb.1
  omega
theorem stH_in (w v : Int) : InK .u32 (stH w v) := u32_bits _ _ _
theorem smV_in (op b c : Int) (hb : InK .u32 b) (hc : InK .u32 c) : InK .u32 (smV op b c) := by
  unfold smV
  repeat' split
  all_goals first | exact u32_wrap _ | exact u32_bits _ _ _ | (simp [InK]; done) | skip
  · exact div_in hb (by simp only [InK] at hc; omega)
  · exact div_in hb (Int.pow_pos (by omega))
noncomputable def pt_Ca : List (Nat × (List SV → Option (List Prop × SV))) := []
theorem pt_Ca_ok : PureOK Tryd.prog (fun f => List.lookup f pt_Ca) := pure_list pt_Ca trivial
noncomputable abbrev cx_Ca (must : Nat → Option Bool := fun _ => none) (loop : Nat → SS → Option LoopSpec := fun _ _ => none) (fz : Nat → SS → List Nat := fun _ _ => []) (on : Bool := false) : Ctx := ⟨tab, inl tab (fun f => List.lookup f pt_Ca) fns (fun _ => {}) 1000 4, fun f => List.lookup f pt_Ca, must, loop, 0, 0, fun _ => none, fz, on⟩
theorem cx_Ca_ok (must : Nat → Option Bool) (loop : Nat → SS → Option LoopSpec) (fz : Nat → SS → List Nat) (on : Bool) : CxOK Tryd.prog (cx_Ca must loop fz on) := inl_ok mixed tab_ok pt_Ca_ok fns_ok 4 _ _ _ _ _ _
theorem setHiX_ok (w v : Int) (h0 : InK .u32 w) (h1 : InK .u32 v) : PureSem Tryd.prog 101 [.int .u32 w, .lit .i64 16, .lit .i64 16, .int .u32 v] (.int .u32 (stH w v)) := by
  refine pure_intro mixed (cx_Ca_ok (fun _ => none) (fun _ _ => none) (fun _ _ => []) false) Tryd.func101 1000 rfl rfl ?_
  refine of_nf (p := bits BinOp.or IntKind.u32 (bits BinOp.andNot IntKind.u32 w (4294901760 : Int)) (bits BinOp.and IntKind.u32 (IntKind.u32.wrap (v * 65536)) (4294901760 : Int)) = stH w v) (by kernel_rfl) ?_
  rfl
def c_setHi : List SV → Option (List Prop × SV)
  | [.int .u32 w, .int .i64 lo, .int .i64 n, .int .u32 v] => some ([InK .u32 w, InK .u32 v, lo = 16, n = 16], .int .u32 (stH w v))
  | _ => none
theorem c_setHi_e : PEntry Tryd.prog 101 c_setHi := by
  refine ⟨callFunc_ok Tryd.func101 (by kernel_rfl) (by kernel_rfl), fun args ps v h hp => ?_⟩
  unfold c_setHi at h
  split at h
  · cases h
    have e1 := hp _ (List.mem_of_getElem? (i := 2) rfl)
    have e2 := hp _ (List.mem_of_getElem? (i := 3) rfl)
    subst e1 e2
    exact (setHiX_ok _ _ (hp.i 0) (hp.i 1)).soft fun _ _ _ => ⟨trivial, trivial, trivial, trivial, trivial⟩
  · cases h
theorem sumC_ok (op b c : Int) (h0 : InK .u32 b) (h1 : InK .u32 c) : PureSem Tryd.prog 93 [.int .i64 op, .int .u32 b, .int .u32 c] (.int .u32 (smV op b c)) := by
  refine pure_intro mixed (cx_Ca_ok (fun _ => none) (fun _ _ => none) (fun _ _ => []) false) Tryd.func93 1000 rfl rfl ?_
  refine of_nf (p := ((op == 4) = true -> IntKind.u32.wrap (b + c) = smV op b c) /\ ((op == 4) = false -> ((op == 5) = true -> IntKind.u32.wrap (b - c) = smV op b c) /\ ((op == 5) = false -> ((op == 6) = true -> IntKind.u32.wrap (b * c) = smV op b c) /\ ((op == 6) = false -> ((op == 7) = true -> ((c == 0) = true -> 4294967295 = smV op b c) /\ ((c == 0) = false -> (0 <= b /\ b < 4294967296) /\ 0 < c /\ b / c = smV op b c)) /\ ((op == 7) = false -> ((op == 8) = true -> bits BinOp.and IntKind.u32 b c = smV op b c) /\ ((op == 8) = false -> ((op == 9) = true -> bits BinOp.or IntKind.u32 b c = smV op b c) /\ ((op == 9) = false -> ((op == 10) = true -> bits BinOp.xor IntKind.u32 b c = smV op b c) /\ ((op == 10) = false -> ((op == 11) = true -> 0 <= c /\ IntKind.u32.wrap (b * 2 ^ c.toNat.min (32 : Nat)) = smV op b c) /\ ((op == 11) = false -> ((op == 12) = true -> 0 <= c /\ b / 2 ^ c.toNat.min 32 = smV op b c) /\ ((op == 12) = false -> 0 <= c /\ IntKind.u32.wrap (IntKind.i32.wrap b / 2 ^ c.toNat.min (32 : Nat)) = smV op b c)))))))))) (by kernel_rfl) ?_
  simp only [InK] at h0 h1
  unfold smV
  simp only [beq_iff_eq, beq_eq_false_iff_ne, ne_eq]
  repeat' (first | apply And.intro | intro _h)
  all_goals first | omega | (simp only [*, if_true, if_false, ite_true, ite_false, reduceIte]; done) | (simp_all; done)
noncomputable def c_sumC : List SV → Option (List Prop × SV)
  | [.int .i64 op, .int .u32 b, .int .u32 c] => some ([InK .u32 b, InK .u32 c], .int .u32 (smV op b c))
  | _ => none
theorem c_sumC_e : PEntry Tryd.prog 93 c_sumC := by
  refine ⟨callFunc_ok Tryd.func93 (by kernel_rfl) (by kernel_rfl), fun args ps v h hp => ?_⟩
  unfold c_sumC at h
  split at h
  · cases h; exact sumC_ok _ _ _ (hp.i 0) (hp.i 1)
  · cases h
end Go.Proofs.YtimjnajdpccjdaaDoor
