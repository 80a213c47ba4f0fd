/- The packages isa and wardenref05: Decode, all words. No condition beyond the arguments' types. -/
import Derived.Test.YtimjnajdpccjdaaDoorIsaD
namespace Go.Proofs.YtimjnajdpccjdaaDoor
set_option linter.unusedVariables false
set_option linter.unusedSimpArgs false
open Go.RowKit Sx
set_option maxRecDepth 100000
set_option maxHeartbeats 1000000
theorem okW_none {w : Int} (h : ¬ (1 ≤ w / 67108864 ∧ w / 67108864 < 25)) : okWi w = false := by
  unfold okWi chkS; rw [shape_none h, eq_none]; simp
noncomputable def pt_den : List (Nat × (List SV → Option (List Prop × SV))) := [(59, c_Field), (98, c_isF), (61, c_Extend), (62, c_Encode)]
theorem pt_den_ok : PureOK Tryd.prog (fun f => List.lookup f pt_den) := pure_list pt_den ⟨c_Field_e, c_isF_e, c_Extend_e, c_Encode_e, trivial⟩
noncomputable abbrev cx_den (must : Nat → Option Bool := fun _ => none) (loop : Nat → SS → Option LoopSpec := fun _ _ => none) (fz : Nat → SS → List Nat := fun _ _ => []) (on : Bool := false) : Ctx := ⟨tab, inl tab (fun f => List.lookup f pt_den) fns (fun _ => {}) 1000 6, fun f => List.lookup f pt_den, must, loop, 0, 0, fun _ => none, fz, on⟩
theorem cx_den_ok (must : Nat → Option Bool) (loop : Nat → SS → Option LoopSpec) (fz : Nat → SS → List Nat) (on : Bool) : CxOK Tryd.prog (cx_den must loop fz on) := inl_ok mixed tab_ok pt_den_ok fns_ok 6 _ _ _ _ _ _
theorem DecodeN_X_ok (w : Int) (h0 : InK .u32 w) (h1 : ¬ (1 ≤ w / 67108864 ∧ w / 67108864 < 25)) : PureSem Tryd.prog 17 [.int .u32 w] (.tup [.agg [.int .i64 (zB (okWi w) (w / 67108864)), .int .i64 (zB (okWi w) (dK w)), .int .i64 (zB (okWi w) (dA w)), .int .i64 (zB (okWi w) (dB w)), .int .i64 (zB (okWi w) (dC w)), .int .i32 (zB (okWi w) (dI w))], .int .i64 (e50 (okWi w))]) := by
  refine pure_intro mixed (cx_den_ok (fun _ => none) (fun _ _ => none) (fun _ _ => []) false) Tryd.func17 1000 rfl rfl ?_
  refine of_nf (p := letI k0_ := ((-9223372036854775808 : Int) <= (0 : Int) /\ (0 : Int) < (9223372036854775808 : Int)); letI k1_ := (zB (decide (chkS (w / 67108864) (0 : Int) (0 : Int) (0 : Int) (0 : Int) (0 : Int) = (0 : Int))) (encS (w / 67108864) (0 : Int) (0 : Int) (0 : Int) (0 : Int) (0 : Int)) != w); letI k2_ := (0 = zB (okWi w) (w / 67108864) /\ 0 = zB (okWi w) (dK w) /\ 0 = zB (okWi w) (dA w) /\ 0 = zB (okWi w) (dB w) /\ 0 = zB (okWi w) (dC w) /\ 0 = zB (okWi w) (dI w) /\ True); (0 <= w /\ w < 4294967296) /\ (0 <= w / 67108864 /\ w / 67108864 < (4294967296 : Int)) /\ ¬(1 <= w / 67108864 /\ w / 67108864 < (25 : Int)) /\ ((-9223372036854775808 : Int) <= w / 67108864 /\ w / 67108864 < (9223372036854775808 : Int)) /\ k0_ /\ k0_ /\ k0_ /\ k0_ /\ ((-2147483648 : Int) <= (0 : Int) /\ (0 : Int) < (2147483648 : Int)) /\ ((chkS (w / 67108864) (0 : Int) (0 : Int) (0 : Int) (0 : Int) (0 : Int) != (0 : Int)) = true -> k2_ /\ 50 = e50 (okWi w) /\ True) /\ ((chkS (w / 67108864) (0 : Int) (0 : Int) (0 : Int) (0 : Int) (0 : Int) != (0 : Int)) = false -> (k1_ = true -> k2_ /\ 50 = e50 (okWi w) /\ True) /\ (k1_ = false -> (w / 67108864 = zB (okWi w) (w / 67108864) /\ 0 = zB (okWi w) (dK w) /\ 0 = zB (okWi w) (dA w) /\ 0 = zB (okWi w) (dB w) /\ 0 = zB (okWi w) (dC w) /\ 0 = zB (okWi w) (dI w) /\ True) /\ 0 = e50 (okWi w) /\ True))) (by kernel_rfl) ?_
  have hck : ∀ k a b c i, chkS (w / 67108864) k a b c i = 50 := fun k a b c i => by unfold chkS; rw [shape_none h1, eq_none]; rfl
  simp only [InK] at *
  try simp (disch := omega) only [Int.tdiv_eq_ediv_of_nonneg, Int.tmod_eq_emod_of_nonneg]
  simp only [hck, okW_none h1]
  (repeat' (first | with_reducible rfl | apply And.intro | intro _h))
  all_goals (first | trivial | omega | (simp_all [zB, e50]; done))
theorem Decode_ok (w : Int) (h0 : InK .u32 w) : PureSem Tryd.prog 17 [.int .u32 w] (.tup [.agg [.int .i64 (zB (okWi w) (w / 67108864)), .int .i64 (zB (okWi w) (dK w)), .int .i64 (zB (okWi w) (dA w)), .int .i64 (zB (okWi w) (dB w)), .int .i64 (zB (okWi w) (dC w)), .int .i32 (zB (okWi w) (dI w))], .int .i64 (e50 (okWi w))]) := by
  by_cases hg : 1 ≤ w / 67108864 ∧ w / 67108864 < 25
  · rcases grp_of hg with hg | hg | hg | hg | hg | hg | hg | hg | hg
    · exact Decode_auX_ok w h0 hg
    · exact Decode_abX_ok w h0 hg
    · exact Decode_abcX_ok w h0 hg
    · exact Decode_absX_ok w h0 hg
    · exact Decode_asX_ok w h0 hg
    · exact Decode_koX_ok w h0 hg
    · exact Decode_oX_ok w h0 hg
    · exact Decode_aX_ok w h0 hg
    · exact Decode_uX_ok w h0 hg
  · exact DecodeN_X_ok w h0 hg
noncomputable def c_Decode : List SV → Option (List Prop × SV)
  | [.int .u32 w] => some ([InK .u32 w], .tup [.agg [.int .i64 (zB (okWi w) (w / 67108864)), .int .i64 (zB (okWi w) (dK w)), .int .i64 (zB (okWi w) (dA w)), .int .i64 (zB (okWi w) (dB w)), .int .i64 (zB (okWi w) (dC w)), .int .i32 (zB (okWi w) (dI w))], .int .i64 (e50 (okWi w))])
  | _ => none
theorem c_Decode_e : PEntry Tryd.prog 17 c_Decode := by
  refine ⟨callFunc_ok Tryd.func17 (by kernel_rfl) (by kernel_rfl), fun args ps v h hp => ?_⟩
  unfold c_Decode at h
  split at h
  · cases h; exact Decode_ok _ (hp _ (by simp))
  · cases h
end Go.Proofs.YtimjnajdpccjdaaDoor
