/- The law WalkCodes gone through. No condition beyond the arguments' types. -/
import Derived.Test.YtmmejomalfjcnaaWkCodes
namespace Go.Proofs.Ytmmejomalfjcnaa
open Go.RowKit Sx
set_option linter.unusedVariables false
set_option linter.unusedSimpArgs false
set_option maxRecDepth 100000
set_option maxHeartbeats 1000000

noncomputable def pt_wc : List (Nat × (List SV → Option (List Prop × SV))) := [(32, c_Split), (33, c_RSplit), (36, c_Join), (37, c_RJoin), (38, c_First), (39, c_RFirst), (40, c_ParseFirst), (41, c_RParseFirst), (42, c_Second), (44, c_RSecond), (43, c_own), (35, c_known), (45, c_ParseSecond), (46, c_RParseSecond)]
theorem pt_wc_ok : PureOK Try.prog (fun f => List.lookup f pt_wc) := pure_list pt_wc ⟨c_Split_e, c_RSplit_e, c_Join_e, c_RJoin_e, c_First_e, c_RFirst_e, c_ParseFirst_e, c_RParseFirst_e, c_Second_e, c_RSecond_e, c_own_e, c_known_e, c_ParseSecond_e, c_RParseSecond_e, trivial⟩
noncomputable abbrev cx_wc (must : Nat → Option Bool := fun _ => none) (loop : Nat → Option LoopSpec := fun _ => none) : Ctx := ⟨tab, inl tab (fun f => List.lookup f pt_wc) fns (fun _ => {}) 1000 4, fun f => List.lookup f pt_wc, must, loop, 0, 0⟩
theorem cx_wc_ok (must : Nat → Option Bool) (loop : Nat → Option LoopSpec) : CxOK Try.prog (cx_wc must loop) := inl_ok mixed tab_ok pt_wc_ok fns_ok 4 _ _ _ _

theorem WalkCodesL_ok (va i j off p d : Int) (se : Bool) (n : Int) (wr ex : Bool) (h0 : InK .u32 va) (h1 : InK .i64 n) (h2 : InK .u32 d) : PureSem Try.prog 9 [.agg [.int .u32 va, .int .i64 i, .int .i64 j, .int .i64 off, .int .i64 p, .int .u32 d, .bool se, .int .i64 n, .bool wr, .bool ex]] (.bool true) := by
  refine pure_intro mixed (cx_wc_ok (fun d => bif Nat.beq d 41 || Nat.beq d 45 || Nat.beq d 50 || Nat.beq d 55 || Nat.beq d 60 || Nat.beq d 64 || Nat.beq d 112 || Nat.beq d 117 || Nat.beq d 122 || Nat.beq d 127 || Nat.beq d 132 || Nat.beq d 136 then some false else bif Nat.beq d 165 || Nat.beq d 170 || Nat.beq d 176 then some true else none) (fun _ => none)) Try.func9 1000 rfl rfl ?_
  refine of_nf (p := (0 ≤ va ∧ va < 4294967296) ∧ (0 ≤ va ∧ va < 4294967296) ∧ false = false ∧ ((splitS va).1 != (splitS va).1) = false ∧ ((splitS va).snd.1 != (splitS va).snd.1) = false ∧ ((splitS va).snd.snd.1 != (splitS va).snd.snd.1) = false ∧ ((splitS va).snd.snd.2 != (splitS va).snd.snd.2) = false ∧ (0 ≤ d ∧ d < 4294967296) ∧ (0 ≤ d ∧ d < 4294967296) ∧ ((joinS i j off).1 != (joinS i j off).1) = false ∧ ((joinS i j off).2 != (joinS i j off).2) = false ∧ ((firstS p).1 != (firstS p).1) = false ∧ ((firstS p).2 != (firstS p).2) = false ∧ ((pfS d).1 != (pfS d).1) = false ∧ ((pfS d).2 != (pfS d).2) = false ∧ (-9223372036854775808 ≤ n ∧ n < 9223372036854775808) ∧ (-9223372036854775808 ≤ n ∧ n < 9223372036854775808) ∧ (0 ≤ d ∧ d < 4294967296) ∧ (0 ≤ d ∧ d < 4294967296) ∧ ((secS se n wr ex).1 == (secS se n wr ex).1) = true ∧ ((secS se n wr ex).2 == (secS se n wr ex).2) = true ∧ ((psS d).1 == (psS d).1 && ((psS d).snd.1 == (psS d).snd.1 && ((psS d).snd.snd.1 == (psS d).snd.snd.1 && ((psS d).snd.snd.snd.1 == (psS d).snd.snd.snd.1 && true)))) = true ∧ ((psS d).snd.snd.snd.2 == (psS d).snd.snd.snd.2) = true) (by kernel_rfl) ?_
  simp only [InK] at *
  simp [h0, h1, h2, InK]
def c_WalkCodesL : List SV → Option (List Prop × SV)
  | [.agg [.int .u32 va, .int .i64 i, .int .i64 j, .int .i64 off, .int .i64 p, .int .u32 d, .bool se, .int .i64 n, .bool wr, .bool ex]] => some ([InK .u32 va, InK .i64 n, InK .u32 d], .bool true)
  | _ => none
theorem c_WalkCodesL_e : PEntry Try.prog 9 c_WalkCodesL := by
  refine ⟨callFunc_ok Try.func9 (by kernel_rfl) (by kernel_rfl), fun args ps v h hp => ?_⟩
  unfold c_WalkCodesL at h
  split at h
  · cases h; exact WalkCodesL_ok _ _ _ _ _ _ _ _ _ _ (hp _ (List.mem_of_getElem? (i := 0) rfl)) (hp _ (List.mem_of_getElem? (i := 1) rfl)) (hp _ (List.mem_of_getElem? (i := 2) rfl))
  · cases h
end Go.Proofs.Ytmmejomalfjcnaa
