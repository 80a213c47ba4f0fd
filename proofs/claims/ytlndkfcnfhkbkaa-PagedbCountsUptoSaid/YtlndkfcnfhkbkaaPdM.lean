/- Is a page a space? (read only). No condition beyond sizes. -/
import Derived.Test.YtlndkfcnfhkbkaaPdK
namespace Go.Proofs.Ytlndkfcnfhkbkaa
open Go.RowKit Sx
set_option linter.unusedVariables false
set_option linter.unusedSimpArgs false
set_option maxRecDepth 100000
set_option maxHeartbeats 8000000
noncomputable def pt_Pm : List (Nat × (List SV → Option (List Prop × SV))) := [(118, c_DecodeH)]
theorem pt_Pm_ok : PureOK Try.prog (fun f => List.lookup f pt_Pm) := pure_list pt_Pm ⟨c_DecodeH_e, trivial⟩
noncomputable abbrev cx_Pm (must : Nat → Option Bool := fun _ => none) (loop : Nat → SS → Option LoopSpec := fun _ _ => none) : Ctx := ⟨tab, inl tab (fun f => List.lookup f pt_Pm) fns (fun _ => {}) 1000 6, fun f => List.lookup f pt_Pm, must, loop, 0, 0, fun _ => none⟩
theorem cx_Pm_ok (must : Nat → Option Bool) (loop : Nat → SS → Option LoopSpec) : CxOK Try.prog (cx_Pm must loop) := inl_ok mixed tab_ok pt_Pm_ok fns_ok 6 _ _ _ _
theorem isSpaceX_ok (v mp : Value) (b : Int) (vw : Value) (ws : List Int) (n : Nat) (p : Int) (h0 : n ≤ 64) (h1 : ws.length = 2 * n) (h2 : (∀ x ∈ ws, InK .u32 x)) : PureSem Try.prog 115 [.rsa 3 v 1 (fun _ => [.val mp, .int .i64 b, .rd .u32 vw ws]) 0 0, .int .i64 p] (.bool (decide (0 ≤ p) && decide (p < (n : Int)) && gT ws p == 1)) := by
  refine pure_intro mixed (cx_Pm_ok (fun _ => none) (fun _ _ => none)) Try.func115 1000 rfl rfl ?_
  refine of_nf (p := letI k1_ := (List.take (((ws.length : Nat) : Int) - 2 * p).toNat (List.drop ((2 : Int) * p).toNat ws)); letI k0_ := (List.take (2 : Nat) (List.drop (0 : Nat) k1_)); (decide (0 <= p) = true -> ((-9223372036854775808 : Int) <= (((ws.length : Nat) : Int)).tdiv (2 : Int) /\ (((ws.length : Nat) : Int)).tdiv (2 : Int) < (9223372036854775808 : Int)) /\ (decide (p < (((ws.length : Nat) : Int)).tdiv (2 : Int)) = true -> ((-9223372036854775808 : Int) <= (2 : Int) * p /\ (2 : Int) * p < 9223372036854775808) /\ (0 : Int) <= (2 : Int) * p /\ (2 : Int) * p <= ((ws.length : Nat) : Int) /\ ((ws.length : Nat) : Int) <= ((ws.length : Nat) : Int) /\ (2 : Int) <= ((k1_.length : Nat) : Int) /\ (2 : Int) <= ((k1_.length : Nat) : Int) /\ ((0 : Int) <= k0_.getD (nat_lit 0) (0 : Int) /\ k0_.getD (nat_lit 0) (0 : Int) < (4294967296 : Int)) /\ ((0 : Int) <= k0_.getD (nat_lit 1) (0 : Int) /\ k0_.getD (nat_lit 1) (0 : Int) < (4294967296 : Int)) /\ (dT (k0_.getD (nat_lit 0) (0 : Int)) (k0_.getD (nat_lit 1) (0 : Int)) == 1) = (decide (0 <= p) && decide (p < ((n : Nat) : Int)) && gT ws p == 1)) /\ (decide (p < (((ws.length : Nat) : Int)).tdiv (2 : Int)) = false -> false = (decide (0 <= p) && decide (p < ((n : Nat) : Int)) && gT ws p == 1))) /\ (decide (0 <= p) = false -> false = (decide (0 <= p) && decide (p < ((n : Nat) : Int)) && gT ws p == 1))) (by kernel_rfl) ?_
  have e : ((ws.length : Int).tdiv 2) = (n : Int) := by rw [Int.tdiv_eq_ediv_of_nonneg (by omega), h1]; omega
  simp only [e]
  refine ⟨fun g1 => ⟨⟨by omega, by omega⟩, fun g2 => ?_, fun g2 => ?_⟩, fun g1 => ?_⟩
  · have g3 := of_decide_eq_true g1
    have g4 := of_decide_eq_true g2
    have f0 : (List.take 2 (List.drop 0 (List.take ((ws.length : Int) - 2 * p).toNat (List.drop (2 * p).toNat ws)))).getD 0 0 = ws.getD (2 * p).toNat 0 := by
      rw [List.drop_zero, List.getD_eq_getElem?_getD, List.getElem?_take_of_lt (by omega), List.getElem?_take_of_lt (by omega), List.getElem?_drop, Nat.add_zero, ← List.getD_eq_getElem?_getD]
    have f1 : (List.take 2 (List.drop 0 (List.take ((ws.length : Int) - 2 * p).toNat (List.drop (2 * p).toNat ws)))).getD 1 0 = ws.getD (2 * p + 1).toNat 0 := by
      rw [List.drop_zero, List.getD_eq_getElem?_getD, List.getElem?_take_of_lt (by omega), List.getElem?_take_of_lt (by omega), List.getElem?_drop, ← List.getD_eq_getElem?_getD, show (2 * p).toNat + 1 = (2 * p + 1).toNat by omega]
    have f2 : (List.take ((ws.length : Int) - 2 * p).toNat (List.drop (2 * p).toNat ws)).length = ((ws.length : Int) - 2 * p).toNat := by rw [List.length_take, List.length_drop]; omega
    have i0 := getD_in h2 (2 * p).toNat
    have i1 := getD_in h2 (2 * p + 1).toNat
    simp only [InK] at i0 i1
    simp only [f0, f1, f2, ← gT_eq, g1, g2, Bool.true_and]
    repeat' (first | with_reducible rfl | exact True.intro | with_reducible assumption | exact OwnSame.mk fun _ => rfl | exact OwnSameE.mk fun _ => rfl | apply And.intro | apply pieceEq)
    all_goals omega
  · rw [g2]; simp
  · rw [g1]; simp
end Go.Proofs.Ytlndkfcnfhkbkaa
