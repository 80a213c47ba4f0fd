/- The database of pages read only. No condition beyond sizes. -/
import Derived.Test.YtlndkfcnfhkbkaaPdA
namespace Go.Proofs.Ytlndkfcnfhkbkaa
open Go.RowKit Sx
set_option linter.unusedVariables false
set_option linter.unusedSimpArgs false
set_option maxRecDepth 100000
set_option maxHeartbeats 8000000
noncomputable def pt_Pe : List (Nat × (List SV → Option (List Prop × SV))) := [(118, c_DecodeH)]
theorem pt_Pe_ok : PureOK Try.prog (fun f => List.lookup f pt_Pe) := pure_list pt_Pe ⟨c_DecodeH_e, trivial⟩
noncomputable abbrev cx_Pe (must : Nat → Option Bool := fun _ => none) (loop : Nat → SS → Option LoopSpec := fun _ _ => none) : Ctx := ⟨tab, inl tab (fun f => List.lookup f pt_Pe) fns (fun _ => {}) 1000 6, fun f => List.lookup f pt_Pe, must, loop, 0, 0, fun _ => none⟩
theorem cx_Pe_ok (must : Nat → Option Bool) (loop : Nat → SS → Option LoopSpec) : CxOK Try.prog (cx_Pe must loop) := inl_ok mixed tab_ok pt_Pe_ok fns_ok 6 _ _ _ _
theorem PagesX_ok (v mp : Value) (b : Int) (vw : Value) (ws : List Int) (h0 : ws.length ≤ 128) : PureSem Try.prog 77 [.rsa 3 v 1 (fun _ => [.val mp, .int .i64 b, .rd .u32 vw ws]) 0 0] (.int .i64 ((ws.length : Int).tdiv 2)) := by
  refine pure_intro mixed (cx_Pe_ok (fun _ => none) (fun _ _ => none)) Try.func77 1000 rfl rfl ?_
  refine of_nf (p := ((-9223372036854775808 : Int) <= (((ws.length : Nat) : Int)).tdiv (2 : Int) /\ (((ws.length : Nat) : Int)).tdiv (2 : Int) < (9223372036854775808 : Int)) /\ (((ws.length : Nat) : Int)).tdiv (2 : Int) = (((ws.length : Nat) : Int)).tdiv (2 : Int)) (by kernel_rfl) ?_
  repeat' (first | with_reducible rfl | exact True.intro | with_reducible assumption | exact OwnSame.mk fun _ => rfl | exact OwnSameE.mk fun _ => rfl | apply And.intro | apply pieceEq | intro _)
  all_goals first | omega | rfl | (rw [Int.tdiv_eq_ediv_of_nonneg (by omega)]; omega)
theorem atX_ok (v mp : Value) (b : Int) (vw : Value) (ws : List Int) (p : Int) (h0 : ws.length ≤ 128) (h1 : 0 ≤ p) (h2 : 2 * p + 2 ≤ (ws.length : Int)) (h3 : (∀ x ∈ ws, InK .u32 x)) : PureSem Try.prog 111 [.rsa 3 v 1 (fun _ => [.val mp, .int .i64 b, .rd .u32 vw ws]) 0 0, .int .i64 p] (.agg [.int .i64 (gT ws p), .int .i64 (gO ws p), .int .i64 (gR ws p), .int .i64 (gS ws p), .bool (gN ws p)]) := by
  refine pure_intro mixed (cx_Pe_ok (fun _ => none) (fun _ _ => none)) Try.func111 1000 rfl rfl ?_
  refine of_nf (p := letI k1_ := (List.take (((ws.length : Nat) : Int) - 2 * p).toNat (List.drop ((2 : Int) * p).toNat ws)); letI k0_ := (List.take (2 : Nat) (List.drop (0 : Nat) k1_)); letI k2_ := (k0_.getD (nat_lit 0) (0 : Int)); letI k3_ := (k0_.getD (nat_lit 1) (0 : Int)); ((-9223372036854775808 : Int) <= (2 : Int) * p /\ (2 : Int) * p < 9223372036854775808) /\ (0 : Int) <= (2 : Int) * p /\ (2 : Int) * p <= ((ws.length : Nat) : Int) /\ ((ws.length : Nat) : Int) <= ((ws.length : Nat) : Int) /\ (2 : Int) <= ((k1_.length : Nat) : Int) /\ (2 : Int) <= ((k1_.length : Nat) : Int) /\ ((0 : Int) <= k0_.getD (nat_lit 0) (0 : Int) /\ k0_.getD (nat_lit 0) (0 : Int) < (4294967296 : Int)) /\ ((0 : Int) <= k0_.getD (nat_lit 1) (0 : Int) /\ k0_.getD (nat_lit 1) (0 : Int) < (4294967296 : Int)) /\ dT k2_ k3_ = gT ws p /\ dO k2_ k3_ = gO ws p /\ dR k2_ k3_ = gR ws p /\ dS k2_ k3_ = gS ws p /\ dN k2_ k3_ = gN ws p /\ True) (by kernel_rfl) ?_
  have f0 : (List.take 2 (List.drop 0 (List.take ((ws.length : Int) - 2 * p).toNat (List.drop (2 * p).toNat ws)))).getD 0 0 = ws.getD (2 * p).toNat 0 := by
    rw [List.drop_zero, List.getD_eq_getElem?_getD, List.getElem?_take_of_lt (by omega), List.getElem?_take_of_lt (by omega), List.getElem?_drop, Nat.add_zero, ← List.getD_eq_getElem?_getD]
  have f1 : (List.take 2 (List.drop 0 (List.take ((ws.length : Int) - 2 * p).toNat (List.drop (2 * p).toNat ws)))).getD 1 0 = ws.getD (2 * p + 1).toNat 0 := by
    rw [List.drop_zero, List.getD_eq_getElem?_getD, List.getElem?_take_of_lt (by omega), List.getElem?_take_of_lt (by omega), List.getElem?_drop, ← List.getD_eq_getElem?_getD, show (2 * p).toNat + 1 = (2 * p + 1).toNat by omega]
  have f2 : (List.take ((ws.length : Int) - 2 * p).toNat (List.drop (2 * p).toNat ws)).length = ((ws.length : Int) - 2 * p).toNat := by rw [List.length_take, List.length_drop]; omega
  have i0 := getD_in h3 (2 * p).toNat
  have i1 := getD_in h3 (2 * p + 1).toNat
  simp only [InK] at i0 i1
  simp only [f0, f1, f2, ← gT_eq, ← gO_eq, ← gR_eq, ← gS_eq, ← gN_eq]
  repeat' (first | with_reducible rfl | exact True.intro | with_reducible assumption | exact OwnSame.mk fun _ => rfl | exact OwnSameE.mk fun _ => rfl | apply And.intro | apply pieceEq | intro _)
  all_goals first | omega | rfl | trace_state
end Go.Proofs.Ytlndkfcnfhkbkaa
