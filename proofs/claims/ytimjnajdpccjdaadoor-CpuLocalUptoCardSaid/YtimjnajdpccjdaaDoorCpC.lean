/- Package cpu: one instruction. No condition beyond the arguments' types. -/
import Derived.Test.YtimjnajdpccjdaaDoorCpB
namespace Go.Proofs.YtimjnajdpccjdaaDoor
set_option linter.unusedVariables false
set_option linter.unusedSimpArgs false
open Go.RowKit Sx
set_option maxRecDepth 100000
set_option maxHeartbeats 8000000
abbrev doK_T (F0 : Int → Int → Int → Int → Int → Int → Int → (List Int) → Int → Bool → Bool → Bool → (List (List Int)) → (List (List Int)) → Int) : Prop := ∀ op k A B C imm l1 R pc z n l ps qs, F0 op k A B C imm l1 R pc z n l ps qs = if op = 24 then 1 else if 15 ≤ op ∧ op ≤ 18 then tcK ps qs l1 op A B C imm R else 0
theorem doK_ex : ∃ F0, doK_T F0 := ⟨_, fun _ _ _ _ _ _ _ _ _ _ _ _ _ _ => rfl⟩
noncomputable def doK : Int → Int → Int → Int → Int → Int → Int → (List Int) → Int → Bool → Bool → Bool → (List (List Int)) → (List (List Int)) → Int := Classical.choose doK_ex
theorem doK_eq : doK_T doK := Classical.choose_spec doK_ex
abbrev doA_T (F0 : Int → Int → Int → Int → Int → Int → Int → (List Int) → Int → Bool → Bool → Bool → (List (List Int)) → (List (List Int)) → Int) : Prop := ∀ op k A B C imm l1 R pc z n l ps qs, F0 op k A B C imm l1 R pc z n l ps qs = if op = 24 then IntKind.u32.wrap imm else if 15 ≤ op ∧ op ≤ 18 then tcA ps qs l1 op A B C imm R else 0
theorem doA_ex : ∃ F0, doA_T F0 := ⟨_, fun _ _ _ _ _ _ _ _ _ _ _ _ _ _ => rfl⟩
noncomputable def doA : Int → Int → Int → Int → Int → Int → Int → (List Int) → Int → Bool → Bool → Bool → (List (List Int)) → (List (List Int)) → Int := Classical.choose doA_ex
theorem doA_eq : doA_T doA := Classical.choose_spec doA_ex
abbrev doR_T (F0 : Int → Int → Int → Int → Int → Int → Int → (List Int) → Int → Bool → Bool → Bool → (List (List Int)) → (List (List Int)) → List Int) : Prop := ∀ op k A B C imm l1 R pc z n l ps qs, F0 op k A B C imm l1 R pc z n l ps qs = if op ≤ 3 ∨ op = 14 then mvR op A B imm R else if op ≤ 13 then R.set A.toNat (smV op (R.getD B.toNat 0) (R.getD C.toNat 0)) else if op ≤ 18 then tcR ps qs l1 op A B C imm R else if 21 ≤ op ∧ op ≤ 23 then jpR op pc R else R
theorem doR_ex : ∃ F0, doR_T F0 := ⟨_, fun _ _ _ _ _ _ _ _ _ _ _ _ _ _ => rfl⟩
noncomputable def doR : Int → Int → Int → Int → Int → Int → Int → (List Int) → Int → Bool → Bool → Bool → (List (List Int)) → (List (List Int)) → List Int := Classical.choose doR_ex
theorem doR_eq : doR_T doR := Classical.choose_spec doR_ex
abbrev doC_T (F0 : Int → Int → Int → Int → Int → Int → Int → (List Int) → Int → Bool → Bool → Bool → (List (List Int)) → (List (List Int)) → Int) : Prop := ∀ op k A B C imm l1 R pc z n l ps qs, F0 op k A B C imm l1 R pc z n l ps qs = if 21 ≤ op ∧ op ≤ 23 then jpP op k A imm R pc z n l else pc
theorem doC_ex : ∃ F0, doC_T F0 := ⟨_, fun _ _ _ _ _ _ _ _ _ _ _ _ _ _ => rfl⟩
noncomputable def doC : Int → Int → Int → Int → Int → Int → Int → (List Int) → Int → Bool → Bool → Bool → (List (List Int)) → (List (List Int)) → Int := Classical.choose doC_ex
theorem doC_eq : doC_T doC := Classical.choose_spec doC_ex
abbrev doZ_T (F0 : Int → Int → Int → Int → Int → Int → Int → (List Int) → Int → Bool → Bool → Bool → (List (List Int)) → (List (List Int)) → Bool) : Prop := ∀ op k A B C imm l1 R pc z n l ps qs, F0 op k A B C imm l1 R pc z n l ps qs = if op = 19 then (R.getD A.toNat 0 == R.getD B.toNat 0) else if op = 20 then (R.getD A.toNat 0 == IntKind.u32.wrap imm) else z
theorem doZ_ex : ∃ F0, doZ_T F0 := ⟨_, fun _ _ _ _ _ _ _ _ _ _ _ _ _ _ => rfl⟩
noncomputable def doZ : Int → Int → Int → Int → Int → Int → Int → (List Int) → Int → Bool → Bool → Bool → (List (List Int)) → (List (List Int)) → Bool := Classical.choose doZ_ex
theorem doZ_eq : doZ_T doZ := Classical.choose_spec doZ_ex
abbrev doN_T (F0 : Int → Int → Int → Int → Int → Int → Int → (List Int) → Int → Bool → Bool → Bool → (List (List Int)) → (List (List Int)) → Bool) : Prop := ∀ op k A B C imm l1 R pc z n l ps qs, F0 op k A B C imm l1 R pc z n l ps qs = if op = 19 then decide (sg (R.getD A.toNat 0) < sg (R.getD B.toNat 0)) else if op = 20 then decide (sg (R.getD A.toNat 0) < sg (IntKind.u32.wrap imm)) else n
theorem doN_ex : ∃ F0, doN_T F0 := ⟨_, fun _ _ _ _ _ _ _ _ _ _ _ _ _ _ => rfl⟩
noncomputable def doN : Int → Int → Int → Int → Int → Int → Int → (List Int) → Int → Bool → Bool → Bool → (List (List Int)) → (List (List Int)) → Bool := Classical.choose doN_ex
theorem doN_eq : doN_T doN := Classical.choose_spec doN_ex
abbrev doL_T (F0 : Int → Int → Int → Int → Int → Int → Int → (List Int) → Int → Bool → Bool → Bool → (List (List Int)) → (List (List Int)) → Bool) : Prop := ∀ op k A B C imm l1 R pc z n l ps qs, F0 op k A B C imm l1 R pc z n l ps qs = if op = 19 then decide (R.getD A.toNat 0 < R.getD B.toNat 0) else if op = 20 then decide (R.getD A.toNat 0 < IntKind.u32.wrap imm) else l
theorem doL_ex : ∃ F0, doL_T F0 := ⟨_, fun _ _ _ _ _ _ _ _ _ _ _ _ _ _ => rfl⟩
noncomputable def doL : Int → Int → Int → Int → Int → Int → Int → (List Int) → Int → Bool → Bool → Bool → (List (List Int)) → (List (List Int)) → Bool := Classical.choose doL_ex
theorem doL_eq : doL_T doL := Classical.choose_spec doL_ex
abbrev doP_T (F0 : Int → Int → Int → Int → Int → Int → Int → (List Int) → Int → Bool → Bool → Bool → (List (List Int)) → (List (List Int)) → List (List Int)) : Prop := ∀ op k A B C imm l1 R pc z n l ps qs, F0 op k A B C imm l1 R pc z n l ps qs = if 15 ≤ op ∧ op ≤ 18 then tcP ps qs l1 op A B C imm R else ps
theorem doP_ex : ∃ F0, doP_T F0 := ⟨_, fun _ _ _ _ _ _ _ _ _ _ _ _ _ _ => rfl⟩
noncomputable def doP : Int → Int → Int → Int → Int → Int → Int → (List Int) → Int → Bool → Bool → Bool → (List (List Int)) → (List (List Int)) → List (List Int) := Classical.choose doP_ex
theorem doP_eq : doP_T doP := Classical.choose_spec doP_ex
abbrev doQ_T (F0 : Int → Int → Int → Int → Int → Int → Int → (List Int) → Int → Bool → Bool → Bool → (List (List Int)) → (List (List Int)) → List (List Int)) : Prop := ∀ op k A B C imm l1 R pc z n l ps qs, F0 op k A B C imm l1 R pc z n l ps qs = if 15 ≤ op ∧ op ≤ 18 then tcQ ps qs l1 op A B C imm R else qs
theorem doQ_ex : ∃ F0, doQ_T F0 := ⟨_, fun _ _ _ _ _ _ _ _ _ _ _ _ _ _ => rfl⟩
noncomputable def doQ : Int → Int → Int → Int → Int → Int → Int → (List Int) → Int → Bool → Bool → Bool → (List (List Int)) → (List (List Int)) → List (List Int) := Classical.choose doQ_ex
theorem doQ_eq : doQ_T doQ := Classical.choose_spec doQ_ex
abbrev doM_T (F0 : Int → Int → Int → Int → Int → Int → Int → (List Int) → Int → Bool → Bool → Bool → (List (List Int)) → (List (List Int)) → Int → Int) : Prop := ∀ op k A B C imm l1 R pc z n l ps qs m, F0 op k A B C imm l1 R pc z n l ps qs m = if 15 ≤ op ∧ op ≤ 18 then tcM ps qs l1 op A B C imm R m else m
theorem doM_ex : ∃ F0, doM_T F0 := ⟨_, fun _ _ _ _ _ _ _ _ _ _ _ _ _ _ _ => rfl⟩
noncomputable def doM : Int → Int → Int → Int → Int → Int → Int → (List Int) → Int → Bool → Bool → Bool → (List (List Int)) → (List (List Int)) → Int → Int := Classical.choose doM_ex
theorem doM_eq : doM_T doM := Classical.choose_spec doM_ex
noncomputable def pt_Cc : List (Nat × (List SV → Option (List Prop × SV))) := [(93, c_sumC), (101, c_setHi), (95, c_Compare), (128, c_Holds)]
theorem pt_Cc_ok : PureOK Tryd.prog (fun f => List.lookup f pt_Cc) := pure_list pt_Cc ⟨c_sumC_e, c_setHi_e, c_Compare_e, c_Holds_e, trivial⟩
noncomputable def et_Cc : List (Nat × ECon) := [(92, c_moveC), (96, c_jumpC), (94, c_touchC)]
theorem et_Cc_ok : ConOK Tryd.prog (fun f => List.lookup f et_Cc) := con_list et_Cc ⟨c_moveC_e, c_jumpC_e, c_touchC_e, trivial⟩
noncomputable abbrev cx_Cc (must : Nat → Option Bool := fun _ => none) (loop : Nat → SS → Option LoopSpec := fun _ _ => none) (fz : Nat → SS → List Nat := fun _ _ => []) (on : Bool := false) : Ctx := ⟨tab, inlG tab (fun f => List.lookup f pt_Cc) (fun f => List.lookup f et_Cc) fns (fun _ => {}) 1000 6, fun f => List.lookup f pt_Cc, must, loop, 0, 0, fun f => List.lookup f et_Cc, fz, on⟩
theorem cx_Cc_ok (must : Nat → Option Bool) (loop : Nat → SS → Option LoopSpec) (fz : Nat → SS → List Nat) (on : Bool) : CxOK Tryd.prog (cx_Cc must loop fz on) := inlG_ok mixed tab_ok pt_Cc_ok et_Cc_ok fns_ok 6 _ _ _ _ _ _
theorem doE_ok (l1 : Int) (R : List Int) (pc : Int) (z n l : Bool) (ps qs : List (List Int)) (m : Int) (op k A B C imm : Int) (h0 : wfF R pc) (h1 : wfI op k A B C imm) (h2 : wfM l1 ps qs m) : SemCall Tryd.prog 55 [.ptr 0 0, .agg [.int .i64 op, .int .i64 k, .int .i64 A, .int .i64 B, .int .i64 C, .int .i32 imm]] [some ⟨127, [.ptr 1 0, .int .i64 l1, .ints .u32 15 R, .int .u32 pc, .bool z, .bool n, .bool l], 0, none⟩, some ⟨120, [], 0, some (.own (.mem ps qs m))⟩] (AltK [⟨none, .agg [.int .i64 (doK op k A B C imm l1 R pc z n l ps qs), .int .u32 (doA op k A B C imm l1 R pc z n l ps qs)], [some ⟨127, [.ptr 1 0, .int .i64 l1, .ints .u32 15 (doR op k A B C imm l1 R pc z n l ps qs), .int .u32 (doC op k A B C imm l1 R pc z n l ps qs), .bool (doZ op k A B C imm l1 R pc z n l ps qs), .bool (doN op k A B C imm l1 R pc z n l ps qs), .bool (doL op k A B C imm l1 R pc z n l ps qs)], 0, none⟩, some ⟨120, [], 0, some (.own (.mem (doP op k A B C imm l1 R pc z n l ps qs) (doQ op k A B C imm l1 R pc z n l ps qs) (doM op k A B C imm l1 R pc z n l ps qs m)))⟩]⟩]) := by
  refine con_intro mixed (cx_Cc_ok (fun _ => none) (fun _ _ => none) (fun _ _ => []) false) Tryd.func55 1000 ?_
  refine of_nf (p := letI k1_ := ((0 = doK op k A B C imm l1 R pc z n l ps qs /\ 0 = doA op k A B C imm l1 R pc z n l ps qs /\ True) /\ True); letI k2_ := (OT.mem (doP op k A B C imm l1 R pc z n l ps qs) (doQ op k A B C imm l1 R pc z n l ps qs) (doM op k A B C imm l1 R pc z n l ps qs m)); letI k0_ := (Ob.own (OT.mem ps qs m) = Ob.own k2_ /\ nat_lit 119 + (1 : Nat) = (120 : TypeId) /\ (0 : Nat) = (0 : Nat) /\ True); letI k3_ := (nat_lit 126 + (1 : Nat) = (127 : TypeId) /\ (0 : Nat) = (0 : Nat) /\ SV.ptr (1 : Nat) 0 = SV.ptr (1 : Nat) (0 : Nat) /\ l1 = l1 /\ R = doR op k A B C imm l1 R pc z n l ps qs /\ pc = doC op k A B C imm l1 R pc z n l ps qs /\ z = doZ op k A B C imm l1 R pc z n l ps qs /\ n = doN op k A B C imm l1 R pc z n l ps qs /\ l = doL op k A B C imm l1 R pc z n l ps qs /\ True); letI k4_ := ([(0 : Int), 1, 1, 1, 2, 2, 2, 2, 2, 2, 2, 2, 2, 2, 1, 3, 3, 3, 3, 4, 4, 5, 5, 5, 6].getD op.toNat 0 == (1 : Int)); letI k5_ := ([(0 : Int), 1, 1, 1, 2, 2, 2, 2, 2, 2, 2, 2, 2, 2, 1, 3, 3, 3, 3, 4, 4, 5, 5, 5, 6].getD op.toNat 0 == (2 : Int)); letI k6_ := ([(0 : Int), 1, 1, 1, 2, 2, 2, 2, 2, 2, 2, 2, 2, 2, 1, 3, 3, 3, 3, 4, 4, 5, 5, 5, 6].getD op.toNat 0 == (3 : Int)); letI k7_ := ([(0 : Int), 1, 1, 1, 2, 2, 2, 2, 2, 2, 2, 2, 2, 2, 1, 3, 3, 3, 3, 4, 4, 5, 5, 5, 6].getD op.toNat 0 == (4 : Int)); letI k8_ := ([(0 : Int), 1, 1, 1, 2, 2, 2, 2, 2, 2, 2, 2, 2, 2, 1, 3, 3, 3, 3, 4, 4, 5, 5, 5, 6].getD op.toNat 0 == (5 : Int)); letI k9_ := ([(0 : Int), 1, 1, 1, 2, 2, 2, 2, 2, 2, 2, 2, 2, 2, 1, 3, 3, 3, 3, 4, 4, 5, 5, 5, 6].getD op.toNat 0 == (6 : Int)); (0 : Int) <= op /\ op < 25 /\ (k4_ = true -> wfF R pc /\ wfI op k A B C imm /\ wfM l1 ps qs m /\ ∀ (m_1 : Int), m_1 = l1 -> ∀ (ys : List Int), ys = mvR op A B imm R -> ∀ (m_2 : Int), m_2 = pc -> ∀ (c : Bool), c = z -> ∀ (c_1 : Bool), c_1 = n -> ∀ (c_2 : Bool), c_2 = l -> ∀ (ps' : List (List Int)), ps' = ps -> ∀ (qs' : List (List Int)), qs' = qs -> ∀ (m' : Int), m' = m -> ∀ (m_3 : Int), m_3 = op -> ∀ (m_4 : Int), m_4 = k -> ∀ (m_5 : Int), m_5 = A -> ∀ (m_6 : Int), m_6 = B -> ∀ (m_7 : Int), m_7 = C -> ∀ (m_8 : Int), m_8 = imm -> k1_ /\ (nat_lit 126 + (1 : Nat) = (127 : TypeId) /\ (0 : Nat) = (0 : Nat) /\ SV.ptr (1 : Nat) 0 = SV.ptr (1 : Nat) (0 : Nat) /\ m_1 = l1 /\ ys = doR op k A B C imm l1 R pc z n l ps qs /\ m_2 = doC op k A B C imm l1 R pc z n l ps qs /\ c = doZ op k A B C imm l1 R pc z n l ps qs /\ c_1 = doN op k A B C imm l1 R pc z n l ps qs /\ c_2 = doL op k A B C imm l1 R pc z n l ps qs /\ True) /\ (Ob.own (OT.mem ps' qs' m') = Ob.own k2_ /\ nat_lit 119 + (1 : Nat) = (120 : TypeId) /\ (0 : Nat) = (0 : Nat) /\ True) /\ True) /\ (k4_ = false -> (k5_ = true -> 0 <= B /\ B < 15 /\ 0 <= B /\ B < (((15 : Nat) : Nat) : Int) /\ 0 <= C /\ C < 15 /\ 0 <= C /\ C < (((15 : Nat) : Nat) : Int) /\ (0 <= R.getD B.toNat 0 /\ R.getD B.toNat 0 < (4294967296 : Int)) /\ (0 <= R.getD C.toNat 0 /\ R.getD C.toNat 0 < (4294967296 : Int)) /\ 0 <= A /\ A < 15 /\ 0 <= A /\ A < (((15 : Nat) : Nat) : Int) /\ R.length = 15 /\ k1_ /\ (nat_lit 126 + (1 : Nat) = (127 : TypeId) /\ (0 : Nat) = (0 : Nat) /\ SV.ptr (1 : Nat) 0 = SV.ptr (1 : Nat) (0 : Nat) /\ l1 = l1 /\ R.set A.toNat (smV op (R.getD B.toNat 0) (R.getD C.toNat 0)) = doR op k A B C imm l1 R pc z n l ps qs /\ pc = doC op k A B C imm l1 R pc z n l ps qs /\ z = doZ op k A B C imm l1 R pc z n l ps qs /\ n = doN op k A B C imm l1 R pc z n l ps qs /\ l = doL op k A B C imm l1 R pc z n l ps qs /\ True) /\ k0_ /\ True) /\ (k5_ = false -> (k6_ = true -> wfF R pc /\ wfI op k A B C imm /\ wfM l1 ps qs m /\ (15 <= op /\ op <= 18) /\ ∀ (m_1 : Int), m_1 = tcK ps qs l1 op A B C imm R -> ∀ (m_2 : Int), m_2 = tcA ps qs l1 op A B C imm R -> ∀ (m_3 : Int), m_3 = l1 -> ∀ (ys : List Int), ys = tcR ps qs l1 op A B C imm R -> ∀ (m_4 : Int), m_4 = pc -> ∀ (c : Bool), c = z -> ∀ (c_1 : Bool), c_1 = n -> ∀ (c_2 : Bool), c_2 = l -> ∀ (ps' : List (List Int)), ps' = tcP ps qs l1 op A B C imm R -> ∀ (qs' : List (List Int)), qs' = tcQ ps qs l1 op A B C imm R -> ∀ (m' : Int), m' = tcM ps qs l1 op A B C imm R m -> ∀ (m_5 : Int), m_5 = op -> ∀ (m_6 : Int), m_6 = k -> ∀ (m_7 : Int), m_7 = A -> ∀ (m_8 : Int), m_8 = B -> ∀ (m_9 : Int), m_9 = C -> ∀ (m_10 : Int), m_10 = imm -> ((m_1 = doK op k A B C imm l1 R pc z n l ps qs /\ m_2 = doA op k A B C imm l1 R pc z n l ps qs /\ True) /\ True) /\ (nat_lit 126 + (1 : Nat) = (127 : TypeId) /\ (0 : Nat) = (0 : Nat) /\ SV.ptr (1 : Nat) 0 = SV.ptr (1 : Nat) (0 : Nat) /\ m_3 = l1 /\ ys = doR op k A B C imm l1 R pc z n l ps qs /\ m_4 = doC op k A B C imm l1 R pc z n l ps qs /\ c = doZ op k A B C imm l1 R pc z n l ps qs /\ c_1 = doN op k A B C imm l1 R pc z n l ps qs /\ c_2 = doL op k A B C imm l1 R pc z n l ps qs /\ True) /\ (Ob.own (OT.mem ps' qs' m') = Ob.own k2_ /\ nat_lit 119 + (1 : Nat) = (120 : TypeId) /\ (0 : Nat) = (0 : Nat) /\ True) /\ True) /\ (k6_ = false -> (k7_ = true -> ((op == 19) = true -> 0 <= A /\ A < 15 /\ 0 <= A /\ A < (((15 : Nat) : Nat) : Int) /\ 0 <= B /\ B < 15 /\ 0 <= B /\ B < (((15 : Nat) : Nat) : Int) /\ (0 <= R.getD A.toNat 0 /\ R.getD A.toNat 0 < (4294967296 : Int)) /\ (0 <= R.getD B.toNat 0 /\ R.getD B.toNat 0 < (4294967296 : Int)) /\ k1_ /\ (nat_lit 126 + (1 : Nat) = (127 : TypeId) /\ (0 : Nat) = (0 : Nat) /\ SV.ptr (1 : Nat) 0 = SV.ptr (1 : Nat) (0 : Nat) /\ l1 = l1 /\ R = doR op k A B C imm l1 R pc z n l ps qs /\ pc = doC op k A B C imm l1 R pc z n l ps qs /\ (R.getD A.toNat 0 == R.getD B.toNat 0) = doZ op k A B C imm l1 R pc z n l ps qs /\ decide (sg (R.getD A.toNat 0) < sg (R.getD B.toNat 0)) = doN op k A B C imm l1 R pc z n l ps qs /\ decide (R.getD A.toNat 0 < R.getD B.toNat 0) = doL op k A B C imm l1 R pc z n l ps qs /\ True) /\ k0_ /\ True) /\ ((op == 19) = false -> 0 <= A /\ A < 15 /\ 0 <= A /\ A < (((15 : Nat) : Nat) : Int) /\ (0 <= R.getD A.toNat 0 /\ R.getD A.toNat 0 < (4294967296 : Int)) /\ (0 <= IntKind.u32.wrap imm /\ IntKind.u32.wrap imm < 4294967296) /\ k1_ /\ (nat_lit 126 + (1 : Nat) = (127 : TypeId) /\ (0 : Nat) = (0 : Nat) /\ SV.ptr (1 : Nat) 0 = SV.ptr (1 : Nat) (0 : Nat) /\ l1 = l1 /\ R = doR op k A B C imm l1 R pc z n l ps qs /\ pc = doC op k A B C imm l1 R pc z n l ps qs /\ (R.getD A.toNat 0 == IntKind.u32.wrap imm) = doZ op k A B C imm l1 R pc z n l ps qs /\ decide (sg (R.getD A.toNat 0) < sg (IntKind.u32.wrap imm)) = doN op k A B C imm l1 R pc z n l ps qs /\ decide (R.getD A.toNat 0 < IntKind.u32.wrap imm) = doL op k A B C imm l1 R pc z n l ps qs /\ True) /\ k0_ /\ True)) /\ (k7_ = false -> (k8_ = true -> wfF R pc /\ wfI op k A B C imm /\ wfM l1 ps qs m /\ ∀ (m_1 : Int), m_1 = l1 -> ∀ (ys : List Int), ys = jpR op pc R -> ∀ (m_2 : Int), m_2 = jpP op k A imm R pc z n l -> ∀ (c : Bool), c = z -> ∀ (c_1 : Bool), c_1 = n -> ∀ (c_2 : Bool), c_2 = l -> ∀ (ps' : List (List Int)), ps' = ps -> ∀ (qs' : List (List Int)), qs' = qs -> ∀ (m' : Int), m' = m -> ∀ (m_3 : Int), m_3 = op -> ∀ (m_4 : Int), m_4 = k -> ∀ (m_5 : Int), m_5 = A -> ∀ (m_6 : Int), m_6 = B -> ∀ (m_7 : Int), m_7 = C -> ∀ (m_8 : Int), m_8 = imm -> k1_ /\ (nat_lit 126 + (1 : Nat) = (127 : TypeId) /\ (0 : Nat) = (0 : Nat) /\ SV.ptr (1 : Nat) 0 = SV.ptr (1 : Nat) (0 : Nat) /\ m_1 = l1 /\ ys = doR op k A B C imm l1 R pc z n l ps qs /\ m_2 = doC op k A B C imm l1 R pc z n l ps qs /\ c = doZ op k A B C imm l1 R pc z n l ps qs /\ c_1 = doN op k A B C imm l1 R pc z n l ps qs /\ c_2 = doL op k A B C imm l1 R pc z n l ps qs /\ True) /\ (Ob.own (OT.mem ps' qs' m') = Ob.own k2_ /\ nat_lit 119 + (1 : Nat) = (120 : TypeId) /\ (0 : Nat) = (0 : Nat) /\ True) /\ True) /\ (k8_ = false -> (k9_ = true -> ((1 = doK op k A B C imm l1 R pc z n l ps qs /\ IntKind.u32.wrap imm = doA op k A B C imm l1 R pc z n l ps qs /\ True) /\ True) /\ k3_ /\ k0_ /\ True) /\ (k9_ = false -> k1_ /\ k3_ /\ k0_ /\ True))))))) (by kernel_rfl) ?_
  have HF := h0
  have HI := h1
  have HM := h2
  obtain ⟨f1, f2, f3⟩ := h0
  obtain ⟨i1, i2, i3, i4, i5, i6⟩ := h1
  obtain ⟨m0, m1, m2, m3, m4⟩ := h2
  have hr := fun i => rg_in f2 i
  have hu := fun x => u32_wrap x
  simp only [InK] at hr hu m0 f3 i5 i6
  rcases (by omega : (op = 1 ∨ op = 2 ∨ op = 3 ∨ op = 14) ∨ (4 ≤ op ∧ op ≤ 13) ∨ (15 ≤ op ∧ op ≤ 18) ∨ (op = 19 ∨ op = 20) ∨ (21 ≤ op ∧ op ≤ 23) ∨ op = 24) with hop | hop | hop | hop | hop | hop
  · have hg : ([0, 1, 1, 1, 2, 2, 2, 2, 2, 2, 2, 2, 2, 2, 1, 3, 3, 3, 3, 4, 4, 5, 5, 5, 6] : List Int).getD op.toNat 0 = 1 := by rcases hop with rfl | rfl | rfl | rfl <;> rfl
    simp only [hg, Int.reduceBEq, Int.reduceEq, Bool.false_eq_true, Bool.true_eq_false, reduceCtorEq, false_implies, true_implies, implies_true, and_true, true_and, ↓forall_eq, beq_iff_eq, beq_eq_false_iff_ne, ne_eq]
    repeat' (first | with_reducible rfl | exact True.intro | with_reducible assumption | apply And.intro | intro _h)
    all_goals first
      | exact (hr _).1
      | exact (hr _).2
      | exact (hu _).1
      | exact (hu _).2
      | omega
      | (rw [doK_eq]; (repeat' split) <;> first | rfl | omega)
      | (rw [doA_eq]; (repeat' split) <;> first | rfl | omega)
      | (rw [doR_eq]; (repeat' split) <;> first | rfl | omega)
      | (rw [doC_eq]; (repeat' split) <;> first | rfl | omega)
      | (rw [doZ_eq]; (repeat' split) <;> first | rfl | omega)
      | (rw [doN_eq]; (repeat' split) <;> first | rfl | omega)
      | (rw [doL_eq]; (repeat' split) <;> first | rfl | omega)
      | (refine memEq ?_ ?_ ?_ <;> first | (rw [doP_eq]; split <;> first | rfl | omega) | (rw [doQ_eq]; split <;> first | rfl | omega) | (rw [doM_eq]; split <;> first | rfl | omega))
      | (exact ⟨by omega, by omega⟩)
      | trace_state
  · have hg : ([0, 1, 1, 1, 2, 2, 2, 2, 2, 2, 2, 2, 2, 2, 1, 3, 3, 3, 3, 4, 4, 5, 5, 5, 6] : List Int).getD op.toNat 0 = 2 := by rcases (by omega : op = 4 ∨ op = 5 ∨ op = 6 ∨ op = 7 ∨ op = 8 ∨ op = 9 ∨ op = 10 ∨ op = 11 ∨ op = 12 ∨ op = 13) with rfl | rfl | rfl | rfl | rfl | rfl | rfl | rfl | rfl | rfl <;> rfl
    simp only [hg, Int.reduceBEq, Int.reduceEq, Bool.false_eq_true, Bool.true_eq_false, reduceCtorEq, false_implies, true_implies, implies_true, and_true, true_and, ↓forall_eq, beq_iff_eq, beq_eq_false_iff_ne, ne_eq]
    repeat' (first | with_reducible rfl | exact True.intro | with_reducible assumption | apply And.intro | intro _h)
    all_goals first
      | exact (hr _).1
      | exact (hr _).2
      | exact (hu _).1
      | exact (hu _).2
      | omega
      | (rw [doK_eq]; (repeat' split) <;> first | rfl | omega)
      | (rw [doA_eq]; (repeat' split) <;> first | rfl | omega)
      | (rw [doR_eq]; (repeat' split) <;> first | rfl | omega)
      | (rw [doC_eq]; (repeat' split) <;> first | rfl | omega)
      | (rw [doZ_eq]; (repeat' split) <;> first | rfl | omega)
      | (rw [doN_eq]; (repeat' split) <;> first | rfl | omega)
      | (rw [doL_eq]; (repeat' split) <;> first | rfl | omega)
      | (refine memEq ?_ ?_ ?_ <;> first | (rw [doP_eq]; split <;> first | rfl | omega) | (rw [doQ_eq]; split <;> first | rfl | omega) | (rw [doM_eq]; split <;> first | rfl | omega))
      | (exact ⟨by omega, by omega⟩)
      | trace_state
  · have hg : ([0, 1, 1, 1, 2, 2, 2, 2, 2, 2, 2, 2, 2, 2, 1, 3, 3, 3, 3, 4, 4, 5, 5, 5, 6] : List Int).getD op.toNat 0 = 3 := by rcases (by omega : op = 15 ∨ op = 16 ∨ op = 17 ∨ op = 18) with rfl | rfl | rfl | rfl <;> rfl
    simp only [hg, Int.reduceBEq, Int.reduceEq, Bool.false_eq_true, Bool.true_eq_false, reduceCtorEq, false_implies, true_implies, implies_true, and_true, true_and, ↓forall_eq, beq_iff_eq, beq_eq_false_iff_ne, ne_eq]
    repeat' (first | with_reducible rfl | exact True.intro | with_reducible assumption | apply And.intro | intro _h)
    all_goals first
      | exact (hr _).1
      | exact (hr _).2
      | exact (hu _).1
      | exact (hu _).2
      | omega
      | (rw [doK_eq]; (repeat' split) <;> first | rfl | omega)
      | (rw [doA_eq]; (repeat' split) <;> first | rfl | omega)
      | (rw [doR_eq]; (repeat' split) <;> first | rfl | omega)
      | (rw [doC_eq]; (repeat' split) <;> first | rfl | omega)
      | (rw [doZ_eq]; (repeat' split) <;> first | rfl | omega)
      | (rw [doN_eq]; (repeat' split) <;> first | rfl | omega)
      | (rw [doL_eq]; (repeat' split) <;> first | rfl | omega)
      | (refine memEq ?_ ?_ ?_ <;> first | (rw [doP_eq]; split <;> first | rfl | omega) | (rw [doQ_eq]; split <;> first | rfl | omega) | (rw [doM_eq]; split <;> first | rfl | omega))
      | (exact ⟨by omega, by omega⟩)
      | trace_state
  · have hg : ([0, 1, 1, 1, 2, 2, 2, 2, 2, 2, 2, 2, 2, 2, 1, 3, 3, 3, 3, 4, 4, 5, 5, 5, 6] : List Int).getD op.toNat 0 = 4 := by rcases hop with rfl | rfl <;> rfl
    simp only [hg, Int.reduceBEq, Int.reduceEq, Bool.false_eq_true, Bool.true_eq_false, reduceCtorEq, false_implies, true_implies, implies_true, and_true, true_and, ↓forall_eq, beq_iff_eq, beq_eq_false_iff_ne, ne_eq]
    repeat' (first | with_reducible rfl | exact True.intro | with_reducible assumption | apply And.intro | intro _h)
    all_goals first
      | exact (hr _).1
      | exact (hr _).2
      | exact (hu _).1
      | exact (hu _).2
      | omega
      | (rw [doK_eq]; (repeat' split) <;> first | rfl | omega)
      | (rw [doA_eq]; (repeat' split) <;> first | rfl | omega)
      | (rw [doR_eq]; (repeat' split) <;> first | rfl | omega)
      | (rw [doC_eq]; (repeat' split) <;> first | rfl | omega)
      | (rw [doZ_eq]; (repeat' split) <;> first | rfl | omega)
      | (rw [doN_eq]; (repeat' split) <;> first | rfl | omega)
      | (rw [doL_eq]; (repeat' split) <;> first | rfl | omega)
      | (refine memEq ?_ ?_ ?_ <;> first | (rw [doP_eq]; split <;> first | rfl | omega) | (rw [doQ_eq]; split <;> first | rfl | omega) | (rw [doM_eq]; split <;> first | rfl | omega))
      | (exact ⟨by omega, by omega⟩)
      | trace_state
  · have hg : ([0, 1, 1, 1, 2, 2, 2, 2, 2, 2, 2, 2, 2, 2, 1, 3, 3, 3, 3, 4, 4, 5, 5, 5, 6] : List Int).getD op.toNat 0 = 5 := by rcases (by omega : op = 21 ∨ op = 22 ∨ op = 23) with rfl | rfl | rfl <;> rfl
    simp only [hg, Int.reduceBEq, Int.reduceEq, Bool.false_eq_true, Bool.true_eq_false, reduceCtorEq, false_implies, true_implies, implies_true, and_true, true_and, ↓forall_eq, beq_iff_eq, beq_eq_false_iff_ne, ne_eq]
    repeat' (first | with_reducible rfl | exact True.intro | with_reducible assumption | apply And.intro | intro _h)
    all_goals first
      | exact (hr _).1
      | exact (hr _).2
      | exact (hu _).1
      | exact (hu _).2
      | omega
      | (rw [doK_eq]; (repeat' split) <;> first | rfl | omega)
      | (rw [doA_eq]; (repeat' split) <;> first | rfl | omega)
      | (rw [doR_eq]; (repeat' split) <;> first | rfl | omega)
      | (rw [doC_eq]; (repeat' split) <;> first | rfl | omega)
      | (rw [doZ_eq]; (repeat' split) <;> first | rfl | omega)
      | (rw [doN_eq]; (repeat' split) <;> first | rfl | omega)
      | (rw [doL_eq]; (repeat' split) <;> first | rfl | omega)
      | (refine memEq ?_ ?_ ?_ <;> first | (rw [doP_eq]; split <;> first | rfl | omega) | (rw [doQ_eq]; split <;> first | rfl | omega) | (rw [doM_eq]; split <;> first | rfl | omega))
      | (exact ⟨by omega, by omega⟩)
      | trace_state
  · have hg : ([0, 1, 1, 1, 2, 2, 2, 2, 2, 2, 2, 2, 2, 2, 1, 3, 3, 3, 3, 4, 4, 5, 5, 5, 6] : List Int).getD op.toNat 0 = 6 := by subst hop; rfl
    simp only [hg, Int.reduceBEq, Int.reduceEq, Bool.false_eq_true, Bool.true_eq_false, reduceCtorEq, false_implies, true_implies, implies_true, and_true, true_and, ↓forall_eq, beq_iff_eq, beq_eq_false_iff_ne, ne_eq]
    repeat' (first | with_reducible rfl | exact True.intro | with_reducible assumption | apply And.intro | intro _h)
    all_goals first
      | exact (hr _).1
      | exact (hr _).2
      | exact (hu _).1
      | exact (hu _).2
      | omega
      | (rw [doK_eq]; (repeat' split) <;> first | rfl | omega)
      | (rw [doA_eq]; (repeat' split) <;> first | rfl | omega)
      | (rw [doR_eq]; (repeat' split) <;> first | rfl | omega)
      | (rw [doC_eq]; (repeat' split) <;> first | rfl | omega)
      | (rw [doZ_eq]; (repeat' split) <;> first | rfl | omega)
      | (rw [doN_eq]; (repeat' split) <;> first | rfl | omega)
      | (rw [doL_eq]; (repeat' split) <;> first | rfl | omega)
      | (refine memEq ?_ ?_ ?_ <;> first | (rw [doP_eq]; split <;> first | rfl | omega) | (rw [doQ_eq]; split <;> first | rfl | omega) | (rw [doM_eq]; split <;> first | rfl | omega))
      | (exact ⟨by omega, by omega⟩)
      | trace_state
noncomputable def c_doE : ECon
  | [.ptr 0 0, .agg [.int .i64 op, .int .i64 k, .int .i64 A, .int .i64 B, .int .i64 C, .int .i32 imm]], [some ⟨127, [.ptr 1 0, .int .i64 l1, .ints .u32 15 R, .int .u32 pc, .bool z, .bool n, .bool l], 0, none⟩, some ⟨120, [], 0, some (.own (.mem ps qs m))⟩] => some ([wfF R pc, wfI op k A B C imm, wfM l1 ps qs m], [⟨none, .agg [.int .i64 (doK op k A B C imm l1 R pc z n l ps qs), .int .u32 (doA op k A B C imm l1 R pc z n l ps qs)], [some ⟨127, [.ptr 1 0, .int .i64 l1, .ints .u32 15 (doR op k A B C imm l1 R pc z n l ps qs), .int .u32 (doC op k A B C imm l1 R pc z n l ps qs), .bool (doZ op k A B C imm l1 R pc z n l ps qs), .bool (doN op k A B C imm l1 R pc z n l ps qs), .bool (doL op k A B C imm l1 R pc z n l ps qs)], 0, none⟩, some ⟨120, [], 0, some (.own (.mem (doP op k A B C imm l1 R pc z n l ps qs) (doQ op k A B C imm l1 R pc z n l ps qs) (doM op k A B C imm l1 R pc z n l ps qs m)))⟩]⟩])
  | _, _ => none
theorem c_doE_e : EEntry Tryd.prog 55 c_doE := by
  refine ⟨callFunc_ok Tryd.func55 (by kernel_rfl) (by kernel_rfl), fun args rows ps alts h hp => ?_⟩
  unfold c_doE at h
  split at h
  · cases h; exact doE_ok _ _ _ _ _ _ _ _ _ _ _ _ _ _ _ (hp.i 0) (hp.i 1) (hp.i 2)
  · cases h
end Go.Proofs.YtimjnajdpccjdaaDoor
