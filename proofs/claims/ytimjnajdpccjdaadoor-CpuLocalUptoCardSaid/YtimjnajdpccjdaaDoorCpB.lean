/- Package cpu: what an instruction does. No condition beyond the arguments' types. -/
import Derived.Test.YtimjnajdpccjdaaDoorCpA
namespace Go.Proofs.YtimjnajdpccjdaaDoor
set_option linter.unusedVariables false
set_option linter.unusedSimpArgs false
open Go.RowKit Sx
set_option maxRecDepth 100000
set_option maxHeartbeats 8000000
structure wfF (R : List Int) (pc : Int) : Prop where
  len : R.length = 15
  iin : ∀ x ∈ R, InK .u32 x
  p0 : InK .u32 pc
structure wfI (op k A B C imm : Int) : Prop where
  o : 1 ≤ op ∧ op < 25
  a : 0 ≤ A ∧ A < 15
  b : 0 ≤ B ∧ B < 15
  c : 0 ≤ C ∧ C < 15
  i : InK .i32 imm
  k0 : InK .i64 k
structure wfM (l1 : Int) (ps qs : List (List Int)) (m : Int) : Prop where
  l0 : InK .i64 l1
  m0 : 0 ≤ m
  m1 : m ≤ 4000000000000000000
  p1 : wfP ps
  p2 : wfP qs
theorem rg_in {R : List Int} (h : ∀ x ∈ R, InK .u32 x) (i : Nat) : InK .u32 (R.getD i 0) := by
  rw [List.getD_eq_getElem?_getD]
  cases e : R[i]? with
  | none => simp [InK]
  | some x => exact h x (List.mem_of_getElem? e)
theorem set_in {R : List Int} (h : ∀ x ∈ R, InK .u32 x) {v : Int} (hv : InK .u32 v) (i : Nat) : ∀ x ∈ R.set i v, InK .u32 x := fun x hx => by
  rcases List.mem_or_eq_of_mem_set hx with hx | rfl
  · exact h x hx
  · exact hv
abbrev mvR_T (F0 : Int → Int → Int → Int → (List Int) → List Int) : Prop := ∀ op A B imm R, F0 op A B imm R = if op = 1 then R.set A.toNat (IntKind.u32.wrap imm) else if op = 2 then R.set A.toNat (stH (R.getD A.toNat 0) (IntKind.u32.wrap imm)) else if op = 3 then R.set A.toNat (R.getD B.toNat 0) else R.set A.toNat (IntKind.u32.wrap (R.getD B.toNat 0 + IntKind.u32.wrap imm))
theorem mvR_ex : ∃ F0, mvR_T F0 := ⟨_, fun _ _ _ _ _ => rfl⟩
noncomputable def mvR : Int → Int → Int → Int → (List Int) → List Int := Classical.choose mvR_ex
theorem mvR_eq : mvR_T mvR := Classical.choose_spec mvR_ex
abbrev jpR_T (F0 : Int → Int → (List Int) → List Int) : Prop := ∀ op pc R, F0 op pc R = if op = 22 then R.set 14 pc else R
theorem jpR_ex : ∃ F0, jpR_T F0 := ⟨_, fun _ _ _ => rfl⟩
noncomputable def jpR : Int → Int → (List Int) → List Int := Classical.choose jpR_ex
theorem jpR_eq : jpR_T jpR := Classical.choose_spec jpR_ex
abbrev jpP_T (F0 : Int → Int → Int → Int → (List Int) → Int → Bool → Bool → Bool → Int) : Prop := ∀ op k A imm R pc z n l, F0 op k A imm R pc z n l = if op = 21 then (if holdsS k z n l = true then IntKind.u32.wrap (pc + IntKind.u32.wrap (4 * IntKind.u32.wrap imm)) else pc) else if op = 22 then IntKind.u32.wrap (pc + IntKind.u32.wrap (4 * IntKind.u32.wrap imm)) else R.getD A.toNat 0
theorem jpP_ex : ∃ F0, jpP_T F0 := ⟨_, fun _ _ _ _ _ _ _ _ _ => rfl⟩
noncomputable def jpP : Int → Int → Int → Int → (List Int) → Int → Bool → Bool → Bool → Int := Classical.choose jpP_ex
theorem jpP_eq : jpP_T jpP := Classical.choose_spec jpP_ex
abbrev vaC_T (F0 : Int → Int → Int → Int → (List Int) → Int) : Prop := ∀ op B C imm R, F0 op B C imm R = if op = 17 ∨ op = 18 then IntKind.u32.wrap (R.getD B.toNat 0 + R.getD C.toNat 0) else IntKind.u32.wrap (R.getD B.toNat 0 + IntKind.u32.wrap imm)
theorem vaC_ex : ∃ F0, vaC_T F0 := ⟨_, fun _ _ _ _ _ => rfl⟩
noncomputable def vaC : Int → Int → Int → Int → (List Int) → Int := Classical.choose vaC_ex
theorem vaC_eq : vaC_T vaC := Classical.choose_spec vaC_ex
abbrev acC_T (F0 : Int → Int) : Prop := ∀ op, F0 op = if op = 16 ∨ op = 18 then 1 else 0
theorem acC_ex : ∃ F0, acC_T F0 := ⟨_, fun _ => rfl⟩
noncomputable def acC : Int → Int := Classical.choose acC_ex
theorem acC_eq : acC_T acC := Classical.choose_spec acC_ex
abbrev tcE_T (F0 : (List (List Int)) → (List (List Int)) → Int → Int → Int → Int → Int → Int → (List Int) → Int) : Prop := ∀ ps qs l1 op A B C imm R, F0 ps qs l1 op A B C imm R = trE ps qs l1 (vaC op B C imm R) (acC op)
theorem tcE_ex : ∃ F0, tcE_T F0 := ⟨_, fun _ _ _ _ _ _ _ _ _ => rfl⟩
noncomputable def tcE : (List (List Int)) → (List (List Int)) → Int → Int → Int → Int → Int → Int → (List Int) → Int := Classical.choose tcE_ex
theorem tcE_eq : tcE_T tcE := Classical.choose_spec tcE_ex
abbrev tcK_T (F0 : (List (List Int)) → (List (List Int)) → Int → Int → Int → Int → Int → Int → (List Int) → Int) : Prop := ∀ ps qs l1 op A B C imm R, F0 ps qs l1 op A B C imm R = if tcE ps qs l1 op A B C imm R = 0 then 0 else 4
theorem tcK_ex : ∃ F0, tcK_T F0 := ⟨_, fun _ _ _ _ _ _ _ _ _ => rfl⟩
noncomputable def tcK : (List (List Int)) → (List (List Int)) → Int → Int → Int → Int → Int → Int → (List Int) → Int := Classical.choose tcK_ex
theorem tcK_eq : tcK_T tcK := Classical.choose_spec tcK_ex
abbrev tcA_T (F0 : (List (List Int)) → (List (List Int)) → Int → Int → Int → Int → Int → Int → (List Int) → Int) : Prop := ∀ ps qs l1 op A B C imm R, F0 ps qs l1 op A B C imm R = if tcE ps qs l1 op A B C imm R = 0 then 0 else (vaC op B C imm R)
theorem tcA_ex : ∃ F0, tcA_T F0 := ⟨_, fun _ _ _ _ _ _ _ _ _ => rfl⟩
noncomputable def tcA : (List (List Int)) → (List (List Int)) → Int → Int → Int → Int → Int → Int → (List Int) → Int := Classical.choose tcA_ex
theorem tcA_eq : tcA_T tcA := Classical.choose_spec tcA_ex
abbrev tcR_T (F0 : (List (List Int)) → (List (List Int)) → Int → Int → Int → Int → Int → Int → (List Int) → List Int) : Prop := ∀ ps qs l1 op A B C imm R, F0 ps qs l1 op A B C imm R = if tcE ps qs l1 op A B C imm R = 0 ∧ acC op ≠ 1 then R.set A.toNat (rdW (trS ps qs l1 (vaC op B C imm R) (acC op)) (trF ps qs l1 (vaC op B C imm R) (acC op)) (trO ps qs l1 (vaC op B C imm R) (acC op)) ps qs) else R
theorem tcR_ex : ∃ F0, tcR_T F0 := ⟨_, fun _ _ _ _ _ _ _ _ _ => rfl⟩
noncomputable def tcR : (List (List Int)) → (List (List Int)) → Int → Int → Int → Int → Int → Int → (List Int) → List Int := Classical.choose tcR_ex
theorem tcR_eq : tcR_T tcR := Classical.choose_spec tcR_ex
abbrev tcP_T (F0 : (List (List Int)) → (List (List Int)) → Int → Int → Int → Int → Int → Int → (List Int) → List (List Int)) : Prop := ∀ ps qs l1 op A B C imm R, F0 ps qs l1 op A B C imm R = if tcE ps qs l1 op A B C imm R = 0 ∧ acC op = 1 then setP (trS ps qs l1 (vaC op B C imm R) (acC op) && okW (trS ps qs l1 (vaC op B C imm R) (acC op)) (trF ps qs l1 (vaC op B C imm R) (acC op)) (trO ps qs l1 (vaC op B C imm R) (acC op)) ps qs) (trF ps qs l1 (vaC op B C imm R) (acC op)) ((pgAt (trS ps qs l1 (vaC op B C imm R) (acC op)) (trF ps qs l1 (vaC op B C imm R) (acC op)) ps qs).set (trO ps qs l1 (vaC op B C imm R) (acC op)).toNat (R.getD A.toNat 0)) ps else ps
theorem tcP_ex : ∃ F0, tcP_T F0 := ⟨_, fun _ _ _ _ _ _ _ _ _ => rfl⟩
noncomputable def tcP : (List (List Int)) → (List (List Int)) → Int → Int → Int → Int → Int → Int → (List Int) → List (List Int) := Classical.choose tcP_ex
theorem tcP_eq : tcP_T tcP := Classical.choose_spec tcP_ex
abbrev tcQ_T (F0 : (List (List Int)) → (List (List Int)) → Int → Int → Int → Int → Int → Int → (List Int) → List (List Int)) : Prop := ∀ ps qs l1 op A B C imm R, F0 ps qs l1 op A B C imm R = if tcE ps qs l1 op A B C imm R = 0 ∧ acC op = 1 then setP (!trS ps qs l1 (vaC op B C imm R) (acC op) && okW (trS ps qs l1 (vaC op B C imm R) (acC op)) (trF ps qs l1 (vaC op B C imm R) (acC op)) (trO ps qs l1 (vaC op B C imm R) (acC op)) ps qs) (trF ps qs l1 (vaC op B C imm R) (acC op)) ((pgAt (trS ps qs l1 (vaC op B C imm R) (acC op)) (trF ps qs l1 (vaC op B C imm R) (acC op)) ps qs).set (trO ps qs l1 (vaC op B C imm R) (acC op)).toNat (R.getD A.toNat 0)) qs else qs
theorem tcQ_ex : ∃ F0, tcQ_T F0 := ⟨_, fun _ _ _ _ _ _ _ _ _ => rfl⟩
noncomputable def tcQ : (List (List Int)) → (List (List Int)) → Int → Int → Int → Int → Int → Int → (List Int) → List (List Int) := Classical.choose tcQ_ex
theorem tcQ_eq : tcQ_T tcQ := Classical.choose_spec tcQ_ex
abbrev tcM_T (F0 : (List (List Int)) → (List (List Int)) → Int → Int → Int → Int → Int → Int → (List Int) → Int → Int) : Prop := ∀ ps qs l1 op A B C imm R m, F0 ps qs l1 op A B C imm R m = if tcE ps qs l1 op A B C imm R = 0 then (if okW (trS ps qs l1 (vaC op B C imm R) (acC op)) (trF ps qs l1 (vaC op B C imm R) (acC op)) (trO ps qs l1 (vaC op B C imm R) (acC op)) ps qs = true then m + wkL ps qs l1 (vaC op B C imm R) + 1 else m + wkL ps qs l1 (vaC op B C imm R)) else m + wkL ps qs l1 (vaC op B C imm R)
theorem tcM_ex : ∃ F0, tcM_T F0 := ⟨_, fun _ _ _ _ _ _ _ _ _ _ => rfl⟩
noncomputable def tcM : (List (List Int)) → (List (List Int)) → Int → Int → Int → Int → Int → Int → (List Int) → Int → Int := Classical.choose tcM_ex
theorem tcM_eq : tcM_T tcM := Classical.choose_spec tcM_ex
theorem wkL_in (ps qs : List (List Int)) (l va : Int) : 0 ≤ wkL ps qs l va ∧ wkL ps qs l va ≤ 2 := by
  have h1 := tbL_in ps qs l (splitS va).1
  have h2 := tbL_in ps qs (tbP ps qs l (splitS va).1) (splitS va).2.1
  unfold wkL
  repeat' split
  all_goals omega
noncomputable def pt_Cb : List (Nat × (List SV → Option (List Prop × SV))) := [(93, c_sumC), (101, c_setHi), (95, c_Compare), (128, c_Holds)]
theorem pt_Cb_ok : PureOK Tryd.prog (fun f => List.lookup f pt_Cb) := pure_list pt_Cb ⟨c_sumC_e, c_setHi_e, c_Compare_e, c_Holds_e, trivial⟩
noncomputable def et_Cb : List (Nat × ECon) := [(54, c_ReadM), (21, c_WriteM), (53, c_Translate)]
theorem et_Cb_ok : ConOK Tryd.prog (fun f => List.lookup f et_Cb) := con_list et_Cb ⟨c_ReadM_e, c_WriteM_e, c_Translate_e, trivial⟩
noncomputable abbrev cx_Cb (must : Nat → Option Bool := fun _ => none) (loop : Nat → SS → Option LoopSpec := fun _ _ => none) (fz : Nat → SS → List Nat := fun _ _ => []) (on : Bool := false) : Ctx := ⟨tab, inlG tab (fun f => List.lookup f pt_Cb) (fun f => List.lookup f et_Cb) fns (fun _ => {}) 1000 6, fun f => List.lookup f pt_Cb, must, loop, 0, 0, fun f => List.lookup f et_Cb, fz, on⟩
theorem cx_Cb_ok (must : Nat → Option Bool) (loop : Nat → SS → Option LoopSpec) (fz : Nat → SS → List Nat) (on : Bool) : CxOK Tryd.prog (cx_Cb must loop fz on) := inlG_ok mixed tab_ok pt_Cb_ok et_Cb_ok fns_ok 6 _ _ _ _ _ _
theorem moveC_ok (l1 : Int) (R : List Int) (pc : Int) (z n l : Bool) (ps qs : List (List Int)) (m : Int) (op k A B C imm : Int) (h0 : wfF R pc) (h1 : wfI op k A B C imm) (h2 : wfM l1 ps qs m) : SemCall Tryd.prog 92 [.ptr 0 0, .agg [.int .i64 op, .int .i64 k, .int .i64 A, .int .i64 B, .int .i64 C, .int .i32 imm]] [some ⟨127, [.ptr 1 0, .int .i64 l1, .ints .u32 15 R, .int .u32 pc, .bool z, .bool n, .bool l], 0, none⟩, some ⟨120, [], 0, some (.own (.mem ps qs m))⟩] (AltK [⟨none, .tup [], [some ⟨127, [.ptr 1 0, .int .i64 l1, .ints .u32 15 (mvR op A B imm R), .int .u32 pc, .bool z, .bool n, .bool l], 0, none⟩, some ⟨120, [], 0, some (.own (.mem ps qs m))⟩]⟩]) := by
  refine con_intro mixed (cx_Cb_ok (fun _ => none) (fun _ _ => none) (fun _ _ => []) false) Tryd.func92 1000 ?_
  refine of_nf (p := letI k0_ := (Ob.own (OT.mem ps qs m) = Ob.own (OT.mem ps qs m) /\ nat_lit 119 + (1 : Nat) = (120 : TypeId) /\ (0 : Nat) = (0 : Nat) /\ True); ((op == 1) = true -> 0 <= A /\ A < 15 /\ 0 <= A /\ A < (((15 : Nat) : Nat) : Int) /\ R.length = 15 /\ (True /\ True) /\ (nat_lit 126 + (1 : Nat) = (127 : TypeId) /\ (0 : Nat) = (0 : Nat) /\ SV.ptr (1 : Nat) 0 = SV.ptr (1 : Nat) (0 : Nat) /\ l1 = l1 /\ R.set A.toNat (IntKind.u32.wrap imm) = mvR op A B imm R /\ pc = pc /\ z = z /\ n = n /\ l = l /\ True) /\ k0_ /\ True) /\ ((op == 1) = false -> ((op == 2) = true -> 0 <= A /\ A < 15 /\ 0 <= A /\ A < (((15 : Nat) : Nat) : Int) /\ (0 <= R.getD A.toNat 0 /\ R.getD A.toNat 0 < (4294967296 : Int)) /\ (0 <= IntKind.u32.wrap imm /\ IntKind.u32.wrap imm < 4294967296) /\ (16 : Int) = (16 : Int) /\ (16 : Int) = (16 : Int) /\ 0 <= A /\ A < 15 /\ 0 <= A /\ A < (((15 : Nat) : Nat) : Int) /\ R.length = 15 /\ (True /\ True) /\ (nat_lit 126 + (1 : Nat) = (127 : TypeId) /\ (0 : Nat) = (0 : Nat) /\ SV.ptr (1 : Nat) 0 = SV.ptr (1 : Nat) (0 : Nat) /\ l1 = l1 /\ R.set A.toNat (stH (R.getD A.toNat 0) (IntKind.u32.wrap imm)) = mvR op A B imm R /\ pc = pc /\ z = z /\ n = n /\ l = l /\ True) /\ k0_ /\ True) /\ ((op == 2) = false -> ((op == 3) = true -> 0 <= B /\ B < 15 /\ 0 <= B /\ B < (((15 : Nat) : Nat) : Int) /\ 0 <= A /\ A < 15 /\ 0 <= A /\ A < (((15 : Nat) : Nat) : Int) /\ R.length = 15 /\ (True /\ True) /\ (nat_lit 126 + (1 : Nat) = (127 : TypeId) /\ (0 : Nat) = (0 : Nat) /\ SV.ptr (1 : Nat) 0 = SV.ptr (1 : Nat) (0 : Nat) /\ l1 = l1 /\ R.set A.toNat (R.getD B.toNat 0) = mvR op A B imm R /\ pc = pc /\ z = z /\ n = n /\ l = l /\ True) /\ k0_ /\ True) /\ ((op == 3) = false -> 0 <= B /\ B < 15 /\ 0 <= B /\ B < (((15 : Nat) : Nat) : Int) /\ 0 <= A /\ A < 15 /\ 0 <= A /\ A < (((15 : Nat) : Nat) : Int) /\ R.length = 15 /\ (True /\ True) /\ (nat_lit 126 + (1 : Nat) = (127 : TypeId) /\ (0 : Nat) = (0 : Nat) /\ SV.ptr (1 : Nat) 0 = SV.ptr (1 : Nat) (0 : Nat) /\ l1 = l1 /\ R.set A.toNat (IntKind.u32.wrap (R.getD B.toNat 0 + IntKind.u32.wrap imm)) = mvR op A B imm R /\ pc = pc /\ z = z /\ n = n /\ l = l /\ True) /\ k0_ /\ True)))) (by kernel_rfl) ?_
  have HF := h0
  have HI := h1
  have HM := h2
  obtain ⟨f1, f2, f3⟩ := h0
  obtain ⟨i1, i2, i3, i4, i5, i6⟩ := h1
  obtain ⟨m0, m1, m2, m3, m4⟩ := h2
  simp only [beq_iff_eq, beq_eq_false_iff_ne, bne_iff_ne, bne_eq_false_iff_eq, ne_eq]
  repeat' (first | with_reducible rfl | exact True.intro | with_reducible assumption | apply And.intro | intro _h)
  all_goals first | omega | (simp [InK]; omega) | (rw [mvR_eq]; simp only [*, if_true, if_false, ite_true, ite_false, reduceIte]; done) | (rw [mvR_eq]; simp_all; done) | exact (rg_in f2 _).1 | exact (rg_in f2 _).2 | exact (u32_wrap _).1 | exact (u32_wrap _).2 | trace_state
noncomputable def c_moveC : ECon
  | [.ptr 0 0, .agg [.int .i64 op, .int .i64 k, .int .i64 A, .int .i64 B, .int .i64 C, .int .i32 imm]], [some ⟨127, [.ptr 1 0, .int .i64 l1, .ints .u32 15 R, .int .u32 pc, .bool z, .bool n, .bool l], 0, none⟩, some ⟨120, [], 0, some (.own (.mem ps qs m))⟩] => some ([wfF R pc, wfI op k A B C imm, wfM l1 ps qs m], [⟨none, .tup [], [some ⟨127, [.ptr 1 0, .int .i64 l1, .ints .u32 15 (mvR op A B imm R), .int .u32 pc, .bool z, .bool n, .bool l], 0, none⟩, some ⟨120, [], 0, some (.own (.mem ps qs m))⟩]⟩])
  | _, _ => none
theorem c_moveC_e : EEntry Tryd.prog 92 c_moveC := by
  refine ⟨callFunc_ok Tryd.func92 (by kernel_rfl) (by kernel_rfl), fun args rows ps alts h hp => ?_⟩
  unfold c_moveC at h
  split at h
  · cases h; exact moveC_ok _ _ _ _ _ _ _ _ _ _ _ _ _ _ _ (hp.i 0) (hp.i 1) (hp.i 2)
  · cases h
theorem jumpC_ok (l1 : Int) (R : List Int) (pc : Int) (z n l : Bool) (ps qs : List (List Int)) (m : Int) (op k A B C imm : Int) (h0 : wfF R pc) (h1 : wfI op k A B C imm) (h2 : wfM l1 ps qs m) : SemCall Tryd.prog 96 [.ptr 0 0, .agg [.int .i64 op, .int .i64 k, .int .i64 A, .int .i64 B, .int .i64 C, .int .i32 imm]] [some ⟨127, [.ptr 1 0, .int .i64 l1, .ints .u32 15 R, .int .u32 pc, .bool z, .bool n, .bool l], 0, none⟩, some ⟨120, [], 0, some (.own (.mem ps qs m))⟩] (AltK [⟨none, .tup [], [some ⟨127, [.ptr 1 0, .int .i64 l1, .ints .u32 15 (jpR op pc R), .int .u32 (jpP op k A imm R pc z n l), .bool z, .bool n, .bool l], 0, none⟩, some ⟨120, [], 0, some (.own (.mem ps qs m))⟩]⟩]) := by
  refine con_intro mixed (cx_Cb_ok (fun _ => none) (fun _ _ => none) (fun _ _ => []) false) Tryd.func96 1000 ?_
  refine of_nf (p := letI k0_ := (Ob.own (OT.mem ps qs m) = Ob.own (OT.mem ps qs m) /\ nat_lit 119 + (1 : Nat) = (120 : TypeId) /\ (0 : Nat) = (0 : Nat) /\ True); ((op == 21) = true -> (holdsS k z n l = true -> (True /\ True) /\ (nat_lit 126 + (1 : Nat) = (127 : TypeId) /\ (0 : Nat) = (0 : Nat) /\ SV.ptr (1 : Nat) 0 = SV.ptr (1 : Nat) (0 : Nat) /\ l1 = l1 /\ R = jpR op pc R /\ IntKind.u32.wrap (pc + IntKind.u32.wrap ((4 : Int) * IntKind.u32.wrap imm)) = jpP op k A imm R pc z n l /\ z = z /\ n = n /\ l = l /\ True) /\ k0_ /\ True) /\ (holdsS k z n l = false -> (True /\ True) /\ (nat_lit 126 + (1 : Nat) = (127 : TypeId) /\ (0 : Nat) = (0 : Nat) /\ SV.ptr (1 : Nat) 0 = SV.ptr (1 : Nat) (0 : Nat) /\ l1 = l1 /\ R = jpR op pc R /\ pc = jpP op k A imm R pc z n l /\ z = z /\ n = n /\ l = l /\ True) /\ k0_ /\ True)) /\ ((op == 21) = false -> ((op == 22) = true -> R.length = 15 /\ (True /\ True) /\ (nat_lit 126 + (1 : Nat) = (127 : TypeId) /\ (0 : Nat) = (0 : Nat) /\ SV.ptr (1 : Nat) 0 = SV.ptr (1 : Nat) (0 : Nat) /\ l1 = l1 /\ R.set (14 : Nat) pc = jpR op pc R /\ IntKind.u32.wrap (pc + IntKind.u32.wrap ((4 : Int) * IntKind.u32.wrap imm)) = jpP op k A imm R pc z n l /\ z = z /\ n = n /\ l = l /\ True) /\ k0_ /\ True) /\ ((op == 22) = false -> 0 <= A /\ A < 15 /\ 0 <= A /\ A < (((15 : Nat) : Nat) : Int) /\ (True /\ True) /\ (nat_lit 126 + (1 : Nat) = (127 : TypeId) /\ (0 : Nat) = (0 : Nat) /\ SV.ptr (1 : Nat) 0 = SV.ptr (1 : Nat) (0 : Nat) /\ l1 = l1 /\ R = jpR op pc R /\ R.getD A.toNat 0 = jpP op k A imm R pc z n l /\ z = z /\ n = n /\ l = l /\ True) /\ k0_ /\ True))) (by kernel_rfl) ?_
  have HF := h0
  have HI := h1
  have HM := h2
  obtain ⟨f1, f2, f3⟩ := h0
  obtain ⟨i1, i2, i3, i4, i5, i6⟩ := h1
  obtain ⟨m0, m1, m2, m3, m4⟩ := h2
  simp only [beq_iff_eq, beq_eq_false_iff_ne, bne_iff_ne, bne_eq_false_iff_eq, ne_eq]
  repeat' (first | with_reducible rfl | exact True.intro | with_reducible assumption | apply And.intro | intro _h)
  all_goals first | omega | (rw [jpR_eq]; simp_all; done) | (rw [jpP_eq]; simp_all; done)
noncomputable def c_jumpC : ECon
  | [.ptr 0 0, .agg [.int .i64 op, .int .i64 k, .int .i64 A, .int .i64 B, .int .i64 C, .int .i32 imm]], [some ⟨127, [.ptr 1 0, .int .i64 l1, .ints .u32 15 R, .int .u32 pc, .bool z, .bool n, .bool l], 0, none⟩, some ⟨120, [], 0, some (.own (.mem ps qs m))⟩] => some ([wfF R pc, wfI op k A B C imm, wfM l1 ps qs m], [⟨none, .tup [], [some ⟨127, [.ptr 1 0, .int .i64 l1, .ints .u32 15 (jpR op pc R), .int .u32 (jpP op k A imm R pc z n l), .bool z, .bool n, .bool l], 0, none⟩, some ⟨120, [], 0, some (.own (.mem ps qs m))⟩]⟩])
  | _, _ => none
theorem c_jumpC_e : EEntry Tryd.prog 96 c_jumpC := by
  refine ⟨callFunc_ok Tryd.func96 (by kernel_rfl) (by kernel_rfl), fun args rows ps alts h hp => ?_⟩
  unfold c_jumpC at h
  split at h
  · cases h; exact jumpC_ok _ _ _ _ _ _ _ _ _ _ _ _ _ _ _ (hp.i 0) (hp.i 1) (hp.i 2)
  · cases h
theorem touchC_ok (l1 : Int) (R : List Int) (pc : Int) (z n l : Bool) (ps qs : List (List Int)) (m : Int) (op k A B C imm : Int) (h0 : wfF R pc) (h1 : wfI op k A B C imm) (h2 : wfM l1 ps qs m) (h3 : 15 ≤ op ∧ op ≤ 18) : SemCall Tryd.prog 94 [.ptr 0 0, .agg [.int .i64 op, .int .i64 k, .int .i64 A, .int .i64 B, .int .i64 C, .int .i32 imm]] [some ⟨127, [.ptr 1 0, .int .i64 l1, .ints .u32 15 R, .int .u32 pc, .bool z, .bool n, .bool l], 0, none⟩, some ⟨120, [], 0, some (.own (.mem ps qs m))⟩] (AltK [⟨none, .agg [.int .i64 (tcK ps qs l1 op A B C imm R), .int .u32 (tcA ps qs l1 op A B C imm R)], [some ⟨127, [.ptr 1 0, .int .i64 l1, .ints .u32 15 (tcR ps qs l1 op A B C imm R), .int .u32 pc, .bool z, .bool n, .bool l], 0, none⟩, some ⟨120, [], 0, some (.own (.mem (tcP ps qs l1 op A B C imm R) (tcQ ps qs l1 op A B C imm R) (tcM ps qs l1 op A B C imm R m)))⟩]⟩]) := by
  refine con_intro mixed (cx_Cb_ok (fun _ => none) (fun _ _ => none) (fun _ _ => []) false) Tryd.func94 1000 ?_
  refine of_nf (p := letI k2_ := (nat_lit 126 + (1 : Nat) = (127 : TypeId) /\ (0 : Nat) = (0 : Nat) /\ SV.ptr (1 : Nat) 0 = SV.ptr (1 : Nat) (0 : Nat) /\ l1 = l1 /\ R = tcR ps qs l1 op A B C imm R /\ pc = pc /\ z = z /\ n = n /\ l = l /\ True); letI k3_ := (OT.mem (tcP ps qs l1 op A B C imm R) (tcQ ps qs l1 op A B C imm R) (tcM ps qs l1 op A B C imm R m)); letI k4_ := ((0 = tcK ps qs l1 op A B C imm R /\ 0 = tcA ps qs l1 op A B C imm R /\ True) /\ True); letI k5_ := (R.getD B.toNat 0 + IntKind.u32.wrap imm); letI k0_ := (IntKind.u32.wrap k5_); letI k6_ := (R.getD B.toNat 0 + R.getD C.toNat 0); letI k1_ := (IntKind.u32.wrap k6_); letI k7_ := ((-9223372036854775808 : Int) <= l1 /\ l1 < 9223372036854775808); letI k8_ := (trF ps qs l1 k0_ (1 : Int)); letI k9_ := (trF ps qs l1 k1_ (1 : Int)); letI k10_ := (Ob.own (OT.mem ps qs (m + wkL ps qs l1 k0_)) = Ob.own k3_ /\ nat_lit 119 + (1 : Nat) = (120 : TypeId) /\ (0 : Nat) = (0 : Nat) /\ True); letI k11_ := (Ob.own (OT.mem ps qs (m + wkL ps qs l1 k1_)) = Ob.own k3_ /\ nat_lit 119 + (1 : Nat) = (120 : TypeId) /\ (0 : Nat) = (0 : Nat) /\ True); letI k12_ := ((pgAt (trS ps qs l1 k0_ (1 : Int)) k8_ ps qs).set (trO ps qs l1 k0_ (1 : Int)).toNat (R.getD A.toNat 0)); letI k13_ := ((pgAt (trS ps qs l1 k1_ (1 : Int)) k9_ ps qs).set (trO ps qs l1 k1_ (1 : Int)).toNat (R.getD A.toNat 0)); letI k14_ := ((4 = tcK ps qs l1 op A B C imm R /\ IntKind.u32.wrap k5_ = tcA ps qs l1 op A B C imm R /\ True) /\ True); letI k15_ := ((4 = tcK ps qs l1 op A B C imm R /\ IntKind.u32.wrap k6_ = tcA ps qs l1 op A B C imm R /\ True) /\ True); (0 : Int) <= B /\ B < 15 /\ 0 <= B /\ B < (((15 : Nat) : Nat) : Int) /\ ((op == 16) = true -> 0 <= m /\ m <= 4611686018427387900 /\ wfP ps /\ wfP qs /\ k7_ /\ (0 <= IntKind.u32.wrap k5_ /\ IntKind.u32.wrap k5_ < 4294967296) /\ ((trE ps qs l1 k0_ (1 : Int) != (0 : Int)) = true -> k14_ /\ k2_ /\ k10_ /\ True) /\ ((trE ps qs l1 k0_ (1 : Int) != (0 : Int)) = false -> 0 <= A /\ A < 15 /\ 0 <= A /\ A < (((15 : Nat) : Nat) : Int) /\ 0 <= m + wkL ps qs l1 k0_ /\ m + wkL ps qs l1 k0_ <= 4611686018427387904 /\ (∀ (p : List Int), p ∈ ps -> p.length = 1024) /\ (∀ (p : List Int), p ∈ qs -> p.length = 1024) /\ k4_ /\ k2_ /\ (Ob.own (OT.mem (setP (trS ps qs l1 k0_ (1 : Int) && okW (trS ps qs l1 k0_ (1 : Int)) k8_ (trO ps qs l1 k0_ (1 : Int)) ps qs) k8_ k12_ ps) (setP (!trS ps qs l1 k0_ (1 : Int) && okW (trS ps qs l1 k0_ (1 : Int)) k8_ (trO ps qs l1 k0_ (1 : Int)) ps qs) k8_ k12_ qs) (if okW (trS ps qs l1 k0_ (1 : Int)) k8_ (trO ps qs l1 k0_ (1 : Int)) ps qs = true then m + wkL ps qs l1 k0_ + 1 else m + wkL ps qs l1 k0_)) = Ob.own k3_ /\ nat_lit 119 + (1 : Nat) = (120 : TypeId) /\ (0 : Nat) = (0 : Nat) /\ True) /\ True)) /\ ((op == 16) = false -> ((op == 15) = true -> 0 <= m /\ m <= 4611686018427387900 /\ wfP ps /\ wfP qs /\ k7_ /\ (0 <= IntKind.u32.wrap k5_ /\ IntKind.u32.wrap k5_ < 4294967296) /\ ((trE ps qs l1 k0_ (0 : Int) != (0 : Int)) = true -> k14_ /\ k2_ /\ k10_ /\ True) /\ ((trE ps qs l1 k0_ (0 : Int) != (0 : Int)) = false -> 0 <= m + wkL ps qs l1 k0_ /\ m + wkL ps qs l1 k0_ <= 4611686018427387904 /\ 0 <= A /\ A < 15 /\ 0 <= A /\ A < (((15 : Nat) : Nat) : Int) /\ R.length = 15 /\ k4_ /\ (nat_lit 126 + (1 : Nat) = (127 : TypeId) /\ (0 : Nat) = (0 : Nat) /\ SV.ptr (1 : Nat) 0 = SV.ptr (1 : Nat) (0 : Nat) /\ l1 = l1 /\ R.set A.toNat (rdW (trS ps qs l1 k0_ (0 : Int)) (trF ps qs l1 k0_ (0 : Int)) (trO ps qs l1 k0_ (0 : Int)) ps qs) = tcR ps qs l1 op A B C imm R /\ pc = pc /\ z = z /\ n = n /\ l = l /\ True) /\ (Ob.own (OT.mem ps qs (if okW (trS ps qs l1 k0_ (0 : Int)) (trF ps qs l1 k0_ (0 : Int)) (trO ps qs l1 k0_ (0 : Int)) ps qs = true then m + wkL ps qs l1 k0_ + 1 else m + wkL ps qs l1 k0_)) = Ob.own k3_ /\ nat_lit 119 + (1 : Nat) = (120 : TypeId) /\ (0 : Nat) = (0 : Nat) /\ True) /\ True)) /\ ((op == 15) = false -> ((op == 18) = true -> 0 <= C /\ C < 15 /\ 0 <= C /\ C < (((15 : Nat) : Nat) : Int) /\ 0 <= m /\ m <= 4611686018427387900 /\ wfP ps /\ wfP qs /\ k7_ /\ (0 <= IntKind.u32.wrap k6_ /\ IntKind.u32.wrap k6_ < 4294967296) /\ ((trE ps qs l1 k1_ (1 : Int) != (0 : Int)) = true -> k15_ /\ k2_ /\ k11_ /\ True) /\ ((trE ps qs l1 k1_ (1 : Int) != (0 : Int)) = false -> 0 <= A /\ A < 15 /\ 0 <= A /\ A < (((15 : Nat) : Nat) : Int) /\ 0 <= m + wkL ps qs l1 k1_ /\ m + wkL ps qs l1 k1_ <= 4611686018427387904 /\ (∀ (p : List Int), p ∈ ps -> p.length = 1024) /\ (∀ (p : List Int), p ∈ qs -> p.length = 1024) /\ k4_ /\ k2_ /\ (Ob.own (OT.mem (setP (trS ps qs l1 k1_ (1 : Int) && okW (trS ps qs l1 k1_ (1 : Int)) k9_ (trO ps qs l1 k1_ (1 : Int)) ps qs) k9_ k13_ ps) (setP (!trS ps qs l1 k1_ (1 : Int) && okW (trS ps qs l1 k1_ (1 : Int)) k9_ (trO ps qs l1 k1_ (1 : Int)) ps qs) k9_ k13_ qs) (if okW (trS ps qs l1 k1_ (1 : Int)) k9_ (trO ps qs l1 k1_ (1 : Int)) ps qs = true then m + wkL ps qs l1 k1_ + 1 else m + wkL ps qs l1 k1_)) = Ob.own k3_ /\ nat_lit 119 + (1 : Nat) = (120 : TypeId) /\ (0 : Nat) = (0 : Nat) /\ True) /\ True)) /\ ((op == 18) = false -> 0 <= C /\ C < 15 /\ 0 <= C /\ C < (((15 : Nat) : Nat) : Int) /\ 0 <= m /\ m <= 4611686018427387900 /\ wfP ps /\ wfP qs /\ k7_ /\ (0 <= IntKind.u32.wrap k6_ /\ IntKind.u32.wrap k6_ < 4294967296) /\ ((trE ps qs l1 k1_ (0 : Int) != (0 : Int)) = true -> k15_ /\ k2_ /\ k11_ /\ True) /\ ((trE ps qs l1 k1_ (0 : Int) != (0 : Int)) = false -> 0 <= m + wkL ps qs l1 k1_ /\ m + wkL ps qs l1 k1_ <= 4611686018427387904 /\ 0 <= A /\ A < 15 /\ 0 <= A /\ A < (((15 : Nat) : Nat) : Int) /\ R.length = 15 /\ k4_ /\ (nat_lit 126 + (1 : Nat) = (127 : TypeId) /\ (0 : Nat) = (0 : Nat) /\ SV.ptr (1 : Nat) 0 = SV.ptr (1 : Nat) (0 : Nat) /\ l1 = l1 /\ R.set A.toNat (rdW (trS ps qs l1 k1_ (0 : Int)) (trF ps qs l1 k1_ (0 : Int)) (trO ps qs l1 k1_ (0 : Int)) ps qs) = tcR ps qs l1 op A B C imm R /\ pc = pc /\ z = z /\ n = n /\ l = l /\ True) /\ (Ob.own (OT.mem ps qs (if okW (trS ps qs l1 k1_ (0 : Int)) (trF ps qs l1 k1_ (0 : Int)) (trO ps qs l1 k1_ (0 : Int)) ps qs = true then m + wkL ps qs l1 k1_ + 1 else m + wkL ps qs l1 k1_)) = Ob.own k3_ /\ nat_lit 119 + (1 : Nat) = (120 : TypeId) /\ (0 : Nat) = (0 : Nat) /\ True) /\ True))))) (by kernel_rfl) ?_
  have HF := h0
  have HI := h1
  have HM := h2
  obtain ⟨f1, f2, f3⟩ := h0
  obtain ⟨i1, i2, i3, i4, i5, i6⟩ := h1
  obtain ⟨m0, m1, m2, m3, m4⟩ := h2
  have hw := wkL_in ps qs l1 (vaC op B C imm R)
  have p1 := wfP_len m3
  have p2 := wfP_len m4
  have hu := fun x => u32_wrap x
  simp only [InK] at hu m0
  rcases (by omega : op = 15 ∨ op = 16 ∨ op = 17 ∨ op = 18) with rfl | rfl | rfl | rfl
  · have e1 : vaC 15 B C imm R = IntKind.u32.wrap (R.getD B.toNat 0 + IntKind.u32.wrap imm) := by rw [vaC_eq]; rfl
    have e2 : acC 15 = 0 := by rw [acC_eq]; rfl
    have e3 := tcE_eq ps qs l1 15 A B C imm R
    rw [e2] at e3
    rw [e1] at e3 hw
    simp only [tcK_eq, tcA_eq, tcR_eq, tcP_eq, tcQ_eq, tcM_eq, e1, e2, ← e3]
    simp only [beq_iff_eq, beq_eq_false_iff_ne, bne_iff_ne, bne_eq_false_iff_eq, ne_eq, Int.reduceEq, Int.reduceBEq, Int.reduceBNe, not_true_eq_false, not_false_eq_true, false_implies, true_implies, and_true, true_and, implies_true, Bool.false_eq_true, Bool.true_eq_false, reduceCtorEq]
    clear e1 e2 e3
    repeat' (first | with_reducible rfl | exact True.intro | with_reducible assumption | apply And.intro | intro _h)
    all_goals first | exact (hu _).1 | exact (hu _).2 | omega | (exfalso; omega) | (simp only [*, if_true, if_false, true_and, and_true, false_and, and_false, not_true_eq_false, not_false_eq_true, reduceIte, Int.reduceEq, reduceCtorEq]; done) | (refine memEq ?_ ?_ ?_ <;> first | rfl | (simp only [*, if_true, if_false, true_and, and_true, false_and, and_false, not_true_eq_false, not_false_eq_true, reduceIte, Int.reduceEq, reduceCtorEq]; done) | (split <;> first | rfl | omega | simp_all)) | trace_state
  · have e1 : vaC 16 B C imm R = IntKind.u32.wrap (R.getD B.toNat 0 + IntKind.u32.wrap imm) := by rw [vaC_eq]; rfl
    have e2 : acC 16 = 1 := by rw [acC_eq]; rfl
    have e3 := tcE_eq ps qs l1 16 A B C imm R
    rw [e2] at e3
    rw [e1] at e3 hw
    simp only [tcK_eq, tcA_eq, tcR_eq, tcP_eq, tcQ_eq, tcM_eq, e1, e2, ← e3]
    simp only [beq_iff_eq, beq_eq_false_iff_ne, bne_iff_ne, bne_eq_false_iff_eq, ne_eq, Int.reduceEq, Int.reduceBEq, Int.reduceBNe, not_true_eq_false, not_false_eq_true, false_implies, true_implies, and_true, true_and, implies_true, Bool.false_eq_true, Bool.true_eq_false, reduceCtorEq]
    clear e1 e2 e3
    repeat' (first | with_reducible rfl | exact True.intro | with_reducible assumption | apply And.intro | intro _h)
    all_goals first | exact (hu _).1 | exact (hu _).2 | omega | (exfalso; omega) | (simp only [*, if_true, if_false, true_and, and_true, false_and, and_false, not_true_eq_false, not_false_eq_true, reduceIte, Int.reduceEq, reduceCtorEq]; done) | (refine memEq ?_ ?_ ?_ <;> first | rfl | (simp only [*, if_true, if_false, true_and, and_true, false_and, and_false, not_true_eq_false, not_false_eq_true, reduceIte, Int.reduceEq, reduceCtorEq]; done) | (split <;> first | rfl | omega | simp_all)) | trace_state
  · have e1 : vaC 17 B C imm R = IntKind.u32.wrap (R.getD B.toNat 0 + R.getD C.toNat 0) := by rw [vaC_eq]; rfl
    have e2 : acC 17 = 0 := by rw [acC_eq]; rfl
    have e3 := tcE_eq ps qs l1 17 A B C imm R
    rw [e2] at e3
    rw [e1] at e3 hw
    simp only [tcK_eq, tcA_eq, tcR_eq, tcP_eq, tcQ_eq, tcM_eq, e1, e2, ← e3]
    simp only [beq_iff_eq, beq_eq_false_iff_ne, bne_iff_ne, bne_eq_false_iff_eq, ne_eq, Int.reduceEq, Int.reduceBEq, Int.reduceBNe, not_true_eq_false, not_false_eq_true, false_implies, true_implies, and_true, true_and, implies_true, Bool.false_eq_true, Bool.true_eq_false, reduceCtorEq]
    clear e1 e2 e3
    repeat' (first | with_reducible rfl | exact True.intro | with_reducible assumption | apply And.intro | intro _h)
    all_goals first | exact (hu _).1 | exact (hu _).2 | omega | (exfalso; omega) | (simp only [*, if_true, if_false, true_and, and_true, false_and, and_false, not_true_eq_false, not_false_eq_true, reduceIte, Int.reduceEq, reduceCtorEq]; done) | (refine memEq ?_ ?_ ?_ <;> first | rfl | (simp only [*, if_true, if_false, true_and, and_true, false_and, and_false, not_true_eq_false, not_false_eq_true, reduceIte, Int.reduceEq, reduceCtorEq]; done) | (split <;> first | rfl | omega | simp_all)) | trace_state
  · have e1 : vaC 18 B C imm R = IntKind.u32.wrap (R.getD B.toNat 0 + R.getD C.toNat 0) := by rw [vaC_eq]; rfl
    have e2 : acC 18 = 1 := by rw [acC_eq]; rfl
    have e3 := tcE_eq ps qs l1 18 A B C imm R
    rw [e2] at e3
    rw [e1] at e3 hw
    simp only [tcK_eq, tcA_eq, tcR_eq, tcP_eq, tcQ_eq, tcM_eq, e1, e2, ← e3]
    simp only [beq_iff_eq, beq_eq_false_iff_ne, bne_iff_ne, bne_eq_false_iff_eq, ne_eq, Int.reduceEq, Int.reduceBEq, Int.reduceBNe, not_true_eq_false, not_false_eq_true, false_implies, true_implies, and_true, true_and, implies_true, Bool.false_eq_true, Bool.true_eq_false, reduceCtorEq]
    clear e1 e2 e3
    repeat' (first | with_reducible rfl | exact True.intro | with_reducible assumption | apply And.intro | intro _h)
    all_goals first | exact (hu _).1 | exact (hu _).2 | omega | (exfalso; omega) | (simp only [*, if_true, if_false, true_and, and_true, false_and, and_false, not_true_eq_false, not_false_eq_true, reduceIte, Int.reduceEq, reduceCtorEq]; done) | (refine memEq ?_ ?_ ?_ <;> first | rfl | (simp only [*, if_true, if_false, true_and, and_true, false_and, and_false, not_true_eq_false, not_false_eq_true, reduceIte, Int.reduceEq, reduceCtorEq]; done) | (split <;> first | rfl | omega | simp_all)) | trace_state
noncomputable def c_touchC : ECon
  | [.ptr 0 0, .agg [.int .i64 op, .int .i64 k, .int .i64 A, .int .i64 B, .int .i64 C, .int .i32 imm]], [some ⟨127, [.ptr 1 0, .int .i64 l1, .ints .u32 15 R, .int .u32 pc, .bool z, .bool n, .bool l], 0, none⟩, some ⟨120, [], 0, some (.own (.mem ps qs m))⟩] => some ([wfF R pc, wfI op k A B C imm, wfM l1 ps qs m, 15 ≤ op ∧ op ≤ 18], [⟨none, .agg [.int .i64 (tcK ps qs l1 op A B C imm R), .int .u32 (tcA ps qs l1 op A B C imm R)], [some ⟨127, [.ptr 1 0, .int .i64 l1, .ints .u32 15 (tcR ps qs l1 op A B C imm R), .int .u32 pc, .bool z, .bool n, .bool l], 0, none⟩, some ⟨120, [], 0, some (.own (.mem (tcP ps qs l1 op A B C imm R) (tcQ ps qs l1 op A B C imm R) (tcM ps qs l1 op A B C imm R m)))⟩]⟩])
  | _, _ => none
theorem c_touchC_e : EEntry Tryd.prog 94 c_touchC := by
  refine ⟨callFunc_ok Tryd.func94 (by kernel_rfl) (by kernel_rfl), fun args rows ps alts h hp => ?_⟩
  unfold c_touchC at h
  split at h
  · cases h; exact touchC_ok _ _ _ _ _ _ _ _ _ _ _ _ _ _ _ (hp.i 0) (hp.i 1) (hp.i 2) (hp.i 3)
  · cases h
end Go.Proofs.YtimjnajdpccjdaaDoor
