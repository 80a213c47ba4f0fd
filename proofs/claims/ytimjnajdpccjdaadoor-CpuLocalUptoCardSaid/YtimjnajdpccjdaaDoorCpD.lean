/- Package cpu: a step. No condition beyond the arguments' types. -/
import Derived.Test.YtimjnajdpccjdaaDoorCpC
namespace Go.Proofs.YtimjnajdpccjdaaDoor
set_option linter.unusedVariables false
set_option linter.unusedSimpArgs false
open Go.RowKit Sx
set_option maxRecDepth 100000
set_option maxHeartbeats 8000000
abbrev feE_T (F0 : (List (List Int)) → (List (List Int)) → Int → Int → Int) : Prop := ∀ ps qs l1 pc, F0 ps qs l1 pc = trE ps qs l1 pc 2
theorem feE_ex : ∃ F0, feE_T F0 := ⟨_, fun _ _ _ _ => rfl⟩
noncomputable def feE : (List (List Int)) → (List (List Int)) → Int → Int → Int := Classical.choose feE_ex
theorem feE_eq : feE_T feE := Classical.choose_spec feE_ex
abbrev feW_T (F0 : (List (List Int)) → (List (List Int)) → Int → Int → Int) : Prop := ∀ ps qs l1 pc, F0 ps qs l1 pc = rdW (trS ps qs l1 pc 2) (trF ps qs l1 pc 2) (trO ps qs l1 pc 2) ps qs
theorem feW_ex : ∃ F0, feW_T F0 := ⟨_, fun _ _ _ _ => rfl⟩
noncomputable def feW : (List (List Int)) → (List (List Int)) → Int → Int → Int := Classical.choose feW_ex
theorem feW_eq : feW_T feW := Classical.choose_spec feW_ex
abbrev feM_T (F0 : (List (List Int)) → (List (List Int)) → Int → Int → Int → Int) : Prop := ∀ ps qs l1 pc m, F0 ps qs l1 pc m = if okW (trS ps qs l1 pc 2) (trF ps qs l1 pc 2) (trO ps qs l1 pc 2) ps qs = true then m + wkL ps qs l1 pc + 1 else m + wkL ps qs l1 pc
theorem feM_ex : ∃ F0, feM_T F0 := ⟨_, fun _ _ _ _ _ => rfl⟩
noncomputable def feM : (List (List Int)) → (List (List Int)) → Int → Int → Int → Int := Classical.choose feM_ex
theorem feM_eq : feM_T feM := Classical.choose_spec feM_ex
abbrev spK_T (F0 : (List (List Int)) → (List (List Int)) → Int → (List Int) → Int → Bool → Bool → Bool → Int) : Prop := ∀ ps qs l1 R pc z n l, F0 ps qs l1 R pc z n l = if feE ps qs l1 pc ≠ 0 then 3 else if okWi (feW ps qs l1 pc) = false then 2 else doK (zB (okWi (feW ps qs l1 pc)) ((feW ps qs l1 pc) / 67108864)) (zB (okWi (feW ps qs l1 pc)) (dK (feW ps qs l1 pc))) (zB (okWi (feW ps qs l1 pc)) (dA (feW ps qs l1 pc))) (zB (okWi (feW ps qs l1 pc)) (dB (feW ps qs l1 pc))) (zB (okWi (feW ps qs l1 pc)) (dC (feW ps qs l1 pc))) (zB (okWi (feW ps qs l1 pc)) (dI (feW ps qs l1 pc))) l1 R (IntKind.u32.wrap (pc + 4)) z n l ps qs
theorem spK_ex : ∃ F0, spK_T F0 := ⟨_, fun _ _ _ _ _ _ _ _ => rfl⟩
noncomputable def spK : (List (List Int)) → (List (List Int)) → Int → (List Int) → Int → Bool → Bool → Bool → Int := Classical.choose spK_ex
theorem spK_eq : spK_T spK := Classical.choose_spec spK_ex
abbrev spA_T (F0 : (List (List Int)) → (List (List Int)) → Int → (List Int) → Int → Bool → Bool → Bool → Int) : Prop := ∀ ps qs l1 R pc z n l, F0 ps qs l1 R pc z n l = if feE ps qs l1 pc ≠ 0 then pc else if okWi (feW ps qs l1 pc) = false then (feW ps qs l1 pc) else doA (zB (okWi (feW ps qs l1 pc)) ((feW ps qs l1 pc) / 67108864)) (zB (okWi (feW ps qs l1 pc)) (dK (feW ps qs l1 pc))) (zB (okWi (feW ps qs l1 pc)) (dA (feW ps qs l1 pc))) (zB (okWi (feW ps qs l1 pc)) (dB (feW ps qs l1 pc))) (zB (okWi (feW ps qs l1 pc)) (dC (feW ps qs l1 pc))) (zB (okWi (feW ps qs l1 pc)) (dI (feW ps qs l1 pc))) l1 R (IntKind.u32.wrap (pc + 4)) z n l ps qs
theorem spA_ex : ∃ F0, spA_T F0 := ⟨_, fun _ _ _ _ _ _ _ _ => rfl⟩
noncomputable def spA : (List (List Int)) → (List (List Int)) → Int → (List Int) → Int → Bool → Bool → Bool → Int := Classical.choose spA_ex
theorem spA_eq : spA_T spA := Classical.choose_spec spA_ex
abbrev spR_T (F0 : (List (List Int)) → (List (List Int)) → Int → (List Int) → Int → Bool → Bool → Bool → List Int) : Prop := ∀ ps qs l1 R pc z n l, F0 ps qs l1 R pc z n l = if feE ps qs l1 pc ≠ 0 ∨ okWi (feW ps qs l1 pc) = false ∨ doK (zB (okWi (feW ps qs l1 pc)) ((feW ps qs l1 pc) / 67108864)) (zB (okWi (feW ps qs l1 pc)) (dK (feW ps qs l1 pc))) (zB (okWi (feW ps qs l1 pc)) (dA (feW ps qs l1 pc))) (zB (okWi (feW ps qs l1 pc)) (dB (feW ps qs l1 pc))) (zB (okWi (feW ps qs l1 pc)) (dC (feW ps qs l1 pc))) (zB (okWi (feW ps qs l1 pc)) (dI (feW ps qs l1 pc))) l1 R (IntKind.u32.wrap (pc + 4)) z n l ps qs = 4 then R else doR (zB (okWi (feW ps qs l1 pc)) ((feW ps qs l1 pc) / 67108864)) (zB (okWi (feW ps qs l1 pc)) (dK (feW ps qs l1 pc))) (zB (okWi (feW ps qs l1 pc)) (dA (feW ps qs l1 pc))) (zB (okWi (feW ps qs l1 pc)) (dB (feW ps qs l1 pc))) (zB (okWi (feW ps qs l1 pc)) (dC (feW ps qs l1 pc))) (zB (okWi (feW ps qs l1 pc)) (dI (feW ps qs l1 pc))) l1 R (IntKind.u32.wrap (pc + 4)) z n l ps qs
theorem spR_ex : ∃ F0, spR_T F0 := ⟨_, fun _ _ _ _ _ _ _ _ => rfl⟩
noncomputable def spR : (List (List Int)) → (List (List Int)) → Int → (List Int) → Int → Bool → Bool → Bool → List Int := Classical.choose spR_ex
theorem spR_eq : spR_T spR := Classical.choose_spec spR_ex
abbrev spC_T (F0 : (List (List Int)) → (List (List Int)) → Int → (List Int) → Int → Bool → Bool → Bool → Int) : Prop := ∀ ps qs l1 R pc z n l, F0 ps qs l1 R pc z n l = if feE ps qs l1 pc ≠ 0 ∨ okWi (feW ps qs l1 pc) = false ∨ doK (zB (okWi (feW ps qs l1 pc)) ((feW ps qs l1 pc) / 67108864)) (zB (okWi (feW ps qs l1 pc)) (dK (feW ps qs l1 pc))) (zB (okWi (feW ps qs l1 pc)) (dA (feW ps qs l1 pc))) (zB (okWi (feW ps qs l1 pc)) (dB (feW ps qs l1 pc))) (zB (okWi (feW ps qs l1 pc)) (dC (feW ps qs l1 pc))) (zB (okWi (feW ps qs l1 pc)) (dI (feW ps qs l1 pc))) l1 R (IntKind.u32.wrap (pc + 4)) z n l ps qs = 4 then pc else doC (zB (okWi (feW ps qs l1 pc)) ((feW ps qs l1 pc) / 67108864)) (zB (okWi (feW ps qs l1 pc)) (dK (feW ps qs l1 pc))) (zB (okWi (feW ps qs l1 pc)) (dA (feW ps qs l1 pc))) (zB (okWi (feW ps qs l1 pc)) (dB (feW ps qs l1 pc))) (zB (okWi (feW ps qs l1 pc)) (dC (feW ps qs l1 pc))) (zB (okWi (feW ps qs l1 pc)) (dI (feW ps qs l1 pc))) l1 R (IntKind.u32.wrap (pc + 4)) z n l ps qs
theorem spC_ex : ∃ F0, spC_T F0 := ⟨_, fun _ _ _ _ _ _ _ _ => rfl⟩
noncomputable def spC : (List (List Int)) → (List (List Int)) → Int → (List Int) → Int → Bool → Bool → Bool → Int := Classical.choose spC_ex
theorem spC_eq : spC_T spC := Classical.choose_spec spC_ex
abbrev spZ_T (F0 : (List (List Int)) → (List (List Int)) → Int → (List Int) → Int → Bool → Bool → Bool → Bool) : Prop := ∀ ps qs l1 R pc z n l, F0 ps qs l1 R pc z n l = if feE ps qs l1 pc ≠ 0 ∨ okWi (feW ps qs l1 pc) = false ∨ doK (zB (okWi (feW ps qs l1 pc)) ((feW ps qs l1 pc) / 67108864)) (zB (okWi (feW ps qs l1 pc)) (dK (feW ps qs l1 pc))) (zB (okWi (feW ps qs l1 pc)) (dA (feW ps qs l1 pc))) (zB (okWi (feW ps qs l1 pc)) (dB (feW ps qs l1 pc))) (zB (okWi (feW ps qs l1 pc)) (dC (feW ps qs l1 pc))) (zB (okWi (feW ps qs l1 pc)) (dI (feW ps qs l1 pc))) l1 R (IntKind.u32.wrap (pc + 4)) z n l ps qs = 4 then z else doZ (zB (okWi (feW ps qs l1 pc)) ((feW ps qs l1 pc) / 67108864)) (zB (okWi (feW ps qs l1 pc)) (dK (feW ps qs l1 pc))) (zB (okWi (feW ps qs l1 pc)) (dA (feW ps qs l1 pc))) (zB (okWi (feW ps qs l1 pc)) (dB (feW ps qs l1 pc))) (zB (okWi (feW ps qs l1 pc)) (dC (feW ps qs l1 pc))) (zB (okWi (feW ps qs l1 pc)) (dI (feW ps qs l1 pc))) l1 R (IntKind.u32.wrap (pc + 4)) z n l ps qs
theorem spZ_ex : ∃ F0, spZ_T F0 := ⟨_, fun _ _ _ _ _ _ _ _ => rfl⟩
noncomputable def spZ : (List (List Int)) → (List (List Int)) → Int → (List Int) → Int → Bool → Bool → Bool → Bool := Classical.choose spZ_ex
theorem spZ_eq : spZ_T spZ := Classical.choose_spec spZ_ex
abbrev spN_T (F0 : (List (List Int)) → (List (List Int)) → Int → (List Int) → Int → Bool → Bool → Bool → Bool) : Prop := ∀ ps qs l1 R pc z n l, F0 ps qs l1 R pc z n l = if feE ps qs l1 pc ≠ 0 ∨ okWi (feW ps qs l1 pc) = false ∨ doK (zB (okWi (feW ps qs l1 pc)) ((feW ps qs l1 pc) / 67108864)) (zB (okWi (feW ps qs l1 pc)) (dK (feW ps qs l1 pc))) (zB (okWi (feW ps qs l1 pc)) (dA (feW ps qs l1 pc))) (zB (okWi (feW ps qs l1 pc)) (dB (feW ps qs l1 pc))) (zB (okWi (feW ps qs l1 pc)) (dC (feW ps qs l1 pc))) (zB (okWi (feW ps qs l1 pc)) (dI (feW ps qs l1 pc))) l1 R (IntKind.u32.wrap (pc + 4)) z n l ps qs = 4 then n else doN (zB (okWi (feW ps qs l1 pc)) ((feW ps qs l1 pc) / 67108864)) (zB (okWi (feW ps qs l1 pc)) (dK (feW ps qs l1 pc))) (zB (okWi (feW ps qs l1 pc)) (dA (feW ps qs l1 pc))) (zB (okWi (feW ps qs l1 pc)) (dB (feW ps qs l1 pc))) (zB (okWi (feW ps qs l1 pc)) (dC (feW ps qs l1 pc))) (zB (okWi (feW ps qs l1 pc)) (dI (feW ps qs l1 pc))) l1 R (IntKind.u32.wrap (pc + 4)) z n l ps qs
theorem spN_ex : ∃ F0, spN_T F0 := ⟨_, fun _ _ _ _ _ _ _ _ => rfl⟩
noncomputable def spN : (List (List Int)) → (List (List Int)) → Int → (List Int) → Int → Bool → Bool → Bool → Bool := Classical.choose spN_ex
theorem spN_eq : spN_T spN := Classical.choose_spec spN_ex
abbrev spL_T (F0 : (List (List Int)) → (List (List Int)) → Int → (List Int) → Int → Bool → Bool → Bool → Bool) : Prop := ∀ ps qs l1 R pc z n l, F0 ps qs l1 R pc z n l = if feE ps qs l1 pc ≠ 0 ∨ okWi (feW ps qs l1 pc) = false ∨ doK (zB (okWi (feW ps qs l1 pc)) ((feW ps qs l1 pc) / 67108864)) (zB (okWi (feW ps qs l1 pc)) (dK (feW ps qs l1 pc))) (zB (okWi (feW ps qs l1 pc)) (dA (feW ps qs l1 pc))) (zB (okWi (feW ps qs l1 pc)) (dB (feW ps qs l1 pc))) (zB (okWi (feW ps qs l1 pc)) (dC (feW ps qs l1 pc))) (zB (okWi (feW ps qs l1 pc)) (dI (feW ps qs l1 pc))) l1 R (IntKind.u32.wrap (pc + 4)) z n l ps qs = 4 then l else doL (zB (okWi (feW ps qs l1 pc)) ((feW ps qs l1 pc) / 67108864)) (zB (okWi (feW ps qs l1 pc)) (dK (feW ps qs l1 pc))) (zB (okWi (feW ps qs l1 pc)) (dA (feW ps qs l1 pc))) (zB (okWi (feW ps qs l1 pc)) (dB (feW ps qs l1 pc))) (zB (okWi (feW ps qs l1 pc)) (dC (feW ps qs l1 pc))) (zB (okWi (feW ps qs l1 pc)) (dI (feW ps qs l1 pc))) l1 R (IntKind.u32.wrap (pc + 4)) z n l ps qs
theorem spL_ex : ∃ F0, spL_T F0 := ⟨_, fun _ _ _ _ _ _ _ _ => rfl⟩
noncomputable def spL : (List (List Int)) → (List (List Int)) → Int → (List Int) → Int → Bool → Bool → Bool → Bool := Classical.choose spL_ex
theorem spL_eq : spL_T spL := Classical.choose_spec spL_ex
abbrev spP_T (F0 : (List (List Int)) → (List (List Int)) → Int → (List Int) → Int → Bool → Bool → Bool → List (List Int)) : Prop := ∀ ps qs l1 R pc z n l, F0 ps qs l1 R pc z n l = if feE ps qs l1 pc ≠ 0 ∨ okWi (feW ps qs l1 pc) = false then ps else doP (zB (okWi (feW ps qs l1 pc)) ((feW ps qs l1 pc) / 67108864)) (zB (okWi (feW ps qs l1 pc)) (dK (feW ps qs l1 pc))) (zB (okWi (feW ps qs l1 pc)) (dA (feW ps qs l1 pc))) (zB (okWi (feW ps qs l1 pc)) (dB (feW ps qs l1 pc))) (zB (okWi (feW ps qs l1 pc)) (dC (feW ps qs l1 pc))) (zB (okWi (feW ps qs l1 pc)) (dI (feW ps qs l1 pc))) l1 R (IntKind.u32.wrap (pc + 4)) z n l ps qs
theorem spP_ex : ∃ F0, spP_T F0 := ⟨_, fun _ _ _ _ _ _ _ _ => rfl⟩
noncomputable def spP : (List (List Int)) → (List (List Int)) → Int → (List Int) → Int → Bool → Bool → Bool → List (List Int) := Classical.choose spP_ex
theorem spP_eq : spP_T spP := Classical.choose_spec spP_ex
abbrev spQ_T (F0 : (List (List Int)) → (List (List Int)) → Int → (List Int) → Int → Bool → Bool → Bool → List (List Int)) : Prop := ∀ ps qs l1 R pc z n l, F0 ps qs l1 R pc z n l = if feE ps qs l1 pc ≠ 0 ∨ okWi (feW ps qs l1 pc) = false then qs else doQ (zB (okWi (feW ps qs l1 pc)) ((feW ps qs l1 pc) / 67108864)) (zB (okWi (feW ps qs l1 pc)) (dK (feW ps qs l1 pc))) (zB (okWi (feW ps qs l1 pc)) (dA (feW ps qs l1 pc))) (zB (okWi (feW ps qs l1 pc)) (dB (feW ps qs l1 pc))) (zB (okWi (feW ps qs l1 pc)) (dC (feW ps qs l1 pc))) (zB (okWi (feW ps qs l1 pc)) (dI (feW ps qs l1 pc))) l1 R (IntKind.u32.wrap (pc + 4)) z n l ps qs
theorem spQ_ex : ∃ F0, spQ_T F0 := ⟨_, fun _ _ _ _ _ _ _ _ => rfl⟩
noncomputable def spQ : (List (List Int)) → (List (List Int)) → Int → (List Int) → Int → Bool → Bool → Bool → List (List Int) := Classical.choose spQ_ex
theorem spQ_eq : spQ_T spQ := Classical.choose_spec spQ_ex
abbrev spM_T (F0 : (List (List Int)) → (List (List Int)) → Int → (List Int) → Int → Bool → Bool → Bool → Int → Int) : Prop := ∀ ps qs l1 R pc z n l m, F0 ps qs l1 R pc z n l m = if feE ps qs l1 pc ≠ 0 then m + wkL ps qs l1 pc else if okWi (feW ps qs l1 pc) = false then feM ps qs l1 pc m else doM (zB (okWi (feW ps qs l1 pc)) ((feW ps qs l1 pc) / 67108864)) (zB (okWi (feW ps qs l1 pc)) (dK (feW ps qs l1 pc))) (zB (okWi (feW ps qs l1 pc)) (dA (feW ps qs l1 pc))) (zB (okWi (feW ps qs l1 pc)) (dB (feW ps qs l1 pc))) (zB (okWi (feW ps qs l1 pc)) (dC (feW ps qs l1 pc))) (zB (okWi (feW ps qs l1 pc)) (dI (feW ps qs l1 pc))) l1 R (IntKind.u32.wrap (pc + 4)) z n l ps qs (feM ps qs l1 pc m)
theorem spM_ex : ∃ F0, spM_T F0 := ⟨_, fun _ _ _ _ _ _ _ _ _ => rfl⟩
noncomputable def spM : (List (List Int)) → (List (List Int)) → Int → (List Int) → Int → Bool → Bool → Bool → Int → Int := Classical.choose spM_ex
theorem spM_eq : spM_T spM := Classical.choose_spec spM_ex
theorem within_in {u : Bool} {v lo hi : Int} (h : withinS u v lo hi = true) (h0 : lo ≤ 0) (h1 : 0 ≤ hi) : lo ≤ v ∧ v ≤ hi := by
  unfold withinS at h
  split at h
  · simpa using h
  · simp at h; omega
theorem wfI_of {w : Int} (hw : InK .u32 w) (h : okWi w = true) : wfI (zB (okWi w) (w / 67108864)) (zB (okWi w) (dK w)) (zB (okWi w) (dA w)) (zB (okWi w) (dB w)) (zB (okWi w) (dC w)) (zB (okWi w) (dI w)) := by
  have hop : 1 ≤ w / 67108864 ∧ w / 67108864 < 25 := by
    by_cases hn : 1 ≤ w / 67108864 ∧ w / 67108864 < 25
    · exact hn
    · rw [okW_none hn] at h; cases h
  simp only [zB_t h]
  have hI := extS_in w
  have hc : chkS (w / 67108864) (dK w) (dA w) (dB w) (dC w) (dI w) = 0 := by
    unfold okWi at h
    simp only [Bool.and_eq_true, decide_eq_true_eq] at h
    exact h.1
  have hk : okI (shapeS (w / 67108864)) (dK w) (dA w) (dB w) (dC w) (dI w) = true := by
    unfold chkS at hc
    split at hc
    · omega
    · split at hc
      · assumption
      · omega
  unfold okI at hk
  simp only [Bool.and_eq_true] at hk
  obtain ⟨⟨⟨⟨ha, hb⟩, hcc⟩, hkk⟩, _⟩ := hk
  have ha := within_in ha (by omega) (by omega)
  have hb := within_in hb (by omega) (by omega)
  have hcc := within_in hcc (by omega) (by omega)
  have hkk := within_in hkk (by omega) (by omega)
  refine ⟨hop, by omega, by omega, by omega, ?_, ?_⟩
  · simp only [InK]
    unfold dI zB
    repeat' split
    all_goals omega
  · simp only [InK]; omega
structure wfS (l1 : Int) (ps qs : List (List Int)) (m : Int) : Prop where
  l0 : InK .i64 l1
  m0 : 0 ≤ m
  m1 : m ≤ 3000000000000000000
  p1 : wfP ps
  p2 : wfP qs
noncomputable def pt_Cd : List (Nat × (List SV → Option (List Prop × SV))) := [(17, c_Decode)]
theorem pt_Cd_ok : PureOK Tryd.prog (fun f => List.lookup f pt_Cd) := pure_list pt_Cd ⟨c_Decode_e, trivial⟩
noncomputable def et_Cd : List (Nat × ECon) := [(53, c_Translate), (54, c_ReadM), (55, c_doE)]
theorem et_Cd_ok : ConOK Tryd.prog (fun f => List.lookup f et_Cd) := con_list et_Cd ⟨c_Translate_e, c_ReadM_e, c_doE_e, trivial⟩
noncomputable abbrev cx_Cd (must : Nat → Option Bool := fun _ => none) (loop : Nat → SS → Option LoopSpec := fun _ _ => none) (fz : Nat → SS → List Nat := fun _ _ => []) (on : Bool := false) : Ctx := ⟨tab, inlG tab (fun f => List.lookup f pt_Cd) (fun f => List.lookup f et_Cd) fns (fun _ => {}) 1000 6, fun f => List.lookup f pt_Cd, must, loop, 0, 0, fun f => List.lookup f et_Cd, fz, on⟩
theorem cx_Cd_ok (must : Nat → Option Bool) (loop : Nat → SS → Option LoopSpec) (fz : Nat → SS → List Nat) (on : Bool) : CxOK Tryd.prog (cx_Cd must loop fz on) := inlG_ok mixed tab_ok pt_Cd_ok et_Cd_ok fns_ok 6 _ _ _ _ _ _
theorem StepC_ok (l1 : Int) (R : List Int) (pc : Int) (z n l : Bool) (ps qs : List (List Int)) (m : Int) (h0 : wfF R pc) (h1 : wfS l1 ps qs m) : SemCall Tryd.prog 14 [.ptr 0 0, .int .i64 l1, .agg [.ints .u32 15 R, .int .u32 pc, .bool z, .bool n, .bool l]] [some ⟨120, [], 0, some (.own (.mem ps qs m))⟩] (AltK [⟨none, .tup [.agg [.ints .u32 15 (spR ps qs l1 R pc z n l), .int .u32 (spC ps qs l1 R pc z n l), .bool (spZ ps qs l1 R pc z n l), .bool (spN ps qs l1 R pc z n l), .bool (spL ps qs l1 R pc z n l)], .agg [.int .i64 (spK ps qs l1 R pc z n l), .int .u32 (spA ps qs l1 R pc z n l)]], [some ⟨120, [], 0, some (.own (.mem (spP ps qs l1 R pc z n l) (spQ ps qs l1 R pc z n l) (spM ps qs l1 R pc z n l m)))⟩]⟩]) := by
  refine con_intro mixed (cx_Cd_ok (fun _ => none) (fun _ _ => none) (fun _ _ => []) false) Tryd.func14 1000 ?_
  refine of_nf (p := letI k0_ := (OT.mem (spP ps qs l1 R pc z n l) (spQ ps qs l1 R pc z n l) (spM ps qs l1 R pc z n l m)); (0 : Int) <= m /\ m <= 4611686018427387900 /\ wfP ps /\ wfP qs /\ ((-9223372036854775808 : Int) <= l1 /\ l1 < 9223372036854775808) /\ (0 <= pc /\ pc < 4294967296) /\ ∀ (c : Bool), c = trS ps qs l1 pc (2 : Int) -> ∀ (m_1 : Int), m_1 = trF ps qs l1 pc (2 : Int) -> ∀ (m_2 : Int), m_2 = trO ps qs l1 pc (2 : Int) -> ∀ (m_3 : Int), m_3 = trE ps qs l1 pc (2 : Int) -> ∀ (ps' : List (List Int)), ps' = ps -> ∀ (qs' : List (List Int)), qs' = qs -> ∀ (m' : Int), m' = m + wkL ps qs l1 pc -> ∀ (ys : List Int), ys = R -> ∀ (m_4 : Int), m_4 = pc -> ∀ (c_1 : Bool), c_1 = z -> ∀ (c_2 : Bool), c_2 = n -> ∀ (c_3 : Bool), c_3 = l -> ∀ (ys_1 : List Int), ys_1 = [(0 : Int), 0, 0, 0, 0, 0, 0, 0, 0, 0, 0, 0, 0, 0, 0] -> ((m_3 != 0) = true -> (((ys = spR ps qs l1 R pc z n l /\ m_4 = spC ps qs l1 R pc z n l /\ c_1 = spZ ps qs l1 R pc z n l /\ c_2 = spN ps qs l1 R pc z n l /\ c_3 = spL ps qs l1 R pc z n l /\ True) /\ (3 = spK ps qs l1 R pc z n l /\ m_4 = spA ps qs l1 R pc z n l /\ True) /\ True) /\ True) /\ (Ob.own (OT.mem ps' qs' m') = Ob.own k0_ /\ nat_lit 119 + (1 : Nat) = (120 : TypeId) /\ (0 : Nat) = (0 : Nat) /\ True) /\ True) /\ ((m_3 != 0) = false -> 0 <= m' /\ m' <= 4611686018427387904 /\ ∀ (m_5 : Int), m_5 = rdW c m_1 m_2 ps' qs' -> ∀ (m_6 : Int), m_6 = errW c m_1 m_2 ps' qs' -> ∀ (ps'_1 : List (List Int)), ps'_1 = ps' -> ∀ (qs'_1 : List (List Int)), qs'_1 = qs' -> ∀ (m'_1 : Int), (m'_1 = if okW c m_1 m_2 ps' qs' = true then m' + 1 else m') -> ∀ (ys_2 : List Int), ys_2 = ys -> ∀ (m_7 : Int), m_7 = m_4 -> ∀ (c_4 : Bool), c_4 = c_1 -> ∀ (c_5 : Bool), c_5 = c_2 -> ∀ (c_6 : Bool), c_6 = c_3 -> ∀ (ys : List Int), ys = ys_1 -> ∀ (c_7 : Bool), c_7 = c -> ∀ (m_8 : Int), m_8 = m_1 -> (0 <= m_5 /\ m_5 < 4294967296) /\ ((e50 (okWi m_5) != 0) = true -> (((ys_2 = spR ps qs l1 R pc z n l /\ m_7 = spC ps qs l1 R pc z n l /\ c_4 = spZ ps qs l1 R pc z n l /\ c_5 = spN ps qs l1 R pc z n l /\ c_6 = spL ps qs l1 R pc z n l /\ True) /\ (2 = spK ps qs l1 R pc z n l /\ m_5 = spA ps qs l1 R pc z n l /\ True) /\ True) /\ True) /\ (Ob.own (OT.mem ps'_1 qs'_1 m'_1) = Ob.own k0_ /\ nat_lit 119 + (1 : Nat) = (120 : TypeId) /\ (0 : Nat) = (0 : Nat) /\ True) /\ True) /\ ((e50 (okWi m_5) != 0) = false -> wfF ys_2 (IntKind.u32.wrap (m_7 + 4)) /\ wfI (zB (okWi m_5) (m_5 / 67108864)) (zB (okWi m_5) (dK m_5)) (zB (okWi m_5) (dA m_5)) (zB (okWi m_5) (dB m_5)) (zB (okWi m_5) (dC m_5)) (zB (okWi m_5) (dI m_5)) /\ wfM l1 ps'_1 qs'_1 m'_1 /\ ∀ (m_9 : Int), m_9 = doK (zB (okWi m_5) (m_5 / 67108864)) (zB (okWi m_5) (dK m_5)) (zB (okWi m_5) (dA m_5)) (zB (okWi m_5) (dB m_5)) (zB (okWi m_5) (dC m_5)) (zB (okWi m_5) (dI m_5)) l1 ys_2 (IntKind.u32.wrap (m_7 + 4)) c_4 c_5 c_6 ps'_1 qs'_1 -> ∀ (m_10 : Int), m_10 = doA (zB (okWi m_5) (m_5 / 67108864)) (zB (okWi m_5) (dK m_5)) (zB (okWi m_5) (dA m_5)) (zB (okWi m_5) (dB m_5)) (zB (okWi m_5) (dC m_5)) (zB (okWi m_5) (dI m_5)) l1 ys_2 (IntKind.u32.wrap (m_7 + 4)) c_4 c_5 c_6 ps'_1 qs'_1 -> ∀ (ps' : List (List Int)), ps' = doP (zB (okWi m_5) (m_5 / 67108864)) (zB (okWi m_5) (dK m_5)) (zB (okWi m_5) (dA m_5)) (zB (okWi m_5) (dB m_5)) (zB (okWi m_5) (dC m_5)) (zB (okWi m_5) (dI m_5)) l1 ys_2 (IntKind.u32.wrap (m_7 + 4)) c_4 c_5 c_6 ps'_1 qs'_1 -> ∀ (qs' : List (List Int)), qs' = doQ (zB (okWi m_5) (m_5 / 67108864)) (zB (okWi m_5) (dK m_5)) (zB (okWi m_5) (dA m_5)) (zB (okWi m_5) (dB m_5)) (zB (okWi m_5) (dC m_5)) (zB (okWi m_5) (dI m_5)) l1 ys_2 (IntKind.u32.wrap (m_7 + 4)) c_4 c_5 c_6 ps'_1 qs'_1 -> ∀ (m' : Int), m' = doM (zB (okWi m_5) (m_5 / 67108864)) (zB (okWi m_5) (dK m_5)) (zB (okWi m_5) (dA m_5)) (zB (okWi m_5) (dB m_5)) (zB (okWi m_5) (dC m_5)) (zB (okWi m_5) (dI m_5)) l1 ys_2 (IntKind.u32.wrap (m_7 + 4)) c_4 c_5 c_6 ps'_1 qs'_1 m'_1 -> ∀ (ys_3 : List Int), ys_3 = ys_2 -> ∀ (m_11 : Int), m_11 = m_7 -> ∀ (c : Bool), c = c_4 -> ∀ (c_8 : Bool), c_8 = c_5 -> ∀ (c_9 : Bool), c_9 = c_6 -> ∀ (ys_4 : List Int), ys_4 = ys -> ∀ (c_10 : Bool), c_10 = c_7 -> ∀ (m_12 : Int), m_12 = m_8 -> ∀ (m_13 : Int), m_13 = zB (okWi m_5) (m_5 / 67108864) -> ∀ (m_14 : Int), m_14 = zB (okWi m_5) (dK m_5) -> ∀ (m_15 : Int), m_15 = zB (okWi m_5) (dA m_5) -> ∀ (m_16 : Int), m_16 = zB (okWi m_5) (dB m_5) -> ∀ (m_17 : Int), m_17 = zB (okWi m_5) (dC m_5) -> ∀ (m_18 : Int), m_18 = zB (okWi m_5) (dI m_5) -> ∀ (m_19 : Int), m_19 = l1 -> ∀ (ys : List Int), ys = doR (zB (okWi m_5) (m_5 / 67108864)) (zB (okWi m_5) (dK m_5)) (zB (okWi m_5) (dA m_5)) (zB (okWi m_5) (dB m_5)) (zB (okWi m_5) (dC m_5)) (zB (okWi m_5) (dI m_5)) l1 ys_2 (IntKind.u32.wrap (m_7 + 4)) c_4 c_5 c_6 ps'_1 qs'_1 -> ∀ (m_20 : Int), m_20 = doC (zB (okWi m_5) (m_5 / 67108864)) (zB (okWi m_5) (dK m_5)) (zB (okWi m_5) (dA m_5)) (zB (okWi m_5) (dB m_5)) (zB (okWi m_5) (dC m_5)) (zB (okWi m_5) (dI m_5)) l1 ys_2 (IntKind.u32.wrap (m_7 + 4)) c_4 c_5 c_6 ps'_1 qs'_1 -> ∀ (c_11 : Bool), c_11 = doZ (zB (okWi m_5) (m_5 / 67108864)) (zB (okWi m_5) (dK m_5)) (zB (okWi m_5) (dA m_5)) (zB (okWi m_5) (dB m_5)) (zB (okWi m_5) (dC m_5)) (zB (okWi m_5) (dI m_5)) l1 ys_2 (IntKind.u32.wrap (m_7 + 4)) c_4 c_5 c_6 ps'_1 qs'_1 -> ∀ (c_12 : Bool), c_12 = doN (zB (okWi m_5) (m_5 / 67108864)) (zB (okWi m_5) (dK m_5)) (zB (okWi m_5) (dA m_5)) (zB (okWi m_5) (dB m_5)) (zB (okWi m_5) (dC m_5)) (zB (okWi m_5) (dI m_5)) l1 ys_2 (IntKind.u32.wrap (m_7 + 4)) c_4 c_5 c_6 ps'_1 qs'_1 -> ∀ (c_13 : Bool), c_13 = doL (zB (okWi m_5) (m_5 / 67108864)) (zB (okWi m_5) (dK m_5)) (zB (okWi m_5) (dA m_5)) (zB (okWi m_5) (dB m_5)) (zB (okWi m_5) (dC m_5)) (zB (okWi m_5) (dI m_5)) l1 ys_2 (IntKind.u32.wrap (m_7 + 4)) c_4 c_5 c_6 ps'_1 qs'_1 -> ((m_9 == 4) = true -> (((ys_3 = spR ps qs l1 R pc z n l /\ m_11 = spC ps qs l1 R pc z n l /\ c = spZ ps qs l1 R pc z n l /\ c_8 = spN ps qs l1 R pc z n l /\ c_9 = spL ps qs l1 R pc z n l /\ True) /\ (m_9 = spK ps qs l1 R pc z n l /\ m_10 = spA ps qs l1 R pc z n l /\ True) /\ True) /\ True) /\ (Ob.own (OT.mem ps' qs' m') = Ob.own k0_ /\ nat_lit 119 + (1 : Nat) = (120 : TypeId) /\ (0 : Nat) = (0 : Nat) /\ True) /\ True) /\ ((m_9 == 4) = false -> (((ys = spR ps qs l1 R pc z n l /\ m_20 = spC ps qs l1 R pc z n l /\ c_11 = spZ ps qs l1 R pc z n l /\ c_12 = spN ps qs l1 R pc z n l /\ c_13 = spL ps qs l1 R pc z n l /\ True) /\ (m_9 = spK ps qs l1 R pc z n l /\ m_10 = spA ps qs l1 R pc z n l /\ True) /\ True) /\ True) /\ (Ob.own (OT.mem ps' qs' m') = Ob.own k0_ /\ nat_lit 119 + (1 : Nat) = (120 : TypeId) /\ (0 : Nat) = (0 : Nat) /\ True) /\ True)))) (by kernel_rfl) ?_
  have HF := h0
  have HS := h1
  obtain ⟨m0, m1, m2, m3, m4⟩ := h1
  have hw := wkL_in ps qs l1 pc
  have hW : InK .u32 (feW ps qs l1 pc) := by rw [feW_eq]; exact rdW_in m3 m4
  have hM : 0 ≤ feM ps qs l1 pc m ∧ feM ps qs l1 pc m ≤ m + 3 := by rw [feM_eq]; split <;> omega
  have hp := HF.p0
  simp only [↓forall_eq, ← feE_eq, ← feW_eq, ← feM_eq]
  simp only [InK] at m0 hp hW
  simp only [bne_iff_ne, bne_eq_false_iff_eq, ne_eq, beq_iff_eq, beq_eq_false_iff_ne]
  repeat' (first | with_reducible rfl | exact True.intro | with_reducible assumption | apply And.intro | intro _h)
  all_goals first
    | omega
    | exact hW.1
    | exact hW.2
    | exact ⟨HF.len, HF.iin, u32_wrap _⟩
    | (refine wfI_of ?_ ?_ <;> first | (simp only [InK]; exact hW) | (cases h : okWi (feW ps qs l1 pc) <;> simp_all [e50]; done))
    | exact ⟨by simp only [InK]; exact m0, by omega, by omega, m3, m4⟩
    | (rw [spK_eq]; (repeat' split) <;> simp_all [e50] <;> done)
    | (rw [spA_eq]; (repeat' split) <;> simp_all [e50] <;> done)
    | (rw [spR_eq]; (repeat' split) <;> simp_all [e50] <;> done)
    | (rw [spC_eq]; (repeat' split) <;> simp_all [e50] <;> done)
    | (rw [spZ_eq]; (repeat' split) <;> simp_all [e50] <;> done)
    | (rw [spN_eq]; (repeat' split) <;> simp_all [e50] <;> done)
    | (rw [spL_eq]; (repeat' split) <;> simp_all [e50] <;> done)
    | (refine memEq ?_ ?_ ?_ <;> first | (rw [spP_eq]; (repeat' split) <;> simp_all [e50] <;> done) | (rw [spQ_eq]; (repeat' split) <;> simp_all [e50] <;> done) | (rw [spM_eq]; (repeat' split) <;> simp_all [e50] <;> done))
    | trace_state
noncomputable def c_StepC : ECon
  | [.ptr 0 0, .int .i64 l1, .agg [.ints .u32 15 R, .int .u32 pc, .bool z, .bool n, .bool l]], [some ⟨120, [], 0, some (.own (.mem ps qs m))⟩] => some ([wfF R pc, wfS l1 ps qs m], [⟨none, .tup [.agg [.ints .u32 15 (spR ps qs l1 R pc z n l), .int .u32 (spC ps qs l1 R pc z n l), .bool (spZ ps qs l1 R pc z n l), .bool (spN ps qs l1 R pc z n l), .bool (spL ps qs l1 R pc z n l)], .agg [.int .i64 (spK ps qs l1 R pc z n l), .int .u32 (spA ps qs l1 R pc z n l)]], [some ⟨120, [], 0, some (.own (.mem (spP ps qs l1 R pc z n l) (spQ ps qs l1 R pc z n l) (spM ps qs l1 R pc z n l m)))⟩]⟩])
  | _, _ => none
theorem c_StepC_e : EEntry Tryd.prog 14 c_StepC := by
  refine ⟨callFunc_ok Tryd.func14 (by kernel_rfl) (by kernel_rfl), fun args rows ps alts h hp => ?_⟩
  unfold c_StepC at h
  split at h
  · cases h; exact StepC_ok _ _ _ _ _ _ _ _ _ (hp.i 0) (hp.i 1)
  · cases h
end Go.Proofs.YtimjnajdpccjdaaDoor
