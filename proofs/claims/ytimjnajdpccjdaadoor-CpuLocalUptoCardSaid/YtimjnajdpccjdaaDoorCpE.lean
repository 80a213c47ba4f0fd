/- Package cpu: what a step keeps; runs. No condition beyond the arguments' types. -/
import Derived.Test.YtimjnajdpccjdaaDoorCpD
namespace Go.Proofs.YtimjnajdpccjdaaDoor
set_option linter.unusedVariables false
set_option linter.unusedSimpArgs false
open Go.RowKit Sx
set_option maxRecDepth 100000
set_option maxHeartbeats 8000000
theorem wf_rep (a : Nat) : wfP (List.replicate a (List.replicate 1024 0)) := ⟨fun p hp => by
  rw [List.eq_of_mem_replicate hp]
  exact ⟨by simp, fun x hx => by rw [List.eq_of_mem_replicate hx]; simp [InK]⟩⟩
theorem pgAt_wf {t : Bool} {k : Int} {ps qs : List (List Int)} (h1 : wfP ps) (h2 : wfP qs) (h : hasP t k ps qs = true) : (pgAt t k ps qs).length = 1024 ∧ ∀ x ∈ pgAt t k ps qs, InK .u32 x := by
  unfold hasP at h
  simp only [Bool.and_eq_true, decide_eq_true_eq] at h
  have key : ∀ l : List (List Int), wfP l → k < l.length → (l.getD k.toNat []).length = 1024 ∧ ∀ x ∈ l.getD k.toNat [], InK .u32 x := fun l hl hk => by
    rw [List.getD_eq_getElem?_getD, List.getElem?_eq_getElem (show k.toNat < l.length by omega)]
    exact hl.out _ (List.getElem_mem _)
  unfold pgAt
  cases t with
  | true => exact key _ h1 h.2
  | false => exact key _ h2 h.2
theorem set_wf {ps : List (List Int)} {on : Bool} {k : Int} {xs : List Int} (h : wfP ps) (hx : on = true → xs.length = 1024 ∧ ∀ x ∈ xs, InK .u32 x) : wfP (setP on k xs ps) := ⟨fun p hp => by
  unfold setP at hp
  split at hp
  · rename_i ho
    rcases List.mem_or_eq_of_mem_set hp with h1 | rfl
    · exact h.out p h1
    · exact hx ho
  · exact h.out p hp⟩
theorem write_wf {t : Bool} {k off v : Int} {ps qs : List (List Int)} (h1 : wfP ps) (h2 : wfP qs) (hv : InK .u32 v) :
    wfP (setP (t && okW t k off ps qs) k ((pgAt t k ps qs).set off.toNat v) ps) ∧ wfP (setP (!t && okW t k off ps qs) k ((pgAt t k ps qs).set off.toNat v) qs) := by
  have key : okW t k off ps qs = true → ((pgAt t k ps qs).set off.toNat v).length = 1024 ∧ ∀ x ∈ (pgAt t k ps qs).set off.toNat v, InK .u32 x := fun ho => by
    have hh : hasP t k ps qs = true := by unfold okW at ho; simp only [Bool.and_eq_true] at ho; exact ho.1
    have hp := pgAt_wf h1 h2 hh
    refine ⟨by rw [List.length_set]; exact hp.1, fun x hx => ?_⟩
    rcases List.mem_or_eq_of_mem_set hx with h | rfl
    · exact hp.2 x h
    · exact hv
  exact ⟨set_wf h1 fun h => key (by simp at h; exact h.2), set_wf h2 fun h => key (by simp at h; exact h.2)⟩
section
variable {l1 : Int} {R : List Int} {pc : Int} {z n l : Bool} {ps qs : List (List Int)} {m : Int} {op k A B C imm : Int}
theorem va_in (op B C imm : Int) (R : List Int) : InK .u32 (vaC op B C imm R) := by rw [vaC_eq]; split <;> exact u32_wrap _
theorem mv_ok (HF : wfF R pc) (A : Int) : (mvR op A B imm R).length = 15 ∧ ∀ x ∈ mvR op A B imm R, InK .u32 x := by
  rw [mvR_eq]
  repeat' split
  all_goals exact ⟨by rw [List.length_set]; exact HF.len, set_in HF.iin (by first | exact u32_wrap _ | exact stH_in _ _ | exact rg_in HF.iin _) _⟩
theorem tc_ok (HF : wfF R pc) (h1 : wfP ps) (h2 : wfP qs) : ((tcR ps qs l1 op A B C imm R).length = 15 ∧ ∀ x ∈ tcR ps qs l1 op A B C imm R, InK .u32 x) ∧ (wfP (tcP ps qs l1 op A B C imm R) ∧ wfP (tcQ ps qs l1 op A B C imm R)) ∧
    ((tcP ps qs l1 op A B C imm R).length = ps.length ∧ (tcQ ps qs l1 op A B C imm R).length = qs.length) ∧ (m ≤ tcM ps qs l1 op A B C imm R m ∧ tcM ps qs l1 op A B C imm R m ≤ m + 3) ∧ (tcK ps qs l1 op A B C imm R = 0 ∨ tcK ps qs l1 op A B C imm R = 4) ∧ InK .u32 (tcA ps qs l1 op A B C imm R) := by
  refine ⟨?_, ?_, ?_, ?_, ?_, ?_⟩
  · rw [tcR_eq]
    split
    · exact ⟨by rw [List.length_set]; exact HF.len, set_in HF.iin (rdW_in h1 h2) _⟩
    · exact ⟨HF.len, HF.iin⟩
  · rw [tcP_eq, tcQ_eq]
    have hw := write_wf (t := trS ps qs l1 (vaC op B C imm R) (acC op)) (k := trF ps qs l1 (vaC op B C imm R) (acC op)) (off := trO ps qs l1 (vaC op B C imm R) (acC op)) h1 h2 (rg_in HF.iin A.toNat)
    split
    · exact hw
    · exact ⟨h1, h2⟩
  · rw [tcP_eq, tcQ_eq]
    split
    · exact ⟨setP_len _ _ _ _, setP_len _ _ _ _⟩
    · exact ⟨rfl, rfl⟩
  · have hw := wkL_in ps qs l1 (vaC op B C imm R)
    rw [tcM_eq]
    repeat' split
    all_goals omega
  · rw [tcK_eq]; split <;> simp
  · rw [tcA_eq]; split
    · simp [InK]
    · exact va_in _ _ _ _ _
theorem do_ok (HF : wfF R pc) (h1 : wfP ps) (h2 : wfP qs) : wfF (doR op k A B C imm l1 R pc z n l ps qs) (doC op k A B C imm l1 R pc z n l ps qs) ∧ (wfP (doP op k A B C imm l1 R pc z n l ps qs) ∧ wfP (doQ op k A B C imm l1 R pc z n l ps qs)) ∧
    ((doP op k A B C imm l1 R pc z n l ps qs).length = ps.length ∧ (doQ op k A B C imm l1 R pc z n l ps qs).length = qs.length) ∧ (m ≤ doM op k A B C imm l1 R pc z n l ps qs m ∧ doM op k A B C imm l1 R pc z n l ps qs m ≤ m + 3) ∧
    (doK op k A B C imm l1 R pc z n l ps qs = 0 ∨ doK op k A B C imm l1 R pc z n l ps qs = 1 ∨ doK op k A B C imm l1 R pc z n l ps qs = 4) ∧ InK .u32 (doA op k A B C imm l1 R pc z n l ps qs) := by
  have ht := tc_ok (m := m) (op := op) (A := A) (B := B) (C := C) (imm := imm) (l1 := l1) HF h1 h2
  have hm := mv_ok (op := op) (B := B) (imm := imm) HF A
  refine ⟨?_, ?_, ?_, ?_, ?_, ?_⟩
  · have hR : (doR op k A B C imm l1 R pc z n l ps qs).length = 15 ∧ ∀ x ∈ doR op k A B C imm l1 R pc z n l ps qs, InK .u32 x := by
      rw [doR_eq]
      repeat' split
      · exact hm
      · exact ⟨by rw [List.length_set]; exact HF.len, set_in HF.iin (smV_in _ _ _ (rg_in HF.iin _) (rg_in HF.iin _)) _⟩
      · exact ht.1
      · rw [jpR_eq]
        split
        · exact ⟨by rw [List.length_set]; exact HF.len, set_in HF.iin HF.p0 _⟩
        · exact ⟨HF.len, HF.iin⟩
      · exact ⟨HF.len, HF.iin⟩
    refine ⟨hR.1, hR.2, ?_⟩
    rw [doC_eq, jpP_eq]
    repeat' split
    all_goals first | exact u32_wrap _ | exact HF.p0 | exact rg_in HF.iin _
  · rw [doP_eq, doQ_eq]; split
    · exact ht.2.1
    · exact ⟨h1, h2⟩
  · rw [doP_eq, doQ_eq]; split
    · exact ht.2.2.1
    · exact ⟨rfl, rfl⟩
  · rw [doM_eq]; split
    · exact ht.2.2.2.1
    · omega
  · rw [doK_eq]; repeat' split
    · simp
    · rcases ht.2.2.2.2.1 with h | h <;> rw [h] <;> simp
    · simp
  · rw [doA_eq]; repeat' split
    · exact u32_wrap _
    · exact ht.2.2.2.2.2
    · simp [InK]
theorem sp_ok (HF : wfF R pc) (HS : wfS l1 ps qs m) : wfF (spR ps qs l1 R pc z n l) (spC ps qs l1 R pc z n l) ∧ (wfP (spP ps qs l1 R pc z n l) ∧ wfP (spQ ps qs l1 R pc z n l)) ∧ ((spP ps qs l1 R pc z n l).length = ps.length ∧ (spQ ps qs l1 R pc z n l).length = qs.length) ∧ (m ≤ spM ps qs l1 R pc z n l m ∧ spM ps qs l1 R pc z n l m ≤ m + 6) ∧ (0 ≤ (spK ps qs l1 R pc z n l) ∧ (spK ps qs l1 R pc z n l) ≤ 4) ∧ InK .u32 (spA ps qs l1 R pc z n l) := by
  obtain ⟨m0, m1, m2, m3, m4⟩ := HS
  have hw := wkL_in ps qs l1 pc
  have hW : InK .u32 (feW ps qs l1 pc) := by rw [feW_eq]; exact rdW_in m3 m4
  have hM : m ≤ feM ps qs l1 pc m ∧ feM ps qs l1 pc m ≤ m + 3 := by rw [feM_eq]; split <;> omega
  have hd := do_ok (m := feM ps qs l1 pc m) (op := (zB (okWi (feW ps qs l1 pc)) ((feW ps qs l1 pc) / 67108864))) (k := (zB (okWi (feW ps qs l1 pc)) (dK (feW ps qs l1 pc)))) (A := (zB (okWi (feW ps qs l1 pc)) (dA (feW ps qs l1 pc)))) (B := (zB (okWi (feW ps qs l1 pc)) (dB (feW ps qs l1 pc)))) (C := (zB (okWi (feW ps qs l1 pc)) (dC (feW ps qs l1 pc)))) (imm := (zB (okWi (feW ps qs l1 pc)) (dI (feW ps qs l1 pc)))) (l1 := l1) (z := z) (n := n) (l := l) (ps := ps) (qs := qs) (R := R) (pc := IntKind.u32.wrap (pc + 4)) ⟨HF.len, HF.iin, u32_wrap _⟩ m3 m4
  refine ⟨?_, ?_, ?_, ?_, ?_, ?_⟩
  · rw [spR_eq, spC_eq]; split
    · exact HF
    · exact hd.1
  · rw [spP_eq, spQ_eq]; split
    · exact ⟨m3, m4⟩
    · exact hd.2.1
  · rw [spP_eq, spQ_eq]; split
    · exact ⟨rfl, rfl⟩
    · exact hd.2.2.1
  · have := hd.2.2.2.1
    rw [spM_eq]; repeat' split
    all_goals omega
  · have := hd.2.2.2.2.1
    rw [spK_eq]; repeat' split
    all_goals omega
  · rw [spA_eq]; repeat' split
    · exact HF.p0
    · exact hW
    · exact hd.2.2.2.2.2
end
end Go.Proofs.YtimjnajdpccjdaaDoor
