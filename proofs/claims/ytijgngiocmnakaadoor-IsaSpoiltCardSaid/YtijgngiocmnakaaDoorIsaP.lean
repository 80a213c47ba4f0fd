/- Plain law of words and instructions, by groups of shapes. No condition. -/
import Derived.Test.YtijgngiocmnakaaDoorIsaF
namespace Go.Proofs.YtijgngiocmnakaaDoor
open Go.RowKit Sx
set_option linter.unusedVariables false
set_option linter.unusedSimpArgs false
set_option maxRecDepth 100000
set_option maxHeartbeats 1000000
theorem chk_au {op cond a b c imm : Int} (hg : op = 1 ∨ op = 2) (h : chkS op cond a b c imm = 0) : (0 ≤ a ∧ a ≤ 14) ∧ b = 0 ∧ c = 0 ∧ cond = 0 ∧ (0 ≤ imm ∧ imm ≤ 65535) := by
  unfold chkS okI immS at h
  rw [shape_au hg] at h
  simp only [has_au_a, has_au_b, has_au_c, has_au_k, has_au_u, has_au_s, has_au_o, ne_au, withinS, Bool.and_eq_true, decide_eq_true_eq, if_true, if_false, Bool.or_self, Bool.or_false, Bool.false_or, Bool.or_true, Bool.true_or, Bool.false_eq_true, reduceIte] at h
  split at h <;> omega
theorem dK_au {w : Int} (h : w / 67108864 = 1 ∨ w / 67108864 = 2) : dK w = 0 := by unfold dK; rw [shape_au h]; simp only [has_au_a, has_au_b, has_au_c, has_au_k, has_au_u, has_au_s, has_au_o, zB, if_true, if_false, Bool.or_self, Bool.or_false, Bool.false_or, Bool.or_true, Bool.true_or, Bool.false_eq_true, reduceIte]
theorem dA_au {w : Int} (h : w / 67108864 = 1 ∨ w / 67108864 = 2) : dA w = w / 4194304 % 16 := by unfold dA; rw [shape_au h]; simp only [has_au_a, has_au_b, has_au_c, has_au_k, has_au_u, has_au_s, has_au_o, zB, if_true, if_false, Bool.or_self, Bool.or_false, Bool.false_or, Bool.or_true, Bool.true_or, Bool.false_eq_true, reduceIte]
theorem dB_au {w : Int} (h : w / 67108864 = 1 ∨ w / 67108864 = 2) : dB w = 0 := by unfold dB; rw [shape_au h]; simp only [has_au_a, has_au_b, has_au_c, has_au_k, has_au_u, has_au_s, has_au_o, zB, if_true, if_false, Bool.or_self, Bool.or_false, Bool.false_or, Bool.or_true, Bool.true_or, Bool.false_eq_true, reduceIte]
theorem dC_au {w : Int} (h : w / 67108864 = 1 ∨ w / 67108864 = 2) : dC w = 0 := by unfold dC; rw [shape_au h]; simp only [has_au_a, has_au_b, has_au_c, has_au_k, has_au_u, has_au_s, has_au_o, zB, if_true, if_false, Bool.or_self, Bool.or_false, Bool.false_or, Bool.or_true, Bool.true_or, Bool.false_eq_true, reduceIte]
theorem dI_au {w : Int} (h : w / 67108864 = 1 ∨ w / 67108864 = 2) : dI w = w % 65536 := by unfold dI; rw [shape_au h]; simp only [has_au_a, has_au_b, has_au_c, has_au_k, has_au_u, has_au_s, has_au_o, zB, if_true, if_false, Bool.or_self, Bool.or_false, Bool.false_or, Bool.or_true, Bool.true_or, Bool.false_eq_true, reduceIte]
theorem de_au {op cond a b c imm : Int} (hg : op = 1 ∨ op = 2) (h : chkS op cond a b c imm = 0) : encS op cond a b c imm / 67108864 = op ∧ dK (encS op cond a b c imm) = cond ∧ dA (encS op cond a b c imm) = a ∧ dB (encS op cond a b c imm) = b ∧ dC (encS op cond a b c imm) = c ∧ dI (encS op cond a b c imm) = imm := by
  have hc := chk_au hg h
  have e0 : encS op cond a b c imm / 67108864 = op := by unfold encS; omega
  have hg2 : encS op cond a b c imm / 67108864 = 1 ∨ encS op cond a b c imm / 67108864 = 2 := by rw [e0]; exact hg
  refine ⟨e0, ?_, ?_, ?_, ?_, ?_⟩
  · rw [dK_au hg2]; (try unfold encS); omega
  · rw [dA_au hg2]; (try unfold encS); omega
  · rw [dB_au hg2]; (try unfold encS); omega
  · rw [dC_au hg2]; (try unfold encS); omega
  · rw [dI_au hg2]; (try unfold encS); omega
theorem chk_ab {op cond a b c imm : Int} (hg : op = 3 ∨ op = 19) (h : chkS op cond a b c imm = 0) : (0 ≤ a ∧ a ≤ 14) ∧ (0 ≤ b ∧ b ≤ 14) ∧ c = 0 ∧ cond = 0 ∧ imm = 0 := by
  unfold chkS okI immS at h
  rw [shape_ab hg] at h
  simp only [has_ab_a, has_ab_b, has_ab_c, has_ab_k, has_ab_u, has_ab_s, has_ab_o, ne_ab, withinS, Bool.and_eq_true, decide_eq_true_eq, if_true, if_false, Bool.or_self, Bool.or_false, Bool.false_or, Bool.or_true, Bool.true_or, Bool.false_eq_true, reduceIte] at h
  split at h <;> omega
theorem dK_ab {w : Int} (h : w / 67108864 = 3 ∨ w / 67108864 = 19) : dK w = 0 := by unfold dK; rw [shape_ab h]; simp only [has_ab_a, has_ab_b, has_ab_c, has_ab_k, has_ab_u, has_ab_s, has_ab_o, zB, if_true, if_false, Bool.or_self, Bool.or_false, Bool.false_or, Bool.or_true, Bool.true_or, Bool.false_eq_true, reduceIte]
theorem dA_ab {w : Int} (h : w / 67108864 = 3 ∨ w / 67108864 = 19) : dA w = w / 4194304 % 16 := by unfold dA; rw [shape_ab h]; simp only [has_ab_a, has_ab_b, has_ab_c, has_ab_k, has_ab_u, has_ab_s, has_ab_o, zB, if_true, if_false, Bool.or_self, Bool.or_false, Bool.false_or, Bool.or_true, Bool.true_or, Bool.false_eq_true, reduceIte]
theorem dB_ab {w : Int} (h : w / 67108864 = 3 ∨ w / 67108864 = 19) : dB w = w / 262144 % 16 := by unfold dB; rw [shape_ab h]; simp only [has_ab_a, has_ab_b, has_ab_c, has_ab_k, has_ab_u, has_ab_s, has_ab_o, zB, if_true, if_false, Bool.or_self, Bool.or_false, Bool.false_or, Bool.or_true, Bool.true_or, Bool.false_eq_true, reduceIte]
theorem dC_ab {w : Int} (h : w / 67108864 = 3 ∨ w / 67108864 = 19) : dC w = 0 := by unfold dC; rw [shape_ab h]; simp only [has_ab_a, has_ab_b, has_ab_c, has_ab_k, has_ab_u, has_ab_s, has_ab_o, zB, if_true, if_false, Bool.or_self, Bool.or_false, Bool.false_or, Bool.or_true, Bool.true_or, Bool.false_eq_true, reduceIte]
theorem dI_ab {w : Int} (h : w / 67108864 = 3 ∨ w / 67108864 = 19) : dI w = 0 := by unfold dI; rw [shape_ab h]; simp only [has_ab_a, has_ab_b, has_ab_c, has_ab_k, has_ab_u, has_ab_s, has_ab_o, zB, if_true, if_false, Bool.or_self, Bool.or_false, Bool.false_or, Bool.or_true, Bool.true_or, Bool.false_eq_true, reduceIte]
theorem de_ab {op cond a b c imm : Int} (hg : op = 3 ∨ op = 19) (h : chkS op cond a b c imm = 0) : encS op cond a b c imm / 67108864 = op ∧ dK (encS op cond a b c imm) = cond ∧ dA (encS op cond a b c imm) = a ∧ dB (encS op cond a b c imm) = b ∧ dC (encS op cond a b c imm) = c ∧ dI (encS op cond a b c imm) = imm := by
  have hc := chk_ab hg h
  have e0 : encS op cond a b c imm / 67108864 = op := by unfold encS; omega
  have hg2 : encS op cond a b c imm / 67108864 = 3 ∨ encS op cond a b c imm / 67108864 = 19 := by rw [e0]; exact hg
  refine ⟨e0, ?_, ?_, ?_, ?_, ?_⟩
  · rw [dK_ab hg2]; (try unfold encS); omega
  · rw [dA_ab hg2]; (try unfold encS); omega
  · rw [dB_ab hg2]; (try unfold encS); omega
  · rw [dC_ab hg2]; (try unfold encS); omega
  · rw [dI_ab hg2]; (try unfold encS); omega
theorem chk_abc {op cond a b c imm : Int} (hg : op = 4 ∨ op = 5 ∨ op = 6 ∨ op = 7 ∨ op = 8 ∨ op = 9 ∨ op = 10 ∨ op = 11 ∨ op = 12 ∨ op = 13 ∨ op = 17 ∨ op = 18) (h : chkS op cond a b c imm = 0) : (0 ≤ a ∧ a ≤ 14) ∧ (0 ≤ b ∧ b ≤ 14) ∧ (0 ≤ c ∧ c ≤ 14) ∧ cond = 0 ∧ imm = 0 := by
  unfold chkS okI immS at h
  rw [shape_abc hg] at h
  simp only [has_abc_a, has_abc_b, has_abc_c, has_abc_k, has_abc_u, has_abc_s, has_abc_o, ne_abc, withinS, Bool.and_eq_true, decide_eq_true_eq, if_true, if_false, Bool.or_self, Bool.or_false, Bool.false_or, Bool.or_true, Bool.true_or, Bool.false_eq_true, reduceIte] at h
  split at h <;> omega
theorem dK_abc {w : Int} (h : w / 67108864 = 4 ∨ w / 67108864 = 5 ∨ w / 67108864 = 6 ∨ w / 67108864 = 7 ∨ w / 67108864 = 8 ∨ w / 67108864 = 9 ∨ w / 67108864 = 10 ∨ w / 67108864 = 11 ∨ w / 67108864 = 12 ∨ w / 67108864 = 13 ∨ w / 67108864 = 17 ∨ w / 67108864 = 18) : dK w = 0 := by unfold dK; rw [shape_abc h]; simp only [has_abc_a, has_abc_b, has_abc_c, has_abc_k, has_abc_u, has_abc_s, has_abc_o, zB, if_true, if_false, Bool.or_self, Bool.or_false, Bool.false_or, Bool.or_true, Bool.true_or, Bool.false_eq_true, reduceIte]
theorem dA_abc {w : Int} (h : w / 67108864 = 4 ∨ w / 67108864 = 5 ∨ w / 67108864 = 6 ∨ w / 67108864 = 7 ∨ w / 67108864 = 8 ∨ w / 67108864 = 9 ∨ w / 67108864 = 10 ∨ w / 67108864 = 11 ∨ w / 67108864 = 12 ∨ w / 67108864 = 13 ∨ w / 67108864 = 17 ∨ w / 67108864 = 18) : dA w = w / 4194304 % 16 := by unfold dA; rw [shape_abc h]; simp only [has_abc_a, has_abc_b, has_abc_c, has_abc_k, has_abc_u, has_abc_s, has_abc_o, zB, if_true, if_false, Bool.or_self, Bool.or_false, Bool.false_or, Bool.or_true, Bool.true_or, Bool.false_eq_true, reduceIte]
theorem dB_abc {w : Int} (h : w / 67108864 = 4 ∨ w / 67108864 = 5 ∨ w / 67108864 = 6 ∨ w / 67108864 = 7 ∨ w / 67108864 = 8 ∨ w / 67108864 = 9 ∨ w / 67108864 = 10 ∨ w / 67108864 = 11 ∨ w / 67108864 = 12 ∨ w / 67108864 = 13 ∨ w / 67108864 = 17 ∨ w / 67108864 = 18) : dB w = w / 262144 % 16 := by unfold dB; rw [shape_abc h]; simp only [has_abc_a, has_abc_b, has_abc_c, has_abc_k, has_abc_u, has_abc_s, has_abc_o, zB, if_true, if_false, Bool.or_self, Bool.or_false, Bool.false_or, Bool.or_true, Bool.true_or, Bool.false_eq_true, reduceIte]
theorem dC_abc {w : Int} (h : w / 67108864 = 4 ∨ w / 67108864 = 5 ∨ w / 67108864 = 6 ∨ w / 67108864 = 7 ∨ w / 67108864 = 8 ∨ w / 67108864 = 9 ∨ w / 67108864 = 10 ∨ w / 67108864 = 11 ∨ w / 67108864 = 12 ∨ w / 67108864 = 13 ∨ w / 67108864 = 17 ∨ w / 67108864 = 18) : dC w = w / 16384 % 16 := by unfold dC; rw [shape_abc h]; simp only [has_abc_a, has_abc_b, has_abc_c, has_abc_k, has_abc_u, has_abc_s, has_abc_o, zB, if_true, if_false, Bool.or_self, Bool.or_false, Bool.false_or, Bool.or_true, Bool.true_or, Bool.false_eq_true, reduceIte]
theorem dI_abc {w : Int} (h : w / 67108864 = 4 ∨ w / 67108864 = 5 ∨ w / 67108864 = 6 ∨ w / 67108864 = 7 ∨ w / 67108864 = 8 ∨ w / 67108864 = 9 ∨ w / 67108864 = 10 ∨ w / 67108864 = 11 ∨ w / 67108864 = 12 ∨ w / 67108864 = 13 ∨ w / 67108864 = 17 ∨ w / 67108864 = 18) : dI w = 0 := by unfold dI; rw [shape_abc h]; simp only [has_abc_a, has_abc_b, has_abc_c, has_abc_k, has_abc_u, has_abc_s, has_abc_o, zB, if_true, if_false, Bool.or_self, Bool.or_false, Bool.false_or, Bool.or_true, Bool.true_or, Bool.false_eq_true, reduceIte]
theorem de_abc {op cond a b c imm : Int} (hg : op = 4 ∨ op = 5 ∨ op = 6 ∨ op = 7 ∨ op = 8 ∨ op = 9 ∨ op = 10 ∨ op = 11 ∨ op = 12 ∨ op = 13 ∨ op = 17 ∨ op = 18) (h : chkS op cond a b c imm = 0) : encS op cond a b c imm / 67108864 = op ∧ dK (encS op cond a b c imm) = cond ∧ dA (encS op cond a b c imm) = a ∧ dB (encS op cond a b c imm) = b ∧ dC (encS op cond a b c imm) = c ∧ dI (encS op cond a b c imm) = imm := by
  have hc := chk_abc hg h
  have e0 : encS op cond a b c imm / 67108864 = op := by unfold encS; omega
  have hg2 : encS op cond a b c imm / 67108864 = 4 ∨ encS op cond a b c imm / 67108864 = 5 ∨ encS op cond a b c imm / 67108864 = 6 ∨ encS op cond a b c imm / 67108864 = 7 ∨ encS op cond a b c imm / 67108864 = 8 ∨ encS op cond a b c imm / 67108864 = 9 ∨ encS op cond a b c imm / 67108864 = 10 ∨ encS op cond a b c imm / 67108864 = 11 ∨ encS op cond a b c imm / 67108864 = 12 ∨ encS op cond a b c imm / 67108864 = 13 ∨ encS op cond a b c imm / 67108864 = 17 ∨ encS op cond a b c imm / 67108864 = 18 := by rw [e0]; exact hg
  refine ⟨e0, ?_, ?_, ?_, ?_, ?_⟩
  · rw [dK_abc hg2]; (try unfold encS); omega
  · rw [dA_abc hg2]; (try unfold encS); omega
  · rw [dB_abc hg2]; (try unfold encS); omega
  · rw [dC_abc hg2]; (try unfold encS); omega
  · rw [dI_abc hg2]; (try unfold encS); omega
theorem chk_abs {op cond a b c imm : Int} (hg : op = 14 ∨ op = 15 ∨ op = 16) (h : chkS op cond a b c imm = 0) : (0 ≤ a ∧ a ≤ 14) ∧ (0 ≤ b ∧ b ≤ 14) ∧ c = 0 ∧ cond = 0 ∧ (-32768 ≤ imm ∧ imm ≤ 32767) := by
  unfold chkS okI immS at h
  rw [shape_abs hg] at h
  simp only [has_abs_a, has_abs_b, has_abs_c, has_abs_k, has_abs_u, has_abs_s, has_abs_o, ne_abs, withinS, Bool.and_eq_true, decide_eq_true_eq, if_true, if_false, Bool.or_self, Bool.or_false, Bool.false_or, Bool.or_true, Bool.true_or, Bool.false_eq_true, reduceIte] at h
  split at h <;> omega
theorem dK_abs {w : Int} (h : w / 67108864 = 14 ∨ w / 67108864 = 15 ∨ w / 67108864 = 16) : dK w = 0 := by unfold dK; rw [shape_abs h]; simp only [has_abs_a, has_abs_b, has_abs_c, has_abs_k, has_abs_u, has_abs_s, has_abs_o, zB, if_true, if_false, Bool.or_self, Bool.or_false, Bool.false_or, Bool.or_true, Bool.true_or, Bool.false_eq_true, reduceIte]
theorem dA_abs {w : Int} (h : w / 67108864 = 14 ∨ w / 67108864 = 15 ∨ w / 67108864 = 16) : dA w = w / 4194304 % 16 := by unfold dA; rw [shape_abs h]; simp only [has_abs_a, has_abs_b, has_abs_c, has_abs_k, has_abs_u, has_abs_s, has_abs_o, zB, if_true, if_false, Bool.or_self, Bool.or_false, Bool.false_or, Bool.or_true, Bool.true_or, Bool.false_eq_true, reduceIte]
theorem dB_abs {w : Int} (h : w / 67108864 = 14 ∨ w / 67108864 = 15 ∨ w / 67108864 = 16) : dB w = w / 262144 % 16 := by unfold dB; rw [shape_abs h]; simp only [has_abs_a, has_abs_b, has_abs_c, has_abs_k, has_abs_u, has_abs_s, has_abs_o, zB, if_true, if_false, Bool.or_self, Bool.or_false, Bool.false_or, Bool.or_true, Bool.true_or, Bool.false_eq_true, reduceIte]
theorem dC_abs {w : Int} (h : w / 67108864 = 14 ∨ w / 67108864 = 15 ∨ w / 67108864 = 16) : dC w = 0 := by unfold dC; rw [shape_abs h]; simp only [has_abs_a, has_abs_b, has_abs_c, has_abs_k, has_abs_u, has_abs_s, has_abs_o, zB, if_true, if_false, Bool.or_self, Bool.or_false, Bool.false_or, Bool.or_true, Bool.true_or, Bool.false_eq_true, reduceIte]
theorem dI_abs {w : Int} (h : w / 67108864 = 14 ∨ w / 67108864 = 15 ∨ w / 67108864 = 16) : dI w = extS w := by unfold dI; rw [shape_abs h]; simp only [has_abs_a, has_abs_b, has_abs_c, has_abs_k, has_abs_u, has_abs_s, has_abs_o, zB, if_true, if_false, Bool.or_self, Bool.or_false, Bool.false_or, Bool.or_true, Bool.true_or, Bool.false_eq_true, reduceIte]
theorem de_abs {op cond a b c imm : Int} (hg : op = 14 ∨ op = 15 ∨ op = 16) (h : chkS op cond a b c imm = 0) : encS op cond a b c imm / 67108864 = op ∧ dK (encS op cond a b c imm) = cond ∧ dA (encS op cond a b c imm) = a ∧ dB (encS op cond a b c imm) = b ∧ dC (encS op cond a b c imm) = c ∧ dI (encS op cond a b c imm) = imm := by
  have hc := chk_abs hg h
  have e0 : encS op cond a b c imm / 67108864 = op := by unfold encS; omega
  have hg2 : encS op cond a b c imm / 67108864 = 14 ∨ encS op cond a b c imm / 67108864 = 15 ∨ encS op cond a b c imm / 67108864 = 16 := by rw [e0]; exact hg
  refine ⟨e0, ?_, ?_, ?_, ?_, ?_⟩
  · rw [dK_abs hg2]; (try unfold encS); omega
  · rw [dA_abs hg2]; (try unfold encS); omega
  · rw [dB_abs hg2]; (try unfold encS); omega
  · rw [dC_abs hg2]; (try unfold encS); omega
  · rw [dI_abs hg2]; (try unfold encS); unfold extS; split <;> omega
theorem chk_as {op cond a b c imm : Int} (hg : op = 20) (h : chkS op cond a b c imm = 0) : (0 ≤ a ∧ a ≤ 14) ∧ b = 0 ∧ c = 0 ∧ cond = 0 ∧ (-32768 ≤ imm ∧ imm ≤ 32767) := by
  unfold chkS okI immS at h
  rw [shape_as hg] at h
  simp only [has_as_a, has_as_b, has_as_c, has_as_k, has_as_u, has_as_s, has_as_o, ne_as, withinS, Bool.and_eq_true, decide_eq_true_eq, if_true, if_false, Bool.or_self, Bool.or_false, Bool.false_or, Bool.or_true, Bool.true_or, Bool.false_eq_true, reduceIte] at h
  split at h <;> omega
theorem dK_as {w : Int} (h : w / 67108864 = 20) : dK w = 0 := by unfold dK; rw [shape_as h]; simp only [has_as_a, has_as_b, has_as_c, has_as_k, has_as_u, has_as_s, has_as_o, zB, if_true, if_false, Bool.or_self, Bool.or_false, Bool.false_or, Bool.or_true, Bool.true_or, Bool.false_eq_true, reduceIte]
theorem dA_as {w : Int} (h : w / 67108864 = 20) : dA w = w / 4194304 % 16 := by unfold dA; rw [shape_as h]; simp only [has_as_a, has_as_b, has_as_c, has_as_k, has_as_u, has_as_s, has_as_o, zB, if_true, if_false, Bool.or_self, Bool.or_false, Bool.false_or, Bool.or_true, Bool.true_or, Bool.false_eq_true, reduceIte]
theorem dB_as {w : Int} (h : w / 67108864 = 20) : dB w = 0 := by unfold dB; rw [shape_as h]; simp only [has_as_a, has_as_b, has_as_c, has_as_k, has_as_u, has_as_s, has_as_o, zB, if_true, if_false, Bool.or_self, Bool.or_false, Bool.false_or, Bool.or_true, Bool.true_or, Bool.false_eq_true, reduceIte]
theorem dC_as {w : Int} (h : w / 67108864 = 20) : dC w = 0 := by unfold dC; rw [shape_as h]; simp only [has_as_a, has_as_b, has_as_c, has_as_k, has_as_u, has_as_s, has_as_o, zB, if_true, if_false, Bool.or_self, Bool.or_false, Bool.false_or, Bool.or_true, Bool.true_or, Bool.false_eq_true, reduceIte]
theorem dI_as {w : Int} (h : w / 67108864 = 20) : dI w = extS w := by unfold dI; rw [shape_as h]; simp only [has_as_a, has_as_b, has_as_c, has_as_k, has_as_u, has_as_s, has_as_o, zB, if_true, if_false, Bool.or_self, Bool.or_false, Bool.false_or, Bool.or_true, Bool.true_or, Bool.false_eq_true, reduceIte]
theorem de_as {op cond a b c imm : Int} (hg : op = 20) (h : chkS op cond a b c imm = 0) : encS op cond a b c imm / 67108864 = op ∧ dK (encS op cond a b c imm) = cond ∧ dA (encS op cond a b c imm) = a ∧ dB (encS op cond a b c imm) = b ∧ dC (encS op cond a b c imm) = c ∧ dI (encS op cond a b c imm) = imm := by
  have hc := chk_as hg h
  have e0 : encS op cond a b c imm / 67108864 = op := by unfold encS; omega
  have hg2 : encS op cond a b c imm / 67108864 = 20 := by rw [e0]; exact hg
  refine ⟨e0, ?_, ?_, ?_, ?_, ?_⟩
  · rw [dK_as hg2]; (try unfold encS); omega
  · rw [dA_as hg2]; (try unfold encS); omega
  · rw [dB_as hg2]; (try unfold encS); omega
  · rw [dC_as hg2]; (try unfold encS); omega
  · rw [dI_as hg2]; (try unfold encS); unfold extS; split <;> omega
theorem chk_ko {op cond a b c imm : Int} (hg : op = 21) (h : chkS op cond a b c imm = 0) : a = 0 ∧ b = 0 ∧ c = 0 ∧ (0 ≤ cond ∧ cond ≤ 6) ∧ (-32768 ≤ imm ∧ imm ≤ 32767) := by
  unfold chkS okI immS at h
  rw [shape_ko hg] at h
  simp only [has_ko_a, has_ko_b, has_ko_c, has_ko_k, has_ko_u, has_ko_s, has_ko_o, ne_ko, withinS, Bool.and_eq_true, decide_eq_true_eq, if_true, if_false, Bool.or_self, Bool.or_false, Bool.false_or, Bool.or_true, Bool.true_or, Bool.false_eq_true, reduceIte] at h
  split at h <;> omega
theorem dK_ko {w : Int} (h : w / 67108864 = 21) : dK w = w / 4194304 % 8 := by unfold dK; rw [shape_ko h]; simp only [has_ko_a, has_ko_b, has_ko_c, has_ko_k, has_ko_u, has_ko_s, has_ko_o, zB, if_true, if_false, Bool.or_self, Bool.or_false, Bool.false_or, Bool.or_true, Bool.true_or, Bool.false_eq_true, reduceIte]
theorem dA_ko {w : Int} (h : w / 67108864 = 21) : dA w = 0 := by unfold dA; rw [shape_ko h]; simp only [has_ko_a, has_ko_b, has_ko_c, has_ko_k, has_ko_u, has_ko_s, has_ko_o, zB, if_true, if_false, Bool.or_self, Bool.or_false, Bool.false_or, Bool.or_true, Bool.true_or, Bool.false_eq_true, reduceIte]
theorem dB_ko {w : Int} (h : w / 67108864 = 21) : dB w = 0 := by unfold dB; rw [shape_ko h]; simp only [has_ko_a, has_ko_b, has_ko_c, has_ko_k, has_ko_u, has_ko_s, has_ko_o, zB, if_true, if_false, Bool.or_self, Bool.or_false, Bool.false_or, Bool.or_true, Bool.true_or, Bool.false_eq_true, reduceIte]
theorem dC_ko {w : Int} (h : w / 67108864 = 21) : dC w = 0 := by unfold dC; rw [shape_ko h]; simp only [has_ko_a, has_ko_b, has_ko_c, has_ko_k, has_ko_u, has_ko_s, has_ko_o, zB, if_true, if_false, Bool.or_self, Bool.or_false, Bool.false_or, Bool.or_true, Bool.true_or, Bool.false_eq_true, reduceIte]
theorem dI_ko {w : Int} (h : w / 67108864 = 21) : dI w = extS w := by unfold dI; rw [shape_ko h]; simp only [has_ko_a, has_ko_b, has_ko_c, has_ko_k, has_ko_u, has_ko_s, has_ko_o, zB, if_true, if_false, Bool.or_self, Bool.or_false, Bool.false_or, Bool.or_true, Bool.true_or, Bool.false_eq_true, reduceIte]
theorem de_ko {op cond a b c imm : Int} (hg : op = 21) (h : chkS op cond a b c imm = 0) : encS op cond a b c imm / 67108864 = op ∧ dK (encS op cond a b c imm) = cond ∧ dA (encS op cond a b c imm) = a ∧ dB (encS op cond a b c imm) = b ∧ dC (encS op cond a b c imm) = c ∧ dI (encS op cond a b c imm) = imm := by
  have hc := chk_ko hg h
  have e0 : encS op cond a b c imm / 67108864 = op := by unfold encS; omega
  have hg2 : encS op cond a b c imm / 67108864 = 21 := by rw [e0]; exact hg
  refine ⟨e0, ?_, ?_, ?_, ?_, ?_⟩
  · rw [dK_ko hg2]; (try unfold encS); omega
  · rw [dA_ko hg2]; (try unfold encS); omega
  · rw [dB_ko hg2]; (try unfold encS); omega
  · rw [dC_ko hg2]; (try unfold encS); omega
  · rw [dI_ko hg2]; (try unfold encS); unfold extS; split <;> omega
theorem chk_o {op cond a b c imm : Int} (hg : op = 22) (h : chkS op cond a b c imm = 0) : a = 0 ∧ b = 0 ∧ c = 0 ∧ cond = 0 ∧ (-32768 ≤ imm ∧ imm ≤ 32767) := by
  unfold chkS okI immS at h
  rw [shape_o hg] at h
  simp only [has_o_a, has_o_b, has_o_c, has_o_k, has_o_u, has_o_s, has_o_o, ne_o, withinS, Bool.and_eq_true, decide_eq_true_eq, if_true, if_false, Bool.or_self, Bool.or_false, Bool.false_or, Bool.or_true, Bool.true_or, Bool.false_eq_true, reduceIte] at h
  split at h <;> omega
theorem dK_o {w : Int} (h : w / 67108864 = 22) : dK w = 0 := by unfold dK; rw [shape_o h]; simp only [has_o_a, has_o_b, has_o_c, has_o_k, has_o_u, has_o_s, has_o_o, zB, if_true, if_false, Bool.or_self, Bool.or_false, Bool.false_or, Bool.or_true, Bool.true_or, Bool.false_eq_true, reduceIte]
theorem dA_o {w : Int} (h : w / 67108864 = 22) : dA w = 0 := by unfold dA; rw [shape_o h]; simp only [has_o_a, has_o_b, has_o_c, has_o_k, has_o_u, has_o_s, has_o_o, zB, if_true, if_false, Bool.or_self, Bool.or_false, Bool.false_or, Bool.or_true, Bool.true_or, Bool.false_eq_true, reduceIte]
theorem dB_o {w : Int} (h : w / 67108864 = 22) : dB w = 0 := by unfold dB; rw [shape_o h]; simp only [has_o_a, has_o_b, has_o_c, has_o_k, has_o_u, has_o_s, has_o_o, zB, if_true, if_false, Bool.or_self, Bool.or_false, Bool.false_or, Bool.or_true, Bool.true_or, Bool.false_eq_true, reduceIte]
theorem dC_o {w : Int} (h : w / 67108864 = 22) : dC w = 0 := by unfold dC; rw [shape_o h]; simp only [has_o_a, has_o_b, has_o_c, has_o_k, has_o_u, has_o_s, has_o_o, zB, if_true, if_false, Bool.or_self, Bool.or_false, Bool.false_or, Bool.or_true, Bool.true_or, Bool.false_eq_true, reduceIte]
theorem dI_o {w : Int} (h : w / 67108864 = 22) : dI w = extS w := by unfold dI; rw [shape_o h]; simp only [has_o_a, has_o_b, has_o_c, has_o_k, has_o_u, has_o_s, has_o_o, zB, if_true, if_false, Bool.or_self, Bool.or_false, Bool.false_or, Bool.or_true, Bool.true_or, Bool.false_eq_true, reduceIte]
theorem de_o {op cond a b c imm : Int} (hg : op = 22) (h : chkS op cond a b c imm = 0) : encS op cond a b c imm / 67108864 = op ∧ dK (encS op cond a b c imm) = cond ∧ dA (encS op cond a b c imm) = a ∧ dB (encS op cond a b c imm) = b ∧ dC (encS op cond a b c imm) = c ∧ dI (encS op cond a b c imm) = imm := by
  have hc := chk_o hg h
  have e0 : encS op cond a b c imm / 67108864 = op := by unfold encS; omega
  have hg2 : encS op cond a b c imm / 67108864 = 22 := by rw [e0]; exact hg
  refine ⟨e0, ?_, ?_, ?_, ?_, ?_⟩
  · rw [dK_o hg2]; (try unfold encS); omega
  · rw [dA_o hg2]; (try unfold encS); omega
  · rw [dB_o hg2]; (try unfold encS); omega
  · rw [dC_o hg2]; (try unfold encS); omega
  · rw [dI_o hg2]; (try unfold encS); unfold extS; split <;> omega
theorem chk_a {op cond a b c imm : Int} (hg : op = 23) (h : chkS op cond a b c imm = 0) : (0 ≤ a ∧ a ≤ 14) ∧ b = 0 ∧ c = 0 ∧ cond = 0 ∧ imm = 0 := by
  unfold chkS okI immS at h
  rw [shape_a hg] at h
  simp only [has_a_a, has_a_b, has_a_c, has_a_k, has_a_u, has_a_s, has_a_o, ne_a, withinS, Bool.and_eq_true, decide_eq_true_eq, if_true, if_false, Bool.or_self, Bool.or_false, Bool.false_or, Bool.or_true, Bool.true_or, Bool.false_eq_true, reduceIte] at h
  split at h <;> omega
theorem dK_a {w : Int} (h : w / 67108864 = 23) : dK w = 0 := by unfold dK; rw [shape_a h]; simp only [has_a_a, has_a_b, has_a_c, has_a_k, has_a_u, has_a_s, has_a_o, zB, if_true, if_false, Bool.or_self, Bool.or_false, Bool.false_or, Bool.or_true, Bool.true_or, Bool.false_eq_true, reduceIte]
theorem dA_a {w : Int} (h : w / 67108864 = 23) : dA w = w / 4194304 % 16 := by unfold dA; rw [shape_a h]; simp only [has_a_a, has_a_b, has_a_c, has_a_k, has_a_u, has_a_s, has_a_o, zB, if_true, if_false, Bool.or_self, Bool.or_false, Bool.false_or, Bool.or_true, Bool.true_or, Bool.false_eq_true, reduceIte]
theorem dB_a {w : Int} (h : w / 67108864 = 23) : dB w = 0 := by unfold dB; rw [shape_a h]; simp only [has_a_a, has_a_b, has_a_c, has_a_k, has_a_u, has_a_s, has_a_o, zB, if_true, if_false, Bool.or_self, Bool.or_false, Bool.false_or, Bool.or_true, Bool.true_or, Bool.false_eq_true, reduceIte]
theorem dC_a {w : Int} (h : w / 67108864 = 23) : dC w = 0 := by unfold dC; rw [shape_a h]; simp only [has_a_a, has_a_b, has_a_c, has_a_k, has_a_u, has_a_s, has_a_o, zB, if_true, if_false, Bool.or_self, Bool.or_false, Bool.false_or, Bool.or_true, Bool.true_or, Bool.false_eq_true, reduceIte]
theorem dI_a {w : Int} (h : w / 67108864 = 23) : dI w = 0 := by unfold dI; rw [shape_a h]; simp only [has_a_a, has_a_b, has_a_c, has_a_k, has_a_u, has_a_s, has_a_o, zB, if_true, if_false, Bool.or_self, Bool.or_false, Bool.false_or, Bool.or_true, Bool.true_or, Bool.false_eq_true, reduceIte]
theorem de_a {op cond a b c imm : Int} (hg : op = 23) (h : chkS op cond a b c imm = 0) : encS op cond a b c imm / 67108864 = op ∧ dK (encS op cond a b c imm) = cond ∧ dA (encS op cond a b c imm) = a ∧ dB (encS op cond a b c imm) = b ∧ dC (encS op cond a b c imm) = c ∧ dI (encS op cond a b c imm) = imm := by
  have hc := chk_a hg h
  have e0 : encS op cond a b c imm / 67108864 = op := by unfold encS; omega
  have hg2 : encS op cond a b c imm / 67108864 = 23 := by rw [e0]; exact hg
  refine ⟨e0, ?_, ?_, ?_, ?_, ?_⟩
  · rw [dK_a hg2]; (try unfold encS); omega
  · rw [dA_a hg2]; (try unfold encS); omega
  · rw [dB_a hg2]; (try unfold encS); omega
  · rw [dC_a hg2]; (try unfold encS); omega
  · rw [dI_a hg2]; (try unfold encS); omega
theorem chk_u {op cond a b c imm : Int} (hg : op = 24) (h : chkS op cond a b c imm = 0) : a = 0 ∧ b = 0 ∧ c = 0 ∧ cond = 0 ∧ (0 ≤ imm ∧ imm ≤ 65535) := by
  unfold chkS okI immS at h
  rw [shape_u hg] at h
  simp only [has_u_a, has_u_b, has_u_c, has_u_k, has_u_u, has_u_s, has_u_o, ne_u, withinS, Bool.and_eq_true, decide_eq_true_eq, if_true, if_false, Bool.or_self, Bool.or_false, Bool.false_or, Bool.or_true, Bool.true_or, Bool.false_eq_true, reduceIte] at h
  split at h <;> omega
theorem dK_u {w : Int} (h : w / 67108864 = 24) : dK w = 0 := by unfold dK; rw [shape_u h]; simp only [has_u_a, has_u_b, has_u_c, has_u_k, has_u_u, has_u_s, has_u_o, zB, if_true, if_false, Bool.or_self, Bool.or_false, Bool.false_or, Bool.or_true, Bool.true_or, Bool.false_eq_true, reduceIte]
theorem dA_u {w : Int} (h : w / 67108864 = 24) : dA w = 0 := by unfold dA; rw [shape_u h]; simp only [has_u_a, has_u_b, has_u_c, has_u_k, has_u_u, has_u_s, has_u_o, zB, if_true, if_false, Bool.or_self, Bool.or_false, Bool.false_or, Bool.or_true, Bool.true_or, Bool.false_eq_true, reduceIte]
theorem dB_u {w : Int} (h : w / 67108864 = 24) : dB w = 0 := by unfold dB; rw [shape_u h]; simp only [has_u_a, has_u_b, has_u_c, has_u_k, has_u_u, has_u_s, has_u_o, zB, if_true, if_false, Bool.or_self, Bool.or_false, Bool.false_or, Bool.or_true, Bool.true_or, Bool.false_eq_true, reduceIte]
theorem dC_u {w : Int} (h : w / 67108864 = 24) : dC w = 0 := by unfold dC; rw [shape_u h]; simp only [has_u_a, has_u_b, has_u_c, has_u_k, has_u_u, has_u_s, has_u_o, zB, if_true, if_false, Bool.or_self, Bool.or_false, Bool.false_or, Bool.or_true, Bool.true_or, Bool.false_eq_true, reduceIte]
theorem dI_u {w : Int} (h : w / 67108864 = 24) : dI w = w % 65536 := by unfold dI; rw [shape_u h]; simp only [has_u_a, has_u_b, has_u_c, has_u_k, has_u_u, has_u_s, has_u_o, zB, if_true, if_false, Bool.or_self, Bool.or_false, Bool.false_or, Bool.or_true, Bool.true_or, Bool.false_eq_true, reduceIte]
theorem de_u {op cond a b c imm : Int} (hg : op = 24) (h : chkS op cond a b c imm = 0) : encS op cond a b c imm / 67108864 = op ∧ dK (encS op cond a b c imm) = cond ∧ dA (encS op cond a b c imm) = a ∧ dB (encS op cond a b c imm) = b ∧ dC (encS op cond a b c imm) = c ∧ dI (encS op cond a b c imm) = imm := by
  have hc := chk_u hg h
  have e0 : encS op cond a b c imm / 67108864 = op := by unfold encS; omega
  have hg2 : encS op cond a b c imm / 67108864 = 24 := by rw [e0]; exact hg
  refine ⟨e0, ?_, ?_, ?_, ?_, ?_⟩
  · rw [dK_u hg2]; (try unfold encS); omega
  · rw [dA_u hg2]; (try unfold encS); omega
  · rw [dB_u hg2]; (try unfold encS); omega
  · rw [dC_u hg2]; (try unfold encS); omega
  · rw [dI_u hg2]; (try unfold encS); omega
theorem dec_enc {op cond a b c imm : Int} (h : chkS op cond a b c imm = 0) : encS op cond a b c imm / 67108864 = op ∧ dK (encS op cond a b c imm) = cond ∧ dA (encS op cond a b c imm) = a ∧ dB (encS op cond a b c imm) = b ∧ dC (encS op cond a b c imm) = c ∧ dI (encS op cond a b c imm) = imm := by
  by_cases hg : 1 ≤ op ∧ op < 25
  ·
    rcases grp_of hg with hg | hg | hg | hg | hg | hg | hg | hg | hg
    · exact de_au hg h
    · exact de_ab hg h
    · exact de_abc hg h
    · exact de_abs hg h
    · exact de_as hg h
    · exact de_ko hg h
    · exact de_o hg h
    · exact de_a hg h
    · exact de_u hg h
  · unfold chkS at h; rw [shape_none hg, eq_none] at h; simp at h
theorem enc_ok {op cond a b c imm : Int} (h : chkS op cond a b c imm = 0) : okW (encS op cond a b c imm) = true := by
  obtain ⟨e1, e2, e3, e4, e5, e6⟩ := dec_enc h
  unfold okW
  rw [e1, e2, e3, e4, e5, e6, h]
  simp
theorem enc_in {op cond a b c imm : Int} (h : chkS op cond a b c imm = 0) : InK .u32 (encS op cond a b c imm) := by
  have := chk_ok h
  simp only [InK]
  unfold encS
  omega
theorem chk_is (op cond a b c imm : Int) : chkS op cond a b c imm = 0 ∨ chkS op cond a b c imm = 50 ∨ chkS op cond a b c imm = 51 := by
  unfold chkS
  repeat' split
  all_goals omega
theorem okW_parts {w : Int} (h : okW w = true) : chkS (w / 67108864) (dK w) (dA w) (dB w) (dC w) (dI w) = 0 ∧ encS (w / 67108864) (dK w) (dA w) (dB w) (dC w) (dI w) = w := by
  unfold okW at h
  simpa using h
theorem ok_au {w : Int} (hw : InK .u32 w) (hg : w / 67108864 = 1 ∨ w / 67108864 = 2) (h : okW w = true) : (w / 4194304 % 16 ≤ 14 ∧ True) ∧ w = w / 67108864 * 67108864 + w / 4194304 % 16 * 4194304 + 0 * 4194304 + 0 * 262144 + 0 * 16384 + w % 65536 := by
  simp only [InK] at hw
  obtain ⟨h1, h2⟩ := okW_parts h
  have h3 := chk_au hg h1
  rw [dK_au hg, dA_au hg, dB_au hg, dC_au hg, dI_au hg] at h2 h3
  unfold encS at h2
  rw [show w % 65536 % 65536 = w % 65536 by omega] at h2
  refine ⟨?_, h2.symm⟩
  (repeat' apply And.intro) <;> first | trivial | omega
theorem ok_ab {w : Int} (hw : InK .u32 w) (hg : w / 67108864 = 3 ∨ w / 67108864 = 19) (h : okW w = true) : (w / 4194304 % 16 ≤ 14 ∧ w / 262144 % 16 ≤ 14 ∧ True) ∧ w = w / 67108864 * 67108864 + w / 4194304 % 16 * 4194304 + 0 * 4194304 + w / 262144 % 16 * 262144 + 0 * 16384 + 0 := by
  simp only [InK] at hw
  obtain ⟨h1, h2⟩ := okW_parts h
  have h3 := chk_ab hg h1
  rw [dK_ab hg, dA_ab hg, dB_ab hg, dC_ab hg, dI_ab hg] at h2 h3
  unfold encS at h2
  rw [show (0 : Int) % 65536 = 0 from rfl] at h2
  refine ⟨?_, h2.symm⟩
  (repeat' apply And.intro) <;> first | trivial | omega
theorem ok_abc {w : Int} (hw : InK .u32 w) (hg : w / 67108864 = 4 ∨ w / 67108864 = 5 ∨ w / 67108864 = 6 ∨ w / 67108864 = 7 ∨ w / 67108864 = 8 ∨ w / 67108864 = 9 ∨ w / 67108864 = 10 ∨ w / 67108864 = 11 ∨ w / 67108864 = 12 ∨ w / 67108864 = 13 ∨ w / 67108864 = 17 ∨ w / 67108864 = 18) (h : okW w = true) : (w / 4194304 % 16 ≤ 14 ∧ w / 262144 % 16 ≤ 14 ∧ w / 16384 % 16 ≤ 14 ∧ True) ∧ w = w / 67108864 * 67108864 + w / 4194304 % 16 * 4194304 + 0 * 4194304 + w / 262144 % 16 * 262144 + w / 16384 % 16 * 16384 + 0 := by
  simp only [InK] at hw
  obtain ⟨h1, h2⟩ := okW_parts h
  have h3 := chk_abc hg h1
  rw [dK_abc hg, dA_abc hg, dB_abc hg, dC_abc hg, dI_abc hg] at h2 h3
  unfold encS at h2
  rw [show (0 : Int) % 65536 = 0 from rfl] at h2
  refine ⟨?_, h2.symm⟩
  (repeat' apply And.intro) <;> first | trivial | omega
theorem ok_abs {w : Int} (hw : InK .u32 w) (hg : w / 67108864 = 14 ∨ w / 67108864 = 15 ∨ w / 67108864 = 16) (h : okW w = true) : (w / 4194304 % 16 ≤ 14 ∧ w / 262144 % 16 ≤ 14 ∧ True) ∧ w = w / 67108864 * 67108864 + w / 4194304 % 16 * 4194304 + 0 * 4194304 + w / 262144 % 16 * 262144 + 0 * 16384 + w % 65536 := by
  simp only [InK] at hw
  obtain ⟨h1, h2⟩ := okW_parts h
  have h3 := chk_abs hg h1
  rw [dK_abs hg, dA_abs hg, dB_abs hg, dC_abs hg, dI_abs hg] at h2 h3
  unfold encS at h2
  rw [show extS w % 65536 = w % 65536 by unfold extS; split <;> omega] at h2
  refine ⟨?_, h2.symm⟩
  (repeat' apply And.intro) <;> first | trivial | omega
theorem ok_as {w : Int} (hw : InK .u32 w) (hg : w / 67108864 = 20) (h : okW w = true) : (w / 4194304 % 16 ≤ 14 ∧ True) ∧ w = w / 67108864 * 67108864 + w / 4194304 % 16 * 4194304 + 0 * 4194304 + 0 * 262144 + 0 * 16384 + w % 65536 := by
  simp only [InK] at hw
  obtain ⟨h1, h2⟩ := okW_parts h
  have h3 := chk_as hg h1
  rw [dK_as hg, dA_as hg, dB_as hg, dC_as hg, dI_as hg] at h2 h3
  unfold encS at h2
  rw [show extS w % 65536 = w % 65536 by unfold extS; split <;> omega] at h2
  refine ⟨?_, h2.symm⟩
  (repeat' apply And.intro) <;> first | trivial | omega
theorem ok_ko {w : Int} (hw : InK .u32 w) (hg : w / 67108864 = 21) (h : okW w = true) : (w / 4194304 % 8 ≤ 6 ∧ True) ∧ w = w / 67108864 * 67108864 + 0 * 4194304 + w / 4194304 % 8 * 4194304 + 0 * 262144 + 0 * 16384 + w % 65536 := by
  simp only [InK] at hw
  obtain ⟨h1, h2⟩ := okW_parts h
  have h3 := chk_ko hg h1
  rw [dK_ko hg, dA_ko hg, dB_ko hg, dC_ko hg, dI_ko hg] at h2 h3
  unfold encS at h2
  rw [show extS w % 65536 = w % 65536 by unfold extS; split <;> omega] at h2
  refine ⟨?_, h2.symm⟩
  (repeat' apply And.intro) <;> first | trivial | omega
theorem ok_o {w : Int} (hw : InK .u32 w) (hg : w / 67108864 = 22) (h : okW w = true) : (True) ∧ w = w / 67108864 * 67108864 + 0 * 4194304 + 0 * 4194304 + 0 * 262144 + 0 * 16384 + w % 65536 := by
  simp only [InK] at hw
  obtain ⟨h1, h2⟩ := okW_parts h
  have h3 := chk_o hg h1
  rw [dK_o hg, dA_o hg, dB_o hg, dC_o hg, dI_o hg] at h2 h3
  unfold encS at h2
  rw [show extS w % 65536 = w % 65536 by unfold extS; split <;> omega] at h2
  refine ⟨?_, h2.symm⟩
  (repeat' apply And.intro) <;> first | trivial | omega
theorem ok_a {w : Int} (hw : InK .u32 w) (hg : w / 67108864 = 23) (h : okW w = true) : (w / 4194304 % 16 ≤ 14 ∧ True) ∧ w = w / 67108864 * 67108864 + w / 4194304 % 16 * 4194304 + 0 * 4194304 + 0 * 262144 + 0 * 16384 + 0 := by
  simp only [InK] at hw
  obtain ⟨h1, h2⟩ := okW_parts h
  have h3 := chk_a hg h1
  rw [dK_a hg, dA_a hg, dB_a hg, dC_a hg, dI_a hg] at h2 h3
  unfold encS at h2
  rw [show (0 : Int) % 65536 = 0 from rfl] at h2
  refine ⟨?_, h2.symm⟩
  (repeat' apply And.intro) <;> first | trivial | omega
theorem ok_u {w : Int} (hw : InK .u32 w) (hg : w / 67108864 = 24) (h : okW w = true) : (True) ∧ w = w / 67108864 * 67108864 + 0 * 4194304 + 0 * 4194304 + 0 * 262144 + 0 * 16384 + w % 65536 := by
  simp only [InK] at hw
  obtain ⟨h1, h2⟩ := okW_parts h
  have h3 := chk_u hg h1
  rw [dK_u hg, dA_u hg, dB_u hg, dC_u hg, dI_u hg] at h2 h3
  unfold encS at h2
  rw [show w % 65536 % 65536 = w % 65536 by omega] at h2
  refine ⟨?_, h2.symm⟩
  (repeat' apply And.intro) <;> first | trivial | omega
theorem zB_in {k : IntKind} {b : Bool} {n : Int} (h : InK k n) (h0 : InK k 0) : InK k (zB b n) := by cases b <;> simp [zB, h, h0]
theorem d_in {w : Int} (hw : InK .u32 w) : (0 ≤ w / 67108864 ∧ w / 67108864 < 64) ∧ (0 ≤ dK w ∧ dK w ≤ 15) ∧ (0 ≤ dA w ∧ dA w ≤ 15) ∧ (0 ≤ dB w ∧ dB w ≤ 15) ∧ (0 ≤ dC w ∧ dC w ≤ 15) ∧ (-32768 ≤ dI w ∧ dI w ≤ 65535) := by
  simp only [InK] at hw
  have xx := extS_in w
  unfold dK dA dB dC dI zB
  refine ⟨by omega, ?_, ?_, ?_, ?_, ?_⟩
  all_goals (repeat' split)
  all_goals omega
end Go.Proofs.YtijgngiocmnakaaDoor
