/- What a digest saves: plain facts. No condition beyond lengths. -/
import Derived.Test.YtieeahpokociiaaDoorShaN
namespace Go.Proofs.YtieeahpokociiaaDoor
open Go.RowKit Sx
set_option linter.unusedVariables false
set_option linter.unusedSimpArgs false
theorem norm8_save (st : List Int) (n : Int) (xs : List Int) : norm8 (saveS (norm8 st) n xs) = norm8 st := rfl
theorem addSt_save (st : List Int) (n : Int) (xs ys ms : List Int) : addSt (saveS (norm8 st) n xs) ys ms = addSt st ys ms := by unfold addSt; rw [norm8_save]
theorem save_8 (st : List Int) (n : Int) (xs : List Int) : (saveS (norm8 st) n xs).getD 8 0 = n / 4294967296 % 4294967296 := rfl
theorem save_9 (st : List Int) (n : Int) (xs : List Int) : (saveS (norm8 st) n xs).getD 9 0 = n % 4294967296 := rfl
theorem save_drop (st : List Int) (n : Int) (xs : List Int) : (saveS (norm8 st) n xs).drop 10 = xs ++ List.replicate (16 - xs.length) 0 := rfl
theorem save_take (st : List Int) (n : Int) (xs : List Int) : ((saveS (norm8 st) n xs).drop 10).take xs.length = xs := by rw [save_drop]; simp
theorem save_rest (st : List Int) (n : Int) (xs : List Int) : (saveS (norm8 st) n xs).drop (10 + xs.length) = List.replicate (16 - xs.length) 0 := by
  rw [← List.drop_drop, save_drop]; simp
theorem save_zero (st : List Int) (n : Int) (xs : List Int) (x : Nat) : (saveS (norm8 st) n xs).getD (10 + xs.length + x) 0 = 0 := by
  have h : (saveS (norm8 st) n xs).getD (10 + xs.length + x) 0 = ((saveS (norm8 st) n xs).drop (10 + xs.length)).getD x 0 := by
    simp [List.getD_eq_getElem?_getD, List.getElem?_drop]
  rw [h, save_rest, List.getD_eq_getElem?_getD, List.getElem?_replicate]
  split <;> rfl
theorem num_save (st : List Int) {n : Int} (xs : List Int) (h : 0 ≤ n ∧ n < 18446744073709551616) : numS (saveS (norm8 st) n xs) = n := by
  unfold numS; rw [save_8, save_9]; omega
theorem okLoad_save {st : List Int} {n : Int} {xs : List Int} (h : 0 ≤ n ∧ n ≤ 36028797018963968) (hx : (xs.length : Int) = n % 16) (h0 : n < 16 → norm8 st = IVL) : okLoad (saveS (norm8 st) n xs) = true := by
  have hl : (saveS (norm8 st) n xs).length = 26 := by simp [saveS, norm8]; omega
  have hn := num_save st xs (n := n) (by omega)
  have ht : (saveS (norm8 st) n xs).take 8 = norm8 st := rfl
  have hd : 10 + (n % 16).toNat = 10 + xs.length := by omega
  unfold okLoad
  rw [hl, hn, ht, hd, save_rest]
  simp
  refine ⟨h.2, ?_⟩
  by_cases hh : n < 16
  · exact .inr (h0 hh)
  · exact .inl (by omega)
theorem okLoad_nz {ws : List Int} {k : Nat} (hk : 10 + (numS ws % 16).toNat ≤ k) (hl : k < ws.length) (h : ws.getD k 0 ≠ 0) : okLoad ws = false := by
  have : (ws.drop (10 + (numS ws % 16).toNat)).all (· == 0) = false := by
    rw [Bool.eq_false_iff]
    intro ha
    rw [List.all_eq_true] at ha
    have hm : ws.getD k 0 ∈ ws.drop (10 + (numS ws % 16).toNat) := by
      rw [List.getD_eq_getElem?_getD, List.getElem?_eq_getElem hl]
      exact List.mem_iff_getElem?.2 ⟨k - (10 + (numS ws % 16).toNat), by rw [List.getElem?_drop, Nat.add_sub_cancel' hk, List.getElem?_eq_getElem hl]; rfl⟩
    exact h (by simpa using ha _ hm)
  unfold okLoad
  rw [this]
  simp
theorem okLoad_far {ws : List Int} (h : 36028797018963968 < numS ws) : okLoad ws = false := by
  have : decide (numS ws ≤ 36028797018963968) = false := decide_eq_false (by omega)
  unfold okLoad
  rw [this]; simp
theorem okLoad_len {ws : List Int} (h : ws.length ≠ 26) : okLoad ws = false := by
  have : (ws.length == 26) = false := by simpa using h
  unfold okLoad
  rw [this]; rfl
theorem addWs_nil (ws : List Int) : addWs [] ws = ws.drop (16 * (ws.length / 16)) := by simp [addWs]
theorem addSt_few {ws : List Int} (h : ws.length < 16) : norm8 (addSt IVL [] ws) = IVL := by
  have : ([] : List Int).length + ws.length = ws.length := by simp
  unfold addSt
  rw [this, Nat.div_eq_of_lt h]
  rfl
theorem stA_in {st : List Int} (h : ∀ i, InK .u32 (st.getD i 0)) (ws : List Int) : ∀ (k i : Nat), InK .u32 ((stA st ws k).getD i 0)
  | 0, i => h i
  | k + 1, i => by
    show InK .u32 ((sumL _ _).getD i 0)
    have hw : ∀ x : Int, 0 ≤ IntKind.u32.wrap x ∧ IntKind.u32.wrap x < 4294967296 := fun x => by rw [wmod32]; omega
    unfold sumL
    rcases i with _ | _ | _ | _ | _ | _ | _ | _ | i
    all_goals first | exact hw _ | (show InK .u32 0; simp [InK])
theorem IVL_in : ∀ i, InK .u32 ((norm8 IVL).getD i 0) := fun i => by
  rcases i with _ | _ | _ | _ | _ | _ | _ | _ | i
  all_goals first | (show InK .u32 0; simp [InK]; done) | (simp [norm8, IVL, InK]; done)
theorem addSt_in (xs ws : List Int) (i : Nat) : InK .u32 ((addSt IVL xs ws).getD i 0) := by unfold addSt; exact stA_in IVL_in _ _ _
theorem save_in {st xs : List Int} {n : Int} (h : ∀ i, InK .u32 (st.getD i 0)) (hx : ∀ x ∈ xs, InK .u32 x) : ∀ x ∈ saveS (norm8 st) n xs, 0 ≤ x ∧ x < 4294967296 := by
  intro x hm
  unfold saveS at hm
  simp only [List.mem_append] at hm
  rcases hm with ((hm | hm) | hm) | hm
  · simp only [norm8, List.mem_cons, List.not_mem_nil, or_false] at hm
    rcases hm with rfl | rfl | rfl | rfl | rfl | rfl | rfl | rfl <;> exact h _
  · simp only [List.mem_cons, List.not_mem_nil, or_false] at hm
    rcases hm with rfl | rfl <;> omega
  · exact hx x hm
  · rw [List.eq_of_mem_replicate hm]; omega
theorem num_set {ws : List Int} {k : Nat} {x : Int} (h : 10 ≤ k) : numS (ws.set k x) = numS ws := by
  unfold numS
  simp only [List.getD_eq_getElem?_getD]
  rw [List.getElem?_set_ne (by omega), List.getElem?_set_ne (by omega)]
theorem or1_pos (x : Int) : 0 ≤ bits .or .u32 x 1 ∧ bits .or .u32 x 1 < 4294967296 ∧ 1 ≤ bits .or .u32 x 1 := by
  have h : ∃ y : Int, bits .or .u32 x 1 = IntKind.u32.wrap y := ⟨_, rfl⟩
  have h2 : bits .or .u32 x 1 = ((BitVec.ofInt 32 x ||| BitVec.ofInt 32 1).toNat : Int) := by
    have := (BitVec.ofInt 32 x ||| BitVec.ofInt 32 1).isLt
    generalize hc : BitVec.ofInt 32 x ||| BitVec.ofInt 32 1 = c at *
    unfold bits
    show IntKind.u32.wrap ((BitVec.ofInt 32 x ||| BitVec.ofInt 32 1).toNat : Int) = _
    rw [hc, wmod32]
    omega
  have h3 := (BitVec.ofInt 32 x ||| BitVec.ofInt 32 1).isLt
  have h4 : 1 ≤ (BitVec.ofInt 32 x ||| BitVec.ofInt 32 1).toNat := by
    rw [BitVec.toNat_or]
    have : (BitVec.ofInt 32 1).toNat = 1 := rfl
    rw [this]
    exact Nat.right_le_or
  rw [h2]
  omega
end Go.Proofs.YtieeahpokociiaaDoor
