/- The law WalkBack gone through, by cases. No condition beyond the arguments' types. -/
import Derived.Test.YtmmejomalfjcnaaWkCodes
namespace Go.Proofs.Ytmmejomalfjcnaa
open Go.RowKit Sx
set_option linter.unusedVariables false
set_option linter.unusedSimpArgs false
set_option maxRecDepth 100000
set_option maxHeartbeats 1000000

noncomputable def pt_wb : List (Nat × (List SV → Option (List Prop × SV))) := [(32, c_Split), (33, c_RSplit), (36, c_Join), (37, c_RJoin), (38, c_First), (39, c_RFirst), (40, c_ParseFirst), (41, c_RParseFirst), (42, c_Second), (44, c_RSecond), (43, c_own), (35, c_known), (45, c_ParseSecond), (46, c_RParseSecond)]
theorem pt_wb_ok : PureOK Try.prog (fun f => List.lookup f pt_wb) := pure_list pt_wb ⟨c_Split_e, c_RSplit_e, c_Join_e, c_RJoin_e, c_First_e, c_RFirst_e, c_ParseFirst_e, c_RParseFirst_e, c_Second_e, c_RSecond_e, c_own_e, c_known_e, c_ParseSecond_e, c_RParseSecond_e, trivial⟩
noncomputable abbrev cx_wb (must : Nat → Option Bool := fun _ => none) (loop : Nat → Option LoopSpec := fun _ => none) : Ctx := ⟨tab, inl tab (fun f => List.lookup f pt_wb) fns (fun _ => {}) 1000 4, fun f => List.lookup f pt_wb, must, loop, 0, 0⟩
theorem cx_wb_ok (must : Nat → Option Bool) (loop : Nat → Option LoopSpec) : CxOK Try.prog (cx_wb must loop) := inl_ok mixed tab_ok pt_wb_ok fns_ok 4 _ _ _ _

theorem join_split {va : Int} (h0 : 0 ≤ va ∧ va < 4294967296) (h : va < 1073741824 ∧ va % 4 = 0) : joinS (va / 4194304) (va / 4096 % 1024) (va / 4 % 1024) = (va, 0) := by
  unfold joinS
  rw [if_pos (by omega)]
  simp; omega
theorem fl_bit (b : Bool) (n : Int) : fl b n = 0 ∨ fl b n = n := by cases b <;> simp [fl]
theorem psS_secS {se wr ex : Bool} {p : Int} (h1 : 0 ≤ p) (h2 : p < 64) (h3 : ¬ (se = false ∧ ex = true)) : secS se p wr ex = (p * 256 + 1 + fl se 2 + fl wr 4 + fl ex 8, 0) ∧ psS (p * 256 + 1 + fl se 2 + fl wr 4 + fl ex 8) = (se, p, wr, ex, 0) := by
  have e : secS se p wr ex = (p * 256 + 1 + fl se 2 + fl wr 4 + fl ex 8, 0) := by
    unfold secS; rw [if_neg (by omega), if_neg h3]
  refine ⟨e, ?_⟩
  have b1 : decide ((p * 256 + 1 + fl se 2 + fl wr 4 + fl ex 8) / 2 % 2 = 1) = se := by
    cases se <;> cases wr <;> cases ex <;> simp [fl] <;> omega
  have b2 : decide ((p * 256 + 1 + fl se 2 + fl wr 4 + fl ex 8) / 4 % 2 = 1) = wr := by
    cases se <;> cases wr <;> cases ex <;> simp [fl] <;> omega
  have b3 : decide ((p * 256 + 1 + fl se 2 + fl wr 4 + fl ex 8) / 8 % 2 = 1) = ex := by
    cases se <;> cases wr <;> cases ex <;> simp [fl] <;> omega
  have b4 : (p * 256 + 1 + fl se 2 + fl wr 4 + fl ex 8) / 256 = p := by
    cases se <;> cases wr <;> cases ex <;> simp [fl] <;> omega
  unfold psS
  rw [b1, b2, b3, b4, e, if_pos rfl, if_neg (by have := fl_bit se 2; have := fl_bit wr 4; have := fl_bit ex 8; omega)]
theorem secS_no {p : Int} (wr : Bool) (h1 : 0 ≤ p) (h2 : p < 64) : secS false p wr true = (0, 1) := by
  unfold secS; rw [if_neg (by omega), if_pos ⟨rfl, rfl⟩]
theorem psS_yes {x : Int} (h : (psS x).2.2.2.2 = 0) : ∃ se p wr ex, psS x = (se, p, wr, ex, 0) ∧ secS se p wr ex = (x, 0) ∧ ¬ (se = false ∧ ex = true) := by
  unfold psS at *
  split at h
  · simp at h
  · rename_i hx
    rw [if_neg hx]
    split at h
    · rename_i hs
      refine ⟨_, _, _, _, if_pos hs, hs, fun hh => ?_⟩
      rw [hh.1, hh.2] at hs
      unfold secS at hs
      split at hs
      · simp at hs
      · simp at hs
    · simp at h
theorem psS_no {x : Int} (h : ¬ (psS x).2.2.2.2 = 0) : psS x = (false, 0, false, false, if x = 0 then 92 else 90) := by
  unfold psS at *
  by_cases hx : x = 0
  · simp [hx]
  · simp only [hx, if_false] at *
    split at h
    · simp at h
    · rename_i hs; rw [if_neg hs]
theorem sec0 : secS false 0 false false = (1, 0) := by decide
theorem first_pf {x : Int} (h : x % 256 = 1 ∧ x / 256 < 64) (hx : 0 ≤ x) : pfS x = (x / 256, 0) ∧ firstS (x / 256) = (x, 0) := by
  constructor
  · unfold pfS; rw [if_neg (by omega), if_pos h]
  · unfold firstS; rw [if_pos (by omega)]; simp; omega
theorem pf_no {x : Int} (h : ¬ (x % 256 = 1 ∧ x / 256 < 64)) : pfS x = (0, if x = 0 then 92 else 90) := by
  unfold pfS
  by_cases hx : x = 0
  · simp [hx]
  · rw [if_neg hx, if_neg h, if_neg hx]
theorem first0 : firstS 0 = (1, 0) := by decide
theorem pf0 : pfS 0 = (0, 92) := by decide
theorem first_in {p : Int} (h1 : 0 ≤ p) (h2 : p < 64) : firstS p = (p * 256 + 1, 0) := by unfold firstS; rw [if_pos (by omega)]
theorem pf_in {p : Int} (h1 : 0 ≤ p) (h2 : p < 64) : pfS (p * 256 + 1) = (p, 0) := by
  unfold pfS; rw [if_neg (by omega), if_pos (by omega)]; simp; omega
theorem first_out {p : Int} (h : p < 0 ∨ 64 ≤ p) : firstS p = (0, 4) := by unfold firstS; rw [if_neg (by omega)]
theorem join0 : joinS 0 0 0 = (0, 0) := by decide
theorem InKpsS {x : Int} (hx : 0 ≤ x ∧ x < 4294967296) : -9223372036854775808 ≤ (psS x).2.1 ∧ (psS x).2.1 < 9223372036854775808 := by
  unfold psS
  split
  · simp
  · split
    · simp; omega
    · simp

theorem WBaaaa_ok (va x p : Int) (se : Bool) (h0 : InK .u32 va) (h1 : InK .u32 x) (h2 : va < 1073741824 ∧ va % 4 = 0) (h3 : x % 256 = 1 ∧ x / 256 < 64) (h4 : (psS x).2.2.2.2 = 0) (h5 : p < 0) (h6 : InK .i64 p) : PureSem Try.prog 10 [.int .u32 va, .int .u32 x, .bool se, .int .i64 p] (.bool true) := by
  refine pure_intro mixed (cx_wb_ok (fun d => bif Nat.beq d 38 || Nat.beq d 42 || Nat.beq d 54 || Nat.beq d 63 || Nat.beq d 66 || Nat.beq d 74 || Nat.beq d 90 || Nat.beq d 95 || Nat.beq d 99 || Nat.beq d 104 || Nat.beq d 107 || Nat.beq d 118 || Nat.beq d 134 || Nat.beq d 139 || Nat.beq d 150 || Nat.beq d 153 || Nat.beq d 165 then some false else bif Nat.beq d 47 || Nat.beq d 57 || Nat.beq d 87 || Nat.beq d 131 || Nat.beq d 178 || Nat.beq d 181 || Nat.beq d 184 then some true else none) (fun _ => none)) Try.func10 1000 rfl rfl ?_
  refine of_nf (p := (0 ≤ va ∧ va < 4294967296) ∧ false = false ∧ ((joinS (splitS va).fst (splitS va).snd.fst (splitS va).snd.snd.fst).2 != 0) = false ∧ decide (va < 1073741824) = true ∧ 0 ≤ va ∧ (((splitS va).snd.snd.2 == 0) != (va % 4 == 0)) = false ∧ ((splitS va).snd.snd.2 == 0) = true ∧ ((joinS (splitS va).fst (splitS va).snd.fst (splitS va).snd.snd.fst).1 != va) = false ∧ ((splitS va).snd.snd.2 != 0) = false ∧ (0 ≤ x ∧ x < 4294967296) ∧ ((pfS x).2 == 0) = true ∧ ((firstS (pfS x).fst).2 != 0) = false ∧ ((firstS (pfS x).fst).1 != x) = false ∧ decide ((pfS x).1 < 0) = false ∧ decide (63 < (pfS x).1) = false ∧ ((pfS x).2 != 0) = false ∧ (0 ≤ x ∧ x < 4294967296) ∧ (-9223372036854775808 ≤ (psS x).snd.1 ∧ (psS x).snd.1 < 9223372036854775808) ∧ ((psS x).snd.snd.snd.2 == 0) = true ∧ ((secS (psS x).fst (psS x).snd.fst (psS x).snd.snd.fst (psS x).snd.snd.snd.fst).2 != 0) = false ∧ ((secS (psS x).fst (psS x).snd.fst (psS x).snd.snd.fst (psS x).snd.snd.snd.fst).1 != x) = false ∧ ((psS x).snd.snd.snd.1 = true → (!(psS x).1) = false ∧ ((psS x).snd.snd.snd.2 != 0) = false ∧ (0 ≤ (firstS p).1 ∧ (firstS p).1 < 4294967296) ∧ decide (p < 0) = true ∧ ((firstS p).2 == 4) = true ∧ ((firstS p).1 == 0) = true) ∧ ((psS x).snd.snd.snd.1 = false → ((psS x).snd.snd.snd.2 != 0) = false ∧ (0 ≤ (firstS p).1 ∧ (firstS p).1 < 4294967296) ∧ decide (p < 0) = true ∧ ((firstS p).2 == 4) = true ∧ ((firstS p).1 == 0) = true)) (by kernel_rfl) ?_
  have hA := h2
  have hB := h3
  have hC := h4
  have hD := h5
  have sA : splitS va = (va / 4194304, va / 4096 % 1024, va / 4 % 1024, 0) := by unfold splitS; rw [if_pos hA]
  have jA := join_split h0 hA
  have sB := (first_pf hB h1.1).1
  have jB := (first_pf hB h1.1).2
  obtain ⟨ae, ap, aw, ax, sC, jC, kC⟩ := psS_yes hC
  have sD := first_out (.inl hD)
  have jD := pf0
  have i1 := InKpsS h1
  try simp only [sC] at i1
  simp only [InK] at h0 h1 h6
  try simp only [fl, if_true, if_false, Bool.false_eq_true, Int.add_zero] at sD
  try dsimp only
  have hx0 : x = 0 ∨ x ≠ 0 := by omega
  rcases hx0 with hx0 | hx0
  · first | (subst hx0; exact absurd hB (by decide)) | (subst hx0; exact absurd hC (by decide)) | skip
    all_goals (subst hx0; try simp only [if_true] at sB sC)
    all_goals (simp [h0, h6, sA, jA, sB, jB, sC, jC, sD, jD, InK, i1, sD]; try (repeat' (first | apply And.intro | intro _hc)); all_goals (first | omega | (cases ae <;> cases ax <;> simp_all)))
  · try simp only [if_neg hx0] at sB sC
    simp [h0, h1, h6, hx0, sA, jA, sB, jB, sC, jC, sD, jD, InK, i1, sD]
    try (repeat' (first | apply And.intro | intro _hc))
    all_goals (first | omega | (cases ae <;> cases ax <;> simp_all))
def c_WBaaaa : List SV → Option (List Prop × SV)
  | [.int .u32 va, .int .u32 x, .bool se, .int .i64 p] => some ([InK .u32 va, InK .u32 x, va < 1073741824 ∧ va % 4 = 0, x % 256 = 1 ∧ x / 256 < 64, (psS x).2.2.2.2 = 0, p < 0, InK .i64 p], .bool true)
  | _ => none
theorem c_WBaaaa_e : PEntry Try.prog 10 c_WBaaaa := by
  refine ⟨callFunc_ok Try.func10 (by kernel_rfl) (by kernel_rfl), fun args ps v h hp => ?_⟩
  unfold c_WBaaaa at h
  split at h
  · cases h; exact WBaaaa_ok _ _ _ _ (hp _ (List.mem_of_getElem? (i := 0) rfl)) (hp _ (List.mem_of_getElem? (i := 1) rfl)) (hp _ (List.mem_of_getElem? (i := 2) rfl)) (hp _ (List.mem_of_getElem? (i := 3) rfl)) (hp _ (List.mem_of_getElem? (i := 4) rfl)) (hp _ (List.mem_of_getElem? (i := 5) rfl)) (hp _ (List.mem_of_getElem? (i := 6) rfl))
  · cases h
theorem WBaaab_ok (va x p : Int) (se : Bool) (h0 : InK .u32 va) (h1 : InK .u32 x) (h2 : va < 1073741824 ∧ va % 4 = 0) (h3 : x % 256 = 1 ∧ x / 256 < 64) (h4 : (psS x).2.2.2.2 = 0) (h5 : 64 ≤ p) (h6 : InK .i64 p) : PureSem Try.prog 10 [.int .u32 va, .int .u32 x, .bool se, .int .i64 p] (.bool true) := by
  refine pure_intro mixed (cx_wb_ok (fun d => bif Nat.beq d 38 || Nat.beq d 42 || Nat.beq d 54 || Nat.beq d 63 || Nat.beq d 66 || Nat.beq d 74 || Nat.beq d 90 || Nat.beq d 95 || Nat.beq d 99 || Nat.beq d 104 || Nat.beq d 107 || Nat.beq d 118 || Nat.beq d 134 || Nat.beq d 139 || Nat.beq d 150 || Nat.beq d 153 || Nat.beq d 165 || Nat.beq d 178 then some false else bif Nat.beq d 47 || Nat.beq d 57 || Nat.beq d 87 || Nat.beq d 131 || Nat.beq d 181 || Nat.beq d 184 then some true else none) (fun _ => none)) Try.func10 1000 rfl rfl ?_
  refine of_nf (p := (0 ≤ va ∧ va < 4294967296) ∧ false = false ∧ ((joinS (splitS va).fst (splitS va).snd.fst (splitS va).snd.snd.fst).2 != 0) = false ∧ decide (va < 1073741824) = true ∧ 0 ≤ va ∧ (((splitS va).snd.snd.2 == 0) != (va % 4 == 0)) = false ∧ ((splitS va).snd.snd.2 == 0) = true ∧ ((joinS (splitS va).fst (splitS va).snd.fst (splitS va).snd.snd.fst).1 != va) = false ∧ ((splitS va).snd.snd.2 != 0) = false ∧ (0 ≤ x ∧ x < 4294967296) ∧ ((pfS x).2 == 0) = true ∧ ((firstS (pfS x).fst).2 != 0) = false ∧ ((firstS (pfS x).fst).1 != x) = false ∧ decide ((pfS x).1 < 0) = false ∧ decide (63 < (pfS x).1) = false ∧ ((pfS x).2 != 0) = false ∧ (0 ≤ x ∧ x < 4294967296) ∧ (-9223372036854775808 ≤ (psS x).snd.1 ∧ (psS x).snd.1 < 9223372036854775808) ∧ ((psS x).snd.snd.snd.2 == 0) = true ∧ ((secS (psS x).fst (psS x).snd.fst (psS x).snd.snd.fst (psS x).snd.snd.snd.fst).2 != 0) = false ∧ ((secS (psS x).fst (psS x).snd.fst (psS x).snd.snd.fst (psS x).snd.snd.snd.fst).1 != x) = false ∧ ((psS x).snd.snd.snd.1 = true → (!(psS x).1) = false ∧ ((psS x).snd.snd.snd.2 != 0) = false ∧ (0 ≤ (firstS p).1 ∧ (firstS p).1 < 4294967296) ∧ decide (p < 0) = false ∧ decide (63 < p) = true ∧ ((firstS p).2 == 4) = true ∧ ((firstS p).1 == 0) = true) ∧ ((psS x).snd.snd.snd.1 = false → ((psS x).snd.snd.snd.2 != 0) = false ∧ (0 ≤ (firstS p).1 ∧ (firstS p).1 < 4294967296) ∧ decide (p < 0) = false ∧ decide (63 < p) = true ∧ ((firstS p).2 == 4) = true ∧ ((firstS p).1 == 0) = true)) (by kernel_rfl) ?_
  have hA := h2
  have hB := h3
  have hC := h4
  have hD := h5
  have sA : splitS va = (va / 4194304, va / 4096 % 1024, va / 4 % 1024, 0) := by unfold splitS; rw [if_pos hA]
  have jA := join_split h0 hA
  have sB := (first_pf hB h1.1).1
  have jB := (first_pf hB h1.1).2
  obtain ⟨ae, ap, aw, ax, sC, jC, kC⟩ := psS_yes hC
  have sD := first_out (.inr hD)
  have jD := pf0
  have i1 := InKpsS h1
  try simp only [sC] at i1
  simp only [InK] at h0 h1 h6
  try simp only [fl, if_true, if_false, Bool.false_eq_true, Int.add_zero] at sD
  try dsimp only
  have hx0 : x = 0 ∨ x ≠ 0 := by omega
  rcases hx0 with hx0 | hx0
  · first | (subst hx0; exact absurd hB (by decide)) | (subst hx0; exact absurd hC (by decide)) | skip
    all_goals (subst hx0; try simp only [if_true] at sB sC)
    all_goals (simp [h0, h6, sA, jA, sB, jB, sC, jC, sD, jD, InK, i1, sD]; try (repeat' (first | apply And.intro | intro _hc)); all_goals (first | omega | (cases ae <;> cases ax <;> simp_all)))
  · try simp only [if_neg hx0] at sB sC
    simp [h0, h1, h6, hx0, sA, jA, sB, jB, sC, jC, sD, jD, InK, i1, sD]
    try (repeat' (first | apply And.intro | intro _hc))
    all_goals (first | omega | (cases ae <;> cases ax <;> simp_all))
def c_WBaaab : List SV → Option (List Prop × SV)
  | [.int .u32 va, .int .u32 x, .bool se, .int .i64 p] => some ([InK .u32 va, InK .u32 x, va < 1073741824 ∧ va % 4 = 0, x % 256 = 1 ∧ x / 256 < 64, (psS x).2.2.2.2 = 0, 64 ≤ p, InK .i64 p], .bool true)
  | _ => none
theorem c_WBaaab_e : PEntry Try.prog 10 c_WBaaab := by
  refine ⟨callFunc_ok Try.func10 (by kernel_rfl) (by kernel_rfl), fun args ps v h hp => ?_⟩
  unfold c_WBaaab at h
  split at h
  · cases h; exact WBaaab_ok _ _ _ _ (hp _ (List.mem_of_getElem? (i := 0) rfl)) (hp _ (List.mem_of_getElem? (i := 1) rfl)) (hp _ (List.mem_of_getElem? (i := 2) rfl)) (hp _ (List.mem_of_getElem? (i := 3) rfl)) (hp _ (List.mem_of_getElem? (i := 4) rfl)) (hp _ (List.mem_of_getElem? (i := 5) rfl)) (hp _ (List.mem_of_getElem? (i := 6) rfl))
  · cases h
theorem WBaaac_ok (va x p : Int) (h0 : InK .u32 va) (h1 : InK .u32 x) (h2 : va < 1073741824 ∧ va % 4 = 0) (h3 : x % 256 = 1 ∧ x / 256 < 64) (h4 : (psS x).2.2.2.2 = 0) (h5 : 0 ≤ p ∧ p < 64) (h6 : InK .i64 p) : PureSem Try.prog 10 [.int .u32 va, .int .u32 x, .bool true, .int .i64 p] (.bool true) := by
  refine pure_intro mixed (cx_wb_ok (fun d => bif Nat.beq d 38 || Nat.beq d 42 || Nat.beq d 54 || Nat.beq d 63 || Nat.beq d 66 || Nat.beq d 74 || Nat.beq d 90 || Nat.beq d 95 || Nat.beq d 99 || Nat.beq d 104 || Nat.beq d 107 || Nat.beq d 118 || Nat.beq d 134 || Nat.beq d 139 || Nat.beq d 150 || Nat.beq d 153 || Nat.beq d 165 || Nat.beq d 178 || Nat.beq d 181 || Nat.beq d 190 || Nat.beq d 194 || Nat.beq d 198 || Nat.beq d 224 || Nat.beq d 227 || Nat.beq d 236 || Nat.beq d 240 || Nat.beq d 244 then some false else bif Nat.beq d 47 || Nat.beq d 57 || Nat.beq d 87 || Nat.beq d 131 then some true else none) (fun _ => none)) Try.func10 1000 rfl rfl ?_
  refine of_nf (p := (0 ≤ va ∧ va < 4294967296) ∧ false = false ∧ ((joinS (splitS va).fst (splitS va).snd.fst (splitS va).snd.snd.fst).2 != 0) = false ∧ decide (va < 1073741824) = true ∧ 0 ≤ va ∧ (((splitS va).snd.snd.2 == 0) != (va % 4 == 0)) = false ∧ ((splitS va).snd.snd.2 == 0) = true ∧ ((joinS (splitS va).fst (splitS va).snd.fst (splitS va).snd.snd.fst).1 != va) = false ∧ ((splitS va).snd.snd.2 != 0) = false ∧ (0 ≤ x ∧ x < 4294967296) ∧ ((pfS x).2 == 0) = true ∧ ((firstS (pfS x).fst).2 != 0) = false ∧ ((firstS (pfS x).fst).1 != x) = false ∧ decide ((pfS x).1 < 0) = false ∧ decide (63 < (pfS x).1) = false ∧ ((pfS x).2 != 0) = false ∧ (0 ≤ x ∧ x < 4294967296) ∧ (-9223372036854775808 ≤ (psS x).snd.1 ∧ (psS x).snd.1 < 9223372036854775808) ∧ ((psS x).snd.snd.snd.2 == 0) = true ∧ ((secS (psS x).fst (psS x).snd.fst (psS x).snd.snd.fst (psS x).snd.snd.snd.fst).2 != 0) = false ∧ ((secS (psS x).fst (psS x).snd.fst (psS x).snd.snd.fst (psS x).snd.snd.snd.fst).1 != x) = false ∧ ((psS x).snd.snd.snd.1 = true → (!(psS x).1) = false ∧ ((psS x).snd.snd.snd.2 != 0) = false ∧ (0 ≤ (firstS p).1 ∧ (firstS p).1 < 4294967296) ∧ decide (p < 0) = false ∧ decide (63 < p) = false ∧ ((firstS p).2 != 0) = false ∧ ((pfS (firstS p).fst).2 != 0) = false ∧ ((pfS (firstS p).fst).1 != p) = false ∧ (-9223372036854775808 ≤ p ∧ p < 9223372036854775808) ∧ (0 ≤ (secS true p false false).1 ∧ (secS true p false false).1 < 4294967296) ∧ false = false ∧ ((secS true p false false).2 != 0) = false ∧ ((psS (secS true p false false).fst).snd.snd.snd.2 != 0) = false ∧ (!((psS (secS true p false false).fst).1 == true && ((psS (secS true p false false).fst).snd.1 == p && ((psS (secS true p false false).fst).snd.snd.1 == false && ((psS (secS true p false false).fst).snd.snd.snd.1 == false && true))))) = false ∧ (-9223372036854775808 ≤ p ∧ p < 9223372036854775808) ∧ (0 ≤ (secS true p true false).1 ∧ (secS true p true false).1 < 4294967296) ∧ false = false ∧ ((secS true p true false).2 != 0) = false ∧ ((psS (secS true p true false).fst).snd.snd.snd.2 != 0) = false ∧ (!((psS (secS true p true false).fst).1 == true && ((psS (secS true p true false).fst).snd.1 == p && ((psS (secS true p true false).fst).snd.snd.1 == true && ((psS (secS true p true false).fst).snd.snd.snd.1 == false && true))))) = false ∧ (-9223372036854775808 ≤ p ∧ p < 9223372036854775808) ∧ (0 ≤ (secS true p false true).1 ∧ (secS true p false true).1 < 4294967296) ∧ false = false ∧ ((secS true p false true).2 != 0) = false ∧ ((psS (secS true p false true).fst).snd.snd.snd.2 != 0) = false ∧ (!((psS (secS true p false true).fst).1 == true && ((psS (secS true p false true).fst).snd.1 == p && ((psS (secS true p false true).fst).snd.snd.1 == false && ((psS (secS true p false true).fst).snd.snd.snd.1 == true && true))))) = false ∧ (-9223372036854775808 ≤ p ∧ p < 9223372036854775808) ∧ (0 ≤ (secS true p true true).1 ∧ (secS true p true true).1 < 4294967296) ∧ false = false ∧ ((secS true p true true).2 != 0) = false ∧ ((psS (secS true p true true).fst).snd.snd.snd.2 != 0) = false ∧ (!((psS (secS true p true true).fst).1 == true && ((psS (secS true p true true).fst).snd.1 == p && ((psS (secS true p true true).fst).snd.snd.1 == true && ((psS (secS true p true true).fst).snd.snd.snd.1 == true && true))))) = false ∧ true = true) ∧ ((psS x).snd.snd.snd.1 = false → ((psS x).snd.snd.snd.2 != 0) = false ∧ (0 ≤ (firstS p).1 ∧ (firstS p).1 < 4294967296) ∧ decide (p < 0) = false ∧ decide (63 < p) = false ∧ ((firstS p).2 != 0) = false ∧ ((pfS (firstS p).fst).2 != 0) = false ∧ ((pfS (firstS p).fst).1 != p) = false ∧ (-9223372036854775808 ≤ p ∧ p < 9223372036854775808) ∧ (0 ≤ (secS true p false false).1 ∧ (secS true p false false).1 < 4294967296) ∧ false = false ∧ ((secS true p false false).2 != 0) = false ∧ ((psS (secS true p false false).fst).snd.snd.snd.2 != 0) = false ∧ (!((psS (secS true p false false).fst).1 == true && ((psS (secS true p false false).fst).snd.1 == p && ((psS (secS true p false false).fst).snd.snd.1 == false && ((psS (secS true p false false).fst).snd.snd.snd.1 == false && true))))) = false ∧ (-9223372036854775808 ≤ p ∧ p < 9223372036854775808) ∧ (0 ≤ (secS true p true false).1 ∧ (secS true p true false).1 < 4294967296) ∧ false = false ∧ ((secS true p true false).2 != 0) = false ∧ ((psS (secS true p true false).fst).snd.snd.snd.2 != 0) = false ∧ (!((psS (secS true p true false).fst).1 == true && ((psS (secS true p true false).fst).snd.1 == p && ((psS (secS true p true false).fst).snd.snd.1 == true && ((psS (secS true p true false).fst).snd.snd.snd.1 == false && true))))) = false ∧ (-9223372036854775808 ≤ p ∧ p < 9223372036854775808) ∧ (0 ≤ (secS true p false true).1 ∧ (secS true p false true).1 < 4294967296) ∧ false = false ∧ ((secS true p false true).2 != 0) = false ∧ ((psS (secS true p false true).fst).snd.snd.snd.2 != 0) = false ∧ (!((psS (secS true p false true).fst).1 == true && ((psS (secS true p false true).fst).snd.1 == p && ((psS (secS true p false true).fst).snd.snd.1 == false && ((psS (secS true p false true).fst).snd.snd.snd.1 == true && true))))) = false ∧ (-9223372036854775808 ≤ p ∧ p < 9223372036854775808) ∧ (0 ≤ (secS true p true true).1 ∧ (secS true p true true).1 < 4294967296) ∧ false = false ∧ ((secS true p true true).2 != 0) = false ∧ ((psS (secS true p true true).fst).snd.snd.snd.2 != 0) = false ∧ (!((psS (secS true p true true).fst).1 == true && ((psS (secS true p true true).fst).snd.1 == p && ((psS (secS true p true true).fst).snd.snd.1 == true && ((psS (secS true p true true).fst).snd.snd.snd.1 == true && true))))) = false ∧ true = true)) (by kernel_rfl) ?_
  have hA := h2
  have hB := h3
  have hC := h4
  have hD := h5
  have sA : splitS va = (va / 4194304, va / 4096 % 1024, va / 4 % 1024, 0) := by unfold splitS; rw [if_pos hA]
  have jA := join_split h0 hA
  have sB := (first_pf hB h1.1).1
  have jB := (first_pf hB h1.1).2
  obtain ⟨ae, ap, aw, ax, sC, jC, kC⟩ := psS_yes hC
  have sD := first_in hD.1 hD.2
  have jD := pf_in hD.1 hD.2
  have stt := psS_secS (se := true) (wr := true) (ex := true) hD.1 hD.2 (by simp)
  have stf := psS_secS (se := true) (wr := true) (ex := false) hD.1 hD.2 (by simp)
  have sft := psS_secS (se := true) (wr := false) (ex := true) hD.1 hD.2 (by simp)
  have sff := psS_secS (se := true) (wr := false) (ex := false) hD.1 hD.2 (by simp)
  have i1 := InKpsS h1
  try simp only [sC] at i1
  simp only [InK] at h0 h1 h6
  try simp only [fl, if_true, if_false, Bool.false_eq_true, Int.add_zero] at sD
  try simp only [fl, if_true, if_false, Bool.false_eq_true, Int.add_zero] at stt
  try simp only [fl, if_true, if_false, Bool.false_eq_true, Int.add_zero] at stf
  try simp only [fl, if_true, if_false, Bool.false_eq_true, Int.add_zero] at sft
  try simp only [fl, if_true, if_false, Bool.false_eq_true, Int.add_zero] at sff
  try dsimp only
  have hx0 : x = 0 ∨ x ≠ 0 := by omega
  rcases hx0 with hx0 | hx0
  · first | (subst hx0; exact absurd hB (by decide)) | (subst hx0; exact absurd hC (by decide)) | skip
    all_goals (subst hx0; try simp only [if_true] at sB sC)
    all_goals (simp [h0, h6, sA, jA, sB, jB, sC, jC, sD, jD, InK, i1, sD, stt, stf, sft, sff]; try (repeat' (first | apply And.intro | intro _hc)); all_goals (first | omega | (cases ae <;> cases ax <;> simp_all)))
  · try simp only [if_neg hx0] at sB sC
    simp [h0, h1, h6, hx0, sA, jA, sB, jB, sC, jC, sD, jD, InK, i1, sD, stt, stf, sft, sff]
    try (repeat' (first | apply And.intro | intro _hc))
    all_goals (first | omega | (cases ae <;> cases ax <;> simp_all))
def c_WBaaac : List SV → Option (List Prop × SV)
  | [.int .u32 va, .int .u32 x, .bool true, .int .i64 p] => some ([InK .u32 va, InK .u32 x, va < 1073741824 ∧ va % 4 = 0, x % 256 = 1 ∧ x / 256 < 64, (psS x).2.2.2.2 = 0, 0 ≤ p ∧ p < 64, InK .i64 p], .bool true)
  | _ => none
theorem c_WBaaac_e : PEntry Try.prog 10 c_WBaaac := by
  refine ⟨callFunc_ok Try.func10 (by kernel_rfl) (by kernel_rfl), fun args ps v h hp => ?_⟩
  unfold c_WBaaac at h
  split at h
  · cases h; exact WBaaac_ok _ _ _ (hp _ (List.mem_of_getElem? (i := 0) rfl)) (hp _ (List.mem_of_getElem? (i := 1) rfl)) (hp _ (List.mem_of_getElem? (i := 2) rfl)) (hp _ (List.mem_of_getElem? (i := 3) rfl)) (hp _ (List.mem_of_getElem? (i := 4) rfl)) (hp _ (List.mem_of_getElem? (i := 5) rfl)) (hp _ (List.mem_of_getElem? (i := 6) rfl))
  · cases h
theorem WBaaad_ok (va x p : Int) (h0 : InK .u32 va) (h1 : InK .u32 x) (h2 : va < 1073741824 ∧ va % 4 = 0) (h3 : x % 256 = 1 ∧ x / 256 < 64) (h4 : (psS x).2.2.2.2 = 0) (h5 : 0 ≤ p ∧ p < 64) (h6 : InK .i64 p) : PureSem Try.prog 10 [.int .u32 va, .int .u32 x, .bool false, .int .i64 p] (.bool true) := by
  refine pure_intro mixed (cx_wb_ok (fun d => bif Nat.beq d 38 || Nat.beq d 42 || Nat.beq d 54 || Nat.beq d 63 || Nat.beq d 66 || Nat.beq d 74 || Nat.beq d 90 || Nat.beq d 95 || Nat.beq d 99 || Nat.beq d 104 || Nat.beq d 107 || Nat.beq d 118 || Nat.beq d 134 || Nat.beq d 139 || Nat.beq d 150 || Nat.beq d 153 || Nat.beq d 165 || Nat.beq d 178 || Nat.beq d 181 || Nat.beq d 190 || Nat.beq d 194 || Nat.beq d 198 || Nat.beq d 230 || Nat.beq d 233 || Nat.beq d 236 || Nat.beq d 240 || Nat.beq d 244 then some false else bif Nat.beq d 47 || Nat.beq d 57 || Nat.beq d 87 || Nat.beq d 131 || Nat.beq d 224 then some true else none) (fun _ => none)) Try.func10 1000 rfl rfl ?_
  refine of_nf (p := (0 ≤ va ∧ va < 4294967296) ∧ false = false ∧ ((joinS (splitS va).fst (splitS va).snd.fst (splitS va).snd.snd.fst).2 != 0) = false ∧ decide (va < 1073741824) = true ∧ 0 ≤ va ∧ (((splitS va).snd.snd.2 == 0) != (va % 4 == 0)) = false ∧ ((splitS va).snd.snd.2 == 0) = true ∧ ((joinS (splitS va).fst (splitS va).snd.fst (splitS va).snd.snd.fst).1 != va) = false ∧ ((splitS va).snd.snd.2 != 0) = false ∧ (0 ≤ x ∧ x < 4294967296) ∧ ((pfS x).2 == 0) = true ∧ ((firstS (pfS x).fst).2 != 0) = false ∧ ((firstS (pfS x).fst).1 != x) = false ∧ decide ((pfS x).1 < 0) = false ∧ decide (63 < (pfS x).1) = false ∧ ((pfS x).2 != 0) = false ∧ (0 ≤ x ∧ x < 4294967296) ∧ (-9223372036854775808 ≤ (psS x).snd.1 ∧ (psS x).snd.1 < 9223372036854775808) ∧ ((psS x).snd.snd.snd.2 == 0) = true ∧ ((secS (psS x).fst (psS x).snd.fst (psS x).snd.snd.fst (psS x).snd.snd.snd.fst).2 != 0) = false ∧ ((secS (psS x).fst (psS x).snd.fst (psS x).snd.snd.fst (psS x).snd.snd.snd.fst).1 != x) = false ∧ ((psS x).snd.snd.snd.1 = true → (!(psS x).1) = false ∧ ((psS x).snd.snd.snd.2 != 0) = false ∧ (0 ≤ (firstS p).1 ∧ (firstS p).1 < 4294967296) ∧ decide (p < 0) = false ∧ decide (63 < p) = false ∧ ((firstS p).2 != 0) = false ∧ ((pfS (firstS p).fst).2 != 0) = false ∧ ((pfS (firstS p).fst).1 != p) = false ∧ (-9223372036854775808 ≤ p ∧ p < 9223372036854775808) ∧ (0 ≤ (secS false p false false).1 ∧ (secS false p false false).1 < 4294967296) ∧ true = true ∧ ((secS false p false false).2 != 0) = false ∧ ((psS (secS false p false false).fst).snd.snd.snd.2 != 0) = false ∧ (!((psS (secS false p false false).fst).1 == false && ((psS (secS false p false false).fst).snd.1 == p && ((psS (secS false p false false).fst).snd.snd.1 == false && ((psS (secS false p false false).fst).snd.snd.snd.1 == false && true))))) = false ∧ (-9223372036854775808 ≤ p ∧ p < 9223372036854775808) ∧ (0 ≤ (secS false p true false).1 ∧ (secS false p true false).1 < 4294967296) ∧ true = true ∧ ((secS false p true false).2 != 0) = false ∧ ((psS (secS false p true false).fst).snd.snd.snd.2 != 0) = false ∧ (!((psS (secS false p true false).fst).1 == false && ((psS (secS false p true false).fst).snd.1 == p && ((psS (secS false p true false).fst).snd.snd.1 == true && ((psS (secS false p true false).fst).snd.snd.snd.1 == false && true))))) = false ∧ (-9223372036854775808 ≤ p ∧ p < 9223372036854775808) ∧ (0 ≤ (secS false p false true).1 ∧ (secS false p false true).1 < 4294967296) ∧ true = true ∧ ((secS false p false true).2 != 1) = false ∧ ((secS false p false true).1 != 0) = false ∧ (-9223372036854775808 ≤ p ∧ p < 9223372036854775808) ∧ (0 ≤ (secS false p true true).1 ∧ (secS false p true true).1 < 4294967296) ∧ true = true ∧ ((secS false p true true).2 != 1) = false ∧ ((secS false p true true).1 != 0) = false ∧ true = true) ∧ ((psS x).snd.snd.snd.1 = false → ((psS x).snd.snd.snd.2 != 0) = false ∧ (0 ≤ (firstS p).1 ∧ (firstS p).1 < 4294967296) ∧ decide (p < 0) = false ∧ decide (63 < p) = false ∧ ((firstS p).2 != 0) = false ∧ ((pfS (firstS p).fst).2 != 0) = false ∧ ((pfS (firstS p).fst).1 != p) = false ∧ (-9223372036854775808 ≤ p ∧ p < 9223372036854775808) ∧ (0 ≤ (secS false p false false).1 ∧ (secS false p false false).1 < 4294967296) ∧ true = true ∧ ((secS false p false false).2 != 0) = false ∧ ((psS (secS false p false false).fst).snd.snd.snd.2 != 0) = false ∧ (!((psS (secS false p false false).fst).1 == false && ((psS (secS false p false false).fst).snd.1 == p && ((psS (secS false p false false).fst).snd.snd.1 == false && ((psS (secS false p false false).fst).snd.snd.snd.1 == false && true))))) = false ∧ (-9223372036854775808 ≤ p ∧ p < 9223372036854775808) ∧ (0 ≤ (secS false p true false).1 ∧ (secS false p true false).1 < 4294967296) ∧ true = true ∧ ((secS false p true false).2 != 0) = false ∧ ((psS (secS false p true false).fst).snd.snd.snd.2 != 0) = false ∧ (!((psS (secS false p true false).fst).1 == false && ((psS (secS false p true false).fst).snd.1 == p && ((psS (secS false p true false).fst).snd.snd.1 == true && ((psS (secS false p true false).fst).snd.snd.snd.1 == false && true))))) = false ∧ (-9223372036854775808 ≤ p ∧ p < 9223372036854775808) ∧ (0 ≤ (secS false p false true).1 ∧ (secS false p false true).1 < 4294967296) ∧ true = true ∧ ((secS false p false true).2 != 1) = false ∧ ((secS false p false true).1 != 0) = false ∧ (-9223372036854775808 ≤ p ∧ p < 9223372036854775808) ∧ (0 ≤ (secS false p true true).1 ∧ (secS false p true true).1 < 4294967296) ∧ true = true ∧ ((secS false p true true).2 != 1) = false ∧ ((secS false p true true).1 != 0) = false ∧ true = true)) (by kernel_rfl) ?_
  have hA := h2
  have hB := h3
  have hC := h4
  have hD := h5
  have sA : splitS va = (va / 4194304, va / 4096 % 1024, va / 4 % 1024, 0) := by unfold splitS; rw [if_pos hA]
  have jA := join_split h0 hA
  have sB := (first_pf hB h1.1).1
  have jB := (first_pf hB h1.1).2
  obtain ⟨ae, ap, aw, ax, sC, jC, kC⟩ := psS_yes hC
  have sD := first_in hD.1 hD.2
  have jD := pf_in hD.1 hD.2
  have stf := psS_secS (se := false) (wr := true) (ex := false) hD.1 hD.2 (by simp)
  have sff := psS_secS (se := false) (wr := false) (ex := false) hD.1 hD.2 (by simp)
  have stt := secS_no true hD.1 hD.2
  have sft := secS_no false hD.1 hD.2
  have i1 := InKpsS h1
  try simp only [sC] at i1
  simp only [InK] at h0 h1 h6
  try simp only [fl, if_true, if_false, Bool.false_eq_true, Int.add_zero] at sD
  try simp only [fl, if_true, if_false, Bool.false_eq_true, Int.add_zero] at stf
  try simp only [fl, if_true, if_false, Bool.false_eq_true, Int.add_zero] at sff
  try simp only [fl, if_true, if_false, Bool.false_eq_true, Int.add_zero] at stt
  try simp only [fl, if_true, if_false, Bool.false_eq_true, Int.add_zero] at sft
  try dsimp only
  have hx0 : x = 0 ∨ x ≠ 0 := by omega
  rcases hx0 with hx0 | hx0
  · first | (subst hx0; exact absurd hB (by decide)) | (subst hx0; exact absurd hC (by decide)) | skip
    all_goals (subst hx0; try simp only [if_true] at sB sC)
    all_goals (simp [h0, h6, sA, jA, sB, jB, sC, jC, sD, jD, InK, i1, sD, stf, sff, stt, sft]; try (repeat' (first | apply And.intro | intro _hc)); all_goals (first | omega | (cases ae <;> cases ax <;> simp_all)))
  · try simp only [if_neg hx0] at sB sC
    simp [h0, h1, h6, hx0, sA, jA, sB, jB, sC, jC, sD, jD, InK, i1, sD, stf, sff, stt, sft]
    try (repeat' (first | apply And.intro | intro _hc))
    all_goals (first | omega | (cases ae <;> cases ax <;> simp_all))
def c_WBaaad : List SV → Option (List Prop × SV)
  | [.int .u32 va, .int .u32 x, .bool false, .int .i64 p] => some ([InK .u32 va, InK .u32 x, va < 1073741824 ∧ va % 4 = 0, x % 256 = 1 ∧ x / 256 < 64, (psS x).2.2.2.2 = 0, 0 ≤ p ∧ p < 64, InK .i64 p], .bool true)
  | _ => none
theorem c_WBaaad_e : PEntry Try.prog 10 c_WBaaad := by
  refine ⟨callFunc_ok Try.func10 (by kernel_rfl) (by kernel_rfl), fun args ps v h hp => ?_⟩
  unfold c_WBaaad at h
  split at h
  · cases h; exact WBaaad_ok _ _ _ (hp _ (List.mem_of_getElem? (i := 0) rfl)) (hp _ (List.mem_of_getElem? (i := 1) rfl)) (hp _ (List.mem_of_getElem? (i := 2) rfl)) (hp _ (List.mem_of_getElem? (i := 3) rfl)) (hp _ (List.mem_of_getElem? (i := 4) rfl)) (hp _ (List.mem_of_getElem? (i := 5) rfl)) (hp _ (List.mem_of_getElem? (i := 6) rfl))
  · cases h
theorem WBaaba_ok (va x p : Int) (se : Bool) (h0 : InK .u32 va) (h1 : InK .u32 x) (h2 : va < 1073741824 ∧ va % 4 = 0) (h3 : x % 256 = 1 ∧ x / 256 < 64) (h4 : ¬ (psS x).2.2.2.2 = 0) (h5 : p < 0) (h6 : InK .i64 p) : PureSem Try.prog 10 [.int .u32 va, .int .u32 x, .bool se, .int .i64 p] (.bool true) := by
  refine pure_intro mixed (cx_wb_ok (fun d => bif Nat.beq d 38 || Nat.beq d 42 || Nat.beq d 54 || Nat.beq d 63 || Nat.beq d 66 || Nat.beq d 74 || Nat.beq d 90 || Nat.beq d 95 || Nat.beq d 99 || Nat.beq d 104 || Nat.beq d 107 || Nat.beq d 118 || Nat.beq d 131 || Nat.beq d 150 || Nat.beq d 157 || Nat.beq d 165 then some false else bif Nat.beq d 47 || Nat.beq d 57 || Nat.beq d 87 || Nat.beq d 153 || Nat.beq d 178 || Nat.beq d 181 || Nat.beq d 184 then some true else none) (fun _ => none)) Try.func10 1000 rfl rfl ?_
  refine of_nf (p := (0 ≤ va ∧ va < 4294967296) ∧ false = false ∧ ((joinS (splitS va).fst (splitS va).snd.fst (splitS va).snd.snd.fst).2 != 0) = false ∧ decide (va < 1073741824) = true ∧ 0 ≤ va ∧ (((splitS va).snd.snd.2 == 0) != (va % 4 == 0)) = false ∧ ((splitS va).snd.snd.2 == 0) = true ∧ ((joinS (splitS va).fst (splitS va).snd.fst (splitS va).snd.snd.fst).1 != va) = false ∧ ((splitS va).snd.snd.2 != 0) = false ∧ (0 ≤ x ∧ x < 4294967296) ∧ ((pfS x).2 == 0) = true ∧ ((firstS (pfS x).fst).2 != 0) = false ∧ ((firstS (pfS x).fst).1 != x) = false ∧ decide ((pfS x).1 < 0) = false ∧ decide (63 < (pfS x).1) = false ∧ ((pfS x).2 != 0) = false ∧ (0 ≤ x ∧ x < 4294967296) ∧ (-9223372036854775808 ≤ (psS x).snd.1 ∧ (psS x).snd.1 < 9223372036854775808) ∧ ((psS x).snd.snd.snd.2 == 0) = false ∧ ((psS x).snd.snd.snd.2 != 0) = true ∧ (!((psS x).1 == false && ((psS x).snd.1 == 0 && ((psS x).snd.snd.1 == false && ((psS x).snd.snd.snd.1 == false && true))))) = false ∧ (((psS x).snd.snd.snd.2 == 92) != (x == 0)) = false ∧ (0 ≤ (firstS p).1 ∧ (firstS p).1 < 4294967296) ∧ decide (p < 0) = true ∧ ((firstS p).2 == 4) = true ∧ ((firstS p).1 == 0) = true) (by kernel_rfl) ?_
  have hA := h2
  have hB := h3
  have hC := h4
  have hD := h5
  have sA : splitS va = (va / 4194304, va / 4096 % 1024, va / 4 % 1024, 0) := by unfold splitS; rw [if_pos hA]
  have jA := join_split h0 hA
  have sB := (first_pf hB h1.1).1
  have jB := (first_pf hB h1.1).2
  have sC := psS_no hC
  have jC := sec0
  have kC := trivial
  have sD := first_out (.inl hD)
  have jD := pf0
  have i1 := InKpsS h1
  try simp only [sC] at i1
  simp only [InK] at h0 h1 h6
  try simp only [fl, if_true, if_false, Bool.false_eq_true, Int.add_zero] at sD
  try dsimp only
  have hx0 : x = 0 ∨ x ≠ 0 := by omega
  rcases hx0 with hx0 | hx0
  · first | (subst hx0; exact absurd hB (by decide)) | (subst hx0; exact absurd hC (by decide)) | skip
    all_goals (subst hx0; try simp only [if_true] at sB sC)
    all_goals (simp [h0, h6, sA, jA, sB, jB, sC, jC, sD, jD, InK, i1, sD]; try (repeat' (first | apply And.intro | intro _hc)); all_goals (first | omega | (cases ae <;> cases ax <;> simp_all)))
  · try simp only [if_neg hx0] at sB sC
    simp [h0, h1, h6, hx0, sA, jA, sB, jB, sC, jC, sD, jD, InK, i1, sD]
    try (repeat' (first | apply And.intro | intro _hc))
    all_goals (first | omega | (cases ae <;> cases ax <;> simp_all))
def c_WBaaba : List SV → Option (List Prop × SV)
  | [.int .u32 va, .int .u32 x, .bool se, .int .i64 p] => some ([InK .u32 va, InK .u32 x, va < 1073741824 ∧ va % 4 = 0, x % 256 = 1 ∧ x / 256 < 64, ¬ (psS x).2.2.2.2 = 0, p < 0, InK .i64 p], .bool true)
  | _ => none
theorem c_WBaaba_e : PEntry Try.prog 10 c_WBaaba := by
  refine ⟨callFunc_ok Try.func10 (by kernel_rfl) (by kernel_rfl), fun args ps v h hp => ?_⟩
  unfold c_WBaaba at h
  split at h
  · cases h; exact WBaaba_ok _ _ _ _ (hp _ (List.mem_of_getElem? (i := 0) rfl)) (hp _ (List.mem_of_getElem? (i := 1) rfl)) (hp _ (List.mem_of_getElem? (i := 2) rfl)) (hp _ (List.mem_of_getElem? (i := 3) rfl)) (hp _ (List.mem_of_getElem? (i := 4) rfl)) (hp _ (List.mem_of_getElem? (i := 5) rfl)) (hp _ (List.mem_of_getElem? (i := 6) rfl))
  · cases h
theorem WBaabb_ok (va x p : Int) (se : Bool) (h0 : InK .u32 va) (h1 : InK .u32 x) (h2 : va < 1073741824 ∧ va % 4 = 0) (h3 : x % 256 = 1 ∧ x / 256 < 64) (h4 : ¬ (psS x).2.2.2.2 = 0) (h5 : 64 ≤ p) (h6 : InK .i64 p) : PureSem Try.prog 10 [.int .u32 va, .int .u32 x, .bool se, .int .i64 p] (.bool true) := by
  refine pure_intro mixed (cx_wb_ok (fun d => bif Nat.beq d 38 || Nat.beq d 42 || Nat.beq d 54 || Nat.beq d 63 || Nat.beq d 66 || Nat.beq d 74 || Nat.beq d 90 || Nat.beq d 95 || Nat.beq d 99 || Nat.beq d 104 || Nat.beq d 107 || Nat.beq d 118 || Nat.beq d 131 || Nat.beq d 150 || Nat.beq d 157 || Nat.beq d 165 || Nat.beq d 178 then some false else bif Nat.beq d 47 || Nat.beq d 57 || Nat.beq d 87 || Nat.beq d 153 || Nat.beq d 181 || Nat.beq d 184 then some true else none) (fun _ => none)) Try.func10 1000 rfl rfl ?_
  refine of_nf (p := (0 ≤ va ∧ va < 4294967296) ∧ false = false ∧ ((joinS (splitS va).fst (splitS va).snd.fst (splitS va).snd.snd.fst).2 != 0) = false ∧ decide (va < 1073741824) = true ∧ 0 ≤ va ∧ (((splitS va).snd.snd.2 == 0) != (va % 4 == 0)) = false ∧ ((splitS va).snd.snd.2 == 0) = true ∧ ((joinS (splitS va).fst (splitS va).snd.fst (splitS va).snd.snd.fst).1 != va) = false ∧ ((splitS va).snd.snd.2 != 0) = false ∧ (0 ≤ x ∧ x < 4294967296) ∧ ((pfS x).2 == 0) = true ∧ ((firstS (pfS x).fst).2 != 0) = false ∧ ((firstS (pfS x).fst).1 != x) = false ∧ decide ((pfS x).1 < 0) = false ∧ decide (63 < (pfS x).1) = false ∧ ((pfS x).2 != 0) = false ∧ (0 ≤ x ∧ x < 4294967296) ∧ (-9223372036854775808 ≤ (psS x).snd.1 ∧ (psS x).snd.1 < 9223372036854775808) ∧ ((psS x).snd.snd.snd.2 == 0) = false ∧ ((psS x).snd.snd.snd.2 != 0) = true ∧ (!((psS x).1 == false && ((psS x).snd.1 == 0 && ((psS x).snd.snd.1 == false && ((psS x).snd.snd.snd.1 == false && true))))) = false ∧ (((psS x).snd.snd.snd.2 == 92) != (x == 0)) = false ∧ (0 ≤ (firstS p).1 ∧ (firstS p).1 < 4294967296) ∧ decide (p < 0) = false ∧ decide (63 < p) = true ∧ ((firstS p).2 == 4) = true ∧ ((firstS p).1 == 0) = true) (by kernel_rfl) ?_
  have hA := h2
  have hB := h3
  have hC := h4
  have hD := h5
  have sA : splitS va = (va / 4194304, va / 4096 % 1024, va / 4 % 1024, 0) := by unfold splitS; rw [if_pos hA]
  have jA := join_split h0 hA
  have sB := (first_pf hB h1.1).1
  have jB := (first_pf hB h1.1).2
  have sC := psS_no hC
  have jC := sec0
  have kC := trivial
  have sD := first_out (.inr hD)
  have jD := pf0
  have i1 := InKpsS h1
  try simp only [sC] at i1
  simp only [InK] at h0 h1 h6
  try simp only [fl, if_true, if_false, Bool.false_eq_true, Int.add_zero] at sD
  try dsimp only
  have hx0 : x = 0 ∨ x ≠ 0 := by omega
  rcases hx0 with hx0 | hx0
  · first | (subst hx0; exact absurd hB (by decide)) | (subst hx0; exact absurd hC (by decide)) | skip
    all_goals (subst hx0; try simp only [if_true] at sB sC)
    all_goals (simp [h0, h6, sA, jA, sB, jB, sC, jC, sD, jD, InK, i1, sD]; try (repeat' (first | apply And.intro | intro _hc)); all_goals (first | omega | (cases ae <;> cases ax <;> simp_all)))
  · try simp only [if_neg hx0] at sB sC
    simp [h0, h1, h6, hx0, sA, jA, sB, jB, sC, jC, sD, jD, InK, i1, sD]
    try (repeat' (first | apply And.intro | intro _hc))
    all_goals (first | omega | (cases ae <;> cases ax <;> simp_all))
def c_WBaabb : List SV → Option (List Prop × SV)
  | [.int .u32 va, .int .u32 x, .bool se, .int .i64 p] => some ([InK .u32 va, InK .u32 x, va < 1073741824 ∧ va % 4 = 0, x % 256 = 1 ∧ x / 256 < 64, ¬ (psS x).2.2.2.2 = 0, 64 ≤ p, InK .i64 p], .bool true)
  | _ => none
theorem c_WBaabb_e : PEntry Try.prog 10 c_WBaabb := by
  refine ⟨callFunc_ok Try.func10 (by kernel_rfl) (by kernel_rfl), fun args ps v h hp => ?_⟩
  unfold c_WBaabb at h
  split at h
  · cases h; exact WBaabb_ok _ _ _ _ (hp _ (List.mem_of_getElem? (i := 0) rfl)) (hp _ (List.mem_of_getElem? (i := 1) rfl)) (hp _ (List.mem_of_getElem? (i := 2) rfl)) (hp _ (List.mem_of_getElem? (i := 3) rfl)) (hp _ (List.mem_of_getElem? (i := 4) rfl)) (hp _ (List.mem_of_getElem? (i := 5) rfl)) (hp _ (List.mem_of_getElem? (i := 6) rfl))
  · cases h
theorem WBaabc_ok (va x p : Int) (h0 : InK .u32 va) (h1 : InK .u32 x) (h2 : va < 1073741824 ∧ va % 4 = 0) (h3 : x % 256 = 1 ∧ x / 256 < 64) (h4 : ¬ (psS x).2.2.2.2 = 0) (h5 : 0 ≤ p ∧ p < 64) (h6 : InK .i64 p) : PureSem Try.prog 10 [.int .u32 va, .int .u32 x, .bool true, .int .i64 p] (.bool true) := by
  refine pure_intro mixed (cx_wb_ok (fun d => bif Nat.beq d 38 || Nat.beq d 42 || Nat.beq d 54 || Nat.beq d 63 || Nat.beq d 66 || Nat.beq d 74 || Nat.beq d 90 || Nat.beq d 95 || Nat.beq d 99 || Nat.beq d 104 || Nat.beq d 107 || Nat.beq d 118 || Nat.beq d 131 || Nat.beq d 150 || Nat.beq d 157 || Nat.beq d 165 || Nat.beq d 178 || Nat.beq d 181 || Nat.beq d 190 || Nat.beq d 194 || Nat.beq d 198 || Nat.beq d 224 || Nat.beq d 227 || Nat.beq d 236 || Nat.beq d 240 || Nat.beq d 244 then some false else bif Nat.beq d 47 || Nat.beq d 57 || Nat.beq d 87 || Nat.beq d 153 then some true else none) (fun _ => none)) Try.func10 1000 rfl rfl ?_
  refine of_nf (p := (0 ≤ va ∧ va < 4294967296) ∧ false = false ∧ ((joinS (splitS va).fst (splitS va).snd.fst (splitS va).snd.snd.fst).2 != 0) = false ∧ decide (va < 1073741824) = true ∧ 0 ≤ va ∧ (((splitS va).snd.snd.2 == 0) != (va % 4 == 0)) = false ∧ ((splitS va).snd.snd.2 == 0) = true ∧ ((joinS (splitS va).fst (splitS va).snd.fst (splitS va).snd.snd.fst).1 != va) = false ∧ ((splitS va).snd.snd.2 != 0) = false ∧ (0 ≤ x ∧ x < 4294967296) ∧ ((pfS x).2 == 0) = true ∧ ((firstS (pfS x).fst).2 != 0) = false ∧ ((firstS (pfS x).fst).1 != x) = false ∧ decide ((pfS x).1 < 0) = false ∧ decide (63 < (pfS x).1) = false ∧ ((pfS x).2 != 0) = false ∧ (0 ≤ x ∧ x < 4294967296) ∧ (-9223372036854775808 ≤ (psS x).snd.1 ∧ (psS x).snd.1 < 9223372036854775808) ∧ ((psS x).snd.snd.snd.2 == 0) = false ∧ ((psS x).snd.snd.snd.2 != 0) = true ∧ (!((psS x).1 == false && ((psS x).snd.1 == 0 && ((psS x).snd.snd.1 == false && ((psS x).snd.snd.snd.1 == false && true))))) = false ∧ (((psS x).snd.snd.snd.2 == 92) != (x == 0)) = false ∧ (0 ≤ (firstS p).1 ∧ (firstS p).1 < 4294967296) ∧ decide (p < 0) = false ∧ decide (63 < p) = false ∧ ((firstS p).2 != 0) = false ∧ ((pfS (firstS p).fst).2 != 0) = false ∧ ((pfS (firstS p).fst).1 != p) = false ∧ (-9223372036854775808 ≤ p ∧ p < 9223372036854775808) ∧ (0 ≤ (secS true p false false).1 ∧ (secS true p false false).1 < 4294967296) ∧ false = false ∧ ((secS true p false false).2 != 0) = false ∧ ((psS (secS true p false false).fst).snd.snd.snd.2 != 0) = false ∧ (!((psS (secS true p false false).fst).1 == true && ((psS (secS true p false false).fst).snd.1 == p && ((psS (secS true p false false).fst).snd.snd.1 == false && ((psS (secS true p false false).fst).snd.snd.snd.1 == false && true))))) = false ∧ (-9223372036854775808 ≤ p ∧ p < 9223372036854775808) ∧ (0 ≤ (secS true p true false).1 ∧ (secS true p true false).1 < 4294967296) ∧ false = false ∧ ((secS true p true false).2 != 0) = false ∧ ((psS (secS true p true false).fst).snd.snd.snd.2 != 0) = false ∧ (!((psS (secS true p true false).fst).1 == true && ((psS (secS true p true false).fst).snd.1 == p && ((psS (secS true p true false).fst).snd.snd.1 == true && ((psS (secS true p true false).fst).snd.snd.snd.1 == false && true))))) = false ∧ (-9223372036854775808 ≤ p ∧ p < 9223372036854775808) ∧ (0 ≤ (secS true p false true).1 ∧ (secS true p false true).1 < 4294967296) ∧ false = false ∧ ((secS true p false true).2 != 0) = false ∧ ((psS (secS true p false true).fst).snd.snd.snd.2 != 0) = false ∧ (!((psS (secS true p false true).fst).1 == true && ((psS (secS true p false true).fst).snd.1 == p && ((psS (secS true p false true).fst).snd.snd.1 == false && ((psS (secS true p false true).fst).snd.snd.snd.1 == true && true))))) = false ∧ (-9223372036854775808 ≤ p ∧ p < 9223372036854775808) ∧ (0 ≤ (secS true p true true).1 ∧ (secS true p true true).1 < 4294967296) ∧ false = false ∧ ((secS true p true true).2 != 0) = false ∧ ((psS (secS true p true true).fst).snd.snd.snd.2 != 0) = false ∧ (!((psS (secS true p true true).fst).1 == true && ((psS (secS true p true true).fst).snd.1 == p && ((psS (secS true p true true).fst).snd.snd.1 == true && ((psS (secS true p true true).fst).snd.snd.snd.1 == true && true))))) = false ∧ true = true) (by kernel_rfl) ?_
  have hA := h2
  have hB := h3
  have hC := h4
  have hD := h5
  have sA : splitS va = (va / 4194304, va / 4096 % 1024, va / 4 % 1024, 0) := by unfold splitS; rw [if_pos hA]
  have jA := join_split h0 hA
  have sB := (first_pf hB h1.1).1
  have jB := (first_pf hB h1.1).2
  have sC := psS_no hC
  have jC := sec0
  have kC := trivial
  have sD := first_in hD.1 hD.2
  have jD := pf_in hD.1 hD.2
  have stt := psS_secS (se := true) (wr := true) (ex := true) hD.1 hD.2 (by simp)
  have stf := psS_secS (se := true) (wr := true) (ex := false) hD.1 hD.2 (by simp)
  have sft := psS_secS (se := true) (wr := false) (ex := true) hD.1 hD.2 (by simp)
  have sff := psS_secS (se := true) (wr := false) (ex := false) hD.1 hD.2 (by simp)
  have i1 := InKpsS h1
  try simp only [sC] at i1
  simp only [InK] at h0 h1 h6
  try simp only [fl, if_true, if_false, Bool.false_eq_true, Int.add_zero] at sD
  try simp only [fl, if_true, if_false, Bool.false_eq_true, Int.add_zero] at stt
  try simp only [fl, if_true, if_false, Bool.false_eq_true, Int.add_zero] at stf
  try simp only [fl, if_true, if_false, Bool.false_eq_true, Int.add_zero] at sft
  try simp only [fl, if_true, if_false, Bool.false_eq_true, Int.add_zero] at sff
  try dsimp only
  have hx0 : x = 0 ∨ x ≠ 0 := by omega
  rcases hx0 with hx0 | hx0
  · first | (subst hx0; exact absurd hB (by decide)) | (subst hx0; exact absurd hC (by decide)) | skip
    all_goals (subst hx0; try simp only [if_true] at sB sC)
    all_goals (simp [h0, h6, sA, jA, sB, jB, sC, jC, sD, jD, InK, i1, sD, stt, stf, sft, sff]; try (repeat' (first | apply And.intro | intro _hc)); all_goals (first | omega | (cases ae <;> cases ax <;> simp_all)))
  · try simp only [if_neg hx0] at sB sC
    simp [h0, h1, h6, hx0, sA, jA, sB, jB, sC, jC, sD, jD, InK, i1, sD, stt, stf, sft, sff]
    try (repeat' (first | apply And.intro | intro _hc))
    all_goals (first | omega | (cases ae <;> cases ax <;> simp_all))
def c_WBaabc : List SV → Option (List Prop × SV)
  | [.int .u32 va, .int .u32 x, .bool true, .int .i64 p] => some ([InK .u32 va, InK .u32 x, va < 1073741824 ∧ va % 4 = 0, x % 256 = 1 ∧ x / 256 < 64, ¬ (psS x).2.2.2.2 = 0, 0 ≤ p ∧ p < 64, InK .i64 p], .bool true)
  | _ => none
theorem c_WBaabc_e : PEntry Try.prog 10 c_WBaabc := by
  refine ⟨callFunc_ok Try.func10 (by kernel_rfl) (by kernel_rfl), fun args ps v h hp => ?_⟩
  unfold c_WBaabc at h
  split at h
  · cases h; exact WBaabc_ok _ _ _ (hp _ (List.mem_of_getElem? (i := 0) rfl)) (hp _ (List.mem_of_getElem? (i := 1) rfl)) (hp _ (List.mem_of_getElem? (i := 2) rfl)) (hp _ (List.mem_of_getElem? (i := 3) rfl)) (hp _ (List.mem_of_getElem? (i := 4) rfl)) (hp _ (List.mem_of_getElem? (i := 5) rfl)) (hp _ (List.mem_of_getElem? (i := 6) rfl))
  · cases h
theorem WBaabd_ok (va x p : Int) (h0 : InK .u32 va) (h1 : InK .u32 x) (h2 : va < 1073741824 ∧ va % 4 = 0) (h3 : x % 256 = 1 ∧ x / 256 < 64) (h4 : ¬ (psS x).2.2.2.2 = 0) (h5 : 0 ≤ p ∧ p < 64) (h6 : InK .i64 p) : PureSem Try.prog 10 [.int .u32 va, .int .u32 x, .bool false, .int .i64 p] (.bool true) := by
  refine pure_intro mixed (cx_wb_ok (fun d => bif Nat.beq d 38 || Nat.beq d 42 || Nat.beq d 54 || Nat.beq d 63 || Nat.beq d 66 || Nat.beq d 74 || Nat.beq d 90 || Nat.beq d 95 || Nat.beq d 99 || Nat.beq d 104 || Nat.beq d 107 || Nat.beq d 118 || Nat.beq d 131 || Nat.beq d 150 || Nat.beq d 157 || Nat.beq d 165 || Nat.beq d 178 || Nat.beq d 181 || Nat.beq d 190 || Nat.beq d 194 || Nat.beq d 198 || Nat.beq d 230 || Nat.beq d 233 || Nat.beq d 236 || Nat.beq d 240 || Nat.beq d 244 then some false else bif Nat.beq d 47 || Nat.beq d 57 || Nat.beq d 87 || Nat.beq d 153 || Nat.beq d 224 then some true else none) (fun _ => none)) Try.func10 1000 rfl rfl ?_
  refine of_nf (p := (0 ≤ va ∧ va < 4294967296) ∧ false = false ∧ ((joinS (splitS va).fst (splitS va).snd.fst (splitS va).snd.snd.fst).2 != 0) = false ∧ decide (va < 1073741824) = true ∧ 0 ≤ va ∧ (((splitS va).snd.snd.2 == 0) != (va % 4 == 0)) = false ∧ ((splitS va).snd.snd.2 == 0) = true ∧ ((joinS (splitS va).fst (splitS va).snd.fst (splitS va).snd.snd.fst).1 != va) = false ∧ ((splitS va).snd.snd.2 != 0) = false ∧ (0 ≤ x ∧ x < 4294967296) ∧ ((pfS x).2 == 0) = true ∧ ((firstS (pfS x).fst).2 != 0) = false ∧ ((firstS (pfS x).fst).1 != x) = false ∧ decide ((pfS x).1 < 0) = false ∧ decide (63 < (pfS x).1) = false ∧ ((pfS x).2 != 0) = false ∧ (0 ≤ x ∧ x < 4294967296) ∧ (-9223372036854775808 ≤ (psS x).snd.1 ∧ (psS x).snd.1 < 9223372036854775808) ∧ ((psS x).snd.snd.snd.2 == 0) = false ∧ ((psS x).snd.snd.snd.2 != 0) = true ∧ (!((psS x).1 == false && ((psS x).snd.1 == 0 && ((psS x).snd.snd.1 == false && ((psS x).snd.snd.snd.1 == false && true))))) = false ∧ (((psS x).snd.snd.snd.2 == 92) != (x == 0)) = false ∧ (0 ≤ (firstS p).1 ∧ (firstS p).1 < 4294967296) ∧ decide (p < 0) = false ∧ decide (63 < p) = false ∧ ((firstS p).2 != 0) = false ∧ ((pfS (firstS p).fst).2 != 0) = false ∧ ((pfS (firstS p).fst).1 != p) = false ∧ (-9223372036854775808 ≤ p ∧ p < 9223372036854775808) ∧ (0 ≤ (secS false p false false).1 ∧ (secS false p false false).1 < 4294967296) ∧ true = true ∧ ((secS false p false false).2 != 0) = false ∧ ((psS (secS false p false false).fst).snd.snd.snd.2 != 0) = false ∧ (!((psS (secS false p false false).fst).1 == false && ((psS (secS false p false false).fst).snd.1 == p && ((psS (secS false p false false).fst).snd.snd.1 == false && ((psS (secS false p false false).fst).snd.snd.snd.1 == false && true))))) = false ∧ (-9223372036854775808 ≤ p ∧ p < 9223372036854775808) ∧ (0 ≤ (secS false p true false).1 ∧ (secS false p true false).1 < 4294967296) ∧ true = true ∧ ((secS false p true false).2 != 0) = false ∧ ((psS (secS false p true false).fst).snd.snd.snd.2 != 0) = false ∧ (!((psS (secS false p true false).fst).1 == false && ((psS (secS false p true false).fst).snd.1 == p && ((psS (secS false p true false).fst).snd.snd.1 == true && ((psS (secS false p true false).fst).snd.snd.snd.1 == false && true))))) = false ∧ (-9223372036854775808 ≤ p ∧ p < 9223372036854775808) ∧ (0 ≤ (secS false p false true).1 ∧ (secS false p false true).1 < 4294967296) ∧ true = true ∧ ((secS false p false true).2 != 1) = false ∧ ((secS false p false true).1 != 0) = false ∧ (-9223372036854775808 ≤ p ∧ p < 9223372036854775808) ∧ (0 ≤ (secS false p true true).1 ∧ (secS false p true true).1 < 4294967296) ∧ true = true ∧ ((secS false p true true).2 != 1) = false ∧ ((secS false p true true).1 != 0) = false ∧ true = true) (by kernel_rfl) ?_
  have hA := h2
  have hB := h3
  have hC := h4
  have hD := h5
  have sA : splitS va = (va / 4194304, va / 4096 % 1024, va / 4 % 1024, 0) := by unfold splitS; rw [if_pos hA]
  have jA := join_split h0 hA
  have sB := (first_pf hB h1.1).1
  have jB := (first_pf hB h1.1).2
  have sC := psS_no hC
  have jC := sec0
  have kC := trivial
  have sD := first_in hD.1 hD.2
  have jD := pf_in hD.1 hD.2
  have stf := psS_secS (se := false) (wr := true) (ex := false) hD.1 hD.2 (by simp)
  have sff := psS_secS (se := false) (wr := false) (ex := false) hD.1 hD.2 (by simp)
  have stt := secS_no true hD.1 hD.2
  have sft := secS_no false hD.1 hD.2
  have i1 := InKpsS h1
  try simp only [sC] at i1
  simp only [InK] at h0 h1 h6
  try simp only [fl, if_true, if_false, Bool.false_eq_true, Int.add_zero] at sD
  try simp only [fl, if_true, if_false, Bool.false_eq_true, Int.add_zero] at stf
  try simp only [fl, if_true, if_false, Bool.false_eq_true, Int.add_zero] at sff
  try simp only [fl, if_true, if_false, Bool.false_eq_true, Int.add_zero] at stt
  try simp only [fl, if_true, if_false, Bool.false_eq_true, Int.add_zero] at sft
  try dsimp only
  have hx0 : x = 0 ∨ x ≠ 0 := by omega
  rcases hx0 with hx0 | hx0
  · first | (subst hx0; exact absurd hB (by decide)) | (subst hx0; exact absurd hC (by decide)) | skip
    all_goals (subst hx0; try simp only [if_true] at sB sC)
    all_goals (simp [h0, h6, sA, jA, sB, jB, sC, jC, sD, jD, InK, i1, sD, stf, sff, stt, sft]; try (repeat' (first | apply And.intro | intro _hc)); all_goals (first | omega | (cases ae <;> cases ax <;> simp_all)))
  · try simp only [if_neg hx0] at sB sC
    simp [h0, h1, h6, hx0, sA, jA, sB, jB, sC, jC, sD, jD, InK, i1, sD, stf, sff, stt, sft]
    try (repeat' (first | apply And.intro | intro _hc))
    all_goals (first | omega | (cases ae <;> cases ax <;> simp_all))
def c_WBaabd : List SV → Option (List Prop × SV)
  | [.int .u32 va, .int .u32 x, .bool false, .int .i64 p] => some ([InK .u32 va, InK .u32 x, va < 1073741824 ∧ va % 4 = 0, x % 256 = 1 ∧ x / 256 < 64, ¬ (psS x).2.2.2.2 = 0, 0 ≤ p ∧ p < 64, InK .i64 p], .bool true)
  | _ => none
theorem c_WBaabd_e : PEntry Try.prog 10 c_WBaabd := by
  refine ⟨callFunc_ok Try.func10 (by kernel_rfl) (by kernel_rfl), fun args ps v h hp => ?_⟩
  unfold c_WBaabd at h
  split at h
  · cases h; exact WBaabd_ok _ _ _ (hp _ (List.mem_of_getElem? (i := 0) rfl)) (hp _ (List.mem_of_getElem? (i := 1) rfl)) (hp _ (List.mem_of_getElem? (i := 2) rfl)) (hp _ (List.mem_of_getElem? (i := 3) rfl)) (hp _ (List.mem_of_getElem? (i := 4) rfl)) (hp _ (List.mem_of_getElem? (i := 5) rfl)) (hp _ (List.mem_of_getElem? (i := 6) rfl))
  · cases h
theorem WBabaa_ok (va x p : Int) (se : Bool) (h0 : InK .u32 va) (h1 : InK .u32 x) (h2 : va < 1073741824 ∧ va % 4 = 0) (h3 : ¬ (x % 256 = 1 ∧ x / 256 < 64)) (h4 : (psS x).2.2.2.2 = 0) (h5 : p < 0) (h6 : InK .i64 p) : PureSem Try.prog 10 [.int .u32 va, .int .u32 x, .bool se, .int .i64 p] (.bool true) := by
  refine pure_intro mixed (cx_wb_ok (fun d => bif Nat.beq d 38 || Nat.beq d 42 || Nat.beq d 54 || Nat.beq d 63 || Nat.beq d 66 || Nat.beq d 74 || Nat.beq d 87 || Nat.beq d 104 || Nat.beq d 110 || Nat.beq d 118 || Nat.beq d 134 || Nat.beq d 139 || Nat.beq d 150 || Nat.beq d 153 || Nat.beq d 165 then some false else bif Nat.beq d 47 || Nat.beq d 57 || Nat.beq d 107 || Nat.beq d 131 || Nat.beq d 178 || Nat.beq d 181 || Nat.beq d 184 then some true else none) (fun _ => none)) Try.func10 1000 rfl rfl ?_
  refine of_nf (p := (0 ≤ va ∧ va < 4294967296) ∧ false = false ∧ ((joinS (splitS va).fst (splitS va).snd.fst (splitS va).snd.snd.fst).2 != 0) = false ∧ decide (va < 1073741824) = true ∧ 0 ≤ va ∧ (((splitS va).snd.snd.2 == 0) != (va % 4 == 0)) = false ∧ ((splitS va).snd.snd.2 == 0) = true ∧ ((joinS (splitS va).fst (splitS va).snd.fst (splitS va).snd.snd.fst).1 != va) = false ∧ ((splitS va).snd.snd.2 != 0) = false ∧ (0 ≤ x ∧ x < 4294967296) ∧ ((pfS x).2 == 0) = false ∧ ((pfS x).2 != 0) = true ∧ ((pfS x).1 != 0) = false ∧ (((pfS x).2 == 92) != (x == 0)) = false ∧ (0 ≤ x ∧ x < 4294967296) ∧ (-9223372036854775808 ≤ (psS x).snd.1 ∧ (psS x).snd.1 < 9223372036854775808) ∧ ((psS x).snd.snd.snd.2 == 0) = true ∧ ((secS (psS x).fst (psS x).snd.fst (psS x).snd.snd.fst (psS x).snd.snd.snd.fst).2 != 0) = false ∧ ((secS (psS x).fst (psS x).snd.fst (psS x).snd.snd.fst (psS x).snd.snd.snd.fst).1 != x) = false ∧ ((psS x).snd.snd.snd.1 = true → (!(psS x).1) = false ∧ ((psS x).snd.snd.snd.2 != 0) = false ∧ (0 ≤ (firstS p).1 ∧ (firstS p).1 < 4294967296) ∧ decide (p < 0) = true ∧ ((firstS p).2 == 4) = true ∧ ((firstS p).1 == 0) = true) ∧ ((psS x).snd.snd.snd.1 = false → ((psS x).snd.snd.snd.2 != 0) = false ∧ (0 ≤ (firstS p).1 ∧ (firstS p).1 < 4294967296) ∧ decide (p < 0) = true ∧ ((firstS p).2 == 4) = true ∧ ((firstS p).1 == 0) = true)) (by kernel_rfl) ?_
  have hA := h2
  have hB := h3
  have hC := h4
  have hD := h5
  have sA : splitS va = (va / 4194304, va / 4096 % 1024, va / 4 % 1024, 0) := by unfold splitS; rw [if_pos hA]
  have jA := join_split h0 hA
  have sB := pf_no hB
  have jB := first0
  obtain ⟨ae, ap, aw, ax, sC, jC, kC⟩ := psS_yes hC
  have sD := first_out (.inl hD)
  have jD := pf0
  have i1 := InKpsS h1
  try simp only [sC] at i1
  simp only [InK] at h0 h1 h6
  try simp only [fl, if_true, if_false, Bool.false_eq_true, Int.add_zero] at sD
  try dsimp only
  have hx0 : x = 0 ∨ x ≠ 0 := by omega
  rcases hx0 with hx0 | hx0
  · first | (subst hx0; exact absurd hB (by decide)) | (subst hx0; exact absurd hC (by decide)) | skip
    all_goals (subst hx0; try simp only [if_true] at sB sC)
    all_goals (simp [h0, h6, sA, jA, sB, jB, sC, jC, sD, jD, InK, i1, sD]; try (repeat' (first | apply And.intro | intro _hc)); all_goals (first | omega | (cases ae <;> cases ax <;> simp_all)))
  · try simp only [if_neg hx0] at sB sC
    simp [h0, h1, h6, hx0, sA, jA, sB, jB, sC, jC, sD, jD, InK, i1, sD]
    try (repeat' (first | apply And.intro | intro _hc))
    all_goals (first | omega | (cases ae <;> cases ax <;> simp_all))
def c_WBabaa : List SV → Option (List Prop × SV)
  | [.int .u32 va, .int .u32 x, .bool se, .int .i64 p] => some ([InK .u32 va, InK .u32 x, va < 1073741824 ∧ va % 4 = 0, ¬ (x % 256 = 1 ∧ x / 256 < 64), (psS x).2.2.2.2 = 0, p < 0, InK .i64 p], .bool true)
  | _ => none
theorem c_WBabaa_e : PEntry Try.prog 10 c_WBabaa := by
  refine ⟨callFunc_ok Try.func10 (by kernel_rfl) (by kernel_rfl), fun args ps v h hp => ?_⟩
  unfold c_WBabaa at h
  split at h
  · cases h; exact WBabaa_ok _ _ _ _ (hp _ (List.mem_of_getElem? (i := 0) rfl)) (hp _ (List.mem_of_getElem? (i := 1) rfl)) (hp _ (List.mem_of_getElem? (i := 2) rfl)) (hp _ (List.mem_of_getElem? (i := 3) rfl)) (hp _ (List.mem_of_getElem? (i := 4) rfl)) (hp _ (List.mem_of_getElem? (i := 5) rfl)) (hp _ (List.mem_of_getElem? (i := 6) rfl))
  · cases h
theorem WBabab_ok (va x p : Int) (se : Bool) (h0 : InK .u32 va) (h1 : InK .u32 x) (h2 : va < 1073741824 ∧ va % 4 = 0) (h3 : ¬ (x % 256 = 1 ∧ x / 256 < 64)) (h4 : (psS x).2.2.2.2 = 0) (h5 : 64 ≤ p) (h6 : InK .i64 p) : PureSem Try.prog 10 [.int .u32 va, .int .u32 x, .bool se, .int .i64 p] (.bool true) := by
  refine pure_intro mixed (cx_wb_ok (fun d => bif Nat.beq d 38 || Nat.beq d 42 || Nat.beq d 54 || Nat.beq d 63 || Nat.beq d 66 || Nat.beq d 74 || Nat.beq d 87 || Nat.beq d 104 || Nat.beq d 110 || Nat.beq d 118 || Nat.beq d 134 || Nat.beq d 139 || Nat.beq d 150 || Nat.beq d 153 || Nat.beq d 165 || Nat.beq d 178 then some false else bif Nat.beq d 47 || Nat.beq d 57 || Nat.beq d 107 || Nat.beq d 131 || Nat.beq d 181 || Nat.beq d 184 then some true else none) (fun _ => none)) Try.func10 1000 rfl rfl ?_
  refine of_nf (p := (0 ≤ va ∧ va < 4294967296) ∧ false = false ∧ ((joinS (splitS va).fst (splitS va).snd.fst (splitS va).snd.snd.fst).2 != 0) = false ∧ decide (va < 1073741824) = true ∧ 0 ≤ va ∧ (((splitS va).snd.snd.2 == 0) != (va % 4 == 0)) = false ∧ ((splitS va).snd.snd.2 == 0) = true ∧ ((joinS (splitS va).fst (splitS va).snd.fst (splitS va).snd.snd.fst).1 != va) = false ∧ ((splitS va).snd.snd.2 != 0) = false ∧ (0 ≤ x ∧ x < 4294967296) ∧ ((pfS x).2 == 0) = false ∧ ((pfS x).2 != 0) = true ∧ ((pfS x).1 != 0) = false ∧ (((pfS x).2 == 92) != (x == 0)) = false ∧ (0 ≤ x ∧ x < 4294967296) ∧ (-9223372036854775808 ≤ (psS x).snd.1 ∧ (psS x).snd.1 < 9223372036854775808) ∧ ((psS x).snd.snd.snd.2 == 0) = true ∧ ((secS (psS x).fst (psS x).snd.fst (psS x).snd.snd.fst (psS x).snd.snd.snd.fst).2 != 0) = false ∧ ((secS (psS x).fst (psS x).snd.fst (psS x).snd.snd.fst (psS x).snd.snd.snd.fst).1 != x) = false ∧ ((psS x).snd.snd.snd.1 = true → (!(psS x).1) = false ∧ ((psS x).snd.snd.snd.2 != 0) = false ∧ (0 ≤ (firstS p).1 ∧ (firstS p).1 < 4294967296) ∧ decide (p < 0) = false ∧ decide (63 < p) = true ∧ ((firstS p).2 == 4) = true ∧ ((firstS p).1 == 0) = true) ∧ ((psS x).snd.snd.snd.1 = false → ((psS x).snd.snd.snd.2 != 0) = false ∧ (0 ≤ (firstS p).1 ∧ (firstS p).1 < 4294967296) ∧ decide (p < 0) = false ∧ decide (63 < p) = true ∧ ((firstS p).2 == 4) = true ∧ ((firstS p).1 == 0) = true)) (by kernel_rfl) ?_
  have hA := h2
  have hB := h3
  have hC := h4
  have hD := h5
  have sA : splitS va = (va / 4194304, va / 4096 % 1024, va / 4 % 1024, 0) := by unfold splitS; rw [if_pos hA]
  have jA := join_split h0 hA
  have sB := pf_no hB
  have jB := first0
  obtain ⟨ae, ap, aw, ax, sC, jC, kC⟩ := psS_yes hC
  have sD := first_out (.inr hD)
  have jD := pf0
  have i1 := InKpsS h1
  try simp only [sC] at i1
  simp only [InK] at h0 h1 h6
  try simp only [fl, if_true, if_false, Bool.false_eq_true, Int.add_zero] at sD
  try dsimp only
  have hx0 : x = 0 ∨ x ≠ 0 := by omega
  rcases hx0 with hx0 | hx0
  · first | (subst hx0; exact absurd hB (by decide)) | (subst hx0; exact absurd hC (by decide)) | skip
    all_goals (subst hx0; try simp only [if_true] at sB sC)
    all_goals (simp [h0, h6, sA, jA, sB, jB, sC, jC, sD, jD, InK, i1, sD]; try (repeat' (first | apply And.intro | intro _hc)); all_goals (first | omega | (cases ae <;> cases ax <;> simp_all)))
  · try simp only [if_neg hx0] at sB sC
    simp [h0, h1, h6, hx0, sA, jA, sB, jB, sC, jC, sD, jD, InK, i1, sD]
    try (repeat' (first | apply And.intro | intro _hc))
    all_goals (first | omega | (cases ae <;> cases ax <;> simp_all))
def c_WBabab : List SV → Option (List Prop × SV)
  | [.int .u32 va, .int .u32 x, .bool se, .int .i64 p] => some ([InK .u32 va, InK .u32 x, va < 1073741824 ∧ va % 4 = 0, ¬ (x % 256 = 1 ∧ x / 256 < 64), (psS x).2.2.2.2 = 0, 64 ≤ p, InK .i64 p], .bool true)
  | _ => none
theorem c_WBabab_e : PEntry Try.prog 10 c_WBabab := by
  refine ⟨callFunc_ok Try.func10 (by kernel_rfl) (by kernel_rfl), fun args ps v h hp => ?_⟩
  unfold c_WBabab at h
  split at h
  · cases h; exact WBabab_ok _ _ _ _ (hp _ (List.mem_of_getElem? (i := 0) rfl)) (hp _ (List.mem_of_getElem? (i := 1) rfl)) (hp _ (List.mem_of_getElem? (i := 2) rfl)) (hp _ (List.mem_of_getElem? (i := 3) rfl)) (hp _ (List.mem_of_getElem? (i := 4) rfl)) (hp _ (List.mem_of_getElem? (i := 5) rfl)) (hp _ (List.mem_of_getElem? (i := 6) rfl))
  · cases h
theorem WBabac_ok (va x p : Int) (h0 : InK .u32 va) (h1 : InK .u32 x) (h2 : va < 1073741824 ∧ va % 4 = 0) (h3 : ¬ (x % 256 = 1 ∧ x / 256 < 64)) (h4 : (psS x).2.2.2.2 = 0) (h5 : 0 ≤ p ∧ p < 64) (h6 : InK .i64 p) : PureSem Try.prog 10 [.int .u32 va, .int .u32 x, .bool true, .int .i64 p] (.bool true) := by
  refine pure_intro mixed (cx_wb_ok (fun d => bif Nat.beq d 38 || Nat.beq d 42 || Nat.beq d 54 || Nat.beq d 63 || Nat.beq d 66 || Nat.beq d 74 || Nat.beq d 87 || Nat.beq d 104 || Nat.beq d 110 || Nat.beq d 118 || Nat.beq d 134 || Nat.beq d 139 || Nat.beq d 150 || Nat.beq d 153 || Nat.beq d 165 || Nat.beq d 178 || Nat.beq d 181 || Nat.beq d 190 || Nat.beq d 194 || Nat.beq d 198 || Nat.beq d 224 || Nat.beq d 227 || Nat.beq d 236 || Nat.beq d 240 || Nat.beq d 244 then some false else bif Nat.beq d 47 || Nat.beq d 57 || Nat.beq d 107 || Nat.beq d 131 then some true else none) (fun _ => none)) Try.func10 1000 rfl rfl ?_
  refine of_nf (p := (0 ≤ va ∧ va < 4294967296) ∧ false = false ∧ ((joinS (splitS va).fst (splitS va).snd.fst (splitS va).snd.snd.fst).2 != 0) = false ∧ decide (va < 1073741824) = true ∧ 0 ≤ va ∧ (((splitS va).snd.snd.2 == 0) != (va % 4 == 0)) = false ∧ ((splitS va).snd.snd.2 == 0) = true ∧ ((joinS (splitS va).fst (splitS va).snd.fst (splitS va).snd.snd.fst).1 != va) = false ∧ ((splitS va).snd.snd.2 != 0) = false ∧ (0 ≤ x ∧ x < 4294967296) ∧ ((pfS x).2 == 0) = false ∧ ((pfS x).2 != 0) = true ∧ ((pfS x).1 != 0) = false ∧ (((pfS x).2 == 92) != (x == 0)) = false ∧ (0 ≤ x ∧ x < 4294967296) ∧ (-9223372036854775808 ≤ (psS x).snd.1 ∧ (psS x).snd.1 < 9223372036854775808) ∧ ((psS x).snd.snd.snd.2 == 0) = true ∧ ((secS (psS x).fst (psS x).snd.fst (psS x).snd.snd.fst (psS x).snd.snd.snd.fst).2 != 0) = false ∧ ((secS (psS x).fst (psS x).snd.fst (psS x).snd.snd.fst (psS x).snd.snd.snd.fst).1 != x) = false ∧ ((psS x).snd.snd.snd.1 = true → (!(psS x).1) = false ∧ ((psS x).snd.snd.snd.2 != 0) = false ∧ (0 ≤ (firstS p).1 ∧ (firstS p).1 < 4294967296) ∧ decide (p < 0) = false ∧ decide (63 < p) = false ∧ ((firstS p).2 != 0) = false ∧ ((pfS (firstS p).fst).2 != 0) = false ∧ ((pfS (firstS p).fst).1 != p) = false ∧ (-9223372036854775808 ≤ p ∧ p < 9223372036854775808) ∧ (0 ≤ (secS true p false false).1 ∧ (secS true p false false).1 < 4294967296) ∧ false = false ∧ ((secS true p false false).2 != 0) = false ∧ ((psS (secS true p false false).fst).snd.snd.snd.2 != 0) = false ∧ (!((psS (secS true p false false).fst).1 == true && ((psS (secS true p false false).fst).snd.1 == p && ((psS (secS true p false false).fst).snd.snd.1 == false && ((psS (secS true p false false).fst).snd.snd.snd.1 == false && true))))) = false ∧ (-9223372036854775808 ≤ p ∧ p < 9223372036854775808) ∧ (0 ≤ (secS true p true false).1 ∧ (secS true p true false).1 < 4294967296) ∧ false = false ∧ ((secS true p true false).2 != 0) = false ∧ ((psS (secS true p true false).fst).snd.snd.snd.2 != 0) = false ∧ (!((psS (secS true p true false).fst).1 == true && ((psS (secS true p true false).fst).snd.1 == p && ((psS (secS true p true false).fst).snd.snd.1 == true && ((psS (secS true p true false).fst).snd.snd.snd.1 == false && true))))) = false ∧ (-9223372036854775808 ≤ p ∧ p < 9223372036854775808) ∧ (0 ≤ (secS true p false true).1 ∧ (secS true p false true).1 < 4294967296) ∧ false = false ∧ ((secS true p false true).2 != 0) = false ∧ ((psS (secS true p false true).fst).snd.snd.snd.2 != 0) = false ∧ (!((psS (secS true p false true).fst).1 == true && ((psS (secS true p false true).fst).snd.1 == p && ((psS (secS true p false true).fst).snd.snd.1 == false && ((psS (secS true p false true).fst).snd.snd.snd.1 == true && true))))) = false ∧ (-9223372036854775808 ≤ p ∧ p < 9223372036854775808) ∧ (0 ≤ (secS true p true true).1 ∧ (secS true p true true).1 < 4294967296) ∧ false = false ∧ ((secS true p true true).2 != 0) = false ∧ ((psS (secS true p true true).fst).snd.snd.snd.2 != 0) = false ∧ (!((psS (secS true p true true).fst).1 == true && ((psS (secS true p true true).fst).snd.1 == p && ((psS (secS true p true true).fst).snd.snd.1 == true && ((psS (secS true p true true).fst).snd.snd.snd.1 == true && true))))) = false ∧ true = true) ∧ ((psS x).snd.snd.snd.1 = false → ((psS x).snd.snd.snd.2 != 0) = false ∧ (0 ≤ (firstS p).1 ∧ (firstS p).1 < 4294967296) ∧ decide (p < 0) = false ∧ decide (63 < p) = false ∧ ((firstS p).2 != 0) = false ∧ ((pfS (firstS p).fst).2 != 0) = false ∧ ((pfS (firstS p).fst).1 != p) = false ∧ (-9223372036854775808 ≤ p ∧ p < 9223372036854775808) ∧ (0 ≤ (secS true p false false).1 ∧ (secS true p false false).1 < 4294967296) ∧ false = false ∧ ((secS true p false false).2 != 0) = false ∧ ((psS (secS true p false false).fst).snd.snd.snd.2 != 0) = false ∧ (!((psS (secS true p false false).fst).1 == true && ((psS (secS true p false false).fst).snd.1 == p && ((psS (secS true p false false).fst).snd.snd.1 == false && ((psS (secS true p false false).fst).snd.snd.snd.1 == false && true))))) = false ∧ (-9223372036854775808 ≤ p ∧ p < 9223372036854775808) ∧ (0 ≤ (secS true p true false).1 ∧ (secS true p true false).1 < 4294967296) ∧ false = false ∧ ((secS true p true false).2 != 0) = false ∧ ((psS (secS true p true false).fst).snd.snd.snd.2 != 0) = false ∧ (!((psS (secS true p true false).fst).1 == true && ((psS (secS true p true false).fst).snd.1 == p && ((psS (secS true p true false).fst).snd.snd.1 == true && ((psS (secS true p true false).fst).snd.snd.snd.1 == false && true))))) = false ∧ (-9223372036854775808 ≤ p ∧ p < 9223372036854775808) ∧ (0 ≤ (secS true p false true).1 ∧ (secS true p false true).1 < 4294967296) ∧ false = false ∧ ((secS true p false true).2 != 0) = false ∧ ((psS (secS true p false true).fst).snd.snd.snd.2 != 0) = false ∧ (!((psS (secS true p false true).fst).1 == true && ((psS (secS true p false true).fst).snd.1 == p && ((psS (secS true p false true).fst).snd.snd.1 == false && ((psS (secS true p false true).fst).snd.snd.snd.1 == true && true))))) = false ∧ (-9223372036854775808 ≤ p ∧ p < 9223372036854775808) ∧ (0 ≤ (secS true p true true).1 ∧ (secS true p true true).1 < 4294967296) ∧ false = false ∧ ((secS true p true true).2 != 0) = false ∧ ((psS (secS true p true true).fst).snd.snd.snd.2 != 0) = false ∧ (!((psS (secS true p true true).fst).1 == true && ((psS (secS true p true true).fst).snd.1 == p && ((psS (secS true p true true).fst).snd.snd.1 == true && ((psS (secS true p true true).fst).snd.snd.snd.1 == true && true))))) = false ∧ true = true)) (by kernel_rfl) ?_
  have hA := h2
  have hB := h3
  have hC := h4
  have hD := h5
  have sA : splitS va = (va / 4194304, va / 4096 % 1024, va / 4 % 1024, 0) := by unfold splitS; rw [if_pos hA]
  have jA := join_split h0 hA
  have sB := pf_no hB
  have jB := first0
  obtain ⟨ae, ap, aw, ax, sC, jC, kC⟩ := psS_yes hC
  have sD := first_in hD.1 hD.2
  have jD := pf_in hD.1 hD.2
  have stt := psS_secS (se := true) (wr := true) (ex := true) hD.1 hD.2 (by simp)
  have stf := psS_secS (se := true) (wr := true) (ex := false) hD.1 hD.2 (by simp)
  have sft := psS_secS (se := true) (wr := false) (ex := true) hD.1 hD.2 (by simp)
  have sff := psS_secS (se := true) (wr := false) (ex := false) hD.1 hD.2 (by simp)
  have i1 := InKpsS h1
  try simp only [sC] at i1
  simp only [InK] at h0 h1 h6
  try simp only [fl, if_true, if_false, Bool.false_eq_true, Int.add_zero] at sD
  try simp only [fl, if_true, if_false, Bool.false_eq_true, Int.add_zero] at stt
  try simp only [fl, if_true, if_false, Bool.false_eq_true, Int.add_zero] at stf
  try simp only [fl, if_true, if_false, Bool.false_eq_true, Int.add_zero] at sft
  try simp only [fl, if_true, if_false, Bool.false_eq_true, Int.add_zero] at sff
  try dsimp only
  have hx0 : x = 0 ∨ x ≠ 0 := by omega
  rcases hx0 with hx0 | hx0
  · first | (subst hx0; exact absurd hB (by decide)) | (subst hx0; exact absurd hC (by decide)) | skip
    all_goals (subst hx0; try simp only [if_true] at sB sC)
    all_goals (simp [h0, h6, sA, jA, sB, jB, sC, jC, sD, jD, InK, i1, sD, stt, stf, sft, sff]; try (repeat' (first | apply And.intro | intro _hc)); all_goals (first | omega | (cases ae <;> cases ax <;> simp_all)))
  · try simp only [if_neg hx0] at sB sC
    simp [h0, h1, h6, hx0, sA, jA, sB, jB, sC, jC, sD, jD, InK, i1, sD, stt, stf, sft, sff]
    try (repeat' (first | apply And.intro | intro _hc))
    all_goals (first | omega | (cases ae <;> cases ax <;> simp_all))
def c_WBabac : List SV → Option (List Prop × SV)
  | [.int .u32 va, .int .u32 x, .bool true, .int .i64 p] => some ([InK .u32 va, InK .u32 x, va < 1073741824 ∧ va % 4 = 0, ¬ (x % 256 = 1 ∧ x / 256 < 64), (psS x).2.2.2.2 = 0, 0 ≤ p ∧ p < 64, InK .i64 p], .bool true)
  | _ => none
theorem c_WBabac_e : PEntry Try.prog 10 c_WBabac := by
  refine ⟨callFunc_ok Try.func10 (by kernel_rfl) (by kernel_rfl), fun args ps v h hp => ?_⟩
  unfold c_WBabac at h
  split at h
  · cases h; exact WBabac_ok _ _ _ (hp _ (List.mem_of_getElem? (i := 0) rfl)) (hp _ (List.mem_of_getElem? (i := 1) rfl)) (hp _ (List.mem_of_getElem? (i := 2) rfl)) (hp _ (List.mem_of_getElem? (i := 3) rfl)) (hp _ (List.mem_of_getElem? (i := 4) rfl)) (hp _ (List.mem_of_getElem? (i := 5) rfl)) (hp _ (List.mem_of_getElem? (i := 6) rfl))
  · cases h
theorem WBabad_ok (va x p : Int) (h0 : InK .u32 va) (h1 : InK .u32 x) (h2 : va < 1073741824 ∧ va % 4 = 0) (h3 : ¬ (x % 256 = 1 ∧ x / 256 < 64)) (h4 : (psS x).2.2.2.2 = 0) (h5 : 0 ≤ p ∧ p < 64) (h6 : InK .i64 p) : PureSem Try.prog 10 [.int .u32 va, .int .u32 x, .bool false, .int .i64 p] (.bool true) := by
  refine pure_intro mixed (cx_wb_ok (fun d => bif Nat.beq d 38 || Nat.beq d 42 || Nat.beq d 54 || Nat.beq d 63 || Nat.beq d 66 || Nat.beq d 74 || Nat.beq d 87 || Nat.beq d 104 || Nat.beq d 110 || Nat.beq d 118 || Nat.beq d 134 || Nat.beq d 139 || Nat.beq d 150 || Nat.beq d 153 || Nat.beq d 165 || Nat.beq d 178 || Nat.beq d 181 || Nat.beq d 190 || Nat.beq d 194 || Nat.beq d 198 || Nat.beq d 230 || Nat.beq d 233 || Nat.beq d 236 || Nat.beq d 240 || Nat.beq d 244 then some false else bif Nat.beq d 47 || Nat.beq d 57 || Nat.beq d 107 || Nat.beq d 131 || Nat.beq d 224 then some true else none) (fun _ => none)) Try.func10 1000 rfl rfl ?_
  refine of_nf (p := (0 ≤ va ∧ va < 4294967296) ∧ false = false ∧ ((joinS (splitS va).fst (splitS va).snd.fst (splitS va).snd.snd.fst).2 != 0) = false ∧ decide (va < 1073741824) = true ∧ 0 ≤ va ∧ (((splitS va).snd.snd.2 == 0) != (va % 4 == 0)) = false ∧ ((splitS va).snd.snd.2 == 0) = true ∧ ((joinS (splitS va).fst (splitS va).snd.fst (splitS va).snd.snd.fst).1 != va) = false ∧ ((splitS va).snd.snd.2 != 0) = false ∧ (0 ≤ x ∧ x < 4294967296) ∧ ((pfS x).2 == 0) = false ∧ ((pfS x).2 != 0) = true ∧ ((pfS x).1 != 0) = false ∧ (((pfS x).2 == 92) != (x == 0)) = false ∧ (0 ≤ x ∧ x < 4294967296) ∧ (-9223372036854775808 ≤ (psS x).snd.1 ∧ (psS x).snd.1 < 9223372036854775808) ∧ ((psS x).snd.snd.snd.2 == 0) = true ∧ ((secS (psS x).fst (psS x).snd.fst (psS x).snd.snd.fst (psS x).snd.snd.snd.fst).2 != 0) = false ∧ ((secS (psS x).fst (psS x).snd.fst (psS x).snd.snd.fst (psS x).snd.snd.snd.fst).1 != x) = false ∧ ((psS x).snd.snd.snd.1 = true → (!(psS x).1) = false ∧ ((psS x).snd.snd.snd.2 != 0) = false ∧ (0 ≤ (firstS p).1 ∧ (firstS p).1 < 4294967296) ∧ decide (p < 0) = false ∧ decide (63 < p) = false ∧ ((firstS p).2 != 0) = false ∧ ((pfS (firstS p).fst).2 != 0) = false ∧ ((pfS (firstS p).fst).1 != p) = false ∧ (-9223372036854775808 ≤ p ∧ p < 9223372036854775808) ∧ (0 ≤ (secS false p false false).1 ∧ (secS false p false false).1 < 4294967296) ∧ true = true ∧ ((secS false p false false).2 != 0) = false ∧ ((psS (secS false p false false).fst).snd.snd.snd.2 != 0) = false ∧ (!((psS (secS false p false false).fst).1 == false && ((psS (secS false p false false).fst).snd.1 == p && ((psS (secS false p false false).fst).snd.snd.1 == false && ((psS (secS false p false false).fst).snd.snd.snd.1 == false && true))))) = false ∧ (-9223372036854775808 ≤ p ∧ p < 9223372036854775808) ∧ (0 ≤ (secS false p true false).1 ∧ (secS false p true false).1 < 4294967296) ∧ true = true ∧ ((secS false p true false).2 != 0) = false ∧ ((psS (secS false p true false).fst).snd.snd.snd.2 != 0) = false ∧ (!((psS (secS false p true false).fst).1 == false && ((psS (secS false p true false).fst).snd.1 == p && ((psS (secS false p true false).fst).snd.snd.1 == true && ((psS (secS false p true false).fst).snd.snd.snd.1 == false && true))))) = false ∧ (-9223372036854775808 ≤ p ∧ p < 9223372036854775808) ∧ (0 ≤ (secS false p false true).1 ∧ (secS false p false true).1 < 4294967296) ∧ true = true ∧ ((secS false p false true).2 != 1) = false ∧ ((secS false p false true).1 != 0) = false ∧ (-9223372036854775808 ≤ p ∧ p < 9223372036854775808) ∧ (0 ≤ (secS false p true true).1 ∧ (secS false p true true).1 < 4294967296) ∧ true = true ∧ ((secS false p true true).2 != 1) = false ∧ ((secS false p true true).1 != 0) = false ∧ true = true) ∧ ((psS x).snd.snd.snd.1 = false → ((psS x).snd.snd.snd.2 != 0) = false ∧ (0 ≤ (firstS p).1 ∧ (firstS p).1 < 4294967296) ∧ decide (p < 0) = false ∧ decide (63 < p) = false ∧ ((firstS p).2 != 0) = false ∧ ((pfS (firstS p).fst).2 != 0) = false ∧ ((pfS (firstS p).fst).1 != p) = false ∧ (-9223372036854775808 ≤ p ∧ p < 9223372036854775808) ∧ (0 ≤ (secS false p false false).1 ∧ (secS false p false false).1 < 4294967296) ∧ true = true ∧ ((secS false p false false).2 != 0) = false ∧ ((psS (secS false p false false).fst).snd.snd.snd.2 != 0) = false ∧ (!((psS (secS false p false false).fst).1 == false && ((psS (secS false p false false).fst).snd.1 == p && ((psS (secS false p false false).fst).snd.snd.1 == false && ((psS (secS false p false false).fst).snd.snd.snd.1 == false && true))))) = false ∧ (-9223372036854775808 ≤ p ∧ p < 9223372036854775808) ∧ (0 ≤ (secS false p true false).1 ∧ (secS false p true false).1 < 4294967296) ∧ true = true ∧ ((secS false p true false).2 != 0) = false ∧ ((psS (secS false p true false).fst).snd.snd.snd.2 != 0) = false ∧ (!((psS (secS false p true false).fst).1 == false && ((psS (secS false p true false).fst).snd.1 == p && ((psS (secS false p true false).fst).snd.snd.1 == true && ((psS (secS false p true false).fst).snd.snd.snd.1 == false && true))))) = false ∧ (-9223372036854775808 ≤ p ∧ p < 9223372036854775808) ∧ (0 ≤ (secS false p false true).1 ∧ (secS false p false true).1 < 4294967296) ∧ true = true ∧ ((secS false p false true).2 != 1) = false ∧ ((secS false p false true).1 != 0) = false ∧ (-9223372036854775808 ≤ p ∧ p < 9223372036854775808) ∧ (0 ≤ (secS false p true true).1 ∧ (secS false p true true).1 < 4294967296) ∧ true = true ∧ ((secS false p true true).2 != 1) = false ∧ ((secS false p true true).1 != 0) = false ∧ true = true)) (by kernel_rfl) ?_
  have hA := h2
  have hB := h3
  have hC := h4
  have hD := h5
  have sA : splitS va = (va / 4194304, va / 4096 % 1024, va / 4 % 1024, 0) := by unfold splitS; rw [if_pos hA]
  have jA := join_split h0 hA
  have sB := pf_no hB
  have jB := first0
  obtain ⟨ae, ap, aw, ax, sC, jC, kC⟩ := psS_yes hC
  have sD := first_in hD.1 hD.2
  have jD := pf_in hD.1 hD.2
  have stf := psS_secS (se := false) (wr := true) (ex := false) hD.1 hD.2 (by simp)
  have sff := psS_secS (se := false) (wr := false) (ex := false) hD.1 hD.2 (by simp)
  have stt := secS_no true hD.1 hD.2
  have sft := secS_no false hD.1 hD.2
  have i1 := InKpsS h1
  try simp only [sC] at i1
  simp only [InK] at h0 h1 h6
  try simp only [fl, if_true, if_false, Bool.false_eq_true, Int.add_zero] at sD
  try simp only [fl, if_true, if_false, Bool.false_eq_true, Int.add_zero] at stf
  try simp only [fl, if_true, if_false, Bool.false_eq_true, Int.add_zero] at sff
  try simp only [fl, if_true, if_false, Bool.false_eq_true, Int.add_zero] at stt
  try simp only [fl, if_true, if_false, Bool.false_eq_true, Int.add_zero] at sft
  try dsimp only
  have hx0 : x = 0 ∨ x ≠ 0 := by omega
  rcases hx0 with hx0 | hx0
  · first | (subst hx0; exact absurd hB (by decide)) | (subst hx0; exact absurd hC (by decide)) | skip
    all_goals (subst hx0; try simp only [if_true] at sB sC)
    all_goals (simp [h0, h6, sA, jA, sB, jB, sC, jC, sD, jD, InK, i1, sD, stf, sff, stt, sft]; try (repeat' (first | apply And.intro | intro _hc)); all_goals (first | omega | (cases ae <;> cases ax <;> simp_all)))
  · try simp only [if_neg hx0] at sB sC
    simp [h0, h1, h6, hx0, sA, jA, sB, jB, sC, jC, sD, jD, InK, i1, sD, stf, sff, stt, sft]
    try (repeat' (first | apply And.intro | intro _hc))
    all_goals (first | omega | (cases ae <;> cases ax <;> simp_all))
def c_WBabad : List SV → Option (List Prop × SV)
  | [.int .u32 va, .int .u32 x, .bool false, .int .i64 p] => some ([InK .u32 va, InK .u32 x, va < 1073741824 ∧ va % 4 = 0, ¬ (x % 256 = 1 ∧ x / 256 < 64), (psS x).2.2.2.2 = 0, 0 ≤ p ∧ p < 64, InK .i64 p], .bool true)
  | _ => none
theorem c_WBabad_e : PEntry Try.prog 10 c_WBabad := by
  refine ⟨callFunc_ok Try.func10 (by kernel_rfl) (by kernel_rfl), fun args ps v h hp => ?_⟩
  unfold c_WBabad at h
  split at h
  · cases h; exact WBabad_ok _ _ _ (hp _ (List.mem_of_getElem? (i := 0) rfl)) (hp _ (List.mem_of_getElem? (i := 1) rfl)) (hp _ (List.mem_of_getElem? (i := 2) rfl)) (hp _ (List.mem_of_getElem? (i := 3) rfl)) (hp _ (List.mem_of_getElem? (i := 4) rfl)) (hp _ (List.mem_of_getElem? (i := 5) rfl)) (hp _ (List.mem_of_getElem? (i := 6) rfl))
  · cases h
theorem WBabba_ok (va x p : Int) (se : Bool) (h0 : InK .u32 va) (h1 : InK .u32 x) (h2 : va < 1073741824 ∧ va % 4 = 0) (h3 : ¬ (x % 256 = 1 ∧ x / 256 < 64)) (h4 : ¬ (psS x).2.2.2.2 = 0) (h5 : p < 0) (h6 : InK .i64 p) : PureSem Try.prog 10 [.int .u32 va, .int .u32 x, .bool se, .int .i64 p] (.bool true) := by
  refine pure_intro mixed (cx_wb_ok (fun d => bif Nat.beq d 38 || Nat.beq d 42 || Nat.beq d 54 || Nat.beq d 63 || Nat.beq d 66 || Nat.beq d 74 || Nat.beq d 87 || Nat.beq d 104 || Nat.beq d 110 || Nat.beq d 118 || Nat.beq d 131 || Nat.beq d 150 || Nat.beq d 157 || Nat.beq d 165 then some false else bif Nat.beq d 47 || Nat.beq d 57 || Nat.beq d 107 || Nat.beq d 153 || Nat.beq d 178 || Nat.beq d 181 || Nat.beq d 184 then some true else none) (fun _ => none)) Try.func10 1000 rfl rfl ?_
  refine of_nf (p := (0 ≤ va ∧ va < 4294967296) ∧ false = false ∧ ((joinS (splitS va).fst (splitS va).snd.fst (splitS va).snd.snd.fst).2 != 0) = false ∧ decide (va < 1073741824) = true ∧ 0 ≤ va ∧ (((splitS va).snd.snd.2 == 0) != (va % 4 == 0)) = false ∧ ((splitS va).snd.snd.2 == 0) = true ∧ ((joinS (splitS va).fst (splitS va).snd.fst (splitS va).snd.snd.fst).1 != va) = false ∧ ((splitS va).snd.snd.2 != 0) = false ∧ (0 ≤ x ∧ x < 4294967296) ∧ ((pfS x).2 == 0) = false ∧ ((pfS x).2 != 0) = true ∧ ((pfS x).1 != 0) = false ∧ (((pfS x).2 == 92) != (x == 0)) = false ∧ (0 ≤ x ∧ x < 4294967296) ∧ (-9223372036854775808 ≤ (psS x).snd.1 ∧ (psS x).snd.1 < 9223372036854775808) ∧ ((psS x).snd.snd.snd.2 == 0) = false ∧ ((psS x).snd.snd.snd.2 != 0) = true ∧ (!((psS x).1 == false && ((psS x).snd.1 == 0 && ((psS x).snd.snd.1 == false && ((psS x).snd.snd.snd.1 == false && true))))) = false ∧ (((psS x).snd.snd.snd.2 == 92) != (x == 0)) = false ∧ (0 ≤ (firstS p).1 ∧ (firstS p).1 < 4294967296) ∧ decide (p < 0) = true ∧ ((firstS p).2 == 4) = true ∧ ((firstS p).1 == 0) = true) (by kernel_rfl) ?_
  have hA := h2
  have hB := h3
  have hC := h4
  have hD := h5
  have sA : splitS va = (va / 4194304, va / 4096 % 1024, va / 4 % 1024, 0) := by unfold splitS; rw [if_pos hA]
  have jA := join_split h0 hA
  have sB := pf_no hB
  have jB := first0
  have sC := psS_no hC
  have jC := sec0
  have kC := trivial
  have sD := first_out (.inl hD)
  have jD := pf0
  have i1 := InKpsS h1
  try simp only [sC] at i1
  simp only [InK] at h0 h1 h6
  try simp only [fl, if_true, if_false, Bool.false_eq_true, Int.add_zero] at sD
  try dsimp only
  have hx0 : x = 0 ∨ x ≠ 0 := by omega
  rcases hx0 with hx0 | hx0
  · first | (subst hx0; exact absurd hB (by decide)) | (subst hx0; exact absurd hC (by decide)) | skip
    all_goals (subst hx0; try simp only [if_true] at sB sC)
    all_goals (simp [h0, h6, sA, jA, sB, jB, sC, jC, sD, jD, InK, i1, sD]; try (repeat' (first | apply And.intro | intro _hc)); all_goals (first | omega | (cases ae <;> cases ax <;> simp_all)))
  · try simp only [if_neg hx0] at sB sC
    simp [h0, h1, h6, hx0, sA, jA, sB, jB, sC, jC, sD, jD, InK, i1, sD]
    try (repeat' (first | apply And.intro | intro _hc))
    all_goals (first | omega | (cases ae <;> cases ax <;> simp_all))
def c_WBabba : List SV → Option (List Prop × SV)
  | [.int .u32 va, .int .u32 x, .bool se, .int .i64 p] => some ([InK .u32 va, InK .u32 x, va < 1073741824 ∧ va % 4 = 0, ¬ (x % 256 = 1 ∧ x / 256 < 64), ¬ (psS x).2.2.2.2 = 0, p < 0, InK .i64 p], .bool true)
  | _ => none
theorem c_WBabba_e : PEntry Try.prog 10 c_WBabba := by
  refine ⟨callFunc_ok Try.func10 (by kernel_rfl) (by kernel_rfl), fun args ps v h hp => ?_⟩
  unfold c_WBabba at h
  split at h
  · cases h; exact WBabba_ok _ _ _ _ (hp _ (List.mem_of_getElem? (i := 0) rfl)) (hp _ (List.mem_of_getElem? (i := 1) rfl)) (hp _ (List.mem_of_getElem? (i := 2) rfl)) (hp _ (List.mem_of_getElem? (i := 3) rfl)) (hp _ (List.mem_of_getElem? (i := 4) rfl)) (hp _ (List.mem_of_getElem? (i := 5) rfl)) (hp _ (List.mem_of_getElem? (i := 6) rfl))
  · cases h
theorem WBabbb_ok (va x p : Int) (se : Bool) (h0 : InK .u32 va) (h1 : InK .u32 x) (h2 : va < 1073741824 ∧ va % 4 = 0) (h3 : ¬ (x % 256 = 1 ∧ x / 256 < 64)) (h4 : ¬ (psS x).2.2.2.2 = 0) (h5 : 64 ≤ p) (h6 : InK .i64 p) : PureSem Try.prog 10 [.int .u32 va, .int .u32 x, .bool se, .int .i64 p] (.bool true) := by
  refine pure_intro mixed (cx_wb_ok (fun d => bif Nat.beq d 38 || Nat.beq d 42 || Nat.beq d 54 || Nat.beq d 63 || Nat.beq d 66 || Nat.beq d 74 || Nat.beq d 87 || Nat.beq d 104 || Nat.beq d 110 || Nat.beq d 118 || Nat.beq d 131 || Nat.beq d 150 || Nat.beq d 157 || Nat.beq d 165 || Nat.beq d 178 then some false else bif Nat.beq d 47 || Nat.beq d 57 || Nat.beq d 107 || Nat.beq d 153 || Nat.beq d 181 || Nat.beq d 184 then some true else none) (fun _ => none)) Try.func10 1000 rfl rfl ?_
  refine of_nf (p := (0 ≤ va ∧ va < 4294967296) ∧ false = false ∧ ((joinS (splitS va).fst (splitS va).snd.fst (splitS va).snd.snd.fst).2 != 0) = false ∧ decide (va < 1073741824) = true ∧ 0 ≤ va ∧ (((splitS va).snd.snd.2 == 0) != (va % 4 == 0)) = false ∧ ((splitS va).snd.snd.2 == 0) = true ∧ ((joinS (splitS va).fst (splitS va).snd.fst (splitS va).snd.snd.fst).1 != va) = false ∧ ((splitS va).snd.snd.2 != 0) = false ∧ (0 ≤ x ∧ x < 4294967296) ∧ ((pfS x).2 == 0) = false ∧ ((pfS x).2 != 0) = true ∧ ((pfS x).1 != 0) = false ∧ (((pfS x).2 == 92) != (x == 0)) = false ∧ (0 ≤ x ∧ x < 4294967296) ∧ (-9223372036854775808 ≤ (psS x).snd.1 ∧ (psS x).snd.1 < 9223372036854775808) ∧ ((psS x).snd.snd.snd.2 == 0) = false ∧ ((psS x).snd.snd.snd.2 != 0) = true ∧ (!((psS x).1 == false && ((psS x).snd.1 == 0 && ((psS x).snd.snd.1 == false && ((psS x).snd.snd.snd.1 == false && true))))) = false ∧ (((psS x).snd.snd.snd.2 == 92) != (x == 0)) = false ∧ (0 ≤ (firstS p).1 ∧ (firstS p).1 < 4294967296) ∧ decide (p < 0) = false ∧ decide (63 < p) = true ∧ ((firstS p).2 == 4) = true ∧ ((firstS p).1 == 0) = true) (by kernel_rfl) ?_
  have hA := h2
  have hB := h3
  have hC := h4
  have hD := h5
  have sA : splitS va = (va / 4194304, va / 4096 % 1024, va / 4 % 1024, 0) := by unfold splitS; rw [if_pos hA]
  have jA := join_split h0 hA
  have sB := pf_no hB
  have jB := first0
  have sC := psS_no hC
  have jC := sec0
  have kC := trivial
  have sD := first_out (.inr hD)
  have jD := pf0
  have i1 := InKpsS h1
  try simp only [sC] at i1
  simp only [InK] at h0 h1 h6
  try simp only [fl, if_true, if_false, Bool.false_eq_true, Int.add_zero] at sD
  try dsimp only
  have hx0 : x = 0 ∨ x ≠ 0 := by omega
  rcases hx0 with hx0 | hx0
  · first | (subst hx0; exact absurd hB (by decide)) | (subst hx0; exact absurd hC (by decide)) | skip
    all_goals (subst hx0; try simp only [if_true] at sB sC)
    all_goals (simp [h0, h6, sA, jA, sB, jB, sC, jC, sD, jD, InK, i1, sD]; try (repeat' (first | apply And.intro | intro _hc)); all_goals (first | omega | (cases ae <;> cases ax <;> simp_all)))
  · try simp only [if_neg hx0] at sB sC
    simp [h0, h1, h6, hx0, sA, jA, sB, jB, sC, jC, sD, jD, InK, i1, sD]
    try (repeat' (first | apply And.intro | intro _hc))
    all_goals (first | omega | (cases ae <;> cases ax <;> simp_all))
def c_WBabbb : List SV → Option (List Prop × SV)
  | [.int .u32 va, .int .u32 x, .bool se, .int .i64 p] => some ([InK .u32 va, InK .u32 x, va < 1073741824 ∧ va % 4 = 0, ¬ (x % 256 = 1 ∧ x / 256 < 64), ¬ (psS x).2.2.2.2 = 0, 64 ≤ p, InK .i64 p], .bool true)
  | _ => none
theorem c_WBabbb_e : PEntry Try.prog 10 c_WBabbb := by
  refine ⟨callFunc_ok Try.func10 (by kernel_rfl) (by kernel_rfl), fun args ps v h hp => ?_⟩
  unfold c_WBabbb at h
  split at h
  · cases h; exact WBabbb_ok _ _ _ _ (hp _ (List.mem_of_getElem? (i := 0) rfl)) (hp _ (List.mem_of_getElem? (i := 1) rfl)) (hp _ (List.mem_of_getElem? (i := 2) rfl)) (hp _ (List.mem_of_getElem? (i := 3) rfl)) (hp _ (List.mem_of_getElem? (i := 4) rfl)) (hp _ (List.mem_of_getElem? (i := 5) rfl)) (hp _ (List.mem_of_getElem? (i := 6) rfl))
  · cases h
theorem WBabbc_ok (va x p : Int) (h0 : InK .u32 va) (h1 : InK .u32 x) (h2 : va < 1073741824 ∧ va % 4 = 0) (h3 : ¬ (x % 256 = 1 ∧ x / 256 < 64)) (h4 : ¬ (psS x).2.2.2.2 = 0) (h5 : 0 ≤ p ∧ p < 64) (h6 : InK .i64 p) : PureSem Try.prog 10 [.int .u32 va, .int .u32 x, .bool true, .int .i64 p] (.bool true) := by
  refine pure_intro mixed (cx_wb_ok (fun d => bif Nat.beq d 38 || Nat.beq d 42 || Nat.beq d 54 || Nat.beq d 63 || Nat.beq d 66 || Nat.beq d 74 || Nat.beq d 87 || Nat.beq d 104 || Nat.beq d 110 || Nat.beq d 118 || Nat.beq d 131 || Nat.beq d 150 || Nat.beq d 157 || Nat.beq d 165 || Nat.beq d 178 || Nat.beq d 181 || Nat.beq d 190 || Nat.beq d 194 || Nat.beq d 198 || Nat.beq d 224 || Nat.beq d 227 || Nat.beq d 236 || Nat.beq d 240 || Nat.beq d 244 then some false else bif Nat.beq d 47 || Nat.beq d 57 || Nat.beq d 107 || Nat.beq d 153 then some true else none) (fun _ => none)) Try.func10 1000 rfl rfl ?_
  refine of_nf (p := (0 ≤ va ∧ va < 4294967296) ∧ false = false ∧ ((joinS (splitS va).fst (splitS va).snd.fst (splitS va).snd.snd.fst).2 != 0) = false ∧ decide (va < 1073741824) = true ∧ 0 ≤ va ∧ (((splitS va).snd.snd.2 == 0) != (va % 4 == 0)) = false ∧ ((splitS va).snd.snd.2 == 0) = true ∧ ((joinS (splitS va).fst (splitS va).snd.fst (splitS va).snd.snd.fst).1 != va) = false ∧ ((splitS va).snd.snd.2 != 0) = false ∧ (0 ≤ x ∧ x < 4294967296) ∧ ((pfS x).2 == 0) = false ∧ ((pfS x).2 != 0) = true ∧ ((pfS x).1 != 0) = false ∧ (((pfS x).2 == 92) != (x == 0)) = false ∧ (0 ≤ x ∧ x < 4294967296) ∧ (-9223372036854775808 ≤ (psS x).snd.1 ∧ (psS x).snd.1 < 9223372036854775808) ∧ ((psS x).snd.snd.snd.2 == 0) = false ∧ ((psS x).snd.snd.snd.2 != 0) = true ∧ (!((psS x).1 == false && ((psS x).snd.1 == 0 && ((psS x).snd.snd.1 == false && ((psS x).snd.snd.snd.1 == false && true))))) = false ∧ (((psS x).snd.snd.snd.2 == 92) != (x == 0)) = false ∧ (0 ≤ (firstS p).1 ∧ (firstS p).1 < 4294967296) ∧ decide (p < 0) = false ∧ decide (63 < p) = false ∧ ((firstS p).2 != 0) = false ∧ ((pfS (firstS p).fst).2 != 0) = false ∧ ((pfS (firstS p).fst).1 != p) = false ∧ (-9223372036854775808 ≤ p ∧ p < 9223372036854775808) ∧ (0 ≤ (secS true p false false).1 ∧ (secS true p false false).1 < 4294967296) ∧ false = false ∧ ((secS true p false false).2 != 0) = false ∧ ((psS (secS true p false false).fst).snd.snd.snd.2 != 0) = false ∧ (!((psS (secS true p false false).fst).1 == true && ((psS (secS true p false false).fst).snd.1 == p && ((psS (secS true p false false).fst).snd.snd.1 == false && ((psS (secS true p false false).fst).snd.snd.snd.1 == false && true))))) = false ∧ (-9223372036854775808 ≤ p ∧ p < 9223372036854775808) ∧ (0 ≤ (secS true p true false).1 ∧ (secS true p true false).1 < 4294967296) ∧ false = false ∧ ((secS true p true false).2 != 0) = false ∧ ((psS (secS true p true false).fst).snd.snd.snd.2 != 0) = false ∧ (!((psS (secS true p true false).fst).1 == true && ((psS (secS true p true false).fst).snd.1 == p && ((psS (secS true p true false).fst).snd.snd.1 == true && ((psS (secS true p true false).fst).snd.snd.snd.1 == false && true))))) = false ∧ (-9223372036854775808 ≤ p ∧ p < 9223372036854775808) ∧ (0 ≤ (secS true p false true).1 ∧ (secS true p false true).1 < 4294967296) ∧ false = false ∧ ((secS true p false true).2 != 0) = false ∧ ((psS (secS true p false true).fst).snd.snd.snd.2 != 0) = false ∧ (!((psS (secS true p false true).fst).1 == true && ((psS (secS true p false true).fst).snd.1 == p && ((psS (secS true p false true).fst).snd.snd.1 == false && ((psS (secS true p false true).fst).snd.snd.snd.1 == true && true))))) = false ∧ (-9223372036854775808 ≤ p ∧ p < 9223372036854775808) ∧ (0 ≤ (secS true p true true).1 ∧ (secS true p true true).1 < 4294967296) ∧ false = false ∧ ((secS true p true true).2 != 0) = false ∧ ((psS (secS true p true true).fst).snd.snd.snd.2 != 0) = false ∧ (!((psS (secS true p true true).fst).1 == true && ((psS (secS true p true true).fst).snd.1 == p && ((psS (secS true p true true).fst).snd.snd.1 == true && ((psS (secS true p true true).fst).snd.snd.snd.1 == true && true))))) = false ∧ true = true) (by kernel_rfl) ?_
  have hA := h2
  have hB := h3
  have hC := h4
  have hD := h5
  have sA : splitS va = (va / 4194304, va / 4096 % 1024, va / 4 % 1024, 0) := by unfold splitS; rw [if_pos hA]
  have jA := join_split h0 hA
  have sB := pf_no hB
  have jB := first0
  have sC := psS_no hC
  have jC := sec0
  have kC := trivial
  have sD := first_in hD.1 hD.2
  have jD := pf_in hD.1 hD.2
  have stt := psS_secS (se := true) (wr := true) (ex := true) hD.1 hD.2 (by simp)
  have stf := psS_secS (se := true) (wr := true) (ex := false) hD.1 hD.2 (by simp)
  have sft := psS_secS (se := true) (wr := false) (ex := true) hD.1 hD.2 (by simp)
  have sff := psS_secS (se := true) (wr := false) (ex := false) hD.1 hD.2 (by simp)
  have i1 := InKpsS h1
  try simp only [sC] at i1
  simp only [InK] at h0 h1 h6
  try simp only [fl, if_true, if_false, Bool.false_eq_true, Int.add_zero] at sD
  try simp only [fl, if_true, if_false, Bool.false_eq_true, Int.add_zero] at stt
  try simp only [fl, if_true, if_false, Bool.false_eq_true, Int.add_zero] at stf
  try simp only [fl, if_true, if_false, Bool.false_eq_true, Int.add_zero] at sft
  try simp only [fl, if_true, if_false, Bool.false_eq_true, Int.add_zero] at sff
  try dsimp only
  have hx0 : x = 0 ∨ x ≠ 0 := by omega
  rcases hx0 with hx0 | hx0
  · first | (subst hx0; exact absurd hB (by decide)) | (subst hx0; exact absurd hC (by decide)) | skip
    all_goals (subst hx0; try simp only [if_true] at sB sC)
    all_goals (simp [h0, h6, sA, jA, sB, jB, sC, jC, sD, jD, InK, i1, sD, stt, stf, sft, sff]; try (repeat' (first | apply And.intro | intro _hc)); all_goals (first | omega | (cases ae <;> cases ax <;> simp_all)))
  · try simp only [if_neg hx0] at sB sC
    simp [h0, h1, h6, hx0, sA, jA, sB, jB, sC, jC, sD, jD, InK, i1, sD, stt, stf, sft, sff]
    try (repeat' (first | apply And.intro | intro _hc))
    all_goals (first | omega | (cases ae <;> cases ax <;> simp_all))
def c_WBabbc : List SV → Option (List Prop × SV)
  | [.int .u32 va, .int .u32 x, .bool true, .int .i64 p] => some ([InK .u32 va, InK .u32 x, va < 1073741824 ∧ va % 4 = 0, ¬ (x % 256 = 1 ∧ x / 256 < 64), ¬ (psS x).2.2.2.2 = 0, 0 ≤ p ∧ p < 64, InK .i64 p], .bool true)
  | _ => none
theorem c_WBabbc_e : PEntry Try.prog 10 c_WBabbc := by
  refine ⟨callFunc_ok Try.func10 (by kernel_rfl) (by kernel_rfl), fun args ps v h hp => ?_⟩
  unfold c_WBabbc at h
  split at h
  · cases h; exact WBabbc_ok _ _ _ (hp _ (List.mem_of_getElem? (i := 0) rfl)) (hp _ (List.mem_of_getElem? (i := 1) rfl)) (hp _ (List.mem_of_getElem? (i := 2) rfl)) (hp _ (List.mem_of_getElem? (i := 3) rfl)) (hp _ (List.mem_of_getElem? (i := 4) rfl)) (hp _ (List.mem_of_getElem? (i := 5) rfl)) (hp _ (List.mem_of_getElem? (i := 6) rfl))
  · cases h
theorem WBabbd_ok (va x p : Int) (h0 : InK .u32 va) (h1 : InK .u32 x) (h2 : va < 1073741824 ∧ va % 4 = 0) (h3 : ¬ (x % 256 = 1 ∧ x / 256 < 64)) (h4 : ¬ (psS x).2.2.2.2 = 0) (h5 : 0 ≤ p ∧ p < 64) (h6 : InK .i64 p) : PureSem Try.prog 10 [.int .u32 va, .int .u32 x, .bool false, .int .i64 p] (.bool true) := by
  refine pure_intro mixed (cx_wb_ok (fun d => bif Nat.beq d 38 || Nat.beq d 42 || Nat.beq d 54 || Nat.beq d 63 || Nat.beq d 66 || Nat.beq d 74 || Nat.beq d 87 || Nat.beq d 104 || Nat.beq d 110 || Nat.beq d 118 || Nat.beq d 131 || Nat.beq d 150 || Nat.beq d 157 || Nat.beq d 165 || Nat.beq d 178 || Nat.beq d 181 || Nat.beq d 190 || Nat.beq d 194 || Nat.beq d 198 || Nat.beq d 230 || Nat.beq d 233 || Nat.beq d 236 || Nat.beq d 240 || Nat.beq d 244 then some false else bif Nat.beq d 47 || Nat.beq d 57 || Nat.beq d 107 || Nat.beq d 153 || Nat.beq d 224 then some true else none) (fun _ => none)) Try.func10 1000 rfl rfl ?_
  refine of_nf (p := (0 ≤ va ∧ va < 4294967296) ∧ false = false ∧ ((joinS (splitS va).fst (splitS va).snd.fst (splitS va).snd.snd.fst).2 != 0) = false ∧ decide (va < 1073741824) = true ∧ 0 ≤ va ∧ (((splitS va).snd.snd.2 == 0) != (va % 4 == 0)) = false ∧ ((splitS va).snd.snd.2 == 0) = true ∧ ((joinS (splitS va).fst (splitS va).snd.fst (splitS va).snd.snd.fst).1 != va) = false ∧ ((splitS va).snd.snd.2 != 0) = false ∧ (0 ≤ x ∧ x < 4294967296) ∧ ((pfS x).2 == 0) = false ∧ ((pfS x).2 != 0) = true ∧ ((pfS x).1 != 0) = false ∧ (((pfS x).2 == 92) != (x == 0)) = false ∧ (0 ≤ x ∧ x < 4294967296) ∧ (-9223372036854775808 ≤ (psS x).snd.1 ∧ (psS x).snd.1 < 9223372036854775808) ∧ ((psS x).snd.snd.snd.2 == 0) = false ∧ ((psS x).snd.snd.snd.2 != 0) = true ∧ (!((psS x).1 == false && ((psS x).snd.1 == 0 && ((psS x).snd.snd.1 == false && ((psS x).snd.snd.snd.1 == false && true))))) = false ∧ (((psS x).snd.snd.snd.2 == 92) != (x == 0)) = false ∧ (0 ≤ (firstS p).1 ∧ (firstS p).1 < 4294967296) ∧ decide (p < 0) = false ∧ decide (63 < p) = false ∧ ((firstS p).2 != 0) = false ∧ ((pfS (firstS p).fst).2 != 0) = false ∧ ((pfS (firstS p).fst).1 != p) = false ∧ (-9223372036854775808 ≤ p ∧ p < 9223372036854775808) ∧ (0 ≤ (secS false p false false).1 ∧ (secS false p false false).1 < 4294967296) ∧ true = true ∧ ((secS false p false false).2 != 0) = false ∧ ((psS (secS false p false false).fst).snd.snd.snd.2 != 0) = false ∧ (!((psS (secS false p false false).fst).1 == false && ((psS (secS false p false false).fst).snd.1 == p && ((psS (secS false p false false).fst).snd.snd.1 == false && ((psS (secS false p false false).fst).snd.snd.snd.1 == false && true))))) = false ∧ (-9223372036854775808 ≤ p ∧ p < 9223372036854775808) ∧ (0 ≤ (secS false p true false).1 ∧ (secS false p true false).1 < 4294967296) ∧ true = true ∧ ((secS false p true false).2 != 0) = false ∧ ((psS (secS false p true false).fst).snd.snd.snd.2 != 0) = false ∧ (!((psS (secS false p true false).fst).1 == false && ((psS (secS false p true false).fst).snd.1 == p && ((psS (secS false p true false).fst).snd.snd.1 == true && ((psS (secS false p true false).fst).snd.snd.snd.1 == false && true))))) = false ∧ (-9223372036854775808 ≤ p ∧ p < 9223372036854775808) ∧ (0 ≤ (secS false p false true).1 ∧ (secS false p false true).1 < 4294967296) ∧ true = true ∧ ((secS false p false true).2 != 1) = false ∧ ((secS false p false true).1 != 0) = false ∧ (-9223372036854775808 ≤ p ∧ p < 9223372036854775808) ∧ (0 ≤ (secS false p true true).1 ∧ (secS false p true true).1 < 4294967296) ∧ true = true ∧ ((secS false p true true).2 != 1) = false ∧ ((secS false p true true).1 != 0) = false ∧ true = true) (by kernel_rfl) ?_
  have hA := h2
  have hB := h3
  have hC := h4
  have hD := h5
  have sA : splitS va = (va / 4194304, va / 4096 % 1024, va / 4 % 1024, 0) := by unfold splitS; rw [if_pos hA]
  have jA := join_split h0 hA
  have sB := pf_no hB
  have jB := first0
  have sC := psS_no hC
  have jC := sec0
  have kC := trivial
  have sD := first_in hD.1 hD.2
  have jD := pf_in hD.1 hD.2
  have stf := psS_secS (se := false) (wr := true) (ex := false) hD.1 hD.2 (by simp)
  have sff := psS_secS (se := false) (wr := false) (ex := false) hD.1 hD.2 (by simp)
  have stt := secS_no true hD.1 hD.2
  have sft := secS_no false hD.1 hD.2
  have i1 := InKpsS h1
  try simp only [sC] at i1
  simp only [InK] at h0 h1 h6
  try simp only [fl, if_true, if_false, Bool.false_eq_true, Int.add_zero] at sD
  try simp only [fl, if_true, if_false, Bool.false_eq_true, Int.add_zero] at stf
  try simp only [fl, if_true, if_false, Bool.false_eq_true, Int.add_zero] at sff
  try simp only [fl, if_true, if_false, Bool.false_eq_true, Int.add_zero] at stt
  try simp only [fl, if_true, if_false, Bool.false_eq_true, Int.add_zero] at sft
  try dsimp only
  have hx0 : x = 0 ∨ x ≠ 0 := by omega
  rcases hx0 with hx0 | hx0
  · first | (subst hx0; exact absurd hB (by decide)) | (subst hx0; exact absurd hC (by decide)) | skip
    all_goals (subst hx0; try simp only [if_true] at sB sC)
    all_goals (simp [h0, h6, sA, jA, sB, jB, sC, jC, sD, jD, InK, i1, sD, stf, sff, stt, sft]; try (repeat' (first | apply And.intro | intro _hc)); all_goals (first | omega | (cases ae <;> cases ax <;> simp_all)))
  · try simp only [if_neg hx0] at sB sC
    simp [h0, h1, h6, hx0, sA, jA, sB, jB, sC, jC, sD, jD, InK, i1, sD, stf, sff, stt, sft]
    try (repeat' (first | apply And.intro | intro _hc))
    all_goals (first | omega | (cases ae <;> cases ax <;> simp_all))
def c_WBabbd : List SV → Option (List Prop × SV)
  | [.int .u32 va, .int .u32 x, .bool false, .int .i64 p] => some ([InK .u32 va, InK .u32 x, va < 1073741824 ∧ va % 4 = 0, ¬ (x % 256 = 1 ∧ x / 256 < 64), ¬ (psS x).2.2.2.2 = 0, 0 ≤ p ∧ p < 64, InK .i64 p], .bool true)
  | _ => none
theorem c_WBabbd_e : PEntry Try.prog 10 c_WBabbd := by
  refine ⟨callFunc_ok Try.func10 (by kernel_rfl) (by kernel_rfl), fun args ps v h hp => ?_⟩
  unfold c_WBabbd at h
  split at h
  · cases h; exact WBabbd_ok _ _ _ (hp _ (List.mem_of_getElem? (i := 0) rfl)) (hp _ (List.mem_of_getElem? (i := 1) rfl)) (hp _ (List.mem_of_getElem? (i := 2) rfl)) (hp _ (List.mem_of_getElem? (i := 3) rfl)) (hp _ (List.mem_of_getElem? (i := 4) rfl)) (hp _ (List.mem_of_getElem? (i := 5) rfl)) (hp _ (List.mem_of_getElem? (i := 6) rfl))
  · cases h
theorem WBbaaa_ok (va x p : Int) (se : Bool) (h0 : InK .u32 va) (h1 : InK .u32 x) (h2 : ¬ (va < 1073741824 ∧ va % 4 = 0)) (h3 : x % 256 = 1 ∧ x / 256 < 64) (h4 : (psS x).2.2.2.2 = 0) (h5 : p < 0) (h6 : InK .i64 p) : PureSem Try.prog 10 [.int .u32 va, .int .u32 x, .bool se, .int .i64 p] (.bool true) := by
  refine pure_intro mixed (cx_wb_ok (fun d => bif Nat.beq d 38 || Nat.beq d 42 || Nat.beq d 54 || Nat.beq d 57 || Nat.beq d 63 || Nat.beq d 69 || Nat.beq d 74 || Nat.beq d 90 || Nat.beq d 95 || Nat.beq d 99 || Nat.beq d 104 || Nat.beq d 107 || Nat.beq d 118 || Nat.beq d 134 || Nat.beq d 139 || Nat.beq d 150 || Nat.beq d 153 || Nat.beq d 165 then some false else bif Nat.beq d 66 || Nat.beq d 87 || Nat.beq d 131 || Nat.beq d 178 || Nat.beq d 181 || Nat.beq d 184 then some true else none) (fun _ => none)) Try.func10 1000 rfl rfl ?_
  refine of_nf (p := (0 ≤ va ∧ va < 4294967296) ∧ false = false ∧ ((joinS (splitS va).fst (splitS va).snd.fst (splitS va).snd.snd.fst).2 != 0) = false ∧ (decide (va < 1073741824) = true → 0 ≤ va ∧ (((splitS va).snd.snd.2 == 0) != (va % 4 == 0)) = false ∧ ((splitS va).snd.snd.2 == 0) = false ∧ ((splitS va).snd.snd.2 != 0) = true ∧ ((splitS va).snd.snd.2 != 91) = false ∧ ((joinS (splitS va).fst (splitS va).snd.fst (splitS va).snd.snd.fst).1 != 0) = false ∧ (0 ≤ x ∧ x < 4294967296) ∧ ((pfS x).2 == 0) = true ∧ ((firstS (pfS x).fst).2 != 0) = false ∧ ((firstS (pfS x).fst).1 != x) = false ∧ decide ((pfS x).1 < 0) = false ∧ decide (63 < (pfS x).1) = false ∧ ((pfS x).2 != 0) = false ∧ (0 ≤ x ∧ x < 4294967296) ∧ (-9223372036854775808 ≤ (psS x).snd.1 ∧ (psS x).snd.1 < 9223372036854775808) ∧ ((psS x).snd.snd.snd.2 == 0) = true ∧ ((secS (psS x).fst (psS x).snd.fst (psS x).snd.snd.fst (psS x).snd.snd.snd.fst).2 != 0) = false ∧ ((secS (psS x).fst (psS x).snd.fst (psS x).snd.snd.fst (psS x).snd.snd.snd.fst).1 != x) = false ∧ ((psS x).snd.snd.snd.1 = true → (!(psS x).1) = false ∧ ((psS x).snd.snd.snd.2 != 0) = false ∧ (0 ≤ (firstS p).1 ∧ (firstS p).1 < 4294967296) ∧ decide (p < 0) = true ∧ ((firstS p).2 == 4) = true ∧ ((firstS p).1 == 0) = true) ∧ ((psS x).snd.snd.snd.1 = false → ((psS x).snd.snd.snd.2 != 0) = false ∧ (0 ≤ (firstS p).1 ∧ (firstS p).1 < 4294967296) ∧ decide (p < 0) = true ∧ ((firstS p).2 == 4) = true ∧ ((firstS p).1 == 0) = true)) ∧ (decide (va < 1073741824) = false → (((splitS va).snd.snd.2 == 0) != false) = false ∧ ((splitS va).snd.snd.2 == 0) = false ∧ ((splitS va).snd.snd.2 != 0) = true ∧ ((splitS va).snd.snd.2 != 91) = false ∧ ((joinS (splitS va).fst (splitS va).snd.fst (splitS va).snd.snd.fst).1 != 0) = false ∧ (0 ≤ x ∧ x < 4294967296) ∧ ((pfS x).2 == 0) = true ∧ ((firstS (pfS x).fst).2 != 0) = false ∧ ((firstS (pfS x).fst).1 != x) = false ∧ decide ((pfS x).1 < 0) = false ∧ decide (63 < (pfS x).1) = false ∧ ((pfS x).2 != 0) = false ∧ (0 ≤ x ∧ x < 4294967296) ∧ (-9223372036854775808 ≤ (psS x).snd.1 ∧ (psS x).snd.1 < 9223372036854775808) ∧ ((psS x).snd.snd.snd.2 == 0) = true ∧ ((secS (psS x).fst (psS x).snd.fst (psS x).snd.snd.fst (psS x).snd.snd.snd.fst).2 != 0) = false ∧ ((secS (psS x).fst (psS x).snd.fst (psS x).snd.snd.fst (psS x).snd.snd.snd.fst).1 != x) = false ∧ ((psS x).snd.snd.snd.1 = true → (!(psS x).1) = false ∧ ((psS x).snd.snd.snd.2 != 0) = false ∧ (0 ≤ (firstS p).1 ∧ (firstS p).1 < 4294967296) ∧ decide (p < 0) = true ∧ ((firstS p).2 == 4) = true ∧ ((firstS p).1 == 0) = true) ∧ ((psS x).snd.snd.snd.1 = false → ((psS x).snd.snd.snd.2 != 0) = false ∧ (0 ≤ (firstS p).1 ∧ (firstS p).1 < 4294967296) ∧ decide (p < 0) = true ∧ ((firstS p).2 == 4) = true ∧ ((firstS p).1 == 0) = true))) (by kernel_rfl) ?_
  have hA := h2
  have hB := h3
  have hC := h4
  have hD := h5
  have sA : splitS va = (0, 0, 0, 91) := by unfold splitS; rw [if_neg hA]
  have jA := join0
  have sB := (first_pf hB h1.1).1
  have jB := (first_pf hB h1.1).2
  obtain ⟨ae, ap, aw, ax, sC, jC, kC⟩ := psS_yes hC
  have sD := first_out (.inl hD)
  have jD := pf0
  have i1 := InKpsS h1
  try simp only [sC] at i1
  simp only [InK] at h0 h1 h6
  try simp only [fl, if_true, if_false, Bool.false_eq_true, Int.add_zero] at sD
  try dsimp only
  have hx0 : x = 0 ∨ x ≠ 0 := by omega
  rcases hx0 with hx0 | hx0
  · first | (subst hx0; exact absurd hB (by decide)) | (subst hx0; exact absurd hC (by decide)) | skip
    all_goals (subst hx0; try simp only [if_true] at sB sC)
    all_goals (simp [h0, h6, sA, jA, sB, jB, sC, jC, sD, jD, InK, i1, sD]; try (repeat' (first | apply And.intro | intro _hc)); all_goals (first | omega | (cases ae <;> cases ax <;> simp_all)))
  · try simp only [if_neg hx0] at sB sC
    simp [h0, h1, h6, hx0, sA, jA, sB, jB, sC, jC, sD, jD, InK, i1, sD]
    try (repeat' (first | apply And.intro | intro _hc))
    all_goals (first | omega | (cases ae <;> cases ax <;> simp_all))
def c_WBbaaa : List SV → Option (List Prop × SV)
  | [.int .u32 va, .int .u32 x, .bool se, .int .i64 p] => some ([InK .u32 va, InK .u32 x, ¬ (va < 1073741824 ∧ va % 4 = 0), x % 256 = 1 ∧ x / 256 < 64, (psS x).2.2.2.2 = 0, p < 0, InK .i64 p], .bool true)
  | _ => none
theorem c_WBbaaa_e : PEntry Try.prog 10 c_WBbaaa := by
  refine ⟨callFunc_ok Try.func10 (by kernel_rfl) (by kernel_rfl), fun args ps v h hp => ?_⟩
  unfold c_WBbaaa at h
  split at h
  · cases h; exact WBbaaa_ok _ _ _ _ (hp _ (List.mem_of_getElem? (i := 0) rfl)) (hp _ (List.mem_of_getElem? (i := 1) rfl)) (hp _ (List.mem_of_getElem? (i := 2) rfl)) (hp _ (List.mem_of_getElem? (i := 3) rfl)) (hp _ (List.mem_of_getElem? (i := 4) rfl)) (hp _ (List.mem_of_getElem? (i := 5) rfl)) (hp _ (List.mem_of_getElem? (i := 6) rfl))
  · cases h
theorem WBbaab_ok (va x p : Int) (se : Bool) (h0 : InK .u32 va) (h1 : InK .u32 x) (h2 : ¬ (va < 1073741824 ∧ va % 4 = 0)) (h3 : x % 256 = 1 ∧ x / 256 < 64) (h4 : (psS x).2.2.2.2 = 0) (h5 : 64 ≤ p) (h6 : InK .i64 p) : PureSem Try.prog 10 [.int .u32 va, .int .u32 x, .bool se, .int .i64 p] (.bool true) := by
  refine pure_intro mixed (cx_wb_ok (fun d => bif Nat.beq d 38 || Nat.beq d 42 || Nat.beq d 54 || Nat.beq d 57 || Nat.beq d 63 || Nat.beq d 69 || Nat.beq d 74 || Nat.beq d 90 || Nat.beq d 95 || Nat.beq d 99 || Nat.beq d 104 || Nat.beq d 107 || Nat.beq d 118 || Nat.beq d 134 || Nat.beq d 139 || Nat.beq d 150 || Nat.beq d 153 || Nat.beq d 165 || Nat.beq d 178 then some false else bif Nat.beq d 66 || Nat.beq d 87 || Nat.beq d 131 || Nat.beq d 181 || Nat.beq d 184 then some true else none) (fun _ => none)) Try.func10 1000 rfl rfl ?_
  refine of_nf (p := (0 ≤ va ∧ va < 4294967296) ∧ false = false ∧ ((joinS (splitS va).fst (splitS va).snd.fst (splitS va).snd.snd.fst).2 != 0) = false ∧ (decide (va < 1073741824) = true → 0 ≤ va ∧ (((splitS va).snd.snd.2 == 0) != (va % 4 == 0)) = false ∧ ((splitS va).snd.snd.2 == 0) = false ∧ ((splitS va).snd.snd.2 != 0) = true ∧ ((splitS va).snd.snd.2 != 91) = false ∧ ((joinS (splitS va).fst (splitS va).snd.fst (splitS va).snd.snd.fst).1 != 0) = false ∧ (0 ≤ x ∧ x < 4294967296) ∧ ((pfS x).2 == 0) = true ∧ ((firstS (pfS x).fst).2 != 0) = false ∧ ((firstS (pfS x).fst).1 != x) = false ∧ decide ((pfS x).1 < 0) = false ∧ decide (63 < (pfS x).1) = false ∧ ((pfS x).2 != 0) = false ∧ (0 ≤ x ∧ x < 4294967296) ∧ (-9223372036854775808 ≤ (psS x).snd.1 ∧ (psS x).snd.1 < 9223372036854775808) ∧ ((psS x).snd.snd.snd.2 == 0) = true ∧ ((secS (psS x).fst (psS x).snd.fst (psS x).snd.snd.fst (psS x).snd.snd.snd.fst).2 != 0) = false ∧ ((secS (psS x).fst (psS x).snd.fst (psS x).snd.snd.fst (psS x).snd.snd.snd.fst).1 != x) = false ∧ ((psS x).snd.snd.snd.1 = true → (!(psS x).1) = false ∧ ((psS x).snd.snd.snd.2 != 0) = false ∧ (0 ≤ (firstS p).1 ∧ (firstS p).1 < 4294967296) ∧ decide (p < 0) = false ∧ decide (63 < p) = true ∧ ((firstS p).2 == 4) = true ∧ ((firstS p).1 == 0) = true) ∧ ((psS x).snd.snd.snd.1 = false → ((psS x).snd.snd.snd.2 != 0) = false ∧ (0 ≤ (firstS p).1 ∧ (firstS p).1 < 4294967296) ∧ decide (p < 0) = false ∧ decide (63 < p) = true ∧ ((firstS p).2 == 4) = true ∧ ((firstS p).1 == 0) = true)) ∧ (decide (va < 1073741824) = false → (((splitS va).snd.snd.2 == 0) != false) = false ∧ ((splitS va).snd.snd.2 == 0) = false ∧ ((splitS va).snd.snd.2 != 0) = true ∧ ((splitS va).snd.snd.2 != 91) = false ∧ ((joinS (splitS va).fst (splitS va).snd.fst (splitS va).snd.snd.fst).1 != 0) = false ∧ (0 ≤ x ∧ x < 4294967296) ∧ ((pfS x).2 == 0) = true ∧ ((firstS (pfS x).fst).2 != 0) = false ∧ ((firstS (pfS x).fst).1 != x) = false ∧ decide ((pfS x).1 < 0) = false ∧ decide (63 < (pfS x).1) = false ∧ ((pfS x).2 != 0) = false ∧ (0 ≤ x ∧ x < 4294967296) ∧ (-9223372036854775808 ≤ (psS x).snd.1 ∧ (psS x).snd.1 < 9223372036854775808) ∧ ((psS x).snd.snd.snd.2 == 0) = true ∧ ((secS (psS x).fst (psS x).snd.fst (psS x).snd.snd.fst (psS x).snd.snd.snd.fst).2 != 0) = false ∧ ((secS (psS x).fst (psS x).snd.fst (psS x).snd.snd.fst (psS x).snd.snd.snd.fst).1 != x) = false ∧ ((psS x).snd.snd.snd.1 = true → (!(psS x).1) = false ∧ ((psS x).snd.snd.snd.2 != 0) = false ∧ (0 ≤ (firstS p).1 ∧ (firstS p).1 < 4294967296) ∧ decide (p < 0) = false ∧ decide (63 < p) = true ∧ ((firstS p).2 == 4) = true ∧ ((firstS p).1 == 0) = true) ∧ ((psS x).snd.snd.snd.1 = false → ((psS x).snd.snd.snd.2 != 0) = false ∧ (0 ≤ (firstS p).1 ∧ (firstS p).1 < 4294967296) ∧ decide (p < 0) = false ∧ decide (63 < p) = true ∧ ((firstS p).2 == 4) = true ∧ ((firstS p).1 == 0) = true))) (by kernel_rfl) ?_
  have hA := h2
  have hB := h3
  have hC := h4
  have hD := h5
  have sA : splitS va = (0, 0, 0, 91) := by unfold splitS; rw [if_neg hA]
  have jA := join0
  have sB := (first_pf hB h1.1).1
  have jB := (first_pf hB h1.1).2
  obtain ⟨ae, ap, aw, ax, sC, jC, kC⟩ := psS_yes hC
  have sD := first_out (.inr hD)
  have jD := pf0
  have i1 := InKpsS h1
  try simp only [sC] at i1
  simp only [InK] at h0 h1 h6
  try simp only [fl, if_true, if_false, Bool.false_eq_true, Int.add_zero] at sD
  try dsimp only
  have hx0 : x = 0 ∨ x ≠ 0 := by omega
  rcases hx0 with hx0 | hx0
  · first | (subst hx0; exact absurd hB (by decide)) | (subst hx0; exact absurd hC (by decide)) | skip
    all_goals (subst hx0; try simp only [if_true] at sB sC)
    all_goals (simp [h0, h6, sA, jA, sB, jB, sC, jC, sD, jD, InK, i1, sD]; try (repeat' (first | apply And.intro | intro _hc)); all_goals (first | omega | (cases ae <;> cases ax <;> simp_all)))
  · try simp only [if_neg hx0] at sB sC
    simp [h0, h1, h6, hx0, sA, jA, sB, jB, sC, jC, sD, jD, InK, i1, sD]
    try (repeat' (first | apply And.intro | intro _hc))
    all_goals (first | omega | (cases ae <;> cases ax <;> simp_all))
def c_WBbaab : List SV → Option (List Prop × SV)
  | [.int .u32 va, .int .u32 x, .bool se, .int .i64 p] => some ([InK .u32 va, InK .u32 x, ¬ (va < 1073741824 ∧ va % 4 = 0), x % 256 = 1 ∧ x / 256 < 64, (psS x).2.2.2.2 = 0, 64 ≤ p, InK .i64 p], .bool true)
  | _ => none
theorem c_WBbaab_e : PEntry Try.prog 10 c_WBbaab := by
  refine ⟨callFunc_ok Try.func10 (by kernel_rfl) (by kernel_rfl), fun args ps v h hp => ?_⟩
  unfold c_WBbaab at h
  split at h
  · cases h; exact WBbaab_ok _ _ _ _ (hp _ (List.mem_of_getElem? (i := 0) rfl)) (hp _ (List.mem_of_getElem? (i := 1) rfl)) (hp _ (List.mem_of_getElem? (i := 2) rfl)) (hp _ (List.mem_of_getElem? (i := 3) rfl)) (hp _ (List.mem_of_getElem? (i := 4) rfl)) (hp _ (List.mem_of_getElem? (i := 5) rfl)) (hp _ (List.mem_of_getElem? (i := 6) rfl))
  · cases h
theorem WBbaac_ok (va x p : Int) (h0 : InK .u32 va) (h1 : InK .u32 x) (h2 : ¬ (va < 1073741824 ∧ va % 4 = 0)) (h3 : x % 256 = 1 ∧ x / 256 < 64) (h4 : (psS x).2.2.2.2 = 0) (h5 : 0 ≤ p ∧ p < 64) (h6 : InK .i64 p) : PureSem Try.prog 10 [.int .u32 va, .int .u32 x, .bool true, .int .i64 p] (.bool true) := by
  refine pure_intro mixed (cx_wb_ok (fun d => bif Nat.beq d 38 || Nat.beq d 42 || Nat.beq d 54 || Nat.beq d 57 || Nat.beq d 63 || Nat.beq d 69 || Nat.beq d 74 || Nat.beq d 90 || Nat.beq d 95 || Nat.beq d 99 || Nat.beq d 104 || Nat.beq d 107 || Nat.beq d 118 || Nat.beq d 134 || Nat.beq d 139 || Nat.beq d 150 || Nat.beq d 153 || Nat.beq d 165 || Nat.beq d 178 || Nat.beq d 181 || Nat.beq d 190 || Nat.beq d 194 || Nat.beq d 198 || Nat.beq d 224 || Nat.beq d 227 || Nat.beq d 236 || Nat.beq d 240 || Nat.beq d 244 then some false else bif Nat.beq d 66 || Nat.beq d 87 || Nat.beq d 131 then some true else none) (fun _ => none)) Try.func10 1000 rfl rfl ?_
  refine of_nf (p := (0 ≤ va ∧ va < 4294967296) ∧ false = false ∧ ((joinS (splitS va).fst (splitS va).snd.fst (splitS va).snd.snd.fst).2 != 0) = false ∧ (decide (va < 1073741824) = true → 0 ≤ va ∧ (((splitS va).snd.snd.2 == 0) != (va % 4 == 0)) = false ∧ ((splitS va).snd.snd.2 == 0) = false ∧ ((splitS va).snd.snd.2 != 0) = true ∧ ((splitS va).snd.snd.2 != 91) = false ∧ ((joinS (splitS va).fst (splitS va).snd.fst (splitS va).snd.snd.fst).1 != 0) = false ∧ (0 ≤ x ∧ x < 4294967296) ∧ ((pfS x).2 == 0) = true ∧ ((firstS (pfS x).fst).2 != 0) = false ∧ ((firstS (pfS x).fst).1 != x) = false ∧ decide ((pfS x).1 < 0) = false ∧ decide (63 < (pfS x).1) = false ∧ ((pfS x).2 != 0) = false ∧ (0 ≤ x ∧ x < 4294967296) ∧ (-9223372036854775808 ≤ (psS x).snd.1 ∧ (psS x).snd.1 < 9223372036854775808) ∧ ((psS x).snd.snd.snd.2 == 0) = true ∧ ((secS (psS x).fst (psS x).snd.fst (psS x).snd.snd.fst (psS x).snd.snd.snd.fst).2 != 0) = false ∧ ((secS (psS x).fst (psS x).snd.fst (psS x).snd.snd.fst (psS x).snd.snd.snd.fst).1 != x) = false ∧ ((psS x).snd.snd.snd.1 = true → (!(psS x).1) = false ∧ ((psS x).snd.snd.snd.2 != 0) = false ∧ (0 ≤ (firstS p).1 ∧ (firstS p).1 < 4294967296) ∧ decide (p < 0) = false ∧ decide (63 < p) = false ∧ ((firstS p).2 != 0) = false ∧ ((pfS (firstS p).fst).2 != 0) = false ∧ ((pfS (firstS p).fst).1 != p) = false ∧ (-9223372036854775808 ≤ p ∧ p < 9223372036854775808) ∧ (0 ≤ (secS true p false false).1 ∧ (secS true p false false).1 < 4294967296) ∧ false = false ∧ ((secS true p false false).2 != 0) = false ∧ ((psS (secS true p false false).fst).snd.snd.snd.2 != 0) = false ∧ (!((psS (secS true p false false).fst).1 == true && ((psS (secS true p false false).fst).snd.1 == p && ((psS (secS true p false false).fst).snd.snd.1 == false && ((psS (secS true p false false).fst).snd.snd.snd.1 == false && true))))) = false ∧ (-9223372036854775808 ≤ p ∧ p < 9223372036854775808) ∧ (0 ≤ (secS true p true false).1 ∧ (secS true p true false).1 < 4294967296) ∧ false = false ∧ ((secS true p true false).2 != 0) = false ∧ ((psS (secS true p true false).fst).snd.snd.snd.2 != 0) = false ∧ (!((psS (secS true p true false).fst).1 == true && ((psS (secS true p true false).fst).snd.1 == p && ((psS (secS true p true false).fst).snd.snd.1 == true && ((psS (secS true p true false).fst).snd.snd.snd.1 == false && true))))) = false ∧ (-9223372036854775808 ≤ p ∧ p < 9223372036854775808) ∧ (0 ≤ (secS true p false true).1 ∧ (secS true p false true).1 < 4294967296) ∧ false = false ∧ ((secS true p false true).2 != 0) = false ∧ ((psS (secS true p false true).fst).snd.snd.snd.2 != 0) = false ∧ (!((psS (secS true p false true).fst).1 == true && ((psS (secS true p false true).fst).snd.1 == p && ((psS (secS true p false true).fst).snd.snd.1 == false && ((psS (secS true p false true).fst).snd.snd.snd.1 == true && true))))) = false ∧ (-9223372036854775808 ≤ p ∧ p < 9223372036854775808) ∧ (0 ≤ (secS true p true true).1 ∧ (secS true p true true).1 < 4294967296) ∧ false = false ∧ ((secS true p true true).2 != 0) = false ∧ ((psS (secS true p true true).fst).snd.snd.snd.2 != 0) = false ∧ (!((psS (secS true p true true).fst).1 == true && ((psS (secS true p true true).fst).snd.1 == p && ((psS (secS true p true true).fst).snd.snd.1 == true && ((psS (secS true p true true).fst).snd.snd.snd.1 == true && true))))) = false ∧ true = true) ∧ ((psS x).snd.snd.snd.1 = false → ((psS x).snd.snd.snd.2 != 0) = false ∧ (0 ≤ (firstS p).1 ∧ (firstS p).1 < 4294967296) ∧ decide (p < 0) = false ∧ decide (63 < p) = false ∧ ((firstS p).2 != 0) = false ∧ ((pfS (firstS p).fst).2 != 0) = false ∧ ((pfS (firstS p).fst).1 != p) = false ∧ (-9223372036854775808 ≤ p ∧ p < 9223372036854775808) ∧ (0 ≤ (secS true p false false).1 ∧ (secS true p false false).1 < 4294967296) ∧ false = false ∧ ((secS true p false false).2 != 0) = false ∧ ((psS (secS true p false false).fst).snd.snd.snd.2 != 0) = false ∧ (!((psS (secS true p false false).fst).1 == true && ((psS (secS true p false false).fst).snd.1 == p && ((psS (secS true p false false).fst).snd.snd.1 == false && ((psS (secS true p false false).fst).snd.snd.snd.1 == false && true))))) = false ∧ (-9223372036854775808 ≤ p ∧ p < 9223372036854775808) ∧ (0 ≤ (secS true p true false).1 ∧ (secS true p true false).1 < 4294967296) ∧ false = false ∧ ((secS true p true false).2 != 0) = false ∧ ((psS (secS true p true false).fst).snd.snd.snd.2 != 0) = false ∧ (!((psS (secS true p true false).fst).1 == true && ((psS (secS true p true false).fst).snd.1 == p && ((psS (secS true p true false).fst).snd.snd.1 == true && ((psS (secS true p true false).fst).snd.snd.snd.1 == false && true))))) = false ∧ (-9223372036854775808 ≤ p ∧ p < 9223372036854775808) ∧ (0 ≤ (secS true p false true).1 ∧ (secS true p false true).1 < 4294967296) ∧ false = false ∧ ((secS true p false true).2 != 0) = false ∧ ((psS (secS true p false true).fst).snd.snd.snd.2 != 0) = false ∧ (!((psS (secS true p false true).fst).1 == true && ((psS (secS true p false true).fst).snd.1 == p && ((psS (secS true p false true).fst).snd.snd.1 == false && ((psS (secS true p false true).fst).snd.snd.snd.1 == true && true))))) = false ∧ (-9223372036854775808 ≤ p ∧ p < 9223372036854775808) ∧ (0 ≤ (secS true p true true).1 ∧ (secS true p true true).1 < 4294967296) ∧ false = false ∧ ((secS true p true true).2 != 0) = false ∧ ((psS (secS true p true true).fst).snd.snd.snd.2 != 0) = false ∧ (!((psS (secS true p true true).fst).1 == true && ((psS (secS true p true true).fst).snd.1 == p && ((psS (secS true p true true).fst).snd.snd.1 == true && ((psS (secS true p true true).fst).snd.snd.snd.1 == true && true))))) = false ∧ true = true)) ∧ (decide (va < 1073741824) = false → (((splitS va).snd.snd.2 == 0) != false) = false ∧ ((splitS va).snd.snd.2 == 0) = false ∧ ((splitS va).snd.snd.2 != 0) = true ∧ ((splitS va).snd.snd.2 != 91) = false ∧ ((joinS (splitS va).fst (splitS va).snd.fst (splitS va).snd.snd.fst).1 != 0) = false ∧ (0 ≤ x ∧ x < 4294967296) ∧ ((pfS x).2 == 0) = true ∧ ((firstS (pfS x).fst).2 != 0) = false ∧ ((firstS (pfS x).fst).1 != x) = false ∧ decide ((pfS x).1 < 0) = false ∧ decide (63 < (pfS x).1) = false ∧ ((pfS x).2 != 0) = false ∧ (0 ≤ x ∧ x < 4294967296) ∧ (-9223372036854775808 ≤ (psS x).snd.1 ∧ (psS x).snd.1 < 9223372036854775808) ∧ ((psS x).snd.snd.snd.2 == 0) = true ∧ ((secS (psS x).fst (psS x).snd.fst (psS x).snd.snd.fst (psS x).snd.snd.snd.fst).2 != 0) = false ∧ ((secS (psS x).fst (psS x).snd.fst (psS x).snd.snd.fst (psS x).snd.snd.snd.fst).1 != x) = false ∧ ((psS x).snd.snd.snd.1 = true → (!(psS x).1) = false ∧ ((psS x).snd.snd.snd.2 != 0) = false ∧ (0 ≤ (firstS p).1 ∧ (firstS p).1 < 4294967296) ∧ decide (p < 0) = false ∧ decide (63 < p) = false ∧ ((firstS p).2 != 0) = false ∧ ((pfS (firstS p).fst).2 != 0) = false ∧ ((pfS (firstS p).fst).1 != p) = false ∧ (-9223372036854775808 ≤ p ∧ p < 9223372036854775808) ∧ (0 ≤ (secS true p false false).1 ∧ (secS true p false false).1 < 4294967296) ∧ false = false ∧ ((secS true p false false).2 != 0) = false ∧ ((psS (secS true p false false).fst).snd.snd.snd.2 != 0) = false ∧ (!((psS (secS true p false false).fst).1 == true && ((psS (secS true p false false).fst).snd.1 == p && ((psS (secS true p false false).fst).snd.snd.1 == false && ((psS (secS true p false false).fst).snd.snd.snd.1 == false && true))))) = false ∧ (-9223372036854775808 ≤ p ∧ p < 9223372036854775808) ∧ (0 ≤ (secS true p true false).1 ∧ (secS true p true false).1 < 4294967296) ∧ false = false ∧ ((secS true p true false).2 != 0) = false ∧ ((psS (secS true p true false).fst).snd.snd.snd.2 != 0) = false ∧ (!((psS (secS true p true false).fst).1 == true && ((psS (secS true p true false).fst).snd.1 == p && ((psS (secS true p true false).fst).snd.snd.1 == true && ((psS (secS true p true false).fst).snd.snd.snd.1 == false && true))))) = false ∧ (-9223372036854775808 ≤ p ∧ p < 9223372036854775808) ∧ (0 ≤ (secS true p false true).1 ∧ (secS true p false true).1 < 4294967296) ∧ false = false ∧ ((secS true p false true).2 != 0) = false ∧ ((psS (secS true p false true).fst).snd.snd.snd.2 != 0) = false ∧ (!((psS (secS true p false true).fst).1 == true && ((psS (secS true p false true).fst).snd.1 == p && ((psS (secS true p false true).fst).snd.snd.1 == false && ((psS (secS true p false true).fst).snd.snd.snd.1 == true && true))))) = false ∧ (-9223372036854775808 ≤ p ∧ p < 9223372036854775808) ∧ (0 ≤ (secS true p true true).1 ∧ (secS true p true true).1 < 4294967296) ∧ false = false ∧ ((secS true p true true).2 != 0) = false ∧ ((psS (secS true p true true).fst).snd.snd.snd.2 != 0) = false ∧ (!((psS (secS true p true true).fst).1 == true && ((psS (secS true p true true).fst).snd.1 == p && ((psS (secS true p true true).fst).snd.snd.1 == true && ((psS (secS true p true true).fst).snd.snd.snd.1 == true && true))))) = false ∧ true = true) ∧ ((psS x).snd.snd.snd.1 = false → ((psS x).snd.snd.snd.2 != 0) = false ∧ (0 ≤ (firstS p).1 ∧ (firstS p).1 < 4294967296) ∧ decide (p < 0) = false ∧ decide (63 < p) = false ∧ ((firstS p).2 != 0) = false ∧ ((pfS (firstS p).fst).2 != 0) = false ∧ ((pfS (firstS p).fst).1 != p) = false ∧ (-9223372036854775808 ≤ p ∧ p < 9223372036854775808) ∧ (0 ≤ (secS true p false false).1 ∧ (secS true p false false).1 < 4294967296) ∧ false = false ∧ ((secS true p false false).2 != 0) = false ∧ ((psS (secS true p false false).fst).snd.snd.snd.2 != 0) = false ∧ (!((psS (secS true p false false).fst).1 == true && ((psS (secS true p false false).fst).snd.1 == p && ((psS (secS true p false false).fst).snd.snd.1 == false && ((psS (secS true p false false).fst).snd.snd.snd.1 == false && true))))) = false ∧ (-9223372036854775808 ≤ p ∧ p < 9223372036854775808) ∧ (0 ≤ (secS true p true false).1 ∧ (secS true p true false).1 < 4294967296) ∧ false = false ∧ ((secS true p true false).2 != 0) = false ∧ ((psS (secS true p true false).fst).snd.snd.snd.2 != 0) = false ∧ (!((psS (secS true p true false).fst).1 == true && ((psS (secS true p true false).fst).snd.1 == p && ((psS (secS true p true false).fst).snd.snd.1 == true && ((psS (secS true p true false).fst).snd.snd.snd.1 == false && true))))) = false ∧ (-9223372036854775808 ≤ p ∧ p < 9223372036854775808) ∧ (0 ≤ (secS true p false true).1 ∧ (secS true p false true).1 < 4294967296) ∧ false = false ∧ ((secS true p false true).2 != 0) = false ∧ ((psS (secS true p false true).fst).snd.snd.snd.2 != 0) = false ∧ (!((psS (secS true p false true).fst).1 == true && ((psS (secS true p false true).fst).snd.1 == p && ((psS (secS true p false true).fst).snd.snd.1 == false && ((psS (secS true p false true).fst).snd.snd.snd.1 == true && true))))) = false ∧ (-9223372036854775808 ≤ p ∧ p < 9223372036854775808) ∧ (0 ≤ (secS true p true true).1 ∧ (secS true p true true).1 < 4294967296) ∧ false = false ∧ ((secS true p true true).2 != 0) = false ∧ ((psS (secS true p true true).fst).snd.snd.snd.2 != 0) = false ∧ (!((psS (secS true p true true).fst).1 == true && ((psS (secS true p true true).fst).snd.1 == p && ((psS (secS true p true true).fst).snd.snd.1 == true && ((psS (secS true p true true).fst).snd.snd.snd.1 == true && true))))) = false ∧ true = true))) (by kernel_rfl) ?_
  have hA := h2
  have hB := h3
  have hC := h4
  have hD := h5
  have sA : splitS va = (0, 0, 0, 91) := by unfold splitS; rw [if_neg hA]
  have jA := join0
  have sB := (first_pf hB h1.1).1
  have jB := (first_pf hB h1.1).2
  obtain ⟨ae, ap, aw, ax, sC, jC, kC⟩ := psS_yes hC
  have sD := first_in hD.1 hD.2
  have jD := pf_in hD.1 hD.2
  have stt := psS_secS (se := true) (wr := true) (ex := true) hD.1 hD.2 (by simp)
  have stf := psS_secS (se := true) (wr := true) (ex := false) hD.1 hD.2 (by simp)
  have sft := psS_secS (se := true) (wr := false) (ex := true) hD.1 hD.2 (by simp)
  have sff := psS_secS (se := true) (wr := false) (ex := false) hD.1 hD.2 (by simp)
  have i1 := InKpsS h1
  try simp only [sC] at i1
  simp only [InK] at h0 h1 h6
  try simp only [fl, if_true, if_false, Bool.false_eq_true, Int.add_zero] at sD
  try simp only [fl, if_true, if_false, Bool.false_eq_true, Int.add_zero] at stt
  try simp only [fl, if_true, if_false, Bool.false_eq_true, Int.add_zero] at stf
  try simp only [fl, if_true, if_false, Bool.false_eq_true, Int.add_zero] at sft
  try simp only [fl, if_true, if_false, Bool.false_eq_true, Int.add_zero] at sff
  try dsimp only
  have hx0 : x = 0 ∨ x ≠ 0 := by omega
  rcases hx0 with hx0 | hx0
  · first | (subst hx0; exact absurd hB (by decide)) | (subst hx0; exact absurd hC (by decide)) | skip
    all_goals (subst hx0; try simp only [if_true] at sB sC)
    all_goals (simp [h0, h6, sA, jA, sB, jB, sC, jC, sD, jD, InK, i1, sD, stt, stf, sft, sff]; try (repeat' (first | apply And.intro | intro _hc)); all_goals (first | omega | (cases ae <;> cases ax <;> simp_all)))
  · try simp only [if_neg hx0] at sB sC
    simp [h0, h1, h6, hx0, sA, jA, sB, jB, sC, jC, sD, jD, InK, i1, sD, stt, stf, sft, sff]
    try (repeat' (first | apply And.intro | intro _hc))
    all_goals (first | omega | (cases ae <;> cases ax <;> simp_all))
def c_WBbaac : List SV → Option (List Prop × SV)
  | [.int .u32 va, .int .u32 x, .bool true, .int .i64 p] => some ([InK .u32 va, InK .u32 x, ¬ (va < 1073741824 ∧ va % 4 = 0), x % 256 = 1 ∧ x / 256 < 64, (psS x).2.2.2.2 = 0, 0 ≤ p ∧ p < 64, InK .i64 p], .bool true)
  | _ => none
theorem c_WBbaac_e : PEntry Try.prog 10 c_WBbaac := by
  refine ⟨callFunc_ok Try.func10 (by kernel_rfl) (by kernel_rfl), fun args ps v h hp => ?_⟩
  unfold c_WBbaac at h
  split at h
  · cases h; exact WBbaac_ok _ _ _ (hp _ (List.mem_of_getElem? (i := 0) rfl)) (hp _ (List.mem_of_getElem? (i := 1) rfl)) (hp _ (List.mem_of_getElem? (i := 2) rfl)) (hp _ (List.mem_of_getElem? (i := 3) rfl)) (hp _ (List.mem_of_getElem? (i := 4) rfl)) (hp _ (List.mem_of_getElem? (i := 5) rfl)) (hp _ (List.mem_of_getElem? (i := 6) rfl))
  · cases h
theorem WBbaad_ok (va x p : Int) (h0 : InK .u32 va) (h1 : InK .u32 x) (h2 : ¬ (va < 1073741824 ∧ va % 4 = 0)) (h3 : x % 256 = 1 ∧ x / 256 < 64) (h4 : (psS x).2.2.2.2 = 0) (h5 : 0 ≤ p ∧ p < 64) (h6 : InK .i64 p) : PureSem Try.prog 10 [.int .u32 va, .int .u32 x, .bool false, .int .i64 p] (.bool true) := by
  refine pure_intro mixed (cx_wb_ok (fun d => bif Nat.beq d 38 || Nat.beq d 42 || Nat.beq d 54 || Nat.beq d 57 || Nat.beq d 63 || Nat.beq d 69 || Nat.beq d 74 || Nat.beq d 90 || Nat.beq d 95 || Nat.beq d 99 || Nat.beq d 104 || Nat.beq d 107 || Nat.beq d 118 || Nat.beq d 134 || Nat.beq d 139 || Nat.beq d 150 || Nat.beq d 153 || Nat.beq d 165 || Nat.beq d 178 || Nat.beq d 181 || Nat.beq d 190 || Nat.beq d 194 || Nat.beq d 198 || Nat.beq d 230 || Nat.beq d 233 || Nat.beq d 236 || Nat.beq d 240 || Nat.beq d 244 then some false else bif Nat.beq d 66 || Nat.beq d 87 || Nat.beq d 131 || Nat.beq d 224 then some true else none) (fun _ => none)) Try.func10 1000 rfl rfl ?_
  refine of_nf (p := (0 ≤ va ∧ va < 4294967296) ∧ false = false ∧ ((joinS (splitS va).fst (splitS va).snd.fst (splitS va).snd.snd.fst).2 != 0) = false ∧ (decide (va < 1073741824) = true → 0 ≤ va ∧ (((splitS va).snd.snd.2 == 0) != (va % 4 == 0)) = false ∧ ((splitS va).snd.snd.2 == 0) = false ∧ ((splitS va).snd.snd.2 != 0) = true ∧ ((splitS va).snd.snd.2 != 91) = false ∧ ((joinS (splitS va).fst (splitS va).snd.fst (splitS va).snd.snd.fst).1 != 0) = false ∧ (0 ≤ x ∧ x < 4294967296) ∧ ((pfS x).2 == 0) = true ∧ ((firstS (pfS x).fst).2 != 0) = false ∧ ((firstS (pfS x).fst).1 != x) = false ∧ decide ((pfS x).1 < 0) = false ∧ decide (63 < (pfS x).1) = false ∧ ((pfS x).2 != 0) = false ∧ (0 ≤ x ∧ x < 4294967296) ∧ (-9223372036854775808 ≤ (psS x).snd.1 ∧ (psS x).snd.1 < 9223372036854775808) ∧ ((psS x).snd.snd.snd.2 == 0) = true ∧ ((secS (psS x).fst (psS x).snd.fst (psS x).snd.snd.fst (psS x).snd.snd.snd.fst).2 != 0) = false ∧ ((secS (psS x).fst (psS x).snd.fst (psS x).snd.snd.fst (psS x).snd.snd.snd.fst).1 != x) = false ∧ ((psS x).snd.snd.snd.1 = true → (!(psS x).1) = false ∧ ((psS x).snd.snd.snd.2 != 0) = false ∧ (0 ≤ (firstS p).1 ∧ (firstS p).1 < 4294967296) ∧ decide (p < 0) = false ∧ decide (63 < p) = false ∧ ((firstS p).2 != 0) = false ∧ ((pfS (firstS p).fst).2 != 0) = false ∧ ((pfS (firstS p).fst).1 != p) = false ∧ (-9223372036854775808 ≤ p ∧ p < 9223372036854775808) ∧ (0 ≤ (secS false p false false).1 ∧ (secS false p false false).1 < 4294967296) ∧ true = true ∧ ((secS false p false false).2 != 0) = false ∧ ((psS (secS false p false false).fst).snd.snd.snd.2 != 0) = false ∧ (!((psS (secS false p false false).fst).1 == false && ((psS (secS false p false false).fst).snd.1 == p && ((psS (secS false p false false).fst).snd.snd.1 == false && ((psS (secS false p false false).fst).snd.snd.snd.1 == false && true))))) = false ∧ (-9223372036854775808 ≤ p ∧ p < 9223372036854775808) ∧ (0 ≤ (secS false p true false).1 ∧ (secS false p true false).1 < 4294967296) ∧ true = true ∧ ((secS false p true false).2 != 0) = false ∧ ((psS (secS false p true false).fst).snd.snd.snd.2 != 0) = false ∧ (!((psS (secS false p true false).fst).1 == false && ((psS (secS false p true false).fst).snd.1 == p && ((psS (secS false p true false).fst).snd.snd.1 == true && ((psS (secS false p true false).fst).snd.snd.snd.1 == false && true))))) = false ∧ (-9223372036854775808 ≤ p ∧ p < 9223372036854775808) ∧ (0 ≤ (secS false p false true).1 ∧ (secS false p false true).1 < 4294967296) ∧ true = true ∧ ((secS false p false true).2 != 1) = false ∧ ((secS false p false true).1 != 0) = false ∧ (-9223372036854775808 ≤ p ∧ p < 9223372036854775808) ∧ (0 ≤ (secS false p true true).1 ∧ (secS false p true true).1 < 4294967296) ∧ true = true ∧ ((secS false p true true).2 != 1) = false ∧ ((secS false p true true).1 != 0) = false ∧ true = true) ∧ ((psS x).snd.snd.snd.1 = false → ((psS x).snd.snd.snd.2 != 0) = false ∧ (0 ≤ (firstS p).1 ∧ (firstS p).1 < 4294967296) ∧ decide (p < 0) = false ∧ decide (63 < p) = false ∧ ((firstS p).2 != 0) = false ∧ ((pfS (firstS p).fst).2 != 0) = false ∧ ((pfS (firstS p).fst).1 != p) = false ∧ (-9223372036854775808 ≤ p ∧ p < 9223372036854775808) ∧ (0 ≤ (secS false p false false).1 ∧ (secS false p false false).1 < 4294967296) ∧ true = true ∧ ((secS false p false false).2 != 0) = false ∧ ((psS (secS false p false false).fst).snd.snd.snd.2 != 0) = false ∧ (!((psS (secS false p false false).fst).1 == false && ((psS (secS false p false false).fst).snd.1 == p && ((psS (secS false p false false).fst).snd.snd.1 == false && ((psS (secS false p false false).fst).snd.snd.snd.1 == false && true))))) = false ∧ (-9223372036854775808 ≤ p ∧ p < 9223372036854775808) ∧ (0 ≤ (secS false p true false).1 ∧ (secS false p true false).1 < 4294967296) ∧ true = true ∧ ((secS false p true false).2 != 0) = false ∧ ((psS (secS false p true false).fst).snd.snd.snd.2 != 0) = false ∧ (!((psS (secS false p true false).fst).1 == false && ((psS (secS false p true false).fst).snd.1 == p && ((psS (secS false p true false).fst).snd.snd.1 == true && ((psS (secS false p true false).fst).snd.snd.snd.1 == false && true))))) = false ∧ (-9223372036854775808 ≤ p ∧ p < 9223372036854775808) ∧ (0 ≤ (secS false p false true).1 ∧ (secS false p false true).1 < 4294967296) ∧ true = true ∧ ((secS false p false true).2 != 1) = false ∧ ((secS false p false true).1 != 0) = false ∧ (-9223372036854775808 ≤ p ∧ p < 9223372036854775808) ∧ (0 ≤ (secS false p true true).1 ∧ (secS false p true true).1 < 4294967296) ∧ true = true ∧ ((secS false p true true).2 != 1) = false ∧ ((secS false p true true).1 != 0) = false ∧ true = true)) ∧ (decide (va < 1073741824) = false → (((splitS va).snd.snd.2 == 0) != false) = false ∧ ((splitS va).snd.snd.2 == 0) = false ∧ ((splitS va).snd.snd.2 != 0) = true ∧ ((splitS va).snd.snd.2 != 91) = false ∧ ((joinS (splitS va).fst (splitS va).snd.fst (splitS va).snd.snd.fst).1 != 0) = false ∧ (0 ≤ x ∧ x < 4294967296) ∧ ((pfS x).2 == 0) = true ∧ ((firstS (pfS x).fst).2 != 0) = false ∧ ((firstS (pfS x).fst).1 != x) = false ∧ decide ((pfS x).1 < 0) = false ∧ decide (63 < (pfS x).1) = false ∧ ((pfS x).2 != 0) = false ∧ (0 ≤ x ∧ x < 4294967296) ∧ (-9223372036854775808 ≤ (psS x).snd.1 ∧ (psS x).snd.1 < 9223372036854775808) ∧ ((psS x).snd.snd.snd.2 == 0) = true ∧ ((secS (psS x).fst (psS x).snd.fst (psS x).snd.snd.fst (psS x).snd.snd.snd.fst).2 != 0) = false ∧ ((secS (psS x).fst (psS x).snd.fst (psS x).snd.snd.fst (psS x).snd.snd.snd.fst).1 != x) = false ∧ ((psS x).snd.snd.snd.1 = true → (!(psS x).1) = false ∧ ((psS x).snd.snd.snd.2 != 0) = false ∧ (0 ≤ (firstS p).1 ∧ (firstS p).1 < 4294967296) ∧ decide (p < 0) = false ∧ decide (63 < p) = false ∧ ((firstS p).2 != 0) = false ∧ ((pfS (firstS p).fst).2 != 0) = false ∧ ((pfS (firstS p).fst).1 != p) = false ∧ (-9223372036854775808 ≤ p ∧ p < 9223372036854775808) ∧ (0 ≤ (secS false p false false).1 ∧ (secS false p false false).1 < 4294967296) ∧ true = true ∧ ((secS false p false false).2 != 0) = false ∧ ((psS (secS false p false false).fst).snd.snd.snd.2 != 0) = false ∧ (!((psS (secS false p false false).fst).1 == false && ((psS (secS false p false false).fst).snd.1 == p && ((psS (secS false p false false).fst).snd.snd.1 == false && ((psS (secS false p false false).fst).snd.snd.snd.1 == false && true))))) = false ∧ (-9223372036854775808 ≤ p ∧ p < 9223372036854775808) ∧ (0 ≤ (secS false p true false).1 ∧ (secS false p true false).1 < 4294967296) ∧ true = true ∧ ((secS false p true false).2 != 0) = false ∧ ((psS (secS false p true false).fst).snd.snd.snd.2 != 0) = false ∧ (!((psS (secS false p true false).fst).1 == false && ((psS (secS false p true false).fst).snd.1 == p && ((psS (secS false p true false).fst).snd.snd.1 == true && ((psS (secS false p true false).fst).snd.snd.snd.1 == false && true))))) = false ∧ (-9223372036854775808 ≤ p ∧ p < 9223372036854775808) ∧ (0 ≤ (secS false p false true).1 ∧ (secS false p false true).1 < 4294967296) ∧ true = true ∧ ((secS false p false true).2 != 1) = false ∧ ((secS false p false true).1 != 0) = false ∧ (-9223372036854775808 ≤ p ∧ p < 9223372036854775808) ∧ (0 ≤ (secS false p true true).1 ∧ (secS false p true true).1 < 4294967296) ∧ true = true ∧ ((secS false p true true).2 != 1) = false ∧ ((secS false p true true).1 != 0) = false ∧ true = true) ∧ ((psS x).snd.snd.snd.1 = false → ((psS x).snd.snd.snd.2 != 0) = false ∧ (0 ≤ (firstS p).1 ∧ (firstS p).1 < 4294967296) ∧ decide (p < 0) = false ∧ decide (63 < p) = false ∧ ((firstS p).2 != 0) = false ∧ ((pfS (firstS p).fst).2 != 0) = false ∧ ((pfS (firstS p).fst).1 != p) = false ∧ (-9223372036854775808 ≤ p ∧ p < 9223372036854775808) ∧ (0 ≤ (secS false p false false).1 ∧ (secS false p false false).1 < 4294967296) ∧ true = true ∧ ((secS false p false false).2 != 0) = false ∧ ((psS (secS false p false false).fst).snd.snd.snd.2 != 0) = false ∧ (!((psS (secS false p false false).fst).1 == false && ((psS (secS false p false false).fst).snd.1 == p && ((psS (secS false p false false).fst).snd.snd.1 == false && ((psS (secS false p false false).fst).snd.snd.snd.1 == false && true))))) = false ∧ (-9223372036854775808 ≤ p ∧ p < 9223372036854775808) ∧ (0 ≤ (secS false p true false).1 ∧ (secS false p true false).1 < 4294967296) ∧ true = true ∧ ((secS false p true false).2 != 0) = false ∧ ((psS (secS false p true false).fst).snd.snd.snd.2 != 0) = false ∧ (!((psS (secS false p true false).fst).1 == false && ((psS (secS false p true false).fst).snd.1 == p && ((psS (secS false p true false).fst).snd.snd.1 == true && ((psS (secS false p true false).fst).snd.snd.snd.1 == false && true))))) = false ∧ (-9223372036854775808 ≤ p ∧ p < 9223372036854775808) ∧ (0 ≤ (secS false p false true).1 ∧ (secS false p false true).1 < 4294967296) ∧ true = true ∧ ((secS false p false true).2 != 1) = false ∧ ((secS false p false true).1 != 0) = false ∧ (-9223372036854775808 ≤ p ∧ p < 9223372036854775808) ∧ (0 ≤ (secS false p true true).1 ∧ (secS false p true true).1 < 4294967296) ∧ true = true ∧ ((secS false p true true).2 != 1) = false ∧ ((secS false p true true).1 != 0) = false ∧ true = true))) (by kernel_rfl) ?_
  have hA := h2
  have hB := h3
  have hC := h4
  have hD := h5
  have sA : splitS va = (0, 0, 0, 91) := by unfold splitS; rw [if_neg hA]
  have jA := join0
  have sB := (first_pf hB h1.1).1
  have jB := (first_pf hB h1.1).2
  obtain ⟨ae, ap, aw, ax, sC, jC, kC⟩ := psS_yes hC
  have sD := first_in hD.1 hD.2
  have jD := pf_in hD.1 hD.2
  have stf := psS_secS (se := false) (wr := true) (ex := false) hD.1 hD.2 (by simp)
  have sff := psS_secS (se := false) (wr := false) (ex := false) hD.1 hD.2 (by simp)
  have stt := secS_no true hD.1 hD.2
  have sft := secS_no false hD.1 hD.2
  have i1 := InKpsS h1
  try simp only [sC] at i1
  simp only [InK] at h0 h1 h6
  try simp only [fl, if_true, if_false, Bool.false_eq_true, Int.add_zero] at sD
  try simp only [fl, if_true, if_false, Bool.false_eq_true, Int.add_zero] at stf
  try simp only [fl, if_true, if_false, Bool.false_eq_true, Int.add_zero] at sff
  try simp only [fl, if_true, if_false, Bool.false_eq_true, Int.add_zero] at stt
  try simp only [fl, if_true, if_false, Bool.false_eq_true, Int.add_zero] at sft
  try dsimp only
  have hx0 : x = 0 ∨ x ≠ 0 := by omega
  rcases hx0 with hx0 | hx0
  · first | (subst hx0; exact absurd hB (by decide)) | (subst hx0; exact absurd hC (by decide)) | skip
    all_goals (subst hx0; try simp only [if_true] at sB sC)
    all_goals (simp [h0, h6, sA, jA, sB, jB, sC, jC, sD, jD, InK, i1, sD, stf, sff, stt, sft]; try (repeat' (first | apply And.intro | intro _hc)); all_goals (first | omega | (cases ae <;> cases ax <;> simp_all)))
  · try simp only [if_neg hx0] at sB sC
    simp [h0, h1, h6, hx0, sA, jA, sB, jB, sC, jC, sD, jD, InK, i1, sD, stf, sff, stt, sft]
    try (repeat' (first | apply And.intro | intro _hc))
    all_goals (first | omega | (cases ae <;> cases ax <;> simp_all))
def c_WBbaad : List SV → Option (List Prop × SV)
  | [.int .u32 va, .int .u32 x, .bool false, .int .i64 p] => some ([InK .u32 va, InK .u32 x, ¬ (va < 1073741824 ∧ va % 4 = 0), x % 256 = 1 ∧ x / 256 < 64, (psS x).2.2.2.2 = 0, 0 ≤ p ∧ p < 64, InK .i64 p], .bool true)
  | _ => none
theorem c_WBbaad_e : PEntry Try.prog 10 c_WBbaad := by
  refine ⟨callFunc_ok Try.func10 (by kernel_rfl) (by kernel_rfl), fun args ps v h hp => ?_⟩
  unfold c_WBbaad at h
  split at h
  · cases h; exact WBbaad_ok _ _ _ (hp _ (List.mem_of_getElem? (i := 0) rfl)) (hp _ (List.mem_of_getElem? (i := 1) rfl)) (hp _ (List.mem_of_getElem? (i := 2) rfl)) (hp _ (List.mem_of_getElem? (i := 3) rfl)) (hp _ (List.mem_of_getElem? (i := 4) rfl)) (hp _ (List.mem_of_getElem? (i := 5) rfl)) (hp _ (List.mem_of_getElem? (i := 6) rfl))
  · cases h
theorem WBbaba_ok (va x p : Int) (se : Bool) (h0 : InK .u32 va) (h1 : InK .u32 x) (h2 : ¬ (va < 1073741824 ∧ va % 4 = 0)) (h3 : x % 256 = 1 ∧ x / 256 < 64) (h4 : ¬ (psS x).2.2.2.2 = 0) (h5 : p < 0) (h6 : InK .i64 p) : PureSem Try.prog 10 [.int .u32 va, .int .u32 x, .bool se, .int .i64 p] (.bool true) := by
  refine pure_intro mixed (cx_wb_ok (fun d => bif Nat.beq d 38 || Nat.beq d 42 || Nat.beq d 54 || Nat.beq d 57 || Nat.beq d 63 || Nat.beq d 69 || Nat.beq d 74 || Nat.beq d 90 || Nat.beq d 95 || Nat.beq d 99 || Nat.beq d 104 || Nat.beq d 107 || Nat.beq d 118 || Nat.beq d 131 || Nat.beq d 150 || Nat.beq d 157 || Nat.beq d 165 then some false else bif Nat.beq d 66 || Nat.beq d 87 || Nat.beq d 153 || Nat.beq d 178 || Nat.beq d 181 || Nat.beq d 184 then some true else none) (fun _ => none)) Try.func10 1000 rfl rfl ?_
  refine of_nf (p := (0 ≤ va ∧ va < 4294967296) ∧ false = false ∧ ((joinS (splitS va).fst (splitS va).snd.fst (splitS va).snd.snd.fst).2 != 0) = false ∧ (decide (va < 1073741824) = true → 0 ≤ va ∧ (((splitS va).snd.snd.2 == 0) != (va % 4 == 0)) = false ∧ ((splitS va).snd.snd.2 == 0) = false ∧ ((splitS va).snd.snd.2 != 0) = true ∧ ((splitS va).snd.snd.2 != 91) = false ∧ ((joinS (splitS va).fst (splitS va).snd.fst (splitS va).snd.snd.fst).1 != 0) = false ∧ (0 ≤ x ∧ x < 4294967296) ∧ ((pfS x).2 == 0) = true ∧ ((firstS (pfS x).fst).2 != 0) = false ∧ ((firstS (pfS x).fst).1 != x) = false ∧ decide ((pfS x).1 < 0) = false ∧ decide (63 < (pfS x).1) = false ∧ ((pfS x).2 != 0) = false ∧ (0 ≤ x ∧ x < 4294967296) ∧ (-9223372036854775808 ≤ (psS x).snd.1 ∧ (psS x).snd.1 < 9223372036854775808) ∧ ((psS x).snd.snd.snd.2 == 0) = false ∧ ((psS x).snd.snd.snd.2 != 0) = true ∧ (!((psS x).1 == false && ((psS x).snd.1 == 0 && ((psS x).snd.snd.1 == false && ((psS x).snd.snd.snd.1 == false && true))))) = false ∧ (((psS x).snd.snd.snd.2 == 92) != (x == 0)) = false ∧ (0 ≤ (firstS p).1 ∧ (firstS p).1 < 4294967296) ∧ decide (p < 0) = true ∧ ((firstS p).2 == 4) = true ∧ ((firstS p).1 == 0) = true) ∧ (decide (va < 1073741824) = false → (((splitS va).snd.snd.2 == 0) != false) = false ∧ ((splitS va).snd.snd.2 == 0) = false ∧ ((splitS va).snd.snd.2 != 0) = true ∧ ((splitS va).snd.snd.2 != 91) = false ∧ ((joinS (splitS va).fst (splitS va).snd.fst (splitS va).snd.snd.fst).1 != 0) = false ∧ (0 ≤ x ∧ x < 4294967296) ∧ ((pfS x).2 == 0) = true ∧ ((firstS (pfS x).fst).2 != 0) = false ∧ ((firstS (pfS x).fst).1 != x) = false ∧ decide ((pfS x).1 < 0) = false ∧ decide (63 < (pfS x).1) = false ∧ ((pfS x).2 != 0) = false ∧ (0 ≤ x ∧ x < 4294967296) ∧ (-9223372036854775808 ≤ (psS x).snd.1 ∧ (psS x).snd.1 < 9223372036854775808) ∧ ((psS x).snd.snd.snd.2 == 0) = false ∧ ((psS x).snd.snd.snd.2 != 0) = true ∧ (!((psS x).1 == false && ((psS x).snd.1 == 0 && ((psS x).snd.snd.1 == false && ((psS x).snd.snd.snd.1 == false && true))))) = false ∧ (((psS x).snd.snd.snd.2 == 92) != (x == 0)) = false ∧ (0 ≤ (firstS p).1 ∧ (firstS p).1 < 4294967296) ∧ decide (p < 0) = true ∧ ((firstS p).2 == 4) = true ∧ ((firstS p).1 == 0) = true)) (by kernel_rfl) ?_
  have hA := h2
  have hB := h3
  have hC := h4
  have hD := h5
  have sA : splitS va = (0, 0, 0, 91) := by unfold splitS; rw [if_neg hA]
  have jA := join0
  have sB := (first_pf hB h1.1).1
  have jB := (first_pf hB h1.1).2
  have sC := psS_no hC
  have jC := sec0
  have kC := trivial
  have sD := first_out (.inl hD)
  have jD := pf0
  have i1 := InKpsS h1
  try simp only [sC] at i1
  simp only [InK] at h0 h1 h6
  try simp only [fl, if_true, if_false, Bool.false_eq_true, Int.add_zero] at sD
  try dsimp only
  have hx0 : x = 0 ∨ x ≠ 0 := by omega
  rcases hx0 with hx0 | hx0
  · first | (subst hx0; exact absurd hB (by decide)) | (subst hx0; exact absurd hC (by decide)) | skip
    all_goals (subst hx0; try simp only [if_true] at sB sC)
    all_goals (simp [h0, h6, sA, jA, sB, jB, sC, jC, sD, jD, InK, i1, sD]; try (repeat' (first | apply And.intro | intro _hc)); all_goals (first | omega | (cases ae <;> cases ax <;> simp_all)))
  · try simp only [if_neg hx0] at sB sC
    simp [h0, h1, h6, hx0, sA, jA, sB, jB, sC, jC, sD, jD, InK, i1, sD]
    try (repeat' (first | apply And.intro | intro _hc))
    all_goals (first | omega | (cases ae <;> cases ax <;> simp_all))
def c_WBbaba : List SV → Option (List Prop × SV)
  | [.int .u32 va, .int .u32 x, .bool se, .int .i64 p] => some ([InK .u32 va, InK .u32 x, ¬ (va < 1073741824 ∧ va % 4 = 0), x % 256 = 1 ∧ x / 256 < 64, ¬ (psS x).2.2.2.2 = 0, p < 0, InK .i64 p], .bool true)
  | _ => none
theorem c_WBbaba_e : PEntry Try.prog 10 c_WBbaba := by
  refine ⟨callFunc_ok Try.func10 (by kernel_rfl) (by kernel_rfl), fun args ps v h hp => ?_⟩
  unfold c_WBbaba at h
  split at h
  · cases h; exact WBbaba_ok _ _ _ _ (hp _ (List.mem_of_getElem? (i := 0) rfl)) (hp _ (List.mem_of_getElem? (i := 1) rfl)) (hp _ (List.mem_of_getElem? (i := 2) rfl)) (hp _ (List.mem_of_getElem? (i := 3) rfl)) (hp _ (List.mem_of_getElem? (i := 4) rfl)) (hp _ (List.mem_of_getElem? (i := 5) rfl)) (hp _ (List.mem_of_getElem? (i := 6) rfl))
  · cases h
theorem WBbabb_ok (va x p : Int) (se : Bool) (h0 : InK .u32 va) (h1 : InK .u32 x) (h2 : ¬ (va < 1073741824 ∧ va % 4 = 0)) (h3 : x % 256 = 1 ∧ x / 256 < 64) (h4 : ¬ (psS x).2.2.2.2 = 0) (h5 : 64 ≤ p) (h6 : InK .i64 p) : PureSem Try.prog 10 [.int .u32 va, .int .u32 x, .bool se, .int .i64 p] (.bool true) := by
  refine pure_intro mixed (cx_wb_ok (fun d => bif Nat.beq d 38 || Nat.beq d 42 || Nat.beq d 54 || Nat.beq d 57 || Nat.beq d 63 || Nat.beq d 69 || Nat.beq d 74 || Nat.beq d 90 || Nat.beq d 95 || Nat.beq d 99 || Nat.beq d 104 || Nat.beq d 107 || Nat.beq d 118 || Nat.beq d 131 || Nat.beq d 150 || Nat.beq d 157 || Nat.beq d 165 || Nat.beq d 178 then some false else bif Nat.beq d 66 || Nat.beq d 87 || Nat.beq d 153 || Nat.beq d 181 || Nat.beq d 184 then some true else none) (fun _ => none)) Try.func10 1000 rfl rfl ?_
  refine of_nf (p := (0 ≤ va ∧ va < 4294967296) ∧ false = false ∧ ((joinS (splitS va).fst (splitS va).snd.fst (splitS va).snd.snd.fst).2 != 0) = false ∧ (decide (va < 1073741824) = true → 0 ≤ va ∧ (((splitS va).snd.snd.2 == 0) != (va % 4 == 0)) = false ∧ ((splitS va).snd.snd.2 == 0) = false ∧ ((splitS va).snd.snd.2 != 0) = true ∧ ((splitS va).snd.snd.2 != 91) = false ∧ ((joinS (splitS va).fst (splitS va).snd.fst (splitS va).snd.snd.fst).1 != 0) = false ∧ (0 ≤ x ∧ x < 4294967296) ∧ ((pfS x).2 == 0) = true ∧ ((firstS (pfS x).fst).2 != 0) = false ∧ ((firstS (pfS x).fst).1 != x) = false ∧ decide ((pfS x).1 < 0) = false ∧ decide (63 < (pfS x).1) = false ∧ ((pfS x).2 != 0) = false ∧ (0 ≤ x ∧ x < 4294967296) ∧ (-9223372036854775808 ≤ (psS x).snd.1 ∧ (psS x).snd.1 < 9223372036854775808) ∧ ((psS x).snd.snd.snd.2 == 0) = false ∧ ((psS x).snd.snd.snd.2 != 0) = true ∧ (!((psS x).1 == false && ((psS x).snd.1 == 0 && ((psS x).snd.snd.1 == false && ((psS x).snd.snd.snd.1 == false && true))))) = false ∧ (((psS x).snd.snd.snd.2 == 92) != (x == 0)) = false ∧ (0 ≤ (firstS p).1 ∧ (firstS p).1 < 4294967296) ∧ decide (p < 0) = false ∧ decide (63 < p) = true ∧ ((firstS p).2 == 4) = true ∧ ((firstS p).1 == 0) = true) ∧ (decide (va < 1073741824) = false → (((splitS va).snd.snd.2 == 0) != false) = false ∧ ((splitS va).snd.snd.2 == 0) = false ∧ ((splitS va).snd.snd.2 != 0) = true ∧ ((splitS va).snd.snd.2 != 91) = false ∧ ((joinS (splitS va).fst (splitS va).snd.fst (splitS va).snd.snd.fst).1 != 0) = false ∧ (0 ≤ x ∧ x < 4294967296) ∧ ((pfS x).2 == 0) = true ∧ ((firstS (pfS x).fst).2 != 0) = false ∧ ((firstS (pfS x).fst).1 != x) = false ∧ decide ((pfS x).1 < 0) = false ∧ decide (63 < (pfS x).1) = false ∧ ((pfS x).2 != 0) = false ∧ (0 ≤ x ∧ x < 4294967296) ∧ (-9223372036854775808 ≤ (psS x).snd.1 ∧ (psS x).snd.1 < 9223372036854775808) ∧ ((psS x).snd.snd.snd.2 == 0) = false ∧ ((psS x).snd.snd.snd.2 != 0) = true ∧ (!((psS x).1 == false && ((psS x).snd.1 == 0 && ((psS x).snd.snd.1 == false && ((psS x).snd.snd.snd.1 == false && true))))) = false ∧ (((psS x).snd.snd.snd.2 == 92) != (x == 0)) = false ∧ (0 ≤ (firstS p).1 ∧ (firstS p).1 < 4294967296) ∧ decide (p < 0) = false ∧ decide (63 < p) = true ∧ ((firstS p).2 == 4) = true ∧ ((firstS p).1 == 0) = true)) (by kernel_rfl) ?_
  have hA := h2
  have hB := h3
  have hC := h4
  have hD := h5
  have sA : splitS va = (0, 0, 0, 91) := by unfold splitS; rw [if_neg hA]
  have jA := join0
  have sB := (first_pf hB h1.1).1
  have jB := (first_pf hB h1.1).2
  have sC := psS_no hC
  have jC := sec0
  have kC := trivial
  have sD := first_out (.inr hD)
  have jD := pf0
  have i1 := InKpsS h1
  try simp only [sC] at i1
  simp only [InK] at h0 h1 h6
  try simp only [fl, if_true, if_false, Bool.false_eq_true, Int.add_zero] at sD
  try dsimp only
  have hx0 : x = 0 ∨ x ≠ 0 := by omega
  rcases hx0 with hx0 | hx0
  · first | (subst hx0; exact absurd hB (by decide)) | (subst hx0; exact absurd hC (by decide)) | skip
    all_goals (subst hx0; try simp only [if_true] at sB sC)
    all_goals (simp [h0, h6, sA, jA, sB, jB, sC, jC, sD, jD, InK, i1, sD]; try (repeat' (first | apply And.intro | intro _hc)); all_goals (first | omega | (cases ae <;> cases ax <;> simp_all)))
  · try simp only [if_neg hx0] at sB sC
    simp [h0, h1, h6, hx0, sA, jA, sB, jB, sC, jC, sD, jD, InK, i1, sD]
    try (repeat' (first | apply And.intro | intro _hc))
    all_goals (first | omega | (cases ae <;> cases ax <;> simp_all))
def c_WBbabb : List SV → Option (List Prop × SV)
  | [.int .u32 va, .int .u32 x, .bool se, .int .i64 p] => some ([InK .u32 va, InK .u32 x, ¬ (va < 1073741824 ∧ va % 4 = 0), x % 256 = 1 ∧ x / 256 < 64, ¬ (psS x).2.2.2.2 = 0, 64 ≤ p, InK .i64 p], .bool true)
  | _ => none
theorem c_WBbabb_e : PEntry Try.prog 10 c_WBbabb := by
  refine ⟨callFunc_ok Try.func10 (by kernel_rfl) (by kernel_rfl), fun args ps v h hp => ?_⟩
  unfold c_WBbabb at h
  split at h
  · cases h; exact WBbabb_ok _ _ _ _ (hp _ (List.mem_of_getElem? (i := 0) rfl)) (hp _ (List.mem_of_getElem? (i := 1) rfl)) (hp _ (List.mem_of_getElem? (i := 2) rfl)) (hp _ (List.mem_of_getElem? (i := 3) rfl)) (hp _ (List.mem_of_getElem? (i := 4) rfl)) (hp _ (List.mem_of_getElem? (i := 5) rfl)) (hp _ (List.mem_of_getElem? (i := 6) rfl))
  · cases h
theorem WBbabc_ok (va x p : Int) (h0 : InK .u32 va) (h1 : InK .u32 x) (h2 : ¬ (va < 1073741824 ∧ va % 4 = 0)) (h3 : x % 256 = 1 ∧ x / 256 < 64) (h4 : ¬ (psS x).2.2.2.2 = 0) (h5 : 0 ≤ p ∧ p < 64) (h6 : InK .i64 p) : PureSem Try.prog 10 [.int .u32 va, .int .u32 x, .bool true, .int .i64 p] (.bool true) := by
  refine pure_intro mixed (cx_wb_ok (fun d => bif Nat.beq d 38 || Nat.beq d 42 || Nat.beq d 54 || Nat.beq d 57 || Nat.beq d 63 || Nat.beq d 69 || Nat.beq d 74 || Nat.beq d 90 || Nat.beq d 95 || Nat.beq d 99 || Nat.beq d 104 || Nat.beq d 107 || Nat.beq d 118 || Nat.beq d 131 || Nat.beq d 150 || Nat.beq d 157 || Nat.beq d 165 || Nat.beq d 178 || Nat.beq d 181 || Nat.beq d 190 || Nat.beq d 194 || Nat.beq d 198 || Nat.beq d 224 || Nat.beq d 227 || Nat.beq d 236 || Nat.beq d 240 || Nat.beq d 244 then some false else bif Nat.beq d 66 || Nat.beq d 87 || Nat.beq d 153 then some true else none) (fun _ => none)) Try.func10 1000 rfl rfl ?_
  refine of_nf (p := (0 ≤ va ∧ va < 4294967296) ∧ false = false ∧ ((joinS (splitS va).fst (splitS va).snd.fst (splitS va).snd.snd.fst).2 != 0) = false ∧ (decide (va < 1073741824) = true → 0 ≤ va ∧ (((splitS va).snd.snd.2 == 0) != (va % 4 == 0)) = false ∧ ((splitS va).snd.snd.2 == 0) = false ∧ ((splitS va).snd.snd.2 != 0) = true ∧ ((splitS va).snd.snd.2 != 91) = false ∧ ((joinS (splitS va).fst (splitS va).snd.fst (splitS va).snd.snd.fst).1 != 0) = false ∧ (0 ≤ x ∧ x < 4294967296) ∧ ((pfS x).2 == 0) = true ∧ ((firstS (pfS x).fst).2 != 0) = false ∧ ((firstS (pfS x).fst).1 != x) = false ∧ decide ((pfS x).1 < 0) = false ∧ decide (63 < (pfS x).1) = false ∧ ((pfS x).2 != 0) = false ∧ (0 ≤ x ∧ x < 4294967296) ∧ (-9223372036854775808 ≤ (psS x).snd.1 ∧ (psS x).snd.1 < 9223372036854775808) ∧ ((psS x).snd.snd.snd.2 == 0) = false ∧ ((psS x).snd.snd.snd.2 != 0) = true ∧ (!((psS x).1 == false && ((psS x).snd.1 == 0 && ((psS x).snd.snd.1 == false && ((psS x).snd.snd.snd.1 == false && true))))) = false ∧ (((psS x).snd.snd.snd.2 == 92) != (x == 0)) = false ∧ (0 ≤ (firstS p).1 ∧ (firstS p).1 < 4294967296) ∧ decide (p < 0) = false ∧ decide (63 < p) = false ∧ ((firstS p).2 != 0) = false ∧ ((pfS (firstS p).fst).2 != 0) = false ∧ ((pfS (firstS p).fst).1 != p) = false ∧ (-9223372036854775808 ≤ p ∧ p < 9223372036854775808) ∧ (0 ≤ (secS true p false false).1 ∧ (secS true p false false).1 < 4294967296) ∧ false = false ∧ ((secS true p false false).2 != 0) = false ∧ ((psS (secS true p false false).fst).snd.snd.snd.2 != 0) = false ∧ (!((psS (secS true p false false).fst).1 == true && ((psS (secS true p false false).fst).snd.1 == p && ((psS (secS true p false false).fst).snd.snd.1 == false && ((psS (secS true p false false).fst).snd.snd.snd.1 == false && true))))) = false ∧ (-9223372036854775808 ≤ p ∧ p < 9223372036854775808) ∧ (0 ≤ (secS true p true false).1 ∧ (secS true p true false).1 < 4294967296) ∧ false = false ∧ ((secS true p true false).2 != 0) = false ∧ ((psS (secS true p true false).fst).snd.snd.snd.2 != 0) = false ∧ (!((psS (secS true p true false).fst).1 == true && ((psS (secS true p true false).fst).snd.1 == p && ((psS (secS true p true false).fst).snd.snd.1 == true && ((psS (secS true p true false).fst).snd.snd.snd.1 == false && true))))) = false ∧ (-9223372036854775808 ≤ p ∧ p < 9223372036854775808) ∧ (0 ≤ (secS true p false true).1 ∧ (secS true p false true).1 < 4294967296) ∧ false = false ∧ ((secS true p false true).2 != 0) = false ∧ ((psS (secS true p false true).fst).snd.snd.snd.2 != 0) = false ∧ (!((psS (secS true p false true).fst).1 == true && ((psS (secS true p false true).fst).snd.1 == p && ((psS (secS true p false true).fst).snd.snd.1 == false && ((psS (secS true p false true).fst).snd.snd.snd.1 == true && true))))) = false ∧ (-9223372036854775808 ≤ p ∧ p < 9223372036854775808) ∧ (0 ≤ (secS true p true true).1 ∧ (secS true p true true).1 < 4294967296) ∧ false = false ∧ ((secS true p true true).2 != 0) = false ∧ ((psS (secS true p true true).fst).snd.snd.snd.2 != 0) = false ∧ (!((psS (secS true p true true).fst).1 == true && ((psS (secS true p true true).fst).snd.1 == p && ((psS (secS true p true true).fst).snd.snd.1 == true && ((psS (secS true p true true).fst).snd.snd.snd.1 == true && true))))) = false ∧ true = true) ∧ (decide (va < 1073741824) = false → (((splitS va).snd.snd.2 == 0) != false) = false ∧ ((splitS va).snd.snd.2 == 0) = false ∧ ((splitS va).snd.snd.2 != 0) = true ∧ ((splitS va).snd.snd.2 != 91) = false ∧ ((joinS (splitS va).fst (splitS va).snd.fst (splitS va).snd.snd.fst).1 != 0) = false ∧ (0 ≤ x ∧ x < 4294967296) ∧ ((pfS x).2 == 0) = true ∧ ((firstS (pfS x).fst).2 != 0) = false ∧ ((firstS (pfS x).fst).1 != x) = false ∧ decide ((pfS x).1 < 0) = false ∧ decide (63 < (pfS x).1) = false ∧ ((pfS x).2 != 0) = false ∧ (0 ≤ x ∧ x < 4294967296) ∧ (-9223372036854775808 ≤ (psS x).snd.1 ∧ (psS x).snd.1 < 9223372036854775808) ∧ ((psS x).snd.snd.snd.2 == 0) = false ∧ ((psS x).snd.snd.snd.2 != 0) = true ∧ (!((psS x).1 == false && ((psS x).snd.1 == 0 && ((psS x).snd.snd.1 == false && ((psS x).snd.snd.snd.1 == false && true))))) = false ∧ (((psS x).snd.snd.snd.2 == 92) != (x == 0)) = false ∧ (0 ≤ (firstS p).1 ∧ (firstS p).1 < 4294967296) ∧ decide (p < 0) = false ∧ decide (63 < p) = false ∧ ((firstS p).2 != 0) = false ∧ ((pfS (firstS p).fst).2 != 0) = false ∧ ((pfS (firstS p).fst).1 != p) = false ∧ (-9223372036854775808 ≤ p ∧ p < 9223372036854775808) ∧ (0 ≤ (secS true p false false).1 ∧ (secS true p false false).1 < 4294967296) ∧ false = false ∧ ((secS true p false false).2 != 0) = false ∧ ((psS (secS true p false false).fst).snd.snd.snd.2 != 0) = false ∧ (!((psS (secS true p false false).fst).1 == true && ((psS (secS true p false false).fst).snd.1 == p && ((psS (secS true p false false).fst).snd.snd.1 == false && ((psS (secS true p false false).fst).snd.snd.snd.1 == false && true))))) = false ∧ (-9223372036854775808 ≤ p ∧ p < 9223372036854775808) ∧ (0 ≤ (secS true p true false).1 ∧ (secS true p true false).1 < 4294967296) ∧ false = false ∧ ((secS true p true false).2 != 0) = false ∧ ((psS (secS true p true false).fst).snd.snd.snd.2 != 0) = false ∧ (!((psS (secS true p true false).fst).1 == true && ((psS (secS true p true false).fst).snd.1 == p && ((psS (secS true p true false).fst).snd.snd.1 == true && ((psS (secS true p true false).fst).snd.snd.snd.1 == false && true))))) = false ∧ (-9223372036854775808 ≤ p ∧ p < 9223372036854775808) ∧ (0 ≤ (secS true p false true).1 ∧ (secS true p false true).1 < 4294967296) ∧ false = false ∧ ((secS true p false true).2 != 0) = false ∧ ((psS (secS true p false true).fst).snd.snd.snd.2 != 0) = false ∧ (!((psS (secS true p false true).fst).1 == true && ((psS (secS true p false true).fst).snd.1 == p && ((psS (secS true p false true).fst).snd.snd.1 == false && ((psS (secS true p false true).fst).snd.snd.snd.1 == true && true))))) = false ∧ (-9223372036854775808 ≤ p ∧ p < 9223372036854775808) ∧ (0 ≤ (secS true p true true).1 ∧ (secS true p true true).1 < 4294967296) ∧ false = false ∧ ((secS true p true true).2 != 0) = false ∧ ((psS (secS true p true true).fst).snd.snd.snd.2 != 0) = false ∧ (!((psS (secS true p true true).fst).1 == true && ((psS (secS true p true true).fst).snd.1 == p && ((psS (secS true p true true).fst).snd.snd.1 == true && ((psS (secS true p true true).fst).snd.snd.snd.1 == true && true))))) = false ∧ true = true)) (by kernel_rfl) ?_
  have hA := h2
  have hB := h3
  have hC := h4
  have hD := h5
  have sA : splitS va = (0, 0, 0, 91) := by unfold splitS; rw [if_neg hA]
  have jA := join0
  have sB := (first_pf hB h1.1).1
  have jB := (first_pf hB h1.1).2
  have sC := psS_no hC
  have jC := sec0
  have kC := trivial
  have sD := first_in hD.1 hD.2
  have jD := pf_in hD.1 hD.2
  have stt := psS_secS (se := true) (wr := true) (ex := true) hD.1 hD.2 (by simp)
  have stf := psS_secS (se := true) (wr := true) (ex := false) hD.1 hD.2 (by simp)
  have sft := psS_secS (se := true) (wr := false) (ex := true) hD.1 hD.2 (by simp)
  have sff := psS_secS (se := true) (wr := false) (ex := false) hD.1 hD.2 (by simp)
  have i1 := InKpsS h1
  try simp only [sC] at i1
  simp only [InK] at h0 h1 h6
  try simp only [fl, if_true, if_false, Bool.false_eq_true, Int.add_zero] at sD
  try simp only [fl, if_true, if_false, Bool.false_eq_true, Int.add_zero] at stt
  try simp only [fl, if_true, if_false, Bool.false_eq_true, Int.add_zero] at stf
  try simp only [fl, if_true, if_false, Bool.false_eq_true, Int.add_zero] at sft
  try simp only [fl, if_true, if_false, Bool.false_eq_true, Int.add_zero] at sff
  try dsimp only
  have hx0 : x = 0 ∨ x ≠ 0 := by omega
  rcases hx0 with hx0 | hx0
  · first | (subst hx0; exact absurd hB (by decide)) | (subst hx0; exact absurd hC (by decide)) | skip
    all_goals (subst hx0; try simp only [if_true] at sB sC)
    all_goals (simp [h0, h6, sA, jA, sB, jB, sC, jC, sD, jD, InK, i1, sD, stt, stf, sft, sff]; try (repeat' (first | apply And.intro | intro _hc)); all_goals (first | omega | (cases ae <;> cases ax <;> simp_all)))
  · try simp only [if_neg hx0] at sB sC
    simp [h0, h1, h6, hx0, sA, jA, sB, jB, sC, jC, sD, jD, InK, i1, sD, stt, stf, sft, sff]
    try (repeat' (first | apply And.intro | intro _hc))
    all_goals (first | omega | (cases ae <;> cases ax <;> simp_all))
def c_WBbabc : List SV → Option (List Prop × SV)
  | [.int .u32 va, .int .u32 x, .bool true, .int .i64 p] => some ([InK .u32 va, InK .u32 x, ¬ (va < 1073741824 ∧ va % 4 = 0), x % 256 = 1 ∧ x / 256 < 64, ¬ (psS x).2.2.2.2 = 0, 0 ≤ p ∧ p < 64, InK .i64 p], .bool true)
  | _ => none
theorem c_WBbabc_e : PEntry Try.prog 10 c_WBbabc := by
  refine ⟨callFunc_ok Try.func10 (by kernel_rfl) (by kernel_rfl), fun args ps v h hp => ?_⟩
  unfold c_WBbabc at h
  split at h
  · cases h; exact WBbabc_ok _ _ _ (hp _ (List.mem_of_getElem? (i := 0) rfl)) (hp _ (List.mem_of_getElem? (i := 1) rfl)) (hp _ (List.mem_of_getElem? (i := 2) rfl)) (hp _ (List.mem_of_getElem? (i := 3) rfl)) (hp _ (List.mem_of_getElem? (i := 4) rfl)) (hp _ (List.mem_of_getElem? (i := 5) rfl)) (hp _ (List.mem_of_getElem? (i := 6) rfl))
  · cases h
theorem WBbabd_ok (va x p : Int) (h0 : InK .u32 va) (h1 : InK .u32 x) (h2 : ¬ (va < 1073741824 ∧ va % 4 = 0)) (h3 : x % 256 = 1 ∧ x / 256 < 64) (h4 : ¬ (psS x).2.2.2.2 = 0) (h5 : 0 ≤ p ∧ p < 64) (h6 : InK .i64 p) : PureSem Try.prog 10 [.int .u32 va, .int .u32 x, .bool false, .int .i64 p] (.bool true) := by
  refine pure_intro mixed (cx_wb_ok (fun d => bif Nat.beq d 38 || Nat.beq d 42 || Nat.beq d 54 || Nat.beq d 57 || Nat.beq d 63 || Nat.beq d 69 || Nat.beq d 74 || Nat.beq d 90 || Nat.beq d 95 || Nat.beq d 99 || Nat.beq d 104 || Nat.beq d 107 || Nat.beq d 118 || Nat.beq d 131 || Nat.beq d 150 || Nat.beq d 157 || Nat.beq d 165 || Nat.beq d 178 || Nat.beq d 181 || Nat.beq d 190 || Nat.beq d 194 || Nat.beq d 198 || Nat.beq d 230 || Nat.beq d 233 || Nat.beq d 236 || Nat.beq d 240 || Nat.beq d 244 then some false else bif Nat.beq d 66 || Nat.beq d 87 || Nat.beq d 153 || Nat.beq d 224 then some true else none) (fun _ => none)) Try.func10 1000 rfl rfl ?_
  refine of_nf (p := (0 ≤ va ∧ va < 4294967296) ∧ false = false ∧ ((joinS (splitS va).fst (splitS va).snd.fst (splitS va).snd.snd.fst).2 != 0) = false ∧ (decide (va < 1073741824) = true → 0 ≤ va ∧ (((splitS va).snd.snd.2 == 0) != (va % 4 == 0)) = false ∧ ((splitS va).snd.snd.2 == 0) = false ∧ ((splitS va).snd.snd.2 != 0) = true ∧ ((splitS va).snd.snd.2 != 91) = false ∧ ((joinS (splitS va).fst (splitS va).snd.fst (splitS va).snd.snd.fst).1 != 0) = false ∧ (0 ≤ x ∧ x < 4294967296) ∧ ((pfS x).2 == 0) = true ∧ ((firstS (pfS x).fst).2 != 0) = false ∧ ((firstS (pfS x).fst).1 != x) = false ∧ decide ((pfS x).1 < 0) = false ∧ decide (63 < (pfS x).1) = false ∧ ((pfS x).2 != 0) = false ∧ (0 ≤ x ∧ x < 4294967296) ∧ (-9223372036854775808 ≤ (psS x).snd.1 ∧ (psS x).snd.1 < 9223372036854775808) ∧ ((psS x).snd.snd.snd.2 == 0) = false ∧ ((psS x).snd.snd.snd.2 != 0) = true ∧ (!((psS x).1 == false && ((psS x).snd.1 == 0 && ((psS x).snd.snd.1 == false && ((psS x).snd.snd.snd.1 == false && true))))) = false ∧ (((psS x).snd.snd.snd.2 == 92) != (x == 0)) = false ∧ (0 ≤ (firstS p).1 ∧ (firstS p).1 < 4294967296) ∧ decide (p < 0) = false ∧ decide (63 < p) = false ∧ ((firstS p).2 != 0) = false ∧ ((pfS (firstS p).fst).2 != 0) = false ∧ ((pfS (firstS p).fst).1 != p) = false ∧ (-9223372036854775808 ≤ p ∧ p < 9223372036854775808) ∧ (0 ≤ (secS false p false false).1 ∧ (secS false p false false).1 < 4294967296) ∧ true = true ∧ ((secS false p false false).2 != 0) = false ∧ ((psS (secS false p false false).fst).snd.snd.snd.2 != 0) = false ∧ (!((psS (secS false p false false).fst).1 == false && ((psS (secS false p false false).fst).snd.1 == p && ((psS (secS false p false false).fst).snd.snd.1 == false && ((psS (secS false p false false).fst).snd.snd.snd.1 == false && true))))) = false ∧ (-9223372036854775808 ≤ p ∧ p < 9223372036854775808) ∧ (0 ≤ (secS false p true false).1 ∧ (secS false p true false).1 < 4294967296) ∧ true = true ∧ ((secS false p true false).2 != 0) = false ∧ ((psS (secS false p true false).fst).snd.snd.snd.2 != 0) = false ∧ (!((psS (secS false p true false).fst).1 == false && ((psS (secS false p true false).fst).snd.1 == p && ((psS (secS false p true false).fst).snd.snd.1 == true && ((psS (secS false p true false).fst).snd.snd.snd.1 == false && true))))) = false ∧ (-9223372036854775808 ≤ p ∧ p < 9223372036854775808) ∧ (0 ≤ (secS false p false true).1 ∧ (secS false p false true).1 < 4294967296) ∧ true = true ∧ ((secS false p false true).2 != 1) = false ∧ ((secS false p false true).1 != 0) = false ∧ (-9223372036854775808 ≤ p ∧ p < 9223372036854775808) ∧ (0 ≤ (secS false p true true).1 ∧ (secS false p true true).1 < 4294967296) ∧ true = true ∧ ((secS false p true true).2 != 1) = false ∧ ((secS false p true true).1 != 0) = false ∧ true = true) ∧ (decide (va < 1073741824) = false → (((splitS va).snd.snd.2 == 0) != false) = false ∧ ((splitS va).snd.snd.2 == 0) = false ∧ ((splitS va).snd.snd.2 != 0) = true ∧ ((splitS va).snd.snd.2 != 91) = false ∧ ((joinS (splitS va).fst (splitS va).snd.fst (splitS va).snd.snd.fst).1 != 0) = false ∧ (0 ≤ x ∧ x < 4294967296) ∧ ((pfS x).2 == 0) = true ∧ ((firstS (pfS x).fst).2 != 0) = false ∧ ((firstS (pfS x).fst).1 != x) = false ∧ decide ((pfS x).1 < 0) = false ∧ decide (63 < (pfS x).1) = false ∧ ((pfS x).2 != 0) = false ∧ (0 ≤ x ∧ x < 4294967296) ∧ (-9223372036854775808 ≤ (psS x).snd.1 ∧ (psS x).snd.1 < 9223372036854775808) ∧ ((psS x).snd.snd.snd.2 == 0) = false ∧ ((psS x).snd.snd.snd.2 != 0) = true ∧ (!((psS x).1 == false && ((psS x).snd.1 == 0 && ((psS x).snd.snd.1 == false && ((psS x).snd.snd.snd.1 == false && true))))) = false ∧ (((psS x).snd.snd.snd.2 == 92) != (x == 0)) = false ∧ (0 ≤ (firstS p).1 ∧ (firstS p).1 < 4294967296) ∧ decide (p < 0) = false ∧ decide (63 < p) = false ∧ ((firstS p).2 != 0) = false ∧ ((pfS (firstS p).fst).2 != 0) = false ∧ ((pfS (firstS p).fst).1 != p) = false ∧ (-9223372036854775808 ≤ p ∧ p < 9223372036854775808) ∧ (0 ≤ (secS false p false false).1 ∧ (secS false p false false).1 < 4294967296) ∧ true = true ∧ ((secS false p false false).2 != 0) = false ∧ ((psS (secS false p false false).fst).snd.snd.snd.2 != 0) = false ∧ (!((psS (secS false p false false).fst).1 == false && ((psS (secS false p false false).fst).snd.1 == p && ((psS (secS false p false false).fst).snd.snd.1 == false && ((psS (secS false p false false).fst).snd.snd.snd.1 == false && true))))) = false ∧ (-9223372036854775808 ≤ p ∧ p < 9223372036854775808) ∧ (0 ≤ (secS false p true false).1 ∧ (secS false p true false).1 < 4294967296) ∧ true = true ∧ ((secS false p true false).2 != 0) = false ∧ ((psS (secS false p true false).fst).snd.snd.snd.2 != 0) = false ∧ (!((psS (secS false p true false).fst).1 == false && ((psS (secS false p true false).fst).snd.1 == p && ((psS (secS false p true false).fst).snd.snd.1 == true && ((psS (secS false p true false).fst).snd.snd.snd.1 == false && true))))) = false ∧ (-9223372036854775808 ≤ p ∧ p < 9223372036854775808) ∧ (0 ≤ (secS false p false true).1 ∧ (secS false p false true).1 < 4294967296) ∧ true = true ∧ ((secS false p false true).2 != 1) = false ∧ ((secS false p false true).1 != 0) = false ∧ (-9223372036854775808 ≤ p ∧ p < 9223372036854775808) ∧ (0 ≤ (secS false p true true).1 ∧ (secS false p true true).1 < 4294967296) ∧ true = true ∧ ((secS false p true true).2 != 1) = false ∧ ((secS false p true true).1 != 0) = false ∧ true = true)) (by kernel_rfl) ?_
  have hA := h2
  have hB := h3
  have hC := h4
  have hD := h5
  have sA : splitS va = (0, 0, 0, 91) := by unfold splitS; rw [if_neg hA]
  have jA := join0
  have sB := (first_pf hB h1.1).1
  have jB := (first_pf hB h1.1).2
  have sC := psS_no hC
  have jC := sec0
  have kC := trivial
  have sD := first_in hD.1 hD.2
  have jD := pf_in hD.1 hD.2
  have stf := psS_secS (se := false) (wr := true) (ex := false) hD.1 hD.2 (by simp)
  have sff := psS_secS (se := false) (wr := false) (ex := false) hD.1 hD.2 (by simp)
  have stt := secS_no true hD.1 hD.2
  have sft := secS_no false hD.1 hD.2
  have i1 := InKpsS h1
  try simp only [sC] at i1
  simp only [InK] at h0 h1 h6
  try simp only [fl, if_true, if_false, Bool.false_eq_true, Int.add_zero] at sD
  try simp only [fl, if_true, if_false, Bool.false_eq_true, Int.add_zero] at stf
  try simp only [fl, if_true, if_false, Bool.false_eq_true, Int.add_zero] at sff
  try simp only [fl, if_true, if_false, Bool.false_eq_true, Int.add_zero] at stt
  try simp only [fl, if_true, if_false, Bool.false_eq_true, Int.add_zero] at sft
  try dsimp only
  have hx0 : x = 0 ∨ x ≠ 0 := by omega
  rcases hx0 with hx0 | hx0
  · first | (subst hx0; exact absurd hB (by decide)) | (subst hx0; exact absurd hC (by decide)) | skip
    all_goals (subst hx0; try simp only [if_true] at sB sC)
    all_goals (simp [h0, h6, sA, jA, sB, jB, sC, jC, sD, jD, InK, i1, sD, stf, sff, stt, sft]; try (repeat' (first | apply And.intro | intro _hc)); all_goals (first | omega | (cases ae <;> cases ax <;> simp_all)))
  · try simp only [if_neg hx0] at sB sC
    simp [h0, h1, h6, hx0, sA, jA, sB, jB, sC, jC, sD, jD, InK, i1, sD, stf, sff, stt, sft]
    try (repeat' (first | apply And.intro | intro _hc))
    all_goals (first | omega | (cases ae <;> cases ax <;> simp_all))
def c_WBbabd : List SV → Option (List Prop × SV)
  | [.int .u32 va, .int .u32 x, .bool false, .int .i64 p] => some ([InK .u32 va, InK .u32 x, ¬ (va < 1073741824 ∧ va % 4 = 0), x % 256 = 1 ∧ x / 256 < 64, ¬ (psS x).2.2.2.2 = 0, 0 ≤ p ∧ p < 64, InK .i64 p], .bool true)
  | _ => none
theorem c_WBbabd_e : PEntry Try.prog 10 c_WBbabd := by
  refine ⟨callFunc_ok Try.func10 (by kernel_rfl) (by kernel_rfl), fun args ps v h hp => ?_⟩
  unfold c_WBbabd at h
  split at h
  · cases h; exact WBbabd_ok _ _ _ (hp _ (List.mem_of_getElem? (i := 0) rfl)) (hp _ (List.mem_of_getElem? (i := 1) rfl)) (hp _ (List.mem_of_getElem? (i := 2) rfl)) (hp _ (List.mem_of_getElem? (i := 3) rfl)) (hp _ (List.mem_of_getElem? (i := 4) rfl)) (hp _ (List.mem_of_getElem? (i := 5) rfl)) (hp _ (List.mem_of_getElem? (i := 6) rfl))
  · cases h
theorem WBbbaa_ok (va x p : Int) (se : Bool) (h0 : InK .u32 va) (h1 : InK .u32 x) (h2 : ¬ (va < 1073741824 ∧ va % 4 = 0)) (h3 : ¬ (x % 256 = 1 ∧ x / 256 < 64)) (h4 : (psS x).2.2.2.2 = 0) (h5 : p < 0) (h6 : InK .i64 p) : PureSem Try.prog 10 [.int .u32 va, .int .u32 x, .bool se, .int .i64 p] (.bool true) := by
  refine pure_intro mixed (cx_wb_ok (fun d => bif Nat.beq d 38 || Nat.beq d 42 || Nat.beq d 54 || Nat.beq d 57 || Nat.beq d 63 || Nat.beq d 69 || Nat.beq d 74 || Nat.beq d 87 || Nat.beq d 104 || Nat.beq d 110 || Nat.beq d 118 || Nat.beq d 134 || Nat.beq d 139 || Nat.beq d 150 || Nat.beq d 153 || Nat.beq d 165 then some false else bif Nat.beq d 66 || Nat.beq d 107 || Nat.beq d 131 || Nat.beq d 178 || Nat.beq d 181 || Nat.beq d 184 then some true else none) (fun _ => none)) Try.func10 1000 rfl rfl ?_
  refine of_nf (p := (0 ≤ va ∧ va < 4294967296) ∧ false = false ∧ ((joinS (splitS va).fst (splitS va).snd.fst (splitS va).snd.snd.fst).2 != 0) = false ∧ (decide (va < 1073741824) = true → 0 ≤ va ∧ (((splitS va).snd.snd.2 == 0) != (va % 4 == 0)) = false ∧ ((splitS va).snd.snd.2 == 0) = false ∧ ((splitS va).snd.snd.2 != 0) = true ∧ ((splitS va).snd.snd.2 != 91) = false ∧ ((joinS (splitS va).fst (splitS va).snd.fst (splitS va).snd.snd.fst).1 != 0) = false ∧ (0 ≤ x ∧ x < 4294967296) ∧ ((pfS x).2 == 0) = false ∧ ((pfS x).2 != 0) = true ∧ ((pfS x).1 != 0) = false ∧ (((pfS x).2 == 92) != (x == 0)) = false ∧ (0 ≤ x ∧ x < 4294967296) ∧ (-9223372036854775808 ≤ (psS x).snd.1 ∧ (psS x).snd.1 < 9223372036854775808) ∧ ((psS x).snd.snd.snd.2 == 0) = true ∧ ((secS (psS x).fst (psS x).snd.fst (psS x).snd.snd.fst (psS x).snd.snd.snd.fst).2 != 0) = false ∧ ((secS (psS x).fst (psS x).snd.fst (psS x).snd.snd.fst (psS x).snd.snd.snd.fst).1 != x) = false ∧ ((psS x).snd.snd.snd.1 = true → (!(psS x).1) = false ∧ ((psS x).snd.snd.snd.2 != 0) = false ∧ (0 ≤ (firstS p).1 ∧ (firstS p).1 < 4294967296) ∧ decide (p < 0) = true ∧ ((firstS p).2 == 4) = true ∧ ((firstS p).1 == 0) = true) ∧ ((psS x).snd.snd.snd.1 = false → ((psS x).snd.snd.snd.2 != 0) = false ∧ (0 ≤ (firstS p).1 ∧ (firstS p).1 < 4294967296) ∧ decide (p < 0) = true ∧ ((firstS p).2 == 4) = true ∧ ((firstS p).1 == 0) = true)) ∧ (decide (va < 1073741824) = false → (((splitS va).snd.snd.2 == 0) != false) = false ∧ ((splitS va).snd.snd.2 == 0) = false ∧ ((splitS va).snd.snd.2 != 0) = true ∧ ((splitS va).snd.snd.2 != 91) = false ∧ ((joinS (splitS va).fst (splitS va).snd.fst (splitS va).snd.snd.fst).1 != 0) = false ∧ (0 ≤ x ∧ x < 4294967296) ∧ ((pfS x).2 == 0) = false ∧ ((pfS x).2 != 0) = true ∧ ((pfS x).1 != 0) = false ∧ (((pfS x).2 == 92) != (x == 0)) = false ∧ (0 ≤ x ∧ x < 4294967296) ∧ (-9223372036854775808 ≤ (psS x).snd.1 ∧ (psS x).snd.1 < 9223372036854775808) ∧ ((psS x).snd.snd.snd.2 == 0) = true ∧ ((secS (psS x).fst (psS x).snd.fst (psS x).snd.snd.fst (psS x).snd.snd.snd.fst).2 != 0) = false ∧ ((secS (psS x).fst (psS x).snd.fst (psS x).snd.snd.fst (psS x).snd.snd.snd.fst).1 != x) = false ∧ ((psS x).snd.snd.snd.1 = true → (!(psS x).1) = false ∧ ((psS x).snd.snd.snd.2 != 0) = false ∧ (0 ≤ (firstS p).1 ∧ (firstS p).1 < 4294967296) ∧ decide (p < 0) = true ∧ ((firstS p).2 == 4) = true ∧ ((firstS p).1 == 0) = true) ∧ ((psS x).snd.snd.snd.1 = false → ((psS x).snd.snd.snd.2 != 0) = false ∧ (0 ≤ (firstS p).1 ∧ (firstS p).1 < 4294967296) ∧ decide (p < 0) = true ∧ ((firstS p).2 == 4) = true ∧ ((firstS p).1 == 0) = true))) (by kernel_rfl) ?_
  have hA := h2
  have hB := h3
  have hC := h4
  have hD := h5
  have sA : splitS va = (0, 0, 0, 91) := by unfold splitS; rw [if_neg hA]
  have jA := join0
  have sB := pf_no hB
  have jB := first0
  obtain ⟨ae, ap, aw, ax, sC, jC, kC⟩ := psS_yes hC
  have sD := first_out (.inl hD)
  have jD := pf0
  have i1 := InKpsS h1
  try simp only [sC] at i1
  simp only [InK] at h0 h1 h6
  try simp only [fl, if_true, if_false, Bool.false_eq_true, Int.add_zero] at sD
  try dsimp only
  have hx0 : x = 0 ∨ x ≠ 0 := by omega
  rcases hx0 with hx0 | hx0
  · first | (subst hx0; exact absurd hB (by decide)) | (subst hx0; exact absurd hC (by decide)) | skip
    all_goals (subst hx0; try simp only [if_true] at sB sC)
    all_goals (simp [h0, h6, sA, jA, sB, jB, sC, jC, sD, jD, InK, i1, sD]; try (repeat' (first | apply And.intro | intro _hc)); all_goals (first | omega | (cases ae <;> cases ax <;> simp_all)))
  · try simp only [if_neg hx0] at sB sC
    simp [h0, h1, h6, hx0, sA, jA, sB, jB, sC, jC, sD, jD, InK, i1, sD]
    try (repeat' (first | apply And.intro | intro _hc))
    all_goals (first | omega | (cases ae <;> cases ax <;> simp_all))
def c_WBbbaa : List SV → Option (List Prop × SV)
  | [.int .u32 va, .int .u32 x, .bool se, .int .i64 p] => some ([InK .u32 va, InK .u32 x, ¬ (va < 1073741824 ∧ va % 4 = 0), ¬ (x % 256 = 1 ∧ x / 256 < 64), (psS x).2.2.2.2 = 0, p < 0, InK .i64 p], .bool true)
  | _ => none
theorem c_WBbbaa_e : PEntry Try.prog 10 c_WBbbaa := by
  refine ⟨callFunc_ok Try.func10 (by kernel_rfl) (by kernel_rfl), fun args ps v h hp => ?_⟩
  unfold c_WBbbaa at h
  split at h
  · cases h; exact WBbbaa_ok _ _ _ _ (hp _ (List.mem_of_getElem? (i := 0) rfl)) (hp _ (List.mem_of_getElem? (i := 1) rfl)) (hp _ (List.mem_of_getElem? (i := 2) rfl)) (hp _ (List.mem_of_getElem? (i := 3) rfl)) (hp _ (List.mem_of_getElem? (i := 4) rfl)) (hp _ (List.mem_of_getElem? (i := 5) rfl)) (hp _ (List.mem_of_getElem? (i := 6) rfl))
  · cases h
theorem WBbbab_ok (va x p : Int) (se : Bool) (h0 : InK .u32 va) (h1 : InK .u32 x) (h2 : ¬ (va < 1073741824 ∧ va % 4 = 0)) (h3 : ¬ (x % 256 = 1 ∧ x / 256 < 64)) (h4 : (psS x).2.2.2.2 = 0) (h5 : 64 ≤ p) (h6 : InK .i64 p) : PureSem Try.prog 10 [.int .u32 va, .int .u32 x, .bool se, .int .i64 p] (.bool true) := by
  refine pure_intro mixed (cx_wb_ok (fun d => bif Nat.beq d 38 || Nat.beq d 42 || Nat.beq d 54 || Nat.beq d 57 || Nat.beq d 63 || Nat.beq d 69 || Nat.beq d 74 || Nat.beq d 87 || Nat.beq d 104 || Nat.beq d 110 || Nat.beq d 118 || Nat.beq d 134 || Nat.beq d 139 || Nat.beq d 150 || Nat.beq d 153 || Nat.beq d 165 || Nat.beq d 178 then some false else bif Nat.beq d 66 || Nat.beq d 107 || Nat.beq d 131 || Nat.beq d 181 || Nat.beq d 184 then some true else none) (fun _ => none)) Try.func10 1000 rfl rfl ?_
  refine of_nf (p := (0 ≤ va ∧ va < 4294967296) ∧ false = false ∧ ((joinS (splitS va).fst (splitS va).snd.fst (splitS va).snd.snd.fst).2 != 0) = false ∧ (decide (va < 1073741824) = true → 0 ≤ va ∧ (((splitS va).snd.snd.2 == 0) != (va % 4 == 0)) = false ∧ ((splitS va).snd.snd.2 == 0) = false ∧ ((splitS va).snd.snd.2 != 0) = true ∧ ((splitS va).snd.snd.2 != 91) = false ∧ ((joinS (splitS va).fst (splitS va).snd.fst (splitS va).snd.snd.fst).1 != 0) = false ∧ (0 ≤ x ∧ x < 4294967296) ∧ ((pfS x).2 == 0) = false ∧ ((pfS x).2 != 0) = true ∧ ((pfS x).1 != 0) = false ∧ (((pfS x).2 == 92) != (x == 0)) = false ∧ (0 ≤ x ∧ x < 4294967296) ∧ (-9223372036854775808 ≤ (psS x).snd.1 ∧ (psS x).snd.1 < 9223372036854775808) ∧ ((psS x).snd.snd.snd.2 == 0) = true ∧ ((secS (psS x).fst (psS x).snd.fst (psS x).snd.snd.fst (psS x).snd.snd.snd.fst).2 != 0) = false ∧ ((secS (psS x).fst (psS x).snd.fst (psS x).snd.snd.fst (psS x).snd.snd.snd.fst).1 != x) = false ∧ ((psS x).snd.snd.snd.1 = true → (!(psS x).1) = false ∧ ((psS x).snd.snd.snd.2 != 0) = false ∧ (0 ≤ (firstS p).1 ∧ (firstS p).1 < 4294967296) ∧ decide (p < 0) = false ∧ decide (63 < p) = true ∧ ((firstS p).2 == 4) = true ∧ ((firstS p).1 == 0) = true) ∧ ((psS x).snd.snd.snd.1 = false → ((psS x).snd.snd.snd.2 != 0) = false ∧ (0 ≤ (firstS p).1 ∧ (firstS p).1 < 4294967296) ∧ decide (p < 0) = false ∧ decide (63 < p) = true ∧ ((firstS p).2 == 4) = true ∧ ((firstS p).1 == 0) = true)) ∧ (decide (va < 1073741824) = false → (((splitS va).snd.snd.2 == 0) != false) = false ∧ ((splitS va).snd.snd.2 == 0) = false ∧ ((splitS va).snd.snd.2 != 0) = true ∧ ((splitS va).snd.snd.2 != 91) = false ∧ ((joinS (splitS va).fst (splitS va).snd.fst (splitS va).snd.snd.fst).1 != 0) = false ∧ (0 ≤ x ∧ x < 4294967296) ∧ ((pfS x).2 == 0) = false ∧ ((pfS x).2 != 0) = true ∧ ((pfS x).1 != 0) = false ∧ (((pfS x).2 == 92) != (x == 0)) = false ∧ (0 ≤ x ∧ x < 4294967296) ∧ (-9223372036854775808 ≤ (psS x).snd.1 ∧ (psS x).snd.1 < 9223372036854775808) ∧ ((psS x).snd.snd.snd.2 == 0) = true ∧ ((secS (psS x).fst (psS x).snd.fst (psS x).snd.snd.fst (psS x).snd.snd.snd.fst).2 != 0) = false ∧ ((secS (psS x).fst (psS x).snd.fst (psS x).snd.snd.fst (psS x).snd.snd.snd.fst).1 != x) = false ∧ ((psS x).snd.snd.snd.1 = true → (!(psS x).1) = false ∧ ((psS x).snd.snd.snd.2 != 0) = false ∧ (0 ≤ (firstS p).1 ∧ (firstS p).1 < 4294967296) ∧ decide (p < 0) = false ∧ decide (63 < p) = true ∧ ((firstS p).2 == 4) = true ∧ ((firstS p).1 == 0) = true) ∧ ((psS x).snd.snd.snd.1 = false → ((psS x).snd.snd.snd.2 != 0) = false ∧ (0 ≤ (firstS p).1 ∧ (firstS p).1 < 4294967296) ∧ decide (p < 0) = false ∧ decide (63 < p) = true ∧ ((firstS p).2 == 4) = true ∧ ((firstS p).1 == 0) = true))) (by kernel_rfl) ?_
  have hA := h2
  have hB := h3
  have hC := h4
  have hD := h5
  have sA : splitS va = (0, 0, 0, 91) := by unfold splitS; rw [if_neg hA]
  have jA := join0
  have sB := pf_no hB
  have jB := first0
  obtain ⟨ae, ap, aw, ax, sC, jC, kC⟩ := psS_yes hC
  have sD := first_out (.inr hD)
  have jD := pf0
  have i1 := InKpsS h1
  try simp only [sC] at i1
  simp only [InK] at h0 h1 h6
  try simp only [fl, if_true, if_false, Bool.false_eq_true, Int.add_zero] at sD
  try dsimp only
  have hx0 : x = 0 ∨ x ≠ 0 := by omega
  rcases hx0 with hx0 | hx0
  · first | (subst hx0; exact absurd hB (by decide)) | (subst hx0; exact absurd hC (by decide)) | skip
    all_goals (subst hx0; try simp only [if_true] at sB sC)
    all_goals (simp [h0, h6, sA, jA, sB, jB, sC, jC, sD, jD, InK, i1, sD]; try (repeat' (first | apply And.intro | intro _hc)); all_goals (first | omega | (cases ae <;> cases ax <;> simp_all)))
  · try simp only [if_neg hx0] at sB sC
    simp [h0, h1, h6, hx0, sA, jA, sB, jB, sC, jC, sD, jD, InK, i1, sD]
    try (repeat' (first | apply And.intro | intro _hc))
    all_goals (first | omega | (cases ae <;> cases ax <;> simp_all))
def c_WBbbab : List SV → Option (List Prop × SV)
  | [.int .u32 va, .int .u32 x, .bool se, .int .i64 p] => some ([InK .u32 va, InK .u32 x, ¬ (va < 1073741824 ∧ va % 4 = 0), ¬ (x % 256 = 1 ∧ x / 256 < 64), (psS x).2.2.2.2 = 0, 64 ≤ p, InK .i64 p], .bool true)
  | _ => none
theorem c_WBbbab_e : PEntry Try.prog 10 c_WBbbab := by
  refine ⟨callFunc_ok Try.func10 (by kernel_rfl) (by kernel_rfl), fun args ps v h hp => ?_⟩
  unfold c_WBbbab at h
  split at h
  · cases h; exact WBbbab_ok _ _ _ _ (hp _ (List.mem_of_getElem? (i := 0) rfl)) (hp _ (List.mem_of_getElem? (i := 1) rfl)) (hp _ (List.mem_of_getElem? (i := 2) rfl)) (hp _ (List.mem_of_getElem? (i := 3) rfl)) (hp _ (List.mem_of_getElem? (i := 4) rfl)) (hp _ (List.mem_of_getElem? (i := 5) rfl)) (hp _ (List.mem_of_getElem? (i := 6) rfl))
  · cases h
theorem WBbbac_ok (va x p : Int) (h0 : InK .u32 va) (h1 : InK .u32 x) (h2 : ¬ (va < 1073741824 ∧ va % 4 = 0)) (h3 : ¬ (x % 256 = 1 ∧ x / 256 < 64)) (h4 : (psS x).2.2.2.2 = 0) (h5 : 0 ≤ p ∧ p < 64) (h6 : InK .i64 p) : PureSem Try.prog 10 [.int .u32 va, .int .u32 x, .bool true, .int .i64 p] (.bool true) := by
  refine pure_intro mixed (cx_wb_ok (fun d => bif Nat.beq d 38 || Nat.beq d 42 || Nat.beq d 54 || Nat.beq d 57 || Nat.beq d 63 || Nat.beq d 69 || Nat.beq d 74 || Nat.beq d 87 || Nat.beq d 104 || Nat.beq d 110 || Nat.beq d 118 || Nat.beq d 134 || Nat.beq d 139 || Nat.beq d 150 || Nat.beq d 153 || Nat.beq d 165 || Nat.beq d 178 || Nat.beq d 181 || Nat.beq d 190 || Nat.beq d 194 || Nat.beq d 198 || Nat.beq d 224 || Nat.beq d 227 || Nat.beq d 236 || Nat.beq d 240 || Nat.beq d 244 then some false else bif Nat.beq d 66 || Nat.beq d 107 || Nat.beq d 131 then some true else none) (fun _ => none)) Try.func10 1000 rfl rfl ?_
  refine of_nf (p := (0 ≤ va ∧ va < 4294967296) ∧ false = false ∧ ((joinS (splitS va).fst (splitS va).snd.fst (splitS va).snd.snd.fst).2 != 0) = false ∧ (decide (va < 1073741824) = true → 0 ≤ va ∧ (((splitS va).snd.snd.2 == 0) != (va % 4 == 0)) = false ∧ ((splitS va).snd.snd.2 == 0) = false ∧ ((splitS va).snd.snd.2 != 0) = true ∧ ((splitS va).snd.snd.2 != 91) = false ∧ ((joinS (splitS va).fst (splitS va).snd.fst (splitS va).snd.snd.fst).1 != 0) = false ∧ (0 ≤ x ∧ x < 4294967296) ∧ ((pfS x).2 == 0) = false ∧ ((pfS x).2 != 0) = true ∧ ((pfS x).1 != 0) = false ∧ (((pfS x).2 == 92) != (x == 0)) = false ∧ (0 ≤ x ∧ x < 4294967296) ∧ (-9223372036854775808 ≤ (psS x).snd.1 ∧ (psS x).snd.1 < 9223372036854775808) ∧ ((psS x).snd.snd.snd.2 == 0) = true ∧ ((secS (psS x).fst (psS x).snd.fst (psS x).snd.snd.fst (psS x).snd.snd.snd.fst).2 != 0) = false ∧ ((secS (psS x).fst (psS x).snd.fst (psS x).snd.snd.fst (psS x).snd.snd.snd.fst).1 != x) = false ∧ ((psS x).snd.snd.snd.1 = true → (!(psS x).1) = false ∧ ((psS x).snd.snd.snd.2 != 0) = false ∧ (0 ≤ (firstS p).1 ∧ (firstS p).1 < 4294967296) ∧ decide (p < 0) = false ∧ decide (63 < p) = false ∧ ((firstS p).2 != 0) = false ∧ ((pfS (firstS p).fst).2 != 0) = false ∧ ((pfS (firstS p).fst).1 != p) = false ∧ (-9223372036854775808 ≤ p ∧ p < 9223372036854775808) ∧ (0 ≤ (secS true p false false).1 ∧ (secS true p false false).1 < 4294967296) ∧ false = false ∧ ((secS true p false false).2 != 0) = false ∧ ((psS (secS true p false false).fst).snd.snd.snd.2 != 0) = false ∧ (!((psS (secS true p false false).fst).1 == true && ((psS (secS true p false false).fst).snd.1 == p && ((psS (secS true p false false).fst).snd.snd.1 == false && ((psS (secS true p false false).fst).snd.snd.snd.1 == false && true))))) = false ∧ (-9223372036854775808 ≤ p ∧ p < 9223372036854775808) ∧ (0 ≤ (secS true p true false).1 ∧ (secS true p true false).1 < 4294967296) ∧ false = false ∧ ((secS true p true false).2 != 0) = false ∧ ((psS (secS true p true false).fst).snd.snd.snd.2 != 0) = false ∧ (!((psS (secS true p true false).fst).1 == true && ((psS (secS true p true false).fst).snd.1 == p && ((psS (secS true p true false).fst).snd.snd.1 == true && ((psS (secS true p true false).fst).snd.snd.snd.1 == false && true))))) = false ∧ (-9223372036854775808 ≤ p ∧ p < 9223372036854775808) ∧ (0 ≤ (secS true p false true).1 ∧ (secS true p false true).1 < 4294967296) ∧ false = false ∧ ((secS true p false true).2 != 0) = false ∧ ((psS (secS true p false true).fst).snd.snd.snd.2 != 0) = false ∧ (!((psS (secS true p false true).fst).1 == true && ((psS (secS true p false true).fst).snd.1 == p && ((psS (secS true p false true).fst).snd.snd.1 == false && ((psS (secS true p false true).fst).snd.snd.snd.1 == true && true))))) = false ∧ (-9223372036854775808 ≤ p ∧ p < 9223372036854775808) ∧ (0 ≤ (secS true p true true).1 ∧ (secS true p true true).1 < 4294967296) ∧ false = false ∧ ((secS true p true true).2 != 0) = false ∧ ((psS (secS true p true true).fst).snd.snd.snd.2 != 0) = false ∧ (!((psS (secS true p true true).fst).1 == true && ((psS (secS true p true true).fst).snd.1 == p && ((psS (secS true p true true).fst).snd.snd.1 == true && ((psS (secS true p true true).fst).snd.snd.snd.1 == true && true))))) = false ∧ true = true) ∧ ((psS x).snd.snd.snd.1 = false → ((psS x).snd.snd.snd.2 != 0) = false ∧ (0 ≤ (firstS p).1 ∧ (firstS p).1 < 4294967296) ∧ decide (p < 0) = false ∧ decide (63 < p) = false ∧ ((firstS p).2 != 0) = false ∧ ((pfS (firstS p).fst).2 != 0) = false ∧ ((pfS (firstS p).fst).1 != p) = false ∧ (-9223372036854775808 ≤ p ∧ p < 9223372036854775808) ∧ (0 ≤ (secS true p false false).1 ∧ (secS true p false false).1 < 4294967296) ∧ false = false ∧ ((secS true p false false).2 != 0) = false ∧ ((psS (secS true p false false).fst).snd.snd.snd.2 != 0) = false ∧ (!((psS (secS true p false false).fst).1 == true && ((psS (secS true p false false).fst).snd.1 == p && ((psS (secS true p false false).fst).snd.snd.1 == false && ((psS (secS true p false false).fst).snd.snd.snd.1 == false && true))))) = false ∧ (-9223372036854775808 ≤ p ∧ p < 9223372036854775808) ∧ (0 ≤ (secS true p true false).1 ∧ (secS true p true false).1 < 4294967296) ∧ false = false ∧ ((secS true p true false).2 != 0) = false ∧ ((psS (secS true p true false).fst).snd.snd.snd.2 != 0) = false ∧ (!((psS (secS true p true false).fst).1 == true && ((psS (secS true p true false).fst).snd.1 == p && ((psS (secS true p true false).fst).snd.snd.1 == true && ((psS (secS true p true false).fst).snd.snd.snd.1 == false && true))))) = false ∧ (-9223372036854775808 ≤ p ∧ p < 9223372036854775808) ∧ (0 ≤ (secS true p false true).1 ∧ (secS true p false true).1 < 4294967296) ∧ false = false ∧ ((secS true p false true).2 != 0) = false ∧ ((psS (secS true p false true).fst).snd.snd.snd.2 != 0) = false ∧ (!((psS (secS true p false true).fst).1 == true && ((psS (secS true p false true).fst).snd.1 == p && ((psS (secS true p false true).fst).snd.snd.1 == false && ((psS (secS true p false true).fst).snd.snd.snd.1 == true && true))))) = false ∧ (-9223372036854775808 ≤ p ∧ p < 9223372036854775808) ∧ (0 ≤ (secS true p true true).1 ∧ (secS true p true true).1 < 4294967296) ∧ false = false ∧ ((secS true p true true).2 != 0) = false ∧ ((psS (secS true p true true).fst).snd.snd.snd.2 != 0) = false ∧ (!((psS (secS true p true true).fst).1 == true && ((psS (secS true p true true).fst).snd.1 == p && ((psS (secS true p true true).fst).snd.snd.1 == true && ((psS (secS true p true true).fst).snd.snd.snd.1 == true && true))))) = false ∧ true = true)) ∧ (decide (va < 1073741824) = false → (((splitS va).snd.snd.2 == 0) != false) = false ∧ ((splitS va).snd.snd.2 == 0) = false ∧ ((splitS va).snd.snd.2 != 0) = true ∧ ((splitS va).snd.snd.2 != 91) = false ∧ ((joinS (splitS va).fst (splitS va).snd.fst (splitS va).snd.snd.fst).1 != 0) = false ∧ (0 ≤ x ∧ x < 4294967296) ∧ ((pfS x).2 == 0) = false ∧ ((pfS x).2 != 0) = true ∧ ((pfS x).1 != 0) = false ∧ (((pfS x).2 == 92) != (x == 0)) = false ∧ (0 ≤ x ∧ x < 4294967296) ∧ (-9223372036854775808 ≤ (psS x).snd.1 ∧ (psS x).snd.1 < 9223372036854775808) ∧ ((psS x).snd.snd.snd.2 == 0) = true ∧ ((secS (psS x).fst (psS x).snd.fst (psS x).snd.snd.fst (psS x).snd.snd.snd.fst).2 != 0) = false ∧ ((secS (psS x).fst (psS x).snd.fst (psS x).snd.snd.fst (psS x).snd.snd.snd.fst).1 != x) = false ∧ ((psS x).snd.snd.snd.1 = true → (!(psS x).1) = false ∧ ((psS x).snd.snd.snd.2 != 0) = false ∧ (0 ≤ (firstS p).1 ∧ (firstS p).1 < 4294967296) ∧ decide (p < 0) = false ∧ decide (63 < p) = false ∧ ((firstS p).2 != 0) = false ∧ ((pfS (firstS p).fst).2 != 0) = false ∧ ((pfS (firstS p).fst).1 != p) = false ∧ (-9223372036854775808 ≤ p ∧ p < 9223372036854775808) ∧ (0 ≤ (secS true p false false).1 ∧ (secS true p false false).1 < 4294967296) ∧ false = false ∧ ((secS true p false false).2 != 0) = false ∧ ((psS (secS true p false false).fst).snd.snd.snd.2 != 0) = false ∧ (!((psS (secS true p false false).fst).1 == true && ((psS (secS true p false false).fst).snd.1 == p && ((psS (secS true p false false).fst).snd.snd.1 == false && ((psS (secS true p false false).fst).snd.snd.snd.1 == false && true))))) = false ∧ (-9223372036854775808 ≤ p ∧ p < 9223372036854775808) ∧ (0 ≤ (secS true p true false).1 ∧ (secS true p true false).1 < 4294967296) ∧ false = false ∧ ((secS true p true false).2 != 0) = false ∧ ((psS (secS true p true false).fst).snd.snd.snd.2 != 0) = false ∧ (!((psS (secS true p true false).fst).1 == true && ((psS (secS true p true false).fst).snd.1 == p && ((psS (secS true p true false).fst).snd.snd.1 == true && ((psS (secS true p true false).fst).snd.snd.snd.1 == false && true))))) = false ∧ (-9223372036854775808 ≤ p ∧ p < 9223372036854775808) ∧ (0 ≤ (secS true p false true).1 ∧ (secS true p false true).1 < 4294967296) ∧ false = false ∧ ((secS true p false true).2 != 0) = false ∧ ((psS (secS true p false true).fst).snd.snd.snd.2 != 0) = false ∧ (!((psS (secS true p false true).fst).1 == true && ((psS (secS true p false true).fst).snd.1 == p && ((psS (secS true p false true).fst).snd.snd.1 == false && ((psS (secS true p false true).fst).snd.snd.snd.1 == true && true))))) = false ∧ (-9223372036854775808 ≤ p ∧ p < 9223372036854775808) ∧ (0 ≤ (secS true p true true).1 ∧ (secS true p true true).1 < 4294967296) ∧ false = false ∧ ((secS true p true true).2 != 0) = false ∧ ((psS (secS true p true true).fst).snd.snd.snd.2 != 0) = false ∧ (!((psS (secS true p true true).fst).1 == true && ((psS (secS true p true true).fst).snd.1 == p && ((psS (secS true p true true).fst).snd.snd.1 == true && ((psS (secS true p true true).fst).snd.snd.snd.1 == true && true))))) = false ∧ true = true) ∧ ((psS x).snd.snd.snd.1 = false → ((psS x).snd.snd.snd.2 != 0) = false ∧ (0 ≤ (firstS p).1 ∧ (firstS p).1 < 4294967296) ∧ decide (p < 0) = false ∧ decide (63 < p) = false ∧ ((firstS p).2 != 0) = false ∧ ((pfS (firstS p).fst).2 != 0) = false ∧ ((pfS (firstS p).fst).1 != p) = false ∧ (-9223372036854775808 ≤ p ∧ p < 9223372036854775808) ∧ (0 ≤ (secS true p false false).1 ∧ (secS true p false false).1 < 4294967296) ∧ false = false ∧ ((secS true p false false).2 != 0) = false ∧ ((psS (secS true p false false).fst).snd.snd.snd.2 != 0) = false ∧ (!((psS (secS true p false false).fst).1 == true && ((psS (secS true p false false).fst).snd.1 == p && ((psS (secS true p false false).fst).snd.snd.1 == false && ((psS (secS true p false false).fst).snd.snd.snd.1 == false && true))))) = false ∧ (-9223372036854775808 ≤ p ∧ p < 9223372036854775808) ∧ (0 ≤ (secS true p true false).1 ∧ (secS true p true false).1 < 4294967296) ∧ false = false ∧ ((secS true p true false).2 != 0) = false ∧ ((psS (secS true p true false).fst).snd.snd.snd.2 != 0) = false ∧ (!((psS (secS true p true false).fst).1 == true && ((psS (secS true p true false).fst).snd.1 == p && ((psS (secS true p true false).fst).snd.snd.1 == true && ((psS (secS true p true false).fst).snd.snd.snd.1 == false && true))))) = false ∧ (-9223372036854775808 ≤ p ∧ p < 9223372036854775808) ∧ (0 ≤ (secS true p false true).1 ∧ (secS true p false true).1 < 4294967296) ∧ false = false ∧ ((secS true p false true).2 != 0) = false ∧ ((psS (secS true p false true).fst).snd.snd.snd.2 != 0) = false ∧ (!((psS (secS true p false true).fst).1 == true && ((psS (secS true p false true).fst).snd.1 == p && ((psS (secS true p false true).fst).snd.snd.1 == false && ((psS (secS true p false true).fst).snd.snd.snd.1 == true && true))))) = false ∧ (-9223372036854775808 ≤ p ∧ p < 9223372036854775808) ∧ (0 ≤ (secS true p true true).1 ∧ (secS true p true true).1 < 4294967296) ∧ false = false ∧ ((secS true p true true).2 != 0) = false ∧ ((psS (secS true p true true).fst).snd.snd.snd.2 != 0) = false ∧ (!((psS (secS true p true true).fst).1 == true && ((psS (secS true p true true).fst).snd.1 == p && ((psS (secS true p true true).fst).snd.snd.1 == true && ((psS (secS true p true true).fst).snd.snd.snd.1 == true && true))))) = false ∧ true = true))) (by kernel_rfl) ?_
  have hA := h2
  have hB := h3
  have hC := h4
  have hD := h5
  have sA : splitS va = (0, 0, 0, 91) := by unfold splitS; rw [if_neg hA]
  have jA := join0
  have sB := pf_no hB
  have jB := first0
  obtain ⟨ae, ap, aw, ax, sC, jC, kC⟩ := psS_yes hC
  have sD := first_in hD.1 hD.2
  have jD := pf_in hD.1 hD.2
  have stt := psS_secS (se := true) (wr := true) (ex := true) hD.1 hD.2 (by simp)
  have stf := psS_secS (se := true) (wr := true) (ex := false) hD.1 hD.2 (by simp)
  have sft := psS_secS (se := true) (wr := false) (ex := true) hD.1 hD.2 (by simp)
  have sff := psS_secS (se := true) (wr := false) (ex := false) hD.1 hD.2 (by simp)
  have i1 := InKpsS h1
  try simp only [sC] at i1
  simp only [InK] at h0 h1 h6
  try simp only [fl, if_true, if_false, Bool.false_eq_true, Int.add_zero] at sD
  try simp only [fl, if_true, if_false, Bool.false_eq_true, Int.add_zero] at stt
  try simp only [fl, if_true, if_false, Bool.false_eq_true, Int.add_zero] at stf
  try simp only [fl, if_true, if_false, Bool.false_eq_true, Int.add_zero] at sft
  try simp only [fl, if_true, if_false, Bool.false_eq_true, Int.add_zero] at sff
  try dsimp only
  have hx0 : x = 0 ∨ x ≠ 0 := by omega
  rcases hx0 with hx0 | hx0
  · first | (subst hx0; exact absurd hB (by decide)) | (subst hx0; exact absurd hC (by decide)) | skip
    all_goals (subst hx0; try simp only [if_true] at sB sC)
    all_goals (simp [h0, h6, sA, jA, sB, jB, sC, jC, sD, jD, InK, i1, sD, stt, stf, sft, sff]; try (repeat' (first | apply And.intro | intro _hc)); all_goals (first | omega | (cases ae <;> cases ax <;> simp_all)))
  · try simp only [if_neg hx0] at sB sC
    simp [h0, h1, h6, hx0, sA, jA, sB, jB, sC, jC, sD, jD, InK, i1, sD, stt, stf, sft, sff]
    try (repeat' (first | apply And.intro | intro _hc))
    all_goals (first | omega | (cases ae <;> cases ax <;> simp_all))
def c_WBbbac : List SV → Option (List Prop × SV)
  | [.int .u32 va, .int .u32 x, .bool true, .int .i64 p] => some ([InK .u32 va, InK .u32 x, ¬ (va < 1073741824 ∧ va % 4 = 0), ¬ (x % 256 = 1 ∧ x / 256 < 64), (psS x).2.2.2.2 = 0, 0 ≤ p ∧ p < 64, InK .i64 p], .bool true)
  | _ => none
theorem c_WBbbac_e : PEntry Try.prog 10 c_WBbbac := by
  refine ⟨callFunc_ok Try.func10 (by kernel_rfl) (by kernel_rfl), fun args ps v h hp => ?_⟩
  unfold c_WBbbac at h
  split at h
  · cases h; exact WBbbac_ok _ _ _ (hp _ (List.mem_of_getElem? (i := 0) rfl)) (hp _ (List.mem_of_getElem? (i := 1) rfl)) (hp _ (List.mem_of_getElem? (i := 2) rfl)) (hp _ (List.mem_of_getElem? (i := 3) rfl)) (hp _ (List.mem_of_getElem? (i := 4) rfl)) (hp _ (List.mem_of_getElem? (i := 5) rfl)) (hp _ (List.mem_of_getElem? (i := 6) rfl))
  · cases h
theorem WBbbad_ok (va x p : Int) (h0 : InK .u32 va) (h1 : InK .u32 x) (h2 : ¬ (va < 1073741824 ∧ va % 4 = 0)) (h3 : ¬ (x % 256 = 1 ∧ x / 256 < 64)) (h4 : (psS x).2.2.2.2 = 0) (h5 : 0 ≤ p ∧ p < 64) (h6 : InK .i64 p) : PureSem Try.prog 10 [.int .u32 va, .int .u32 x, .bool false, .int .i64 p] (.bool true) := by
  refine pure_intro mixed (cx_wb_ok (fun d => bif Nat.beq d 38 || Nat.beq d 42 || Nat.beq d 54 || Nat.beq d 57 || Nat.beq d 63 || Nat.beq d 69 || Nat.beq d 74 || Nat.beq d 87 || Nat.beq d 104 || Nat.beq d 110 || Nat.beq d 118 || Nat.beq d 134 || Nat.beq d 139 || Nat.beq d 150 || Nat.beq d 153 || Nat.beq d 165 || Nat.beq d 178 || Nat.beq d 181 || Nat.beq d 190 || Nat.beq d 194 || Nat.beq d 198 || Nat.beq d 230 || Nat.beq d 233 || Nat.beq d 236 || Nat.beq d 240 || Nat.beq d 244 then some false else bif Nat.beq d 66 || Nat.beq d 107 || Nat.beq d 131 || Nat.beq d 224 then some true else none) (fun _ => none)) Try.func10 1000 rfl rfl ?_
  refine of_nf (p := (0 ≤ va ∧ va < 4294967296) ∧ false = false ∧ ((joinS (splitS va).fst (splitS va).snd.fst (splitS va).snd.snd.fst).2 != 0) = false ∧ (decide (va < 1073741824) = true → 0 ≤ va ∧ (((splitS va).snd.snd.2 == 0) != (va % 4 == 0)) = false ∧ ((splitS va).snd.snd.2 == 0) = false ∧ ((splitS va).snd.snd.2 != 0) = true ∧ ((splitS va).snd.snd.2 != 91) = false ∧ ((joinS (splitS va).fst (splitS va).snd.fst (splitS va).snd.snd.fst).1 != 0) = false ∧ (0 ≤ x ∧ x < 4294967296) ∧ ((pfS x).2 == 0) = false ∧ ((pfS x).2 != 0) = true ∧ ((pfS x).1 != 0) = false ∧ (((pfS x).2 == 92) != (x == 0)) = false ∧ (0 ≤ x ∧ x < 4294967296) ∧ (-9223372036854775808 ≤ (psS x).snd.1 ∧ (psS x).snd.1 < 9223372036854775808) ∧ ((psS x).snd.snd.snd.2 == 0) = true ∧ ((secS (psS x).fst (psS x).snd.fst (psS x).snd.snd.fst (psS x).snd.snd.snd.fst).2 != 0) = false ∧ ((secS (psS x).fst (psS x).snd.fst (psS x).snd.snd.fst (psS x).snd.snd.snd.fst).1 != x) = false ∧ ((psS x).snd.snd.snd.1 = true → (!(psS x).1) = false ∧ ((psS x).snd.snd.snd.2 != 0) = false ∧ (0 ≤ (firstS p).1 ∧ (firstS p).1 < 4294967296) ∧ decide (p < 0) = false ∧ decide (63 < p) = false ∧ ((firstS p).2 != 0) = false ∧ ((pfS (firstS p).fst).2 != 0) = false ∧ ((pfS (firstS p).fst).1 != p) = false ∧ (-9223372036854775808 ≤ p ∧ p < 9223372036854775808) ∧ (0 ≤ (secS false p false false).1 ∧ (secS false p false false).1 < 4294967296) ∧ true = true ∧ ((secS false p false false).2 != 0) = false ∧ ((psS (secS false p false false).fst).snd.snd.snd.2 != 0) = false ∧ (!((psS (secS false p false false).fst).1 == false && ((psS (secS false p false false).fst).snd.1 == p && ((psS (secS false p false false).fst).snd.snd.1 == false && ((psS (secS false p false false).fst).snd.snd.snd.1 == false && true))))) = false ∧ (-9223372036854775808 ≤ p ∧ p < 9223372036854775808) ∧ (0 ≤ (secS false p true false).1 ∧ (secS false p true false).1 < 4294967296) ∧ true = true ∧ ((secS false p true false).2 != 0) = false ∧ ((psS (secS false p true false).fst).snd.snd.snd.2 != 0) = false ∧ (!((psS (secS false p true false).fst).1 == false && ((psS (secS false p true false).fst).snd.1 == p && ((psS (secS false p true false).fst).snd.snd.1 == true && ((psS (secS false p true false).fst).snd.snd.snd.1 == false && true))))) = false ∧ (-9223372036854775808 ≤ p ∧ p < 9223372036854775808) ∧ (0 ≤ (secS false p false true).1 ∧ (secS false p false true).1 < 4294967296) ∧ true = true ∧ ((secS false p false true).2 != 1) = false ∧ ((secS false p false true).1 != 0) = false ∧ (-9223372036854775808 ≤ p ∧ p < 9223372036854775808) ∧ (0 ≤ (secS false p true true).1 ∧ (secS false p true true).1 < 4294967296) ∧ true = true ∧ ((secS false p true true).2 != 1) = false ∧ ((secS false p true true).1 != 0) = false ∧ true = true) ∧ ((psS x).snd.snd.snd.1 = false → ((psS x).snd.snd.snd.2 != 0) = false ∧ (0 ≤ (firstS p).1 ∧ (firstS p).1 < 4294967296) ∧ decide (p < 0) = false ∧ decide (63 < p) = false ∧ ((firstS p).2 != 0) = false ∧ ((pfS (firstS p).fst).2 != 0) = false ∧ ((pfS (firstS p).fst).1 != p) = false ∧ (-9223372036854775808 ≤ p ∧ p < 9223372036854775808) ∧ (0 ≤ (secS false p false false).1 ∧ (secS false p false false).1 < 4294967296) ∧ true = true ∧ ((secS false p false false).2 != 0) = false ∧ ((psS (secS false p false false).fst).snd.snd.snd.2 != 0) = false ∧ (!((psS (secS false p false false).fst).1 == false && ((psS (secS false p false false).fst).snd.1 == p && ((psS (secS false p false false).fst).snd.snd.1 == false && ((psS (secS false p false false).fst).snd.snd.snd.1 == false && true))))) = false ∧ (-9223372036854775808 ≤ p ∧ p < 9223372036854775808) ∧ (0 ≤ (secS false p true false).1 ∧ (secS false p true false).1 < 4294967296) ∧ true = true ∧ ((secS false p true false).2 != 0) = false ∧ ((psS (secS false p true false).fst).snd.snd.snd.2 != 0) = false ∧ (!((psS (secS false p true false).fst).1 == false && ((psS (secS false p true false).fst).snd.1 == p && ((psS (secS false p true false).fst).snd.snd.1 == true && ((psS (secS false p true false).fst).snd.snd.snd.1 == false && true))))) = false ∧ (-9223372036854775808 ≤ p ∧ p < 9223372036854775808) ∧ (0 ≤ (secS false p false true).1 ∧ (secS false p false true).1 < 4294967296) ∧ true = true ∧ ((secS false p false true).2 != 1) = false ∧ ((secS false p false true).1 != 0) = false ∧ (-9223372036854775808 ≤ p ∧ p < 9223372036854775808) ∧ (0 ≤ (secS false p true true).1 ∧ (secS false p true true).1 < 4294967296) ∧ true = true ∧ ((secS false p true true).2 != 1) = false ∧ ((secS false p true true).1 != 0) = false ∧ true = true)) ∧ (decide (va < 1073741824) = false → (((splitS va).snd.snd.2 == 0) != false) = false ∧ ((splitS va).snd.snd.2 == 0) = false ∧ ((splitS va).snd.snd.2 != 0) = true ∧ ((splitS va).snd.snd.2 != 91) = false ∧ ((joinS (splitS va).fst (splitS va).snd.fst (splitS va).snd.snd.fst).1 != 0) = false ∧ (0 ≤ x ∧ x < 4294967296) ∧ ((pfS x).2 == 0) = false ∧ ((pfS x).2 != 0) = true ∧ ((pfS x).1 != 0) = false ∧ (((pfS x).2 == 92) != (x == 0)) = false ∧ (0 ≤ x ∧ x < 4294967296) ∧ (-9223372036854775808 ≤ (psS x).snd.1 ∧ (psS x).snd.1 < 9223372036854775808) ∧ ((psS x).snd.snd.snd.2 == 0) = true ∧ ((secS (psS x).fst (psS x).snd.fst (psS x).snd.snd.fst (psS x).snd.snd.snd.fst).2 != 0) = false ∧ ((secS (psS x).fst (psS x).snd.fst (psS x).snd.snd.fst (psS x).snd.snd.snd.fst).1 != x) = false ∧ ((psS x).snd.snd.snd.1 = true → (!(psS x).1) = false ∧ ((psS x).snd.snd.snd.2 != 0) = false ∧ (0 ≤ (firstS p).1 ∧ (firstS p).1 < 4294967296) ∧ decide (p < 0) = false ∧ decide (63 < p) = false ∧ ((firstS p).2 != 0) = false ∧ ((pfS (firstS p).fst).2 != 0) = false ∧ ((pfS (firstS p).fst).1 != p) = false ∧ (-9223372036854775808 ≤ p ∧ p < 9223372036854775808) ∧ (0 ≤ (secS false p false false).1 ∧ (secS false p false false).1 < 4294967296) ∧ true = true ∧ ((secS false p false false).2 != 0) = false ∧ ((psS (secS false p false false).fst).snd.snd.snd.2 != 0) = false ∧ (!((psS (secS false p false false).fst).1 == false && ((psS (secS false p false false).fst).snd.1 == p && ((psS (secS false p false false).fst).snd.snd.1 == false && ((psS (secS false p false false).fst).snd.snd.snd.1 == false && true))))) = false ∧ (-9223372036854775808 ≤ p ∧ p < 9223372036854775808) ∧ (0 ≤ (secS false p true false).1 ∧ (secS false p true false).1 < 4294967296) ∧ true = true ∧ ((secS false p true false).2 != 0) = false ∧ ((psS (secS false p true false).fst).snd.snd.snd.2 != 0) = false ∧ (!((psS (secS false p true false).fst).1 == false && ((psS (secS false p true false).fst).snd.1 == p && ((psS (secS false p true false).fst).snd.snd.1 == true && ((psS (secS false p true false).fst).snd.snd.snd.1 == false && true))))) = false ∧ (-9223372036854775808 ≤ p ∧ p < 9223372036854775808) ∧ (0 ≤ (secS false p false true).1 ∧ (secS false p false true).1 < 4294967296) ∧ true = true ∧ ((secS false p false true).2 != 1) = false ∧ ((secS false p false true).1 != 0) = false ∧ (-9223372036854775808 ≤ p ∧ p < 9223372036854775808) ∧ (0 ≤ (secS false p true true).1 ∧ (secS false p true true).1 < 4294967296) ∧ true = true ∧ ((secS false p true true).2 != 1) = false ∧ ((secS false p true true).1 != 0) = false ∧ true = true) ∧ ((psS x).snd.snd.snd.1 = false → ((psS x).snd.snd.snd.2 != 0) = false ∧ (0 ≤ (firstS p).1 ∧ (firstS p).1 < 4294967296) ∧ decide (p < 0) = false ∧ decide (63 < p) = false ∧ ((firstS p).2 != 0) = false ∧ ((pfS (firstS p).fst).2 != 0) = false ∧ ((pfS (firstS p).fst).1 != p) = false ∧ (-9223372036854775808 ≤ p ∧ p < 9223372036854775808) ∧ (0 ≤ (secS false p false false).1 ∧ (secS false p false false).1 < 4294967296) ∧ true = true ∧ ((secS false p false false).2 != 0) = false ∧ ((psS (secS false p false false).fst).snd.snd.snd.2 != 0) = false ∧ (!((psS (secS false p false false).fst).1 == false && ((psS (secS false p false false).fst).snd.1 == p && ((psS (secS false p false false).fst).snd.snd.1 == false && ((psS (secS false p false false).fst).snd.snd.snd.1 == false && true))))) = false ∧ (-9223372036854775808 ≤ p ∧ p < 9223372036854775808) ∧ (0 ≤ (secS false p true false).1 ∧ (secS false p true false).1 < 4294967296) ∧ true = true ∧ ((secS false p true false).2 != 0) = false ∧ ((psS (secS false p true false).fst).snd.snd.snd.2 != 0) = false ∧ (!((psS (secS false p true false).fst).1 == false && ((psS (secS false p true false).fst).snd.1 == p && ((psS (secS false p true false).fst).snd.snd.1 == true && ((psS (secS false p true false).fst).snd.snd.snd.1 == false && true))))) = false ∧ (-9223372036854775808 ≤ p ∧ p < 9223372036854775808) ∧ (0 ≤ (secS false p false true).1 ∧ (secS false p false true).1 < 4294967296) ∧ true = true ∧ ((secS false p false true).2 != 1) = false ∧ ((secS false p false true).1 != 0) = false ∧ (-9223372036854775808 ≤ p ∧ p < 9223372036854775808) ∧ (0 ≤ (secS false p true true).1 ∧ (secS false p true true).1 < 4294967296) ∧ true = true ∧ ((secS false p true true).2 != 1) = false ∧ ((secS false p true true).1 != 0) = false ∧ true = true))) (by kernel_rfl) ?_
  have hA := h2
  have hB := h3
  have hC := h4
  have hD := h5
  have sA : splitS va = (0, 0, 0, 91) := by unfold splitS; rw [if_neg hA]
  have jA := join0
  have sB := pf_no hB
  have jB := first0
  obtain ⟨ae, ap, aw, ax, sC, jC, kC⟩ := psS_yes hC
  have sD := first_in hD.1 hD.2
  have jD := pf_in hD.1 hD.2
  have stf := psS_secS (se := false) (wr := true) (ex := false) hD.1 hD.2 (by simp)
  have sff := psS_secS (se := false) (wr := false) (ex := false) hD.1 hD.2 (by simp)
  have stt := secS_no true hD.1 hD.2
  have sft := secS_no false hD.1 hD.2
  have i1 := InKpsS h1
  try simp only [sC] at i1
  simp only [InK] at h0 h1 h6
  try simp only [fl, if_true, if_false, Bool.false_eq_true, Int.add_zero] at sD
  try simp only [fl, if_true, if_false, Bool.false_eq_true, Int.add_zero] at stf
  try simp only [fl, if_true, if_false, Bool.false_eq_true, Int.add_zero] at sff
  try simp only [fl, if_true, if_false, Bool.false_eq_true, Int.add_zero] at stt
  try simp only [fl, if_true, if_false, Bool.false_eq_true, Int.add_zero] at sft
  try dsimp only
  have hx0 : x = 0 ∨ x ≠ 0 := by omega
  rcases hx0 with hx0 | hx0
  · first | (subst hx0; exact absurd hB (by decide)) | (subst hx0; exact absurd hC (by decide)) | skip
    all_goals (subst hx0; try simp only [if_true] at sB sC)
    all_goals (simp [h0, h6, sA, jA, sB, jB, sC, jC, sD, jD, InK, i1, sD, stf, sff, stt, sft]; try (repeat' (first | apply And.intro | intro _hc)); all_goals (first | omega | (cases ae <;> cases ax <;> simp_all)))
  · try simp only [if_neg hx0] at sB sC
    simp [h0, h1, h6, hx0, sA, jA, sB, jB, sC, jC, sD, jD, InK, i1, sD, stf, sff, stt, sft]
    try (repeat' (first | apply And.intro | intro _hc))
    all_goals (first | omega | (cases ae <;> cases ax <;> simp_all))
def c_WBbbad : List SV → Option (List Prop × SV)
  | [.int .u32 va, .int .u32 x, .bool false, .int .i64 p] => some ([InK .u32 va, InK .u32 x, ¬ (va < 1073741824 ∧ va % 4 = 0), ¬ (x % 256 = 1 ∧ x / 256 < 64), (psS x).2.2.2.2 = 0, 0 ≤ p ∧ p < 64, InK .i64 p], .bool true)
  | _ => none
theorem c_WBbbad_e : PEntry Try.prog 10 c_WBbbad := by
  refine ⟨callFunc_ok Try.func10 (by kernel_rfl) (by kernel_rfl), fun args ps v h hp => ?_⟩
  unfold c_WBbbad at h
  split at h
  · cases h; exact WBbbad_ok _ _ _ (hp _ (List.mem_of_getElem? (i := 0) rfl)) (hp _ (List.mem_of_getElem? (i := 1) rfl)) (hp _ (List.mem_of_getElem? (i := 2) rfl)) (hp _ (List.mem_of_getElem? (i := 3) rfl)) (hp _ (List.mem_of_getElem? (i := 4) rfl)) (hp _ (List.mem_of_getElem? (i := 5) rfl)) (hp _ (List.mem_of_getElem? (i := 6) rfl))
  · cases h
theorem WBbbba_ok (va x p : Int) (se : Bool) (h0 : InK .u32 va) (h1 : InK .u32 x) (h2 : ¬ (va < 1073741824 ∧ va % 4 = 0)) (h3 : ¬ (x % 256 = 1 ∧ x / 256 < 64)) (h4 : ¬ (psS x).2.2.2.2 = 0) (h5 : p < 0) (h6 : InK .i64 p) : PureSem Try.prog 10 [.int .u32 va, .int .u32 x, .bool se, .int .i64 p] (.bool true) := by
  refine pure_intro mixed (cx_wb_ok (fun d => bif Nat.beq d 38 || Nat.beq d 42 || Nat.beq d 54 || Nat.beq d 57 || Nat.beq d 63 || Nat.beq d 69 || Nat.beq d 74 || Nat.beq d 87 || Nat.beq d 104 || Nat.beq d 110 || Nat.beq d 118 || Nat.beq d 131 || Nat.beq d 150 || Nat.beq d 157 || Nat.beq d 165 then some false else bif Nat.beq d 66 || Nat.beq d 107 || Nat.beq d 153 || Nat.beq d 178 || Nat.beq d 181 || Nat.beq d 184 then some true else none) (fun _ => none)) Try.func10 1000 rfl rfl ?_
  refine of_nf (p := (0 ≤ va ∧ va < 4294967296) ∧ false = false ∧ ((joinS (splitS va).fst (splitS va).snd.fst (splitS va).snd.snd.fst).2 != 0) = false ∧ (decide (va < 1073741824) = true → 0 ≤ va ∧ (((splitS va).snd.snd.2 == 0) != (va % 4 == 0)) = false ∧ ((splitS va).snd.snd.2 == 0) = false ∧ ((splitS va).snd.snd.2 != 0) = true ∧ ((splitS va).snd.snd.2 != 91) = false ∧ ((joinS (splitS va).fst (splitS va).snd.fst (splitS va).snd.snd.fst).1 != 0) = false ∧ (0 ≤ x ∧ x < 4294967296) ∧ ((pfS x).2 == 0) = false ∧ ((pfS x).2 != 0) = true ∧ ((pfS x).1 != 0) = false ∧ (((pfS x).2 == 92) != (x == 0)) = false ∧ (0 ≤ x ∧ x < 4294967296) ∧ (-9223372036854775808 ≤ (psS x).snd.1 ∧ (psS x).snd.1 < 9223372036854775808) ∧ ((psS x).snd.snd.snd.2 == 0) = false ∧ ((psS x).snd.snd.snd.2 != 0) = true ∧ (!((psS x).1 == false && ((psS x).snd.1 == 0 && ((psS x).snd.snd.1 == false && ((psS x).snd.snd.snd.1 == false && true))))) = false ∧ (((psS x).snd.snd.snd.2 == 92) != (x == 0)) = false ∧ (0 ≤ (firstS p).1 ∧ (firstS p).1 < 4294967296) ∧ decide (p < 0) = true ∧ ((firstS p).2 == 4) = true ∧ ((firstS p).1 == 0) = true) ∧ (decide (va < 1073741824) = false → (((splitS va).snd.snd.2 == 0) != false) = false ∧ ((splitS va).snd.snd.2 == 0) = false ∧ ((splitS va).snd.snd.2 != 0) = true ∧ ((splitS va).snd.snd.2 != 91) = false ∧ ((joinS (splitS va).fst (splitS va).snd.fst (splitS va).snd.snd.fst).1 != 0) = false ∧ (0 ≤ x ∧ x < 4294967296) ∧ ((pfS x).2 == 0) = false ∧ ((pfS x).2 != 0) = true ∧ ((pfS x).1 != 0) = false ∧ (((pfS x).2 == 92) != (x == 0)) = false ∧ (0 ≤ x ∧ x < 4294967296) ∧ (-9223372036854775808 ≤ (psS x).snd.1 ∧ (psS x).snd.1 < 9223372036854775808) ∧ ((psS x).snd.snd.snd.2 == 0) = false ∧ ((psS x).snd.snd.snd.2 != 0) = true ∧ (!((psS x).1 == false && ((psS x).snd.1 == 0 && ((psS x).snd.snd.1 == false && ((psS x).snd.snd.snd.1 == false && true))))) = false ∧ (((psS x).snd.snd.snd.2 == 92) != (x == 0)) = false ∧ (0 ≤ (firstS p).1 ∧ (firstS p).1 < 4294967296) ∧ decide (p < 0) = true ∧ ((firstS p).2 == 4) = true ∧ ((firstS p).1 == 0) = true)) (by kernel_rfl) ?_
  have hA := h2
  have hB := h3
  have hC := h4
  have hD := h5
  have sA : splitS va = (0, 0, 0, 91) := by unfold splitS; rw [if_neg hA]
  have jA := join0
  have sB := pf_no hB
  have jB := first0
  have sC := psS_no hC
  have jC := sec0
  have kC := trivial
  have sD := first_out (.inl hD)
  have jD := pf0
  have i1 := InKpsS h1
  try simp only [sC] at i1
  simp only [InK] at h0 h1 h6
  try simp only [fl, if_true, if_false, Bool.false_eq_true, Int.add_zero] at sD
  try dsimp only
  have hx0 : x = 0 ∨ x ≠ 0 := by omega
  rcases hx0 with hx0 | hx0
  · first | (subst hx0; exact absurd hB (by decide)) | (subst hx0; exact absurd hC (by decide)) | skip
    all_goals (subst hx0; try simp only [if_true] at sB sC)
    all_goals (simp [h0, h6, sA, jA, sB, jB, sC, jC, sD, jD, InK, i1, sD]; try (repeat' (first | apply And.intro | intro _hc)); all_goals (first | omega | (cases ae <;> cases ax <;> simp_all)))
  · try simp only [if_neg hx0] at sB sC
    simp [h0, h1, h6, hx0, sA, jA, sB, jB, sC, jC, sD, jD, InK, i1, sD]
    try (repeat' (first | apply And.intro | intro _hc))
    all_goals (first | omega | (cases ae <;> cases ax <;> simp_all))
def c_WBbbba : List SV → Option (List Prop × SV)
  | [.int .u32 va, .int .u32 x, .bool se, .int .i64 p] => some ([InK .u32 va, InK .u32 x, ¬ (va < 1073741824 ∧ va % 4 = 0), ¬ (x % 256 = 1 ∧ x / 256 < 64), ¬ (psS x).2.2.2.2 = 0, p < 0, InK .i64 p], .bool true)
  | _ => none
theorem c_WBbbba_e : PEntry Try.prog 10 c_WBbbba := by
  refine ⟨callFunc_ok Try.func10 (by kernel_rfl) (by kernel_rfl), fun args ps v h hp => ?_⟩
  unfold c_WBbbba at h
  split at h
  · cases h; exact WBbbba_ok _ _ _ _ (hp _ (List.mem_of_getElem? (i := 0) rfl)) (hp _ (List.mem_of_getElem? (i := 1) rfl)) (hp _ (List.mem_of_getElem? (i := 2) rfl)) (hp _ (List.mem_of_getElem? (i := 3) rfl)) (hp _ (List.mem_of_getElem? (i := 4) rfl)) (hp _ (List.mem_of_getElem? (i := 5) rfl)) (hp _ (List.mem_of_getElem? (i := 6) rfl))
  · cases h
theorem WBbbbb_ok (va x p : Int) (se : Bool) (h0 : InK .u32 va) (h1 : InK .u32 x) (h2 : ¬ (va < 1073741824 ∧ va % 4 = 0)) (h3 : ¬ (x % 256 = 1 ∧ x / 256 < 64)) (h4 : ¬ (psS x).2.2.2.2 = 0) (h5 : 64 ≤ p) (h6 : InK .i64 p) : PureSem Try.prog 10 [.int .u32 va, .int .u32 x, .bool se, .int .i64 p] (.bool true) := by
  refine pure_intro mixed (cx_wb_ok (fun d => bif Nat.beq d 38 || Nat.beq d 42 || Nat.beq d 54 || Nat.beq d 57 || Nat.beq d 63 || Nat.beq d 69 || Nat.beq d 74 || Nat.beq d 87 || Nat.beq d 104 || Nat.beq d 110 || Nat.beq d 118 || Nat.beq d 131 || Nat.beq d 150 || Nat.beq d 157 || Nat.beq d 165 || Nat.beq d 178 then some false else bif Nat.beq d 66 || Nat.beq d 107 || Nat.beq d 153 || Nat.beq d 181 || Nat.beq d 184 then some true else none) (fun _ => none)) Try.func10 1000 rfl rfl ?_
  refine of_nf (p := (0 ≤ va ∧ va < 4294967296) ∧ false = false ∧ ((joinS (splitS va).fst (splitS va).snd.fst (splitS va).snd.snd.fst).2 != 0) = false ∧ (decide (va < 1073741824) = true → 0 ≤ va ∧ (((splitS va).snd.snd.2 == 0) != (va % 4 == 0)) = false ∧ ((splitS va).snd.snd.2 == 0) = false ∧ ((splitS va).snd.snd.2 != 0) = true ∧ ((splitS va).snd.snd.2 != 91) = false ∧ ((joinS (splitS va).fst (splitS va).snd.fst (splitS va).snd.snd.fst).1 != 0) = false ∧ (0 ≤ x ∧ x < 4294967296) ∧ ((pfS x).2 == 0) = false ∧ ((pfS x).2 != 0) = true ∧ ((pfS x).1 != 0) = false ∧ (((pfS x).2 == 92) != (x == 0)) = false ∧ (0 ≤ x ∧ x < 4294967296) ∧ (-9223372036854775808 ≤ (psS x).snd.1 ∧ (psS x).snd.1 < 9223372036854775808) ∧ ((psS x).snd.snd.snd.2 == 0) = false ∧ ((psS x).snd.snd.snd.2 != 0) = true ∧ (!((psS x).1 == false && ((psS x).snd.1 == 0 && ((psS x).snd.snd.1 == false && ((psS x).snd.snd.snd.1 == false && true))))) = false ∧ (((psS x).snd.snd.snd.2 == 92) != (x == 0)) = false ∧ (0 ≤ (firstS p).1 ∧ (firstS p).1 < 4294967296) ∧ decide (p < 0) = false ∧ decide (63 < p) = true ∧ ((firstS p).2 == 4) = true ∧ ((firstS p).1 == 0) = true) ∧ (decide (va < 1073741824) = false → (((splitS va).snd.snd.2 == 0) != false) = false ∧ ((splitS va).snd.snd.2 == 0) = false ∧ ((splitS va).snd.snd.2 != 0) = true ∧ ((splitS va).snd.snd.2 != 91) = false ∧ ((joinS (splitS va).fst (splitS va).snd.fst (splitS va).snd.snd.fst).1 != 0) = false ∧ (0 ≤ x ∧ x < 4294967296) ∧ ((pfS x).2 == 0) = false ∧ ((pfS x).2 != 0) = true ∧ ((pfS x).1 != 0) = false ∧ (((pfS x).2 == 92) != (x == 0)) = false ∧ (0 ≤ x ∧ x < 4294967296) ∧ (-9223372036854775808 ≤ (psS x).snd.1 ∧ (psS x).snd.1 < 9223372036854775808) ∧ ((psS x).snd.snd.snd.2 == 0) = false ∧ ((psS x).snd.snd.snd.2 != 0) = true ∧ (!((psS x).1 == false && ((psS x).snd.1 == 0 && ((psS x).snd.snd.1 == false && ((psS x).snd.snd.snd.1 == false && true))))) = false ∧ (((psS x).snd.snd.snd.2 == 92) != (x == 0)) = false ∧ (0 ≤ (firstS p).1 ∧ (firstS p).1 < 4294967296) ∧ decide (p < 0) = false ∧ decide (63 < p) = true ∧ ((firstS p).2 == 4) = true ∧ ((firstS p).1 == 0) = true)) (by kernel_rfl) ?_
  have hA := h2
  have hB := h3
  have hC := h4
  have hD := h5
  have sA : splitS va = (0, 0, 0, 91) := by unfold splitS; rw [if_neg hA]
  have jA := join0
  have sB := pf_no hB
  have jB := first0
  have sC := psS_no hC
  have jC := sec0
  have kC := trivial
  have sD := first_out (.inr hD)
  have jD := pf0
  have i1 := InKpsS h1
  try simp only [sC] at i1
  simp only [InK] at h0 h1 h6
  try simp only [fl, if_true, if_false, Bool.false_eq_true, Int.add_zero] at sD
  try dsimp only
  have hx0 : x = 0 ∨ x ≠ 0 := by omega
  rcases hx0 with hx0 | hx0
  · first | (subst hx0; exact absurd hB (by decide)) | (subst hx0; exact absurd hC (by decide)) | skip
    all_goals (subst hx0; try simp only [if_true] at sB sC)
    all_goals (simp [h0, h6, sA, jA, sB, jB, sC, jC, sD, jD, InK, i1, sD]; try (repeat' (first | apply And.intro | intro _hc)); all_goals (first | omega | (cases ae <;> cases ax <;> simp_all)))
  · try simp only [if_neg hx0] at sB sC
    simp [h0, h1, h6, hx0, sA, jA, sB, jB, sC, jC, sD, jD, InK, i1, sD]
    try (repeat' (first | apply And.intro | intro _hc))
    all_goals (first | omega | (cases ae <;> cases ax <;> simp_all))
def c_WBbbbb : List SV → Option (List Prop × SV)
  | [.int .u32 va, .int .u32 x, .bool se, .int .i64 p] => some ([InK .u32 va, InK .u32 x, ¬ (va < 1073741824 ∧ va % 4 = 0), ¬ (x % 256 = 1 ∧ x / 256 < 64), ¬ (psS x).2.2.2.2 = 0, 64 ≤ p, InK .i64 p], .bool true)
  | _ => none
theorem c_WBbbbb_e : PEntry Try.prog 10 c_WBbbbb := by
  refine ⟨callFunc_ok Try.func10 (by kernel_rfl) (by kernel_rfl), fun args ps v h hp => ?_⟩
  unfold c_WBbbbb at h
  split at h
  · cases h; exact WBbbbb_ok _ _ _ _ (hp _ (List.mem_of_getElem? (i := 0) rfl)) (hp _ (List.mem_of_getElem? (i := 1) rfl)) (hp _ (List.mem_of_getElem? (i := 2) rfl)) (hp _ (List.mem_of_getElem? (i := 3) rfl)) (hp _ (List.mem_of_getElem? (i := 4) rfl)) (hp _ (List.mem_of_getElem? (i := 5) rfl)) (hp _ (List.mem_of_getElem? (i := 6) rfl))
  · cases h
theorem WBbbbc_ok (va x p : Int) (h0 : InK .u32 va) (h1 : InK .u32 x) (h2 : ¬ (va < 1073741824 ∧ va % 4 = 0)) (h3 : ¬ (x % 256 = 1 ∧ x / 256 < 64)) (h4 : ¬ (psS x).2.2.2.2 = 0) (h5 : 0 ≤ p ∧ p < 64) (h6 : InK .i64 p) : PureSem Try.prog 10 [.int .u32 va, .int .u32 x, .bool true, .int .i64 p] (.bool true) := by
  refine pure_intro mixed (cx_wb_ok (fun d => bif Nat.beq d 38 || Nat.beq d 42 || Nat.beq d 54 || Nat.beq d 57 || Nat.beq d 63 || Nat.beq d 69 || Nat.beq d 74 || Nat.beq d 87 || Nat.beq d 104 || Nat.beq d 110 || Nat.beq d 118 || Nat.beq d 131 || Nat.beq d 150 || Nat.beq d 157 || Nat.beq d 165 || Nat.beq d 178 || Nat.beq d 181 || Nat.beq d 190 || Nat.beq d 194 || Nat.beq d 198 || Nat.beq d 224 || Nat.beq d 227 || Nat.beq d 236 || Nat.beq d 240 || Nat.beq d 244 then some false else bif Nat.beq d 66 || Nat.beq d 107 || Nat.beq d 153 then some true else none) (fun _ => none)) Try.func10 1000 rfl rfl ?_
  refine of_nf (p := (0 ≤ va ∧ va < 4294967296) ∧ false = false ∧ ((joinS (splitS va).fst (splitS va).snd.fst (splitS va).snd.snd.fst).2 != 0) = false ∧ (decide (va < 1073741824) = true → 0 ≤ va ∧ (((splitS va).snd.snd.2 == 0) != (va % 4 == 0)) = false ∧ ((splitS va).snd.snd.2 == 0) = false ∧ ((splitS va).snd.snd.2 != 0) = true ∧ ((splitS va).snd.snd.2 != 91) = false ∧ ((joinS (splitS va).fst (splitS va).snd.fst (splitS va).snd.snd.fst).1 != 0) = false ∧ (0 ≤ x ∧ x < 4294967296) ∧ ((pfS x).2 == 0) = false ∧ ((pfS x).2 != 0) = true ∧ ((pfS x).1 != 0) = false ∧ (((pfS x).2 == 92) != (x == 0)) = false ∧ (0 ≤ x ∧ x < 4294967296) ∧ (-9223372036854775808 ≤ (psS x).snd.1 ∧ (psS x).snd.1 < 9223372036854775808) ∧ ((psS x).snd.snd.snd.2 == 0) = false ∧ ((psS x).snd.snd.snd.2 != 0) = true ∧ (!((psS x).1 == false && ((psS x).snd.1 == 0 && ((psS x).snd.snd.1 == false && ((psS x).snd.snd.snd.1 == false && true))))) = false ∧ (((psS x).snd.snd.snd.2 == 92) != (x == 0)) = false ∧ (0 ≤ (firstS p).1 ∧ (firstS p).1 < 4294967296) ∧ decide (p < 0) = false ∧ decide (63 < p) = false ∧ ((firstS p).2 != 0) = false ∧ ((pfS (firstS p).fst).2 != 0) = false ∧ ((pfS (firstS p).fst).1 != p) = false ∧ (-9223372036854775808 ≤ p ∧ p < 9223372036854775808) ∧ (0 ≤ (secS true p false false).1 ∧ (secS true p false false).1 < 4294967296) ∧ false = false ∧ ((secS true p false false).2 != 0) = false ∧ ((psS (secS true p false false).fst).snd.snd.snd.2 != 0) = false ∧ (!((psS (secS true p false false).fst).1 == true && ((psS (secS true p false false).fst).snd.1 == p && ((psS (secS true p false false).fst).snd.snd.1 == false && ((psS (secS true p false false).fst).snd.snd.snd.1 == false && true))))) = false ∧ (-9223372036854775808 ≤ p ∧ p < 9223372036854775808) ∧ (0 ≤ (secS true p true false).1 ∧ (secS true p true false).1 < 4294967296) ∧ false = false ∧ ((secS true p true false).2 != 0) = false ∧ ((psS (secS true p true false).fst).snd.snd.snd.2 != 0) = false ∧ (!((psS (secS true p true false).fst).1 == true && ((psS (secS true p true false).fst).snd.1 == p && ((psS (secS true p true false).fst).snd.snd.1 == true && ((psS (secS true p true false).fst).snd.snd.snd.1 == false && true))))) = false ∧ (-9223372036854775808 ≤ p ∧ p < 9223372036854775808) ∧ (0 ≤ (secS true p false true).1 ∧ (secS true p false true).1 < 4294967296) ∧ false = false ∧ ((secS true p false true).2 != 0) = false ∧ ((psS (secS true p false true).fst).snd.snd.snd.2 != 0) = false ∧ (!((psS (secS true p false true).fst).1 == true && ((psS (secS true p false true).fst).snd.1 == p && ((psS (secS true p false true).fst).snd.snd.1 == false && ((psS (secS true p false true).fst).snd.snd.snd.1 == true && true))))) = false ∧ (-9223372036854775808 ≤ p ∧ p < 9223372036854775808) ∧ (0 ≤ (secS true p true true).1 ∧ (secS true p true true).1 < 4294967296) ∧ false = false ∧ ((secS true p true true).2 != 0) = false ∧ ((psS (secS true p true true).fst).snd.snd.snd.2 != 0) = false ∧ (!((psS (secS true p true true).fst).1 == true && ((psS (secS true p true true).fst).snd.1 == p && ((psS (secS true p true true).fst).snd.snd.1 == true && ((psS (secS true p true true).fst).snd.snd.snd.1 == true && true))))) = false ∧ true = true) ∧ (decide (va < 1073741824) = false → (((splitS va).snd.snd.2 == 0) != false) = false ∧ ((splitS va).snd.snd.2 == 0) = false ∧ ((splitS va).snd.snd.2 != 0) = true ∧ ((splitS va).snd.snd.2 != 91) = false ∧ ((joinS (splitS va).fst (splitS va).snd.fst (splitS va).snd.snd.fst).1 != 0) = false ∧ (0 ≤ x ∧ x < 4294967296) ∧ ((pfS x).2 == 0) = false ∧ ((pfS x).2 != 0) = true ∧ ((pfS x).1 != 0) = false ∧ (((pfS x).2 == 92) != (x == 0)) = false ∧ (0 ≤ x ∧ x < 4294967296) ∧ (-9223372036854775808 ≤ (psS x).snd.1 ∧ (psS x).snd.1 < 9223372036854775808) ∧ ((psS x).snd.snd.snd.2 == 0) = false ∧ ((psS x).snd.snd.snd.2 != 0) = true ∧ (!((psS x).1 == false && ((psS x).snd.1 == 0 && ((psS x).snd.snd.1 == false && ((psS x).snd.snd.snd.1 == false && true))))) = false ∧ (((psS x).snd.snd.snd.2 == 92) != (x == 0)) = false ∧ (0 ≤ (firstS p).1 ∧ (firstS p).1 < 4294967296) ∧ decide (p < 0) = false ∧ decide (63 < p) = false ∧ ((firstS p).2 != 0) = false ∧ ((pfS (firstS p).fst).2 != 0) = false ∧ ((pfS (firstS p).fst).1 != p) = false ∧ (-9223372036854775808 ≤ p ∧ p < 9223372036854775808) ∧ (0 ≤ (secS true p false false).1 ∧ (secS true p false false).1 < 4294967296) ∧ false = false ∧ ((secS true p false false).2 != 0) = false ∧ ((psS (secS true p false false).fst).snd.snd.snd.2 != 0) = false ∧ (!((psS (secS true p false false).fst).1 == true && ((psS (secS true p false false).fst).snd.1 == p && ((psS (secS true p false false).fst).snd.snd.1 == false && ((psS (secS true p false false).fst).snd.snd.snd.1 == false && true))))) = false ∧ (-9223372036854775808 ≤ p ∧ p < 9223372036854775808) ∧ (0 ≤ (secS true p true false).1 ∧ (secS true p true false).1 < 4294967296) ∧ false = false ∧ ((secS true p true false).2 != 0) = false ∧ ((psS (secS true p true false).fst).snd.snd.snd.2 != 0) = false ∧ (!((psS (secS true p true false).fst).1 == true && ((psS (secS true p true false).fst).snd.1 == p && ((psS (secS true p true false).fst).snd.snd.1 == true && ((psS (secS true p true false).fst).snd.snd.snd.1 == false && true))))) = false ∧ (-9223372036854775808 ≤ p ∧ p < 9223372036854775808) ∧ (0 ≤ (secS true p false true).1 ∧ (secS true p false true).1 < 4294967296) ∧ false = false ∧ ((secS true p false true).2 != 0) = false ∧ ((psS (secS true p false true).fst).snd.snd.snd.2 != 0) = false ∧ (!((psS (secS true p false true).fst).1 == true && ((psS (secS true p false true).fst).snd.1 == p && ((psS (secS true p false true).fst).snd.snd.1 == false && ((psS (secS true p false true).fst).snd.snd.snd.1 == true && true))))) = false ∧ (-9223372036854775808 ≤ p ∧ p < 9223372036854775808) ∧ (0 ≤ (secS true p true true).1 ∧ (secS true p true true).1 < 4294967296) ∧ false = false ∧ ((secS true p true true).2 != 0) = false ∧ ((psS (secS true p true true).fst).snd.snd.snd.2 != 0) = false ∧ (!((psS (secS true p true true).fst).1 == true && ((psS (secS true p true true).fst).snd.1 == p && ((psS (secS true p true true).fst).snd.snd.1 == true && ((psS (secS true p true true).fst).snd.snd.snd.1 == true && true))))) = false ∧ true = true)) (by kernel_rfl) ?_
  have hA := h2
  have hB := h3
  have hC := h4
  have hD := h5
  have sA : splitS va = (0, 0, 0, 91) := by unfold splitS; rw [if_neg hA]
  have jA := join0
  have sB := pf_no hB
  have jB := first0
  have sC := psS_no hC
  have jC := sec0
  have kC := trivial
  have sD := first_in hD.1 hD.2
  have jD := pf_in hD.1 hD.2
  have stt := psS_secS (se := true) (wr := true) (ex := true) hD.1 hD.2 (by simp)
  have stf := psS_secS (se := true) (wr := true) (ex := false) hD.1 hD.2 (by simp)
  have sft := psS_secS (se := true) (wr := false) (ex := true) hD.1 hD.2 (by simp)
  have sff := psS_secS (se := true) (wr := false) (ex := false) hD.1 hD.2 (by simp)
  have i1 := InKpsS h1
  try simp only [sC] at i1
  simp only [InK] at h0 h1 h6
  try simp only [fl, if_true, if_false, Bool.false_eq_true, Int.add_zero] at sD
  try simp only [fl, if_true, if_false, Bool.false_eq_true, Int.add_zero] at stt
  try simp only [fl, if_true, if_false, Bool.false_eq_true, Int.add_zero] at stf
  try simp only [fl, if_true, if_false, Bool.false_eq_true, Int.add_zero] at sft
  try simp only [fl, if_true, if_false, Bool.false_eq_true, Int.add_zero] at sff
  try dsimp only
  have hx0 : x = 0 ∨ x ≠ 0 := by omega
  rcases hx0 with hx0 | hx0
  · first | (subst hx0; exact absurd hB (by decide)) | (subst hx0; exact absurd hC (by decide)) | skip
    all_goals (subst hx0; try simp only [if_true] at sB sC)
    all_goals (simp [h0, h6, sA, jA, sB, jB, sC, jC, sD, jD, InK, i1, sD, stt, stf, sft, sff]; try (repeat' (first | apply And.intro | intro _hc)); all_goals (first | omega | (cases ae <;> cases ax <;> simp_all)))
  · try simp only [if_neg hx0] at sB sC
    simp [h0, h1, h6, hx0, sA, jA, sB, jB, sC, jC, sD, jD, InK, i1, sD, stt, stf, sft, sff]
    try (repeat' (first | apply And.intro | intro _hc))
    all_goals (first | omega | (cases ae <;> cases ax <;> simp_all))
def c_WBbbbc : List SV → Option (List Prop × SV)
  | [.int .u32 va, .int .u32 x, .bool true, .int .i64 p] => some ([InK .u32 va, InK .u32 x, ¬ (va < 1073741824 ∧ va % 4 = 0), ¬ (x % 256 = 1 ∧ x / 256 < 64), ¬ (psS x).2.2.2.2 = 0, 0 ≤ p ∧ p < 64, InK .i64 p], .bool true)
  | _ => none
theorem c_WBbbbc_e : PEntry Try.prog 10 c_WBbbbc := by
  refine ⟨callFunc_ok Try.func10 (by kernel_rfl) (by kernel_rfl), fun args ps v h hp => ?_⟩
  unfold c_WBbbbc at h
  split at h
  · cases h; exact WBbbbc_ok _ _ _ (hp _ (List.mem_of_getElem? (i := 0) rfl)) (hp _ (List.mem_of_getElem? (i := 1) rfl)) (hp _ (List.mem_of_getElem? (i := 2) rfl)) (hp _ (List.mem_of_getElem? (i := 3) rfl)) (hp _ (List.mem_of_getElem? (i := 4) rfl)) (hp _ (List.mem_of_getElem? (i := 5) rfl)) (hp _ (List.mem_of_getElem? (i := 6) rfl))
  · cases h
theorem WBbbbd_ok (va x p : Int) (h0 : InK .u32 va) (h1 : InK .u32 x) (h2 : ¬ (va < 1073741824 ∧ va % 4 = 0)) (h3 : ¬ (x % 256 = 1 ∧ x / 256 < 64)) (h4 : ¬ (psS x).2.2.2.2 = 0) (h5 : 0 ≤ p ∧ p < 64) (h6 : InK .i64 p) : PureSem Try.prog 10 [.int .u32 va, .int .u32 x, .bool false, .int .i64 p] (.bool true) := by
  refine pure_intro mixed (cx_wb_ok (fun d => bif Nat.beq d 38 || Nat.beq d 42 || Nat.beq d 54 || Nat.beq d 57 || Nat.beq d 63 || Nat.beq d 69 || Nat.beq d 74 || Nat.beq d 87 || Nat.beq d 104 || Nat.beq d 110 || Nat.beq d 118 || Nat.beq d 131 || Nat.beq d 150 || Nat.beq d 157 || Nat.beq d 165 || Nat.beq d 178 || Nat.beq d 181 || Nat.beq d 190 || Nat.beq d 194 || Nat.beq d 198 || Nat.beq d 230 || Nat.beq d 233 || Nat.beq d 236 || Nat.beq d 240 || Nat.beq d 244 then some false else bif Nat.beq d 66 || Nat.beq d 107 || Nat.beq d 153 || Nat.beq d 224 then some true else none) (fun _ => none)) Try.func10 1000 rfl rfl ?_
  refine of_nf (p := (0 ≤ va ∧ va < 4294967296) ∧ false = false ∧ ((joinS (splitS va).fst (splitS va).snd.fst (splitS va).snd.snd.fst).2 != 0) = false ∧ (decide (va < 1073741824) = true → 0 ≤ va ∧ (((splitS va).snd.snd.2 == 0) != (va % 4 == 0)) = false ∧ ((splitS va).snd.snd.2 == 0) = false ∧ ((splitS va).snd.snd.2 != 0) = true ∧ ((splitS va).snd.snd.2 != 91) = false ∧ ((joinS (splitS va).fst (splitS va).snd.fst (splitS va).snd.snd.fst).1 != 0) = false ∧ (0 ≤ x ∧ x < 4294967296) ∧ ((pfS x).2 == 0) = false ∧ ((pfS x).2 != 0) = true ∧ ((pfS x).1 != 0) = false ∧ (((pfS x).2 == 92) != (x == 0)) = false ∧ (0 ≤ x ∧ x < 4294967296) ∧ (-9223372036854775808 ≤ (psS x).snd.1 ∧ (psS x).snd.1 < 9223372036854775808) ∧ ((psS x).snd.snd.snd.2 == 0) = false ∧ ((psS x).snd.snd.snd.2 != 0) = true ∧ (!((psS x).1 == false && ((psS x).snd.1 == 0 && ((psS x).snd.snd.1 == false && ((psS x).snd.snd.snd.1 == false && true))))) = false ∧ (((psS x).snd.snd.snd.2 == 92) != (x == 0)) = false ∧ (0 ≤ (firstS p).1 ∧ (firstS p).1 < 4294967296) ∧ decide (p < 0) = false ∧ decide (63 < p) = false ∧ ((firstS p).2 != 0) = false ∧ ((pfS (firstS p).fst).2 != 0) = false ∧ ((pfS (firstS p).fst).1 != p) = false ∧ (-9223372036854775808 ≤ p ∧ p < 9223372036854775808) ∧ (0 ≤ (secS false p false false).1 ∧ (secS false p false false).1 < 4294967296) ∧ true = true ∧ ((secS false p false false).2 != 0) = false ∧ ((psS (secS false p false false).fst).snd.snd.snd.2 != 0) = false ∧ (!((psS (secS false p false false).fst).1 == false && ((psS (secS false p false false).fst).snd.1 == p && ((psS (secS false p false false).fst).snd.snd.1 == false && ((psS (secS false p false false).fst).snd.snd.snd.1 == false && true))))) = false ∧ (-9223372036854775808 ≤ p ∧ p < 9223372036854775808) ∧ (0 ≤ (secS false p true false).1 ∧ (secS false p true false).1 < 4294967296) ∧ true = true ∧ ((secS false p true false).2 != 0) = false ∧ ((psS (secS false p true false).fst).snd.snd.snd.2 != 0) = false ∧ (!((psS (secS false p true false).fst).1 == false && ((psS (secS false p true false).fst).snd.1 == p && ((psS (secS false p true false).fst).snd.snd.1 == true && ((psS (secS false p true false).fst).snd.snd.snd.1 == false && true))))) = false ∧ (-9223372036854775808 ≤ p ∧ p < 9223372036854775808) ∧ (0 ≤ (secS false p false true).1 ∧ (secS false p false true).1 < 4294967296) ∧ true = true ∧ ((secS false p false true).2 != 1) = false ∧ ((secS false p false true).1 != 0) = false ∧ (-9223372036854775808 ≤ p ∧ p < 9223372036854775808) ∧ (0 ≤ (secS false p true true).1 ∧ (secS false p true true).1 < 4294967296) ∧ true = true ∧ ((secS false p true true).2 != 1) = false ∧ ((secS false p true true).1 != 0) = false ∧ true = true) ∧ (decide (va < 1073741824) = false → (((splitS va).snd.snd.2 == 0) != false) = false ∧ ((splitS va).snd.snd.2 == 0) = false ∧ ((splitS va).snd.snd.2 != 0) = true ∧ ((splitS va).snd.snd.2 != 91) = false ∧ ((joinS (splitS va).fst (splitS va).snd.fst (splitS va).snd.snd.fst).1 != 0) = false ∧ (0 ≤ x ∧ x < 4294967296) ∧ ((pfS x).2 == 0) = false ∧ ((pfS x).2 != 0) = true ∧ ((pfS x).1 != 0) = false ∧ (((pfS x).2 == 92) != (x == 0)) = false ∧ (0 ≤ x ∧ x < 4294967296) ∧ (-9223372036854775808 ≤ (psS x).snd.1 ∧ (psS x).snd.1 < 9223372036854775808) ∧ ((psS x).snd.snd.snd.2 == 0) = false ∧ ((psS x).snd.snd.snd.2 != 0) = true ∧ (!((psS x).1 == false && ((psS x).snd.1 == 0 && ((psS x).snd.snd.1 == false && ((psS x).snd.snd.snd.1 == false && true))))) = false ∧ (((psS x).snd.snd.snd.2 == 92) != (x == 0)) = false ∧ (0 ≤ (firstS p).1 ∧ (firstS p).1 < 4294967296) ∧ decide (p < 0) = false ∧ decide (63 < p) = false ∧ ((firstS p).2 != 0) = false ∧ ((pfS (firstS p).fst).2 != 0) = false ∧ ((pfS (firstS p).fst).1 != p) = false ∧ (-9223372036854775808 ≤ p ∧ p < 9223372036854775808) ∧ (0 ≤ (secS false p false false).1 ∧ (secS false p false false).1 < 4294967296) ∧ true = true ∧ ((secS false p false false).2 != 0) = false ∧ ((psS (secS false p false false).fst).snd.snd.snd.2 != 0) = false ∧ (!((psS (secS false p false false).fst).1 == false && ((psS (secS false p false false).fst).snd.1 == p && ((psS (secS false p false false).fst).snd.snd.1 == false && ((psS (secS false p false false).fst).snd.snd.snd.1 == false && true))))) = false ∧ (-9223372036854775808 ≤ p ∧ p < 9223372036854775808) ∧ (0 ≤ (secS false p true false).1 ∧ (secS false p true false).1 < 4294967296) ∧ true = true ∧ ((secS false p true false).2 != 0) = false ∧ ((psS (secS false p true false).fst).snd.snd.snd.2 != 0) = false ∧ (!((psS (secS false p true false).fst).1 == false && ((psS (secS false p true false).fst).snd.1 == p && ((psS (secS false p true false).fst).snd.snd.1 == true && ((psS (secS false p true false).fst).snd.snd.snd.1 == false && true))))) = false ∧ (-9223372036854775808 ≤ p ∧ p < 9223372036854775808) ∧ (0 ≤ (secS false p false true).1 ∧ (secS false p false true).1 < 4294967296) ∧ true = true ∧ ((secS false p false true).2 != 1) = false ∧ ((secS false p false true).1 != 0) = false ∧ (-9223372036854775808 ≤ p ∧ p < 9223372036854775808) ∧ (0 ≤ (secS false p true true).1 ∧ (secS false p true true).1 < 4294967296) ∧ true = true ∧ ((secS false p true true).2 != 1) = false ∧ ((secS false p true true).1 != 0) = false ∧ true = true)) (by kernel_rfl) ?_
  have hA := h2
  have hB := h3
  have hC := h4
  have hD := h5
  have sA : splitS va = (0, 0, 0, 91) := by unfold splitS; rw [if_neg hA]
  have jA := join0
  have sB := pf_no hB
  have jB := first0
  have sC := psS_no hC
  have jC := sec0
  have kC := trivial
  have sD := first_in hD.1 hD.2
  have jD := pf_in hD.1 hD.2
  have stf := psS_secS (se := false) (wr := true) (ex := false) hD.1 hD.2 (by simp)
  have sff := psS_secS (se := false) (wr := false) (ex := false) hD.1 hD.2 (by simp)
  have stt := secS_no true hD.1 hD.2
  have sft := secS_no false hD.1 hD.2
  have i1 := InKpsS h1
  try simp only [sC] at i1
  simp only [InK] at h0 h1 h6
  try simp only [fl, if_true, if_false, Bool.false_eq_true, Int.add_zero] at sD
  try simp only [fl, if_true, if_false, Bool.false_eq_true, Int.add_zero] at stf
  try simp only [fl, if_true, if_false, Bool.false_eq_true, Int.add_zero] at sff
  try simp only [fl, if_true, if_false, Bool.false_eq_true, Int.add_zero] at stt
  try simp only [fl, if_true, if_false, Bool.false_eq_true, Int.add_zero] at sft
  try dsimp only
  have hx0 : x = 0 ∨ x ≠ 0 := by omega
  rcases hx0 with hx0 | hx0
  · first | (subst hx0; exact absurd hB (by decide)) | (subst hx0; exact absurd hC (by decide)) | skip
    all_goals (subst hx0; try simp only [if_true] at sB sC)
    all_goals (simp [h0, h6, sA, jA, sB, jB, sC, jC, sD, jD, InK, i1, sD, stf, sff, stt, sft]; try (repeat' (first | apply And.intro | intro _hc)); all_goals (first | omega | (cases ae <;> cases ax <;> simp_all)))
  · try simp only [if_neg hx0] at sB sC
    simp [h0, h1, h6, hx0, sA, jA, sB, jB, sC, jC, sD, jD, InK, i1, sD, stf, sff, stt, sft]
    try (repeat' (first | apply And.intro | intro _hc))
    all_goals (first | omega | (cases ae <;> cases ax <;> simp_all))
def c_WBbbbd : List SV → Option (List Prop × SV)
  | [.int .u32 va, .int .u32 x, .bool false, .int .i64 p] => some ([InK .u32 va, InK .u32 x, ¬ (va < 1073741824 ∧ va % 4 = 0), ¬ (x % 256 = 1 ∧ x / 256 < 64), ¬ (psS x).2.2.2.2 = 0, 0 ≤ p ∧ p < 64, InK .i64 p], .bool true)
  | _ => none
theorem c_WBbbbd_e : PEntry Try.prog 10 c_WBbbbd := by
  refine ⟨callFunc_ok Try.func10 (by kernel_rfl) (by kernel_rfl), fun args ps v h hp => ?_⟩
  unfold c_WBbbbd at h
  split at h
  · cases h; exact WBbbbd_ok _ _ _ (hp _ (List.mem_of_getElem? (i := 0) rfl)) (hp _ (List.mem_of_getElem? (i := 1) rfl)) (hp _ (List.mem_of_getElem? (i := 2) rfl)) (hp _ (List.mem_of_getElem? (i := 3) rfl)) (hp _ (List.mem_of_getElem? (i := 4) rfl)) (hp _ (List.mem_of_getElem? (i := 5) rfl)) (hp _ (List.mem_of_getElem? (i := 6) rfl))
  · cases h
theorem WalkBackL_ok (va x : Int) (se : Bool) (p : Int) (h0 : InK .u32 va) (h1 : InK .u32 x) (h6 : InK .i64 p) : PureSem Try.prog 10 [.int .u32 va, .int .u32 x, .bool se, .int .i64 p] (.bool true) := by
  by_cases hA : va < 1073741824 ∧ va % 4 = 0 <;> by_cases hB : x % 256 = 1 ∧ x / 256 < 64 <;> by_cases hC : (psS x).2.2.2.2 = 0 <;> by_cases hD : p < 0
  · exact WBaaaa_ok va x p se h0 h1 hA hB hC hD h6
  · by_cases hE : 64 ≤ p
    · exact WBaaab_ok va x p se h0 h1 hA hB hC hE h6
    · have hF : 0 ≤ p ∧ p < 64 := by omega
      cases se
      · exact WBaaad_ok va x p h0 h1 hA hB hC hF h6
      · exact WBaaac_ok va x p h0 h1 hA hB hC hF h6
  · exact WBaaba_ok va x p se h0 h1 hA hB hC hD h6
  · by_cases hE : 64 ≤ p
    · exact WBaabb_ok va x p se h0 h1 hA hB hC hE h6
    · have hF : 0 ≤ p ∧ p < 64 := by omega
      cases se
      · exact WBaabd_ok va x p h0 h1 hA hB hC hF h6
      · exact WBaabc_ok va x p h0 h1 hA hB hC hF h6
  · exact WBabaa_ok va x p se h0 h1 hA hB hC hD h6
  · by_cases hE : 64 ≤ p
    · exact WBabab_ok va x p se h0 h1 hA hB hC hE h6
    · have hF : 0 ≤ p ∧ p < 64 := by omega
      cases se
      · exact WBabad_ok va x p h0 h1 hA hB hC hF h6
      · exact WBabac_ok va x p h0 h1 hA hB hC hF h6
  · exact WBabba_ok va x p se h0 h1 hA hB hC hD h6
  · by_cases hE : 64 ≤ p
    · exact WBabbb_ok va x p se h0 h1 hA hB hC hE h6
    · have hF : 0 ≤ p ∧ p < 64 := by omega
      cases se
      · exact WBabbd_ok va x p h0 h1 hA hB hC hF h6
      · exact WBabbc_ok va x p h0 h1 hA hB hC hF h6
  · exact WBbaaa_ok va x p se h0 h1 hA hB hC hD h6
  · by_cases hE : 64 ≤ p
    · exact WBbaab_ok va x p se h0 h1 hA hB hC hE h6
    · have hF : 0 ≤ p ∧ p < 64 := by omega
      cases se
      · exact WBbaad_ok va x p h0 h1 hA hB hC hF h6
      · exact WBbaac_ok va x p h0 h1 hA hB hC hF h6
  · exact WBbaba_ok va x p se h0 h1 hA hB hC hD h6
  · by_cases hE : 64 ≤ p
    · exact WBbabb_ok va x p se h0 h1 hA hB hC hE h6
    · have hF : 0 ≤ p ∧ p < 64 := by omega
      cases se
      · exact WBbabd_ok va x p h0 h1 hA hB hC hF h6
      · exact WBbabc_ok va x p h0 h1 hA hB hC hF h6
  · exact WBbbaa_ok va x p se h0 h1 hA hB hC hD h6
  · by_cases hE : 64 ≤ p
    · exact WBbbab_ok va x p se h0 h1 hA hB hC hE h6
    · have hF : 0 ≤ p ∧ p < 64 := by omega
      cases se
      · exact WBbbad_ok va x p h0 h1 hA hB hC hF h6
      · exact WBbbac_ok va x p h0 h1 hA hB hC hF h6
  · exact WBbbba_ok va x p se h0 h1 hA hB hC hD h6
  · by_cases hE : 64 ≤ p
    · exact WBbbbb_ok va x p se h0 h1 hA hB hC hE h6
    · have hF : 0 ≤ p ∧ p < 64 := by omega
      cases se
      · exact WBbbbd_ok va x p h0 h1 hA hB hC hF h6
      · exact WBbbbc_ok va x p h0 h1 hA hB hC hF h6
end Go.Proofs.Ytmmejomalfjcnaa