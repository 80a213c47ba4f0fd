/- The walk of the law SpaceWords: for every number, word and pair of flags it answers true and writes to nothing that was there. No condition beyond the arguments' types. -/
import Derived.Test.YtmmejomalfjcnaaSpaceWord
namespace Go.Proofs.Ytmmejomalfjcnaa
open Go.RowKit

/-- The last part, where the word is no mapping's. -/
theorem no_map_why {x : Int} (hu : U32 x) (h : isMap x = false) : x % 2 = 0 ∨ (x % 2 = 1 ∧ bits .and .u32 x 4088 ≠ 0) ∨ 1073741824 ≤ x := by
  by_cases h0 : x % 2 = 0
  · exact .inl h0
  by_cases h1 : 1073741824 ≤ x
  · exact .inr (.inr h1)
  refine .inr (.inl ⟨by omega, fun hz => ?_⟩)
  have hm : x % 4096 < 8 := by
    have e := and_low_high x hu hz
    exact e
  have : isMap x = true := by
    unfold U32 at hu
    have : mapWord (pVA x) (pWr x) (pEx x) = x := by
      unfold mapWord pVA pWr pEx flag
      have a := Int.emod_two_eq (x / 2)
      have b := Int.emod_two_eq (x / 4)
      rcases a with a | a <;> rcases b with b | b <;> simp [a, b] <;> omega
    simp [isMap, this]; omega
  simp [this] at h

set_option maxRecDepth 100000 in
set_option maxHeartbeats 1000000 in
theorem SpaceWords_yes_yes (va x : Int) (f0 f1 : Bool) (w : World) (hu : U32 va) (hx : U32 x) (h1 : va % 4096 = 0) (h2 : va < 1073741824) (hm : isMap x = true) :
    Calls Try.prog 4 #[.int .u32 va, .int .u32 x, .agg #[.bool f0, .bool f1]] w fun e w' => e = .returned (.bool true) ∧ Below w.heap.size w w' := by
  obtain ⟨e1, e2, e3, hU, e4, k1, k2, k3, k4⟩ := mapWord_back (a := f0) (b := f1) h1 h2 hu
  have t1 : decide (va < 1073741824) = true := by simpa using h2
  have t2 : (bits .and .u32 va 4095 == 0) = true := by rw [and_mask 12 (by decide) (by omega) hu]; simp [h1]
  have W1 := fun w => space_Word_yes va f0 f1 w hu h1 h2
  have P1 := fun w => space_Parse_yes (mapWord va f0 f1) w hU e4
  rw [e1, e2, e3] at P1
  generalize mapWord va f0 f1 = v at *
  replace W1 := Lib.hid W1
  replace P1 := Lib.hid P1
  clear e1 e2 e3 hU e4 h1 h2 hu
  have P2 := fun w => space_Parse_yes x w hx hm
  obtain ⟨y1, y2, y3, y4⟩ : U32 (pVA x) ∧ pVA x % 4096 = 0 ∧ pVA x < 1073741824 ∧ mapWord (pVA x) (pWr x) (pEx x) = x := by
    obtain ⟨a, b⟩ := pVA_U32 hx
    simp only [isMap, Bool.and_eq_true, decide_eq_true_eq, beq_iff_eq] at hm
    exact ⟨a, b, by unfold U32 at hx; unfold pVA; omega, hm.2⟩
  have W2 := fun w => space_Word_yes (pVA x) (pWr x) (pEx x) w y1 y2 y3
  rw [y4] at W2
  generalize pVA x = va' at *
  generalize pWr x = wr' at *
  generalize pEx x = ex' at *
  replace W2 := Lib.hid W2
  replace P2 := Lib.hid P2
  clear y1 y2 y3 y4 hx hm
  have bb : Below w.heap.size w w := Below.refl _ _
  go_enter Try.func4, Try.ntmps4
  go_wp2_with fail
  refine (space_head _).mono ?_
  rintro e w1 ⟨rfl, hb⟩
  have c5 := below_row hb (heap_alloc_new _ _) (by first | omega | (simp; done) | (simp; omega))
  replace bb := (bb.alloc (by first | omega | (simp; done) | (simp; omega)) _).trans (hb.mono (by first | omega | (simp; done) | (simp; omega)))
  have s_w1 : w.heap.size + 1 ≤ w1.heap.size := by have := hb.size; first | omega | (simp at this; omega)
  clear hb
  try clear ic5 jc5 lc5
  obtain ⟨ic5, jc5, lc5⟩ := row_cells c5
  go_wp2_with fail
  refine (W1.out _).mono ?_
  rintro e w2 ⟨rfl, hb⟩
  replace c5 := below_row hb (alloc_row c5 (by first | omega | (simp; done) | (simp; omega))) (by first | omega | (simp; done) | (simp; omega))
  have c7 := below_row hb (heap_alloc_new _ _) (by first | omega | (simp; done) | (simp; omega))
  replace bb := (bb.alloc (by first | omega | (simp; done) | (simp; omega)) _).trans (hb.mono (by first | omega | (simp; done) | (simp; omega)))
  have s_w2 : w1.heap.size + 1 ≤ w2.heap.size := by have := hb.size; first | omega | (simp at this; omega)
  clear hb
  try clear ic5 jc5 lc5
  obtain ⟨ic5, jc5, lc5⟩ := row_cells c5
  try clear ic7 jc7 lc7
  obtain ⟨ic7, jc7, lc7⟩ := row_cells c7
  go_wp2_with fail
  refine (P1.out _).mono ?_
  rintro e w3 ⟨rfl, hb⟩
  replace c5 := below_row hb c5 (by first | omega | (simp; done) | (simp; omega))
  replace c7 := below_row hb c7 (by first | omega | (simp; done) | (simp; omega))
  replace bb := bb.trans (hb.mono (by first | omega | (simp; done) | (simp; omega)))
  have s_w3 : w2.heap.size + 0 ≤ w3.heap.size := by have := hb.size; first | omega | (simp at this; omega)
  clear hb
  try clear ic5 jc5 lc5
  obtain ⟨ic5, jc5, lc5⟩ := row_cells c5
  try clear ic7 jc7 lc7
  obtain ⟨ic7, jc7, lc7⟩ := row_cells c7
  go_wp2_with ((with_reducible (refine wpList_load_row rfl 32 _ rfl _ rfl _ _ _ _ (by assumption) Try.underlying32 rfl (rsz sp_size (by simp)) ?_)))
  refine (P2.out _).mono ?_
  rintro e w4 ⟨rfl, hb⟩
  replace c5 := below_row hb (alloc_row c5 (by first | omega | (simp; done) | (simp; omega))) (by first | omega | (simp; done) | (simp; omega))
  replace c7 := below_row hb (alloc_row c7 (by first | omega | (simp; done) | (simp; omega))) (by first | omega | (simp; done) | (simp; omega))
  have c10 := below_row hb (heap_alloc_new _ _) (by first | omega | (simp; done) | (simp; omega))
  replace bb := (bb.alloc (by first | omega | (simp; done) | (simp; omega)) _).trans (hb.mono (by first | omega | (simp; done) | (simp; omega)))
  have s_w4 : w3.heap.size + 1 ≤ w4.heap.size := by have := hb.size; first | omega | (simp at this; omega)
  clear hb
  try clear ic5 jc5 lc5
  obtain ⟨ic5, jc5, lc5⟩ := row_cells c5
  try clear ic7 jc7 lc7
  obtain ⟨ic7, jc7, lc7⟩ := row_cells c7
  try clear ic10 jc10 lc10
  obtain ⟨ic10, jc10, lc10⟩ := row_cells c10
  go_wp2_with ((with_reducible (refine wpList_load_row rfl 32 _ rfl _ rfl _ _ _ _ (by assumption) Try.underlying32 rfl (rsz sp_size (by simp)) ?_)))
  refine (W2.out _).mono ?_
  rintro e w5 ⟨rfl, hb⟩
  replace c5 := below_row hb (alloc_row c5 (by first | omega | (simp; done) | (simp; omega))) (by first | omega | (simp; done) | (simp; omega))
  replace c7 := below_row hb (alloc_row c7 (by first | omega | (simp; done) | (simp; omega))) (by first | omega | (simp; done) | (simp; omega))
  replace c10 := below_row hb (alloc_row c10 (by first | omega | (simp; done) | (simp; omega))) (by first | omega | (simp; done) | (simp; omega))
  have c12 := below_row hb (heap_alloc_new _ _) (by first | omega | (simp; done) | (simp; omega))
  replace bb := (bb.alloc (by first | omega | (simp; done) | (simp; omega)) _).trans (hb.mono (by first | omega | (simp; done) | (simp; omega)))
  have s_w5 : w4.heap.size + 1 ≤ w5.heap.size := by have := hb.size; first | omega | (simp at this; omega)
  clear hb
  try clear ic5 jc5 lc5
  obtain ⟨ic5, jc5, lc5⟩ := row_cells c5
  try clear ic7 jc7 lc7
  obtain ⟨ic7, jc7, lc7⟩ := row_cells c7
  try clear ic10 jc10 lc10
  obtain ⟨ic10, jc10, lc10⟩ := row_cells c10
  try clear ic12 jc12 lc12
  obtain ⟨ic12, jc12, lc12⟩ := row_cells c12
  go_wp2_with ((with_reducible (refine wpList_load_row rfl 32 _ rfl _ rfl _ _ _ _ (by assumption) Try.underlying32 rfl (rsz sp_size (by simp)) ?_)))
  go_ret
  exact ⟨rfl, bb⟩

set_option maxRecDepth 100000 in
set_option maxHeartbeats 1000000 in
theorem SpaceWords_yes_n1 (va x : Int) (f0 f1 : Bool) (w : World) (hu : U32 va) (hx : U32 x) (h1 : va % 4096 = 0) (h2 : va < 1073741824) (hm : isMap x = false) (hn : x % 2 = 0) :
    Calls Try.prog 4 #[.int .u32 va, .int .u32 x, .agg #[.bool f0, .bool f1]] w fun e w' => e = .returned (.bool true) ∧ Below w.heap.size w w' := by
  obtain ⟨e1, e2, e3, hU, e4, k1, k2, k3, k4⟩ := mapWord_back (a := f0) (b := f1) h1 h2 hu
  have t1 : decide (va < 1073741824) = true := by simpa using h2
  have t2 : (bits .and .u32 va 4095 == 0) = true := by rw [and_mask 12 (by decide) (by omega) hu]; simp [h1]
  have W1 := fun w => space_Word_yes va f0 f1 w hu h1 h2
  have P1 := fun w => space_Parse_yes (mapWord va f0 f1) w hU e4
  rw [e1, e2, e3] at P1
  generalize mapWord va f0 f1 = v at *
  replace W1 := Lib.hid W1
  replace P1 := Lib.hid P1
  clear e1 e2 e3 hU e4 h1 h2 hu
  have u1 : (bits .and .u32 x 1 == 0) = true := by rw [and_mask 1 (by decide) (by omega) hx]; simpa using hn
  have P2 := Lib.hid (fun w => space_Parse_no x w hx hm)
  clear hx hm hn
  have bb : Below w.heap.size w w := Below.refl _ _
  go_enter Try.func4, Try.ntmps4
  go_wp2_with fail
  refine (space_head _).mono ?_
  rintro e w1 ⟨rfl, hb⟩
  have c5 := below_row hb (heap_alloc_new _ _) (by first | omega | (simp; done) | (simp; omega))
  replace bb := (bb.alloc (by first | omega | (simp; done) | (simp; omega)) _).trans (hb.mono (by first | omega | (simp; done) | (simp; omega)))
  have s_w1 : w.heap.size + 1 ≤ w1.heap.size := by have := hb.size; first | omega | (simp at this; omega)
  clear hb
  try clear ic5 jc5 lc5
  obtain ⟨ic5, jc5, lc5⟩ := row_cells c5
  go_wp2_with fail
  refine (W1.out _).mono ?_
  rintro e w2 ⟨rfl, hb⟩
  replace c5 := below_row hb (alloc_row c5 (by first | omega | (simp; done) | (simp; omega))) (by first | omega | (simp; done) | (simp; omega))
  have c7 := below_row hb (heap_alloc_new _ _) (by first | omega | (simp; done) | (simp; omega))
  replace bb := (bb.alloc (by first | omega | (simp; done) | (simp; omega)) _).trans (hb.mono (by first | omega | (simp; done) | (simp; omega)))
  have s_w2 : w1.heap.size + 1 ≤ w2.heap.size := by have := hb.size; first | omega | (simp at this; omega)
  clear hb
  try clear ic5 jc5 lc5
  obtain ⟨ic5, jc5, lc5⟩ := row_cells c5
  try clear ic7 jc7 lc7
  obtain ⟨ic7, jc7, lc7⟩ := row_cells c7
  go_wp2_with fail
  refine (P1.out _).mono ?_
  rintro e w3 ⟨rfl, hb⟩
  replace c5 := below_row hb c5 (by first | omega | (simp; done) | (simp; omega))
  replace c7 := below_row hb c7 (by first | omega | (simp; done) | (simp; omega))
  replace bb := bb.trans (hb.mono (by first | omega | (simp; done) | (simp; omega)))
  have s_w3 : w2.heap.size + 0 ≤ w3.heap.size := by have := hb.size; first | omega | (simp at this; omega)
  clear hb
  try clear ic5 jc5 lc5
  obtain ⟨ic5, jc5, lc5⟩ := row_cells c5
  try clear ic7 jc7 lc7
  obtain ⟨ic7, jc7, lc7⟩ := row_cells c7
  go_wp2_with ((with_reducible (refine wpList_load_row rfl 32 _ rfl _ rfl _ _ _ _ (by assumption) Try.underlying32 rfl (rsz sp_size (by simp)) ?_)))
  refine (P2.out _).mono ?_
  rintro e w4 ⟨rfl, hb⟩
  replace c5 := below_row hb (alloc_row c5 (by first | omega | (simp; done) | (simp; omega))) (by first | omega | (simp; done) | (simp; omega))
  replace c7 := below_row hb (alloc_row c7 (by first | omega | (simp; done) | (simp; omega))) (by first | omega | (simp; done) | (simp; omega))
  have c10 := below_row hb (heap_alloc_new _ _) (by first | omega | (simp; done) | (simp; omega))
  replace bb := (bb.alloc (by first | omega | (simp; done) | (simp; omega)) _).trans (hb.mono (by first | omega | (simp; done) | (simp; omega)))
  have s_w4 : w3.heap.size + 1 ≤ w4.heap.size := by have := hb.size; first | omega | (simp at this; omega)
  clear hb
  try clear ic5 jc5 lc5
  obtain ⟨ic5, jc5, lc5⟩ := row_cells c5
  try clear ic7 jc7 lc7
  obtain ⟨ic7, jc7, lc7⟩ := row_cells c7
  try clear ic10 jc10 lc10
  obtain ⟨ic10, jc10, lc10⟩ := row_cells c10
  go_wp2_with ((with_reducible (refine wpList_load_row rfl 32 _ rfl _ rfl _ _ _ _ (by assumption) Try.underlying32 rfl (rsz sp_size (by simp)) ?_)))
  go_ret
  exact ⟨rfl, bb.alloc (by first | omega | (simp; done) | (simp; omega)) _⟩

set_option maxRecDepth 100000 in
set_option maxHeartbeats 1000000 in
theorem SpaceWords_yes_n2 (va x : Int) (f0 f1 : Bool) (w : World) (hu : U32 va) (hx : U32 x) (h1 : va % 4096 = 0) (h2 : va < 1073741824) (hm : isMap x = false) (hn : x % 2 = 1) (hq : bits .and .u32 x 4088 ≠ 0) :
    Calls Try.prog 4 #[.int .u32 va, .int .u32 x, .agg #[.bool f0, .bool f1]] w fun e w' => e = .returned (.bool true) ∧ Below w.heap.size w w' := by
  obtain ⟨e1, e2, e3, hU, e4, k1, k2, k3, k4⟩ := mapWord_back (a := f0) (b := f1) h1 h2 hu
  have t1 : decide (va < 1073741824) = true := by simpa using h2
  have t2 : (bits .and .u32 va 4095 == 0) = true := by rw [and_mask 12 (by decide) (by omega) hu]; simp [h1]
  have W1 := fun w => space_Word_yes va f0 f1 w hu h1 h2
  have P1 := fun w => space_Parse_yes (mapWord va f0 f1) w hU e4
  rw [e1, e2, e3] at P1
  generalize mapWord va f0 f1 = v at *
  replace W1 := Lib.hid W1
  replace P1 := Lib.hid P1
  clear e1 e2 e3 hU e4 h1 h2 hu
  have u1 : (bits .and .u32 x 1 == 0) = false := by rw [and_mask 1 (by decide) (by omega) hx]; simp; omega
  have u2 : (bits .and .u32 x 4088 != 0) = true := by simpa using hq
  have P2 := Lib.hid (fun w => space_Parse_no x w hx hm)
  clear hx hm hn hq
  have bb : Below w.heap.size w w := Below.refl _ _
  go_enter Try.func4, Try.ntmps4
  go_wp2_with fail
  refine (space_head _).mono ?_
  rintro e w1 ⟨rfl, hb⟩
  have c5 := below_row hb (heap_alloc_new _ _) (by first | omega | (simp; done) | (simp; omega))
  replace bb := (bb.alloc (by first | omega | (simp; done) | (simp; omega)) _).trans (hb.mono (by first | omega | (simp; done) | (simp; omega)))
  have s_w1 : w.heap.size + 1 ≤ w1.heap.size := by have := hb.size; first | omega | (simp at this; omega)
  clear hb
  try clear ic5 jc5 lc5
  obtain ⟨ic5, jc5, lc5⟩ := row_cells c5
  go_wp2_with fail
  refine (W1.out _).mono ?_
  rintro e w2 ⟨rfl, hb⟩
  replace c5 := below_row hb (alloc_row c5 (by first | omega | (simp; done) | (simp; omega))) (by first | omega | (simp; done) | (simp; omega))
  have c7 := below_row hb (heap_alloc_new _ _) (by first | omega | (simp; done) | (simp; omega))
  replace bb := (bb.alloc (by first | omega | (simp; done) | (simp; omega)) _).trans (hb.mono (by first | omega | (simp; done) | (simp; omega)))
  have s_w2 : w1.heap.size + 1 ≤ w2.heap.size := by have := hb.size; first | omega | (simp at this; omega)
  clear hb
  try clear ic5 jc5 lc5
  obtain ⟨ic5, jc5, lc5⟩ := row_cells c5
  try clear ic7 jc7 lc7
  obtain ⟨ic7, jc7, lc7⟩ := row_cells c7
  go_wp2_with fail
  refine (P1.out _).mono ?_
  rintro e w3 ⟨rfl, hb⟩
  replace c5 := below_row hb c5 (by first | omega | (simp; done) | (simp; omega))
  replace c7 := below_row hb c7 (by first | omega | (simp; done) | (simp; omega))
  replace bb := bb.trans (hb.mono (by first | omega | (simp; done) | (simp; omega)))
  have s_w3 : w2.heap.size + 0 ≤ w3.heap.size := by have := hb.size; first | omega | (simp at this; omega)
  clear hb
  try clear ic5 jc5 lc5
  obtain ⟨ic5, jc5, lc5⟩ := row_cells c5
  try clear ic7 jc7 lc7
  obtain ⟨ic7, jc7, lc7⟩ := row_cells c7
  go_wp2_with ((with_reducible (refine wpList_load_row rfl 32 _ rfl _ rfl _ _ _ _ (by assumption) Try.underlying32 rfl (rsz sp_size (by simp)) ?_)))
  refine (P2.out _).mono ?_
  rintro e w4 ⟨rfl, hb⟩
  replace c5 := below_row hb (alloc_row c5 (by first | omega | (simp; done) | (simp; omega))) (by first | omega | (simp; done) | (simp; omega))
  replace c7 := below_row hb (alloc_row c7 (by first | omega | (simp; done) | (simp; omega))) (by first | omega | (simp; done) | (simp; omega))
  have c10 := below_row hb (heap_alloc_new _ _) (by first | omega | (simp; done) | (simp; omega))
  replace bb := (bb.alloc (by first | omega | (simp; done) | (simp; omega)) _).trans (hb.mono (by first | omega | (simp; done) | (simp; omega)))
  have s_w4 : w3.heap.size + 1 ≤ w4.heap.size := by have := hb.size; first | omega | (simp at this; omega)
  clear hb
  try clear ic5 jc5 lc5
  obtain ⟨ic5, jc5, lc5⟩ := row_cells c5
  try clear ic7 jc7 lc7
  obtain ⟨ic7, jc7, lc7⟩ := row_cells c7
  try clear ic10 jc10 lc10
  obtain ⟨ic10, jc10, lc10⟩ := row_cells c10
  go_wp2_with ((with_reducible (refine wpList_load_row rfl 32 _ rfl _ rfl _ _ _ _ (by assumption) Try.underlying32 rfl (rsz sp_size (by simp)) ?_)))
  go_ret
  exact ⟨rfl, bb.alloc (by first | omega | (simp; done) | (simp; omega)) _⟩

set_option maxRecDepth 100000 in
set_option maxHeartbeats 1000000 in
theorem SpaceWords_yes_n3 (va x : Int) (f0 f1 : Bool) (w : World) (hu : U32 va) (hx : U32 x) (h1 : va % 4096 = 0) (h2 : va < 1073741824) (hm : isMap x = false) (hn : x % 2 = 1) (hq : bits .and .u32 x 4088 = 0) (hr : 1073741824 ≤ x) :
    Calls Try.prog 4 #[.int .u32 va, .int .u32 x, .agg #[.bool f0, .bool f1]] w fun e w' => e = .returned (.bool true) ∧ Below w.heap.size w w' := by
  obtain ⟨e1, e2, e3, hU, e4, k1, k2, k3, k4⟩ := mapWord_back (a := f0) (b := f1) h1 h2 hu
  have t1 : decide (va < 1073741824) = true := by simpa using h2
  have t2 : (bits .and .u32 va 4095 == 0) = true := by rw [and_mask 12 (by decide) (by omega) hu]; simp [h1]
  have W1 := fun w => space_Word_yes va f0 f1 w hu h1 h2
  have P1 := fun w => space_Parse_yes (mapWord va f0 f1) w hU e4
  rw [e1, e2, e3] at P1
  generalize mapWord va f0 f1 = v at *
  replace W1 := Lib.hid W1
  replace P1 := Lib.hid P1
  clear e1 e2 e3 hU e4 h1 h2 hu
  have u1 : (bits .and .u32 x 1 == 0) = false := by rw [and_mask 1 (by decide) (by omega) hx]; simp; omega
  have u2 : (bits .and .u32 x 4088 != 0) = false := by simpa using hq
  have u3 : decide (1073741824 ≤ x) = true := by simpa using hr
  have P2 := Lib.hid (fun w => space_Parse_no x w hx hm)
  clear hx hm hn hq
  have bb : Below w.heap.size w w := Below.refl _ _
  go_enter Try.func4, Try.ntmps4
  go_wp2_with fail
  refine (space_head _).mono ?_
  rintro e w1 ⟨rfl, hb⟩
  have c5 := below_row hb (heap_alloc_new _ _) (by first | omega | (simp; done) | (simp; omega))
  replace bb := (bb.alloc (by first | omega | (simp; done) | (simp; omega)) _).trans (hb.mono (by first | omega | (simp; done) | (simp; omega)))
  have s_w1 : w.heap.size + 1 ≤ w1.heap.size := by have := hb.size; first | omega | (simp at this; omega)
  clear hb
  try clear ic5 jc5 lc5
  obtain ⟨ic5, jc5, lc5⟩ := row_cells c5
  go_wp2_with fail
  refine (W1.out _).mono ?_
  rintro e w2 ⟨rfl, hb⟩
  replace c5 := below_row hb (alloc_row c5 (by first | omega | (simp; done) | (simp; omega))) (by first | omega | (simp; done) | (simp; omega))
  have c7 := below_row hb (heap_alloc_new _ _) (by first | omega | (simp; done) | (simp; omega))
  replace bb := (bb.alloc (by first | omega | (simp; done) | (simp; omega)) _).trans (hb.mono (by first | omega | (simp; done) | (simp; omega)))
  have s_w2 : w1.heap.size + 1 ≤ w2.heap.size := by have := hb.size; first | omega | (simp at this; omega)
  clear hb
  try clear ic5 jc5 lc5
  obtain ⟨ic5, jc5, lc5⟩ := row_cells c5
  try clear ic7 jc7 lc7
  obtain ⟨ic7, jc7, lc7⟩ := row_cells c7
  go_wp2_with fail
  refine (P1.out _).mono ?_
  rintro e w3 ⟨rfl, hb⟩
  replace c5 := below_row hb c5 (by first | omega | (simp; done) | (simp; omega))
  replace c7 := below_row hb c7 (by first | omega | (simp; done) | (simp; omega))
  replace bb := bb.trans (hb.mono (by first | omega | (simp; done) | (simp; omega)))
  have s_w3 : w2.heap.size + 0 ≤ w3.heap.size := by have := hb.size; first | omega | (simp at this; omega)
  clear hb
  try clear ic5 jc5 lc5
  obtain ⟨ic5, jc5, lc5⟩ := row_cells c5
  try clear ic7 jc7 lc7
  obtain ⟨ic7, jc7, lc7⟩ := row_cells c7
  go_wp2_with ((with_reducible (refine wpList_load_row rfl 32 _ rfl _ rfl _ _ _ _ (by assumption) Try.underlying32 rfl (rsz sp_size (by simp)) ?_)))
  refine (P2.out _).mono ?_
  rintro e w4 ⟨rfl, hb⟩
  replace c5 := below_row hb (alloc_row c5 (by first | omega | (simp; done) | (simp; omega))) (by first | omega | (simp; done) | (simp; omega))
  replace c7 := below_row hb (alloc_row c7 (by first | omega | (simp; done) | (simp; omega))) (by first | omega | (simp; done) | (simp; omega))
  have c10 := below_row hb (heap_alloc_new _ _) (by first | omega | (simp; done) | (simp; omega))
  replace bb := (bb.alloc (by first | omega | (simp; done) | (simp; omega)) _).trans (hb.mono (by first | omega | (simp; done) | (simp; omega)))
  have s_w4 : w3.heap.size + 1 ≤ w4.heap.size := by have := hb.size; first | omega | (simp at this; omega)
  clear hb
  try clear ic5 jc5 lc5
  obtain ⟨ic5, jc5, lc5⟩ := row_cells c5
  try clear ic7 jc7 lc7
  obtain ⟨ic7, jc7, lc7⟩ := row_cells c7
  try clear ic10 jc10 lc10
  obtain ⟨ic10, jc10, lc10⟩ := row_cells c10
  go_wp2_with ((with_reducible (refine wpList_load_row rfl 32 _ rfl _ rfl _ _ _ _ (by assumption) Try.underlying32 rfl (rsz sp_size (by simp)) ?_)))
  go_ret
  exact ⟨rfl, bb.alloc (by first | omega | (simp; done) | (simp; omega)) _⟩

set_option maxRecDepth 100000 in
set_option maxHeartbeats 1000000 in
theorem SpaceWords_no1_yes (va x : Int) (f0 f1 : Bool) (w : World) (hu : U32 va) (hx : U32 x) (h2 : ¬ va < 1073741824) (hm : isMap x = true) :
    Calls Try.prog 4 #[.int .u32 va, .int .u32 x, .agg #[.bool f0, .bool f1]] w fun e w' => e = .returned (.bool true) ∧ Below w.heap.size w w' := by
  have t1 : decide (va < 1073741824) = false := by simpa using h2
  have W1 := Lib.hid (fun w => space_Word_no va f0 f1 w hu (fun h => h2 h.2))
  clear hu h2
  have P2 := fun w => space_Parse_yes x w hx hm
  obtain ⟨y1, y2, y3, y4⟩ : U32 (pVA x) ∧ pVA x % 4096 = 0 ∧ pVA x < 1073741824 ∧ mapWord (pVA x) (pWr x) (pEx x) = x := by
    obtain ⟨a, b⟩ := pVA_U32 hx
    simp only [isMap, Bool.and_eq_true, decide_eq_true_eq, beq_iff_eq] at hm
    exact ⟨a, b, by unfold U32 at hx; unfold pVA; omega, hm.2⟩
  have W2 := fun w => space_Word_yes (pVA x) (pWr x) (pEx x) w y1 y2 y3
  rw [y4] at W2
  generalize pVA x = va' at *
  generalize pWr x = wr' at *
  generalize pEx x = ex' at *
  replace W2 := Lib.hid W2
  replace P2 := Lib.hid P2
  clear y1 y2 y3 y4 hx hm
  have bb : Below w.heap.size w w := Below.refl _ _
  go_enter Try.func4, Try.ntmps4
  go_wp2_with fail
  refine (space_head _).mono ?_
  rintro e w1 ⟨rfl, hb⟩
  have c5 := below_row hb (heap_alloc_new _ _) (by first | omega | (simp; done) | (simp; omega))
  replace bb := (bb.alloc (by first | omega | (simp; done) | (simp; omega)) _).trans (hb.mono (by first | omega | (simp; done) | (simp; omega)))
  have s_w1 : w.heap.size + 1 ≤ w1.heap.size := by have := hb.size; first | omega | (simp at this; omega)
  clear hb
  try clear ic5 jc5 lc5
  obtain ⟨ic5, jc5, lc5⟩ := row_cells c5
  go_wp2_with fail
  refine (W1.out _).mono ?_
  rintro e w2 ⟨rfl, hb⟩
  replace c5 := below_row hb (alloc_row c5 (by first | omega | (simp; done) | (simp; omega))) (by first | omega | (simp; done) | (simp; omega))
  have c7 := below_row hb (heap_alloc_new _ _) (by first | omega | (simp; done) | (simp; omega))
  replace bb := (bb.alloc (by first | omega | (simp; done) | (simp; omega)) _).trans (hb.mono (by first | omega | (simp; done) | (simp; omega)))
  have s_w2 : w1.heap.size + 1 ≤ w2.heap.size := by have := hb.size; first | omega | (simp at this; omega)
  clear hb
  try clear ic5 jc5 lc5
  obtain ⟨ic5, jc5, lc5⟩ := row_cells c5
  try clear ic7 jc7 lc7
  obtain ⟨ic7, jc7, lc7⟩ := row_cells c7
  go_wp2_with ((with_reducible (refine wpList_load_row rfl 32 _ rfl _ rfl _ _ _ _ (by assumption) Try.underlying32 rfl (rsz sp_size (by simp)) ?_)))
  refine (P2.out _).mono ?_
  rintro e w4 ⟨rfl, hb⟩
  replace c5 := below_row hb c5 (by first | omega | (simp; done) | (simp; omega))
  replace c7 := below_row hb c7 (by first | omega | (simp; done) | (simp; omega))
  replace bb := bb.trans (hb.mono (by first | omega | (simp; done) | (simp; omega)))
  have s_w4 : w2.heap.size + 0 ≤ w4.heap.size := by have := hb.size; first | omega | (simp at this; omega)
  clear hb
  try clear ic5 jc5 lc5
  obtain ⟨ic5, jc5, lc5⟩ := row_cells c5
  try clear ic7 jc7 lc7
  obtain ⟨ic7, jc7, lc7⟩ := row_cells c7
  go_wp2_with ((with_reducible (refine wpList_load_row rfl 32 _ rfl _ rfl _ _ _ _ (by assumption) Try.underlying32 rfl (rsz sp_size (by simp)) ?_)))
  refine (W2.out _).mono ?_
  rintro e w5 ⟨rfl, hb⟩
  replace c5 := below_row hb (alloc_row c5 (by first | omega | (simp; done) | (simp; omega))) (by first | omega | (simp; done) | (simp; omega))
  replace c7 := below_row hb (alloc_row c7 (by first | omega | (simp; done) | (simp; omega))) (by first | omega | (simp; done) | (simp; omega))
  have c12 := below_row hb (heap_alloc_new _ _) (by first | omega | (simp; done) | (simp; omega))
  replace bb := (bb.alloc (by first | omega | (simp; done) | (simp; omega)) _).trans (hb.mono (by first | omega | (simp; done) | (simp; omega)))
  have s_w5 : w4.heap.size + 1 ≤ w5.heap.size := by have := hb.size; first | omega | (simp at this; omega)
  clear hb
  try clear ic5 jc5 lc5
  obtain ⟨ic5, jc5, lc5⟩ := row_cells c5
  try clear ic7 jc7 lc7
  obtain ⟨ic7, jc7, lc7⟩ := row_cells c7
  try clear ic12 jc12 lc12
  obtain ⟨ic12, jc12, lc12⟩ := row_cells c12
  go_wp2_with ((with_reducible (refine wpList_load_row rfl 32 _ rfl _ rfl _ _ _ _ (by assumption) Try.underlying32 rfl (rsz sp_size (by simp)) ?_)))
  go_ret
  exact ⟨rfl, bb⟩

set_option maxRecDepth 100000 in
set_option maxHeartbeats 1000000 in
theorem SpaceWords_no1_n1 (va x : Int) (f0 f1 : Bool) (w : World) (hu : U32 va) (hx : U32 x) (h2 : ¬ va < 1073741824) (hm : isMap x = false) (hn : x % 2 = 0) :
    Calls Try.prog 4 #[.int .u32 va, .int .u32 x, .agg #[.bool f0, .bool f1]] w fun e w' => e = .returned (.bool true) ∧ Below w.heap.size w w' := by
  have t1 : decide (va < 1073741824) = false := by simpa using h2
  have W1 := Lib.hid (fun w => space_Word_no va f0 f1 w hu (fun h => h2 h.2))
  clear hu h2
  have u1 : (bits .and .u32 x 1 == 0) = true := by rw [and_mask 1 (by decide) (by omega) hx]; simpa using hn
  have P2 := Lib.hid (fun w => space_Parse_no x w hx hm)
  clear hx hm hn
  have bb : Below w.heap.size w w := Below.refl _ _
  go_enter Try.func4, Try.ntmps4
  go_wp2_with fail
  refine (space_head _).mono ?_
  rintro e w1 ⟨rfl, hb⟩
  have c5 := below_row hb (heap_alloc_new _ _) (by first | omega | (simp; done) | (simp; omega))
  replace bb := (bb.alloc (by first | omega | (simp; done) | (simp; omega)) _).trans (hb.mono (by first | omega | (simp; done) | (simp; omega)))
  have s_w1 : w.heap.size + 1 ≤ w1.heap.size := by have := hb.size; first | omega | (simp at this; omega)
  clear hb
  try clear ic5 jc5 lc5
  obtain ⟨ic5, jc5, lc5⟩ := row_cells c5
  go_wp2_with fail
  refine (W1.out _).mono ?_
  rintro e w2 ⟨rfl, hb⟩
  replace c5 := below_row hb (alloc_row c5 (by first | omega | (simp; done) | (simp; omega))) (by first | omega | (simp; done) | (simp; omega))
  have c7 := below_row hb (heap_alloc_new _ _) (by first | omega | (simp; done) | (simp; omega))
  replace bb := (bb.alloc (by first | omega | (simp; done) | (simp; omega)) _).trans (hb.mono (by first | omega | (simp; done) | (simp; omega)))
  have s_w2 : w1.heap.size + 1 ≤ w2.heap.size := by have := hb.size; first | omega | (simp at this; omega)
  clear hb
  try clear ic5 jc5 lc5
  obtain ⟨ic5, jc5, lc5⟩ := row_cells c5
  try clear ic7 jc7 lc7
  obtain ⟨ic7, jc7, lc7⟩ := row_cells c7
  go_wp2_with ((with_reducible (refine wpList_load_row rfl 32 _ rfl _ rfl _ _ _ _ (by assumption) Try.underlying32 rfl (rsz sp_size (by simp)) ?_)))
  refine (P2.out _).mono ?_
  rintro e w4 ⟨rfl, hb⟩
  replace c5 := below_row hb c5 (by first | omega | (simp; done) | (simp; omega))
  replace c7 := below_row hb c7 (by first | omega | (simp; done) | (simp; omega))
  replace bb := bb.trans (hb.mono (by first | omega | (simp; done) | (simp; omega)))
  have s_w4 : w2.heap.size + 0 ≤ w4.heap.size := by have := hb.size; first | omega | (simp at this; omega)
  clear hb
  try clear ic5 jc5 lc5
  obtain ⟨ic5, jc5, lc5⟩ := row_cells c5
  try clear ic7 jc7 lc7
  obtain ⟨ic7, jc7, lc7⟩ := row_cells c7
  go_wp2_with ((with_reducible (refine wpList_load_row rfl 32 _ rfl _ rfl _ _ _ _ (by assumption) Try.underlying32 rfl (rsz sp_size (by simp)) ?_)))
  go_ret
  exact ⟨rfl, bb.alloc (by first | omega | (simp; done) | (simp; omega)) _⟩

set_option maxRecDepth 100000 in
set_option maxHeartbeats 1000000 in
theorem SpaceWords_no1_n2 (va x : Int) (f0 f1 : Bool) (w : World) (hu : U32 va) (hx : U32 x) (h2 : ¬ va < 1073741824) (hm : isMap x = false) (hn : x % 2 = 1) (hq : bits .and .u32 x 4088 ≠ 0) :
    Calls Try.prog 4 #[.int .u32 va, .int .u32 x, .agg #[.bool f0, .bool f1]] w fun e w' => e = .returned (.bool true) ∧ Below w.heap.size w w' := by
  have t1 : decide (va < 1073741824) = false := by simpa using h2
  have W1 := Lib.hid (fun w => space_Word_no va f0 f1 w hu (fun h => h2 h.2))
  clear hu h2
  have u1 : (bits .and .u32 x 1 == 0) = false := by rw [and_mask 1 (by decide) (by omega) hx]; simp; omega
  have u2 : (bits .and .u32 x 4088 != 0) = true := by simpa using hq
  have P2 := Lib.hid (fun w => space_Parse_no x w hx hm)
  clear hx hm hn hq
  have bb : Below w.heap.size w w := Below.refl _ _
  go_enter Try.func4, Try.ntmps4
  go_wp2_with fail
  refine (space_head _).mono ?_
  rintro e w1 ⟨rfl, hb⟩
  have c5 := below_row hb (heap_alloc_new _ _) (by first | omega | (simp; done) | (simp; omega))
  replace bb := (bb.alloc (by first | omega | (simp; done) | (simp; omega)) _).trans (hb.mono (by first | omega | (simp; done) | (simp; omega)))
  have s_w1 : w.heap.size + 1 ≤ w1.heap.size := by have := hb.size; first | omega | (simp at this; omega)
  clear hb
  try clear ic5 jc5 lc5
  obtain ⟨ic5, jc5, lc5⟩ := row_cells c5
  go_wp2_with fail
  refine (W1.out _).mono ?_
  rintro e w2 ⟨rfl, hb⟩
  replace c5 := below_row hb (alloc_row c5 (by first | omega | (simp; done) | (simp; omega))) (by first | omega | (simp; done) | (simp; omega))
  have c7 := below_row hb (heap_alloc_new _ _) (by first | omega | (simp; done) | (simp; omega))
  replace bb := (bb.alloc (by first | omega | (simp; done) | (simp; omega)) _).trans (hb.mono (by first | omega | (simp; done) | (simp; omega)))
  have s_w2 : w1.heap.size + 1 ≤ w2.heap.size := by have := hb.size; first | omega | (simp at this; omega)
  clear hb
  try clear ic5 jc5 lc5
  obtain ⟨ic5, jc5, lc5⟩ := row_cells c5
  try clear ic7 jc7 lc7
  obtain ⟨ic7, jc7, lc7⟩ := row_cells c7
  go_wp2_with ((with_reducible (refine wpList_load_row rfl 32 _ rfl _ rfl _ _ _ _ (by assumption) Try.underlying32 rfl (rsz sp_size (by simp)) ?_)))
  refine (P2.out _).mono ?_
  rintro e w4 ⟨rfl, hb⟩
  replace c5 := below_row hb c5 (by first | omega | (simp; done) | (simp; omega))
  replace c7 := below_row hb c7 (by first | omega | (simp; done) | (simp; omega))
  replace bb := bb.trans (hb.mono (by first | omega | (simp; done) | (simp; omega)))
  have s_w4 : w2.heap.size + 0 ≤ w4.heap.size := by have := hb.size; first | omega | (simp at this; omega)
  clear hb
  try clear ic5 jc5 lc5
  obtain ⟨ic5, jc5, lc5⟩ := row_cells c5
  try clear ic7 jc7 lc7
  obtain ⟨ic7, jc7, lc7⟩ := row_cells c7
  go_wp2_with ((with_reducible (refine wpList_load_row rfl 32 _ rfl _ rfl _ _ _ _ (by assumption) Try.underlying32 rfl (rsz sp_size (by simp)) ?_)))
  go_ret
  exact ⟨rfl, bb.alloc (by first | omega | (simp; done) | (simp; omega)) _⟩

set_option maxRecDepth 100000 in
set_option maxHeartbeats 1000000 in
theorem SpaceWords_no1_n3 (va x : Int) (f0 f1 : Bool) (w : World) (hu : U32 va) (hx : U32 x) (h2 : ¬ va < 1073741824) (hm : isMap x = false) (hn : x % 2 = 1) (hq : bits .and .u32 x 4088 = 0) (hr : 1073741824 ≤ x) :
    Calls Try.prog 4 #[.int .u32 va, .int .u32 x, .agg #[.bool f0, .bool f1]] w fun e w' => e = .returned (.bool true) ∧ Below w.heap.size w w' := by
  have t1 : decide (va < 1073741824) = false := by simpa using h2
  have W1 := Lib.hid (fun w => space_Word_no va f0 f1 w hu (fun h => h2 h.2))
  clear hu h2
  have u1 : (bits .and .u32 x 1 == 0) = false := by rw [and_mask 1 (by decide) (by omega) hx]; simp; omega
  have u2 : (bits .and .u32 x 4088 != 0) = false := by simpa using hq
  have u3 : decide (1073741824 ≤ x) = true := by simpa using hr
  have P2 := Lib.hid (fun w => space_Parse_no x w hx hm)
  clear hx hm hn hq
  have bb : Below w.heap.size w w := Below.refl _ _
  go_enter Try.func4, Try.ntmps4
  go_wp2_with fail
  refine (space_head _).mono ?_
  rintro e w1 ⟨rfl, hb⟩
  have c5 := below_row hb (heap_alloc_new _ _) (by first | omega | (simp; done) | (simp; omega))
  replace bb := (bb.alloc (by first | omega | (simp; done) | (simp; omega)) _).trans (hb.mono (by first | omega | (simp; done) | (simp; omega)))
  have s_w1 : w.heap.size + 1 ≤ w1.heap.size := by have := hb.size; first | omega | (simp at this; omega)
  clear hb
  try clear ic5 jc5 lc5
  obtain ⟨ic5, jc5, lc5⟩ := row_cells c5
  go_wp2_with fail
  refine (W1.out _).mono ?_
  rintro e w2 ⟨rfl, hb⟩
  replace c5 := below_row hb (alloc_row c5 (by first | omega | (simp; done) | (simp; omega))) (by first | omega | (simp; done) | (simp; omega))
  have c7 := below_row hb (heap_alloc_new _ _) (by first | omega | (simp; done) | (simp; omega))
  replace bb := (bb.alloc (by first | omega | (simp; done) | (simp; omega)) _).trans (hb.mono (by first | omega | (simp; done) | (simp; omega)))
  have s_w2 : w1.heap.size + 1 ≤ w2.heap.size := by have := hb.size; first | omega | (simp at this; omega)
  clear hb
  try clear ic5 jc5 lc5
  obtain ⟨ic5, jc5, lc5⟩ := row_cells c5
  try clear ic7 jc7 lc7
  obtain ⟨ic7, jc7, lc7⟩ := row_cells c7
  go_wp2_with ((with_reducible (refine wpList_load_row rfl 32 _ rfl _ rfl _ _ _ _ (by assumption) Try.underlying32 rfl (rsz sp_size (by simp)) ?_)))
  refine (P2.out _).mono ?_
  rintro e w4 ⟨rfl, hb⟩
  replace c5 := below_row hb c5 (by first | omega | (simp; done) | (simp; omega))
  replace c7 := below_row hb c7 (by first | omega | (simp; done) | (simp; omega))
  replace bb := bb.trans (hb.mono (by first | omega | (simp; done) | (simp; omega)))
  have s_w4 : w2.heap.size + 0 ≤ w4.heap.size := by have := hb.size; first | omega | (simp at this; omega)
  clear hb
  try clear ic5 jc5 lc5
  obtain ⟨ic5, jc5, lc5⟩ := row_cells c5
  try clear ic7 jc7 lc7
  obtain ⟨ic7, jc7, lc7⟩ := row_cells c7
  go_wp2_with ((with_reducible (refine wpList_load_row rfl 32 _ rfl _ rfl _ _ _ _ (by assumption) Try.underlying32 rfl (rsz sp_size (by simp)) ?_)))
  go_ret
  exact ⟨rfl, bb.alloc (by first | omega | (simp; done) | (simp; omega)) _⟩

set_option maxRecDepth 100000 in
set_option maxHeartbeats 1000000 in
theorem SpaceWords_no2_yes (va x : Int) (f0 f1 : Bool) (w : World) (hu : U32 va) (hx : U32 x) (h1 : ¬ va % 4096 = 0) (h2 : va < 1073741824) (hm : isMap x = true) :
    Calls Try.prog 4 #[.int .u32 va, .int .u32 x, .agg #[.bool f0, .bool f1]] w fun e w' => e = .returned (.bool true) ∧ Below w.heap.size w w' := by
  have t1 : decide (va < 1073741824) = true := by simpa using h2
  have t2 : (bits .and .u32 va 4095 == 0) = false := by rw [and_mask 12 (by decide) (by omega) hu]; simpa using h1
  have W1 := Lib.hid (fun w => space_Word_no va f0 f1 w hu (fun h => h1 h.1))
  clear hu h1 h2
  have P2 := fun w => space_Parse_yes x w hx hm
  obtain ⟨y1, y2, y3, y4⟩ : U32 (pVA x) ∧ pVA x % 4096 = 0 ∧ pVA x < 1073741824 ∧ mapWord (pVA x) (pWr x) (pEx x) = x := by
    obtain ⟨a, b⟩ := pVA_U32 hx
    simp only [isMap, Bool.and_eq_true, decide_eq_true_eq, beq_iff_eq] at hm
    exact ⟨a, b, by unfold U32 at hx; unfold pVA; omega, hm.2⟩
  have W2 := fun w => space_Word_yes (pVA x) (pWr x) (pEx x) w y1 y2 y3
  rw [y4] at W2
  generalize pVA x = va' at *
  generalize pWr x = wr' at *
  generalize pEx x = ex' at *
  replace W2 := Lib.hid W2
  replace P2 := Lib.hid P2
  clear y1 y2 y3 y4 hx hm
  have bb : Below w.heap.size w w := Below.refl _ _
  go_enter Try.func4, Try.ntmps4
  go_wp2_with fail
  refine (space_head _).mono ?_
  rintro e w1 ⟨rfl, hb⟩
  have c5 := below_row hb (heap_alloc_new _ _) (by first | omega | (simp; done) | (simp; omega))
  replace bb := (bb.alloc (by first | omega | (simp; done) | (simp; omega)) _).trans (hb.mono (by first | omega | (simp; done) | (simp; omega)))
  have s_w1 : w.heap.size + 1 ≤ w1.heap.size := by have := hb.size; first | omega | (simp at this; omega)
  clear hb
  try clear ic5 jc5 lc5
  obtain ⟨ic5, jc5, lc5⟩ := row_cells c5
  go_wp2_with fail
  refine (W1.out _).mono ?_
  rintro e w2 ⟨rfl, hb⟩
  replace c5 := below_row hb (alloc_row c5 (by first | omega | (simp; done) | (simp; omega))) (by first | omega | (simp; done) | (simp; omega))
  have c7 := below_row hb (heap_alloc_new _ _) (by first | omega | (simp; done) | (simp; omega))
  replace bb := (bb.alloc (by first | omega | (simp; done) | (simp; omega)) _).trans (hb.mono (by first | omega | (simp; done) | (simp; omega)))
  have s_w2 : w1.heap.size + 1 ≤ w2.heap.size := by have := hb.size; first | omega | (simp at this; omega)
  clear hb
  try clear ic5 jc5 lc5
  obtain ⟨ic5, jc5, lc5⟩ := row_cells c5
  try clear ic7 jc7 lc7
  obtain ⟨ic7, jc7, lc7⟩ := row_cells c7
  go_wp2_with ((with_reducible (refine wpList_load_row rfl 32 _ rfl _ rfl _ _ _ _ (by assumption) Try.underlying32 rfl (rsz sp_size (by simp)) ?_)))
  refine (P2.out _).mono ?_
  rintro e w4 ⟨rfl, hb⟩
  replace c5 := below_row hb c5 (by first | omega | (simp; done) | (simp; omega))
  replace c7 := below_row hb c7 (by first | omega | (simp; done) | (simp; omega))
  replace bb := bb.trans (hb.mono (by first | omega | (simp; done) | (simp; omega)))
  have s_w4 : w2.heap.size + 0 ≤ w4.heap.size := by have := hb.size; first | omega | (simp at this; omega)
  clear hb
  try clear ic5 jc5 lc5
  obtain ⟨ic5, jc5, lc5⟩ := row_cells c5
  try clear ic7 jc7 lc7
  obtain ⟨ic7, jc7, lc7⟩ := row_cells c7
  go_wp2_with ((with_reducible (refine wpList_load_row rfl 32 _ rfl _ rfl _ _ _ _ (by assumption) Try.underlying32 rfl (rsz sp_size (by simp)) ?_)))
  refine (W2.out _).mono ?_
  rintro e w5 ⟨rfl, hb⟩
  replace c5 := below_row hb (alloc_row c5 (by first | omega | (simp; done) | (simp; omega))) (by first | omega | (simp; done) | (simp; omega))
  replace c7 := below_row hb (alloc_row c7 (by first | omega | (simp; done) | (simp; omega))) (by first | omega | (simp; done) | (simp; omega))
  have c12 := below_row hb (heap_alloc_new _ _) (by first | omega | (simp; done) | (simp; omega))
  replace bb := (bb.alloc (by first | omega | (simp; done) | (simp; omega)) _).trans (hb.mono (by first | omega | (simp; done) | (simp; omega)))
  have s_w5 : w4.heap.size + 1 ≤ w5.heap.size := by have := hb.size; first | omega | (simp at this; omega)
  clear hb
  try clear ic5 jc5 lc5
  obtain ⟨ic5, jc5, lc5⟩ := row_cells c5
  try clear ic7 jc7 lc7
  obtain ⟨ic7, jc7, lc7⟩ := row_cells c7
  try clear ic12 jc12 lc12
  obtain ⟨ic12, jc12, lc12⟩ := row_cells c12
  go_wp2_with ((with_reducible (refine wpList_load_row rfl 32 _ rfl _ rfl _ _ _ _ (by assumption) Try.underlying32 rfl (rsz sp_size (by simp)) ?_)))
  go_ret
  exact ⟨rfl, bb⟩

set_option maxRecDepth 100000 in
set_option maxHeartbeats 1000000 in
theorem SpaceWords_no2_n1 (va x : Int) (f0 f1 : Bool) (w : World) (hu : U32 va) (hx : U32 x) (h1 : ¬ va % 4096 = 0) (h2 : va < 1073741824) (hm : isMap x = false) (hn : x % 2 = 0) :
    Calls Try.prog 4 #[.int .u32 va, .int .u32 x, .agg #[.bool f0, .bool f1]] w fun e w' => e = .returned (.bool true) ∧ Below w.heap.size w w' := by
  have t1 : decide (va < 1073741824) = true := by simpa using h2
  have t2 : (bits .and .u32 va 4095 == 0) = false := by rw [and_mask 12 (by decide) (by omega) hu]; simpa using h1
  have W1 := Lib.hid (fun w => space_Word_no va f0 f1 w hu (fun h => h1 h.1))
  clear hu h1 h2
  have u1 : (bits .and .u32 x 1 == 0) = true := by rw [and_mask 1 (by decide) (by omega) hx]; simpa using hn
  have P2 := Lib.hid (fun w => space_Parse_no x w hx hm)
  clear hx hm hn
  have bb : Below w.heap.size w w := Below.refl _ _
  go_enter Try.func4, Try.ntmps4
  go_wp2_with fail
  refine (space_head _).mono ?_
  rintro e w1 ⟨rfl, hb⟩
  have c5 := below_row hb (heap_alloc_new _ _) (by first | omega | (simp; done) | (simp; omega))
  replace bb := (bb.alloc (by first | omega | (simp; done) | (simp; omega)) _).trans (hb.mono (by first | omega | (simp; done) | (simp; omega)))
  have s_w1 : w.heap.size + 1 ≤ w1.heap.size := by have := hb.size; first | omega | (simp at this; omega)
  clear hb
  try clear ic5 jc5 lc5
  obtain ⟨ic5, jc5, lc5⟩ := row_cells c5
  go_wp2_with fail
  refine (W1.out _).mono ?_
  rintro e w2 ⟨rfl, hb⟩
  replace c5 := below_row hb (alloc_row c5 (by first | omega | (simp; done) | (simp; omega))) (by first | omega | (simp; done) | (simp; omega))
  have c7 := below_row hb (heap_alloc_new _ _) (by first | omega | (simp; done) | (simp; omega))
  replace bb := (bb.alloc (by first | omega | (simp; done) | (simp; omega)) _).trans (hb.mono (by first | omega | (simp; done) | (simp; omega)))
  have s_w2 : w1.heap.size + 1 ≤ w2.heap.size := by have := hb.size; first | omega | (simp at this; omega)
  clear hb
  try clear ic5 jc5 lc5
  obtain ⟨ic5, jc5, lc5⟩ := row_cells c5
  try clear ic7 jc7 lc7
  obtain ⟨ic7, jc7, lc7⟩ := row_cells c7
  go_wp2_with ((with_reducible (refine wpList_load_row rfl 32 _ rfl _ rfl _ _ _ _ (by assumption) Try.underlying32 rfl (rsz sp_size (by simp)) ?_)))
  refine (P2.out _).mono ?_
  rintro e w4 ⟨rfl, hb⟩
  replace c5 := below_row hb c5 (by first | omega | (simp; done) | (simp; omega))
  replace c7 := below_row hb c7 (by first | omega | (simp; done) | (simp; omega))
  replace bb := bb.trans (hb.mono (by first | omega | (simp; done) | (simp; omega)))
  have s_w4 : w2.heap.size + 0 ≤ w4.heap.size := by have := hb.size; first | omega | (simp at this; omega)
  clear hb
  try clear ic5 jc5 lc5
  obtain ⟨ic5, jc5, lc5⟩ := row_cells c5
  try clear ic7 jc7 lc7
  obtain ⟨ic7, jc7, lc7⟩ := row_cells c7
  go_wp2_with ((with_reducible (refine wpList_load_row rfl 32 _ rfl _ rfl _ _ _ _ (by assumption) Try.underlying32 rfl (rsz sp_size (by simp)) ?_)))
  go_ret
  exact ⟨rfl, bb.alloc (by first | omega | (simp; done) | (simp; omega)) _⟩

set_option maxRecDepth 100000 in
set_option maxHeartbeats 1000000 in
theorem SpaceWords_no2_n2 (va x : Int) (f0 f1 : Bool) (w : World) (hu : U32 va) (hx : U32 x) (h1 : ¬ va % 4096 = 0) (h2 : va < 1073741824) (hm : isMap x = false) (hn : x % 2 = 1) (hq : bits .and .u32 x 4088 ≠ 0) :
    Calls Try.prog 4 #[.int .u32 va, .int .u32 x, .agg #[.bool f0, .bool f1]] w fun e w' => e = .returned (.bool true) ∧ Below w.heap.size w w' := by
  have t1 : decide (va < 1073741824) = true := by simpa using h2
  have t2 : (bits .and .u32 va 4095 == 0) = false := by rw [and_mask 12 (by decide) (by omega) hu]; simpa using h1
  have W1 := Lib.hid (fun w => space_Word_no va f0 f1 w hu (fun h => h1 h.1))
  clear hu h1 h2
  have u1 : (bits .and .u32 x 1 == 0) = false := by rw [and_mask 1 (by decide) (by omega) hx]; simp; omega
  have u2 : (bits .and .u32 x 4088 != 0) = true := by simpa using hq
  have P2 := Lib.hid (fun w => space_Parse_no x w hx hm)
  clear hx hm hn hq
  have bb : Below w.heap.size w w := Below.refl _ _
  go_enter Try.func4, Try.ntmps4
  go_wp2_with fail
  refine (space_head _).mono ?_
  rintro e w1 ⟨rfl, hb⟩
  have c5 := below_row hb (heap_alloc_new _ _) (by first | omega | (simp; done) | (simp; omega))
  replace bb := (bb.alloc (by first | omega | (simp; done) | (simp; omega)) _).trans (hb.mono (by first | omega | (simp; done) | (simp; omega)))
  have s_w1 : w.heap.size + 1 ≤ w1.heap.size := by have := hb.size; first | omega | (simp at this; omega)
  clear hb
  try clear ic5 jc5 lc5
  obtain ⟨ic5, jc5, lc5⟩ := row_cells c5
  go_wp2_with fail
  refine (W1.out _).mono ?_
  rintro e w2 ⟨rfl, hb⟩
  replace c5 := below_row hb (alloc_row c5 (by first | omega | (simp; done) | (simp; omega))) (by first | omega | (simp; done) | (simp; omega))
  have c7 := below_row hb (heap_alloc_new _ _) (by first | omega | (simp; done) | (simp; omega))
  replace bb := (bb.alloc (by first | omega | (simp; done) | (simp; omega)) _).trans (hb.mono (by first | omega | (simp; done) | (simp; omega)))
  have s_w2 : w1.heap.size + 1 ≤ w2.heap.size := by have := hb.size; first | omega | (simp at this; omega)
  clear hb
  try clear ic5 jc5 lc5
  obtain ⟨ic5, jc5, lc5⟩ := row_cells c5
  try clear ic7 jc7 lc7
  obtain ⟨ic7, jc7, lc7⟩ := row_cells c7
  go_wp2_with ((with_reducible (refine wpList_load_row rfl 32 _ rfl _ rfl _ _ _ _ (by assumption) Try.underlying32 rfl (rsz sp_size (by simp)) ?_)))
  refine (P2.out _).mono ?_
  rintro e w4 ⟨rfl, hb⟩
  replace c5 := below_row hb c5 (by first | omega | (simp; done) | (simp; omega))
  replace c7 := below_row hb c7 (by first | omega | (simp; done) | (simp; omega))
  replace bb := bb.trans (hb.mono (by first | omega | (simp; done) | (simp; omega)))
  have s_w4 : w2.heap.size + 0 ≤ w4.heap.size := by have := hb.size; first | omega | (simp at this; omega)
  clear hb
  try clear ic5 jc5 lc5
  obtain ⟨ic5, jc5, lc5⟩ := row_cells c5
  try clear ic7 jc7 lc7
  obtain ⟨ic7, jc7, lc7⟩ := row_cells c7
  go_wp2_with ((with_reducible (refine wpList_load_row rfl 32 _ rfl _ rfl _ _ _ _ (by assumption) Try.underlying32 rfl (rsz sp_size (by simp)) ?_)))
  go_ret
  exact ⟨rfl, bb.alloc (by first | omega | (simp; done) | (simp; omega)) _⟩

set_option maxRecDepth 100000 in
set_option maxHeartbeats 1000000 in
theorem SpaceWords_no2_n3 (va x : Int) (f0 f1 : Bool) (w : World) (hu : U32 va) (hx : U32 x) (h1 : ¬ va % 4096 = 0) (h2 : va < 1073741824) (hm : isMap x = false) (hn : x % 2 = 1) (hq : bits .and .u32 x 4088 = 0) (hr : 1073741824 ≤ x) :
    Calls Try.prog 4 #[.int .u32 va, .int .u32 x, .agg #[.bool f0, .bool f1]] w fun e w' => e = .returned (.bool true) ∧ Below w.heap.size w w' := by
  have t1 : decide (va < 1073741824) = true := by simpa using h2
  have t2 : (bits .and .u32 va 4095 == 0) = false := by rw [and_mask 12 (by decide) (by omega) hu]; simpa using h1
  have W1 := Lib.hid (fun w => space_Word_no va f0 f1 w hu (fun h => h1 h.1))
  clear hu h1 h2
  have u1 : (bits .and .u32 x 1 == 0) = false := by rw [and_mask 1 (by decide) (by omega) hx]; simp; omega
  have u2 : (bits .and .u32 x 4088 != 0) = false := by simpa using hq
  have u3 : decide (1073741824 ≤ x) = true := by simpa using hr
  have P2 := Lib.hid (fun w => space_Parse_no x w hx hm)
  clear hx hm hn hq
  have bb : Below w.heap.size w w := Below.refl _ _
  go_enter Try.func4, Try.ntmps4
  go_wp2_with fail
  refine (space_head _).mono ?_
  rintro e w1 ⟨rfl, hb⟩
  have c5 := below_row hb (heap_alloc_new _ _) (by first | omega | (simp; done) | (simp; omega))
  replace bb := (bb.alloc (by first | omega | (simp; done) | (simp; omega)) _).trans (hb.mono (by first | omega | (simp; done) | (simp; omega)))
  have s_w1 : w.heap.size + 1 ≤ w1.heap.size := by have := hb.size; first | omega | (simp at this; omega)
  clear hb
  try clear ic5 jc5 lc5
  obtain ⟨ic5, jc5, lc5⟩ := row_cells c5
  go_wp2_with fail
  refine (W1.out _).mono ?_
  rintro e w2 ⟨rfl, hb⟩
  replace c5 := below_row hb (alloc_row c5 (by first | omega | (simp; done) | (simp; omega))) (by first | omega | (simp; done) | (simp; omega))
  have c7 := below_row hb (heap_alloc_new _ _) (by first | omega | (simp; done) | (simp; omega))
  replace bb := (bb.alloc (by first | omega | (simp; done) | (simp; omega)) _).trans (hb.mono (by first | omega | (simp; done) | (simp; omega)))
  have s_w2 : w1.heap.size + 1 ≤ w2.heap.size := by have := hb.size; first | omega | (simp at this; omega)
  clear hb
  try clear ic5 jc5 lc5
  obtain ⟨ic5, jc5, lc5⟩ := row_cells c5
  try clear ic7 jc7 lc7
  obtain ⟨ic7, jc7, lc7⟩ := row_cells c7
  go_wp2_with ((with_reducible (refine wpList_load_row rfl 32 _ rfl _ rfl _ _ _ _ (by assumption) Try.underlying32 rfl (rsz sp_size (by simp)) ?_)))
  refine (P2.out _).mono ?_
  rintro e w4 ⟨rfl, hb⟩
  replace c5 := below_row hb c5 (by first | omega | (simp; done) | (simp; omega))
  replace c7 := below_row hb c7 (by first | omega | (simp; done) | (simp; omega))
  replace bb := bb.trans (hb.mono (by first | omega | (simp; done) | (simp; omega)))
  have s_w4 : w2.heap.size + 0 ≤ w4.heap.size := by have := hb.size; first | omega | (simp at this; omega)
  clear hb
  try clear ic5 jc5 lc5
  obtain ⟨ic5, jc5, lc5⟩ := row_cells c5
  try clear ic7 jc7 lc7
  obtain ⟨ic7, jc7, lc7⟩ := row_cells c7
  go_wp2_with ((with_reducible (refine wpList_load_row rfl 32 _ rfl _ rfl _ _ _ _ (by assumption) Try.underlying32 rfl (rsz sp_size (by simp)) ?_)))
  go_ret
  exact ⟨rfl, bb.alloc (by first | omega | (simp; done) | (simp; omega)) _⟩

theorem SpaceWords_walk (va x : Int) (f0 f1 : Bool) (w : World) (hu : U32 va) (hx : U32 x) :
    Calls Try.prog 4 #[.int .u32 va, .int .u32 x, .agg #[.bool f0, .bool f1]] w fun e w' => e = .returned (.bool true) ∧ Below w.heap.size w w' := by
  have hB : isMap x = true ∨ (isMap x = false ∧ x % 2 = 0) ∨ (isMap x = false ∧ x % 2 = 1 ∧ bits .and .u32 x 4088 ≠ 0) ∨ (isMap x = false ∧ x % 2 = 1 ∧ bits .and .u32 x 4088 = 0 ∧ 1073741824 ≤ x) := by
    cases hm : isMap x with
    | true => exact .inl rfl
    | false =>
      by_cases h0 : x % 2 = 0
      · exact .inr (.inl ⟨rfl, h0⟩)
      · by_cases hq : bits .and .u32 x 4088 = 0
        · rcases no_map_why hx hm with h | h | h
          · omega
          · exact absurd hq h.2
          · exact .inr (.inr (.inr ⟨rfl, by omega, hq, h⟩))
        · exact .inr (.inr (.inl ⟨rfl, by omega, hq⟩))
  by_cases h2 : va < 1073741824
  · by_cases h1 : va % 4096 = 0
    · rcases hB with hm | ⟨hm, hn⟩ | ⟨hm, hn, hq⟩ | ⟨hm, hn, hq, hr⟩
      · exact SpaceWords_yes_yes va x f0 f1 w hu hx h1 h2 hm
      · exact SpaceWords_yes_n1 va x f0 f1 w hu hx h1 h2 hm hn
      · exact SpaceWords_yes_n2 va x f0 f1 w hu hx h1 h2 hm hn hq
      · exact SpaceWords_yes_n3 va x f0 f1 w hu hx h1 h2 hm hn hq hr
    · rcases hB with hm | ⟨hm, hn⟩ | ⟨hm, hn, hq⟩ | ⟨hm, hn, hq, hr⟩
      · exact SpaceWords_no2_yes va x f0 f1 w hu hx h1 h2 hm
      · exact SpaceWords_no2_n1 va x f0 f1 w hu hx h1 h2 hm hn
      · exact SpaceWords_no2_n2 va x f0 f1 w hu hx h1 h2 hm hn hq
      · exact SpaceWords_no2_n3 va x f0 f1 w hu hx h1 h2 hm hn hq hr
  · rcases hB with hm | ⟨hm, hn⟩ | ⟨hm, hn, hq⟩ | ⟨hm, hn, hq, hr⟩
    · exact SpaceWords_no1_yes va x f0 f1 w hu hx h2 hm
    · exact SpaceWords_no1_n1 va x f0 f1 w hu hx h2 hm hn
    · exact SpaceWords_no1_n2 va x f0 f1 w hu hx h2 hm hn hq
    · exact SpaceWords_no1_n3 va x f0 f1 w hu hx h2 hm hn hq hr
end Go.Proofs.Ytmmejomalfjcnaa
