/- Ways through the law EntryForms (part 1). No condition beyond the arguments' types. -/
import Derived.Test.YtmmejomalfjcnaaEntryFd
namespace Go.Proofs.Ytmmejomalfjcnaa
open Go.RowKit
set_option linter.unusedVariables false

set_option maxRecDepth 100000 in
set_option maxHeartbeats 1000000 in
theorem EntryForms_y1Y (t ow r s : Int) (en : Bool) (t' ow' r' s' : Int) (en' : Bool) (w : World) (i1 : I64 t) (i2 : I64 ow) (i3 : I64 r) (i4 : I64 s) (j1 : I64 t') (j2 : I64 ow') (j3 : I64 r') (j4 : I64 s') (ha : OkE t ow r s en) (hb : OkE t' ow' r' s' en') (k : t = 1) (k2 : 0 ≤ ow ∧ ow ≤ 63) (k3 : 0 ≤ r ∧ r ≤ 63) (k4 : 1 ≤ s ∧ s ≤ 3) (ke : en = false) :
    Calls Try.prog 6 #[.agg #[.int .i64 t, .int .i64 ow, .int .i64 r, .int .i64 s, .bool en], .agg #[.int .i64 t', .int .i64 ow', .int .i64 r', .int .i64 s', .bool en']] w fun e w' => e = .returned (.bool true) ∧ Below w.heap.size w w' := by
  have ENC1 := Lib.hid (fun w => entry_Encode_yes t ow r s en w i1 i2 i3 i4 ha)
  have CHK1 := Lib.hid (fun w => entry_Check_yes t ow r s en w i1 i2 i3 i4 ha)
  have ENC2 := Lib.hid (fun w => entry_Encode_yes t' ow' r' s' en' w j1 j2 j3 j4 hb)
  have GIV1 := Lib.hid (fun w => entry_given t ow r s en w)
  have GIV2 := Lib.hid (fun w => entry_given t' ow' r' s' en' w)
  have U0 := fun w => entry_used t w
  obtain ⟨q, hq⟩ : ∃ q : Bool, q = true ↔ (t = t' ∧ ow = ow' ∧ r = r' ∧ s = s' ∧ en = en') := ⟨decide (t = t' ∧ ow = ow' ∧ r = r' ∧ s = s' ∧ en = en'), by simp⟩
  have HE1 := fun w => ref_eq (en := en) (en' := en') i1 i2 i3 i4 j1 j2 j3 j4 q hq w
  have HE2 := fun w => w2_eq ha.word.1 ha.word.2 hb.word.1 hb.word.2 q (hq.trans (ent_same ha hb)) w
  generalize entW t ow s en = v at *
  generalize entW t' ow' s' en' = v' at *
  clear hq
  subst ke
  have u : usedO t = true := by simp [usedO]; omega
  simp only [u] at U0
  clear u
  have f0 : (t == 0) = false := by simp; omega
  have f1 : (t == 1) = true := by simp; omega
  have f2 : (t == 2) = false := by simp; omega
  have l1 : 0 ≤ ow := by omega
  have l2 : ow ≤ 63 := by omega
  have l3 : 0 ≤ r := by omega
  have l4 : r ≤ 63 := by omega
  have l5 : 1 ≤ s := by omega
  have l6 : s ≤ 3 := by omega
  have USE := Lib.hid U0
  clear U0
  have bb : Below w.heap.size w w := Below.refl _ _
  clear i1 i2 i3 i4 j1 j2 j3 j4 ha hb k k2 k3 k4
  go_enter Try.func6, Try.ntmps6
  go_wp2_with fail
  refine (entry_head _).mono ?_
  rintro e w1 ⟨rfl, hb⟩
  have c2 := below_row hb (heap_alloc2_old _ _ _) (by first | omega | (simp; done) | (simp; omega))
  have c3 := below_row hb (heap_alloc2_new _ _ _) (by first | omega | (simp; done) | (simp; omega))
  replace bb := ((bb.alloc (by first | omega | (simp; done) | (simp; omega)) _).alloc (by first | omega | (simp; done) | (simp; omega)) _).trans (hb.mono (by first | omega | (simp; done) | (simp; omega)))
  have s_w1 : w.heap.size + 2 ≤ w1.heap.size := by have := hb.size; first | omega | (simp at this; omega)
  clear hb
  try clear ic2 jc2 lc2
  obtain ⟨ic2, jc2, lc2⟩ := row_cells c2
  try clear ic3 jc3 lc3
  obtain ⟨ic3, jc3, lc3⟩ := row_cells c3
  go_wp2_with fail
  refine (USE.out _).mono ?_
  rintro e w2 ⟨rfl, hb⟩
  replace c2 := below_row hb c2 (by first | omega | (simp; done) | (simp; omega))
  replace c3 := below_row hb c3 (by first | omega | (simp; done) | (simp; omega))
  replace bb := bb.trans (hb.mono (by first | omega | (simp; done) | (simp; omega)))
  have s_w2 : w1.heap.size + 0 ≤ w2.heap.size := by have := hb.size; first | omega | (simp at this; omega)
  clear hb
  try clear ic2 jc2 lc2
  obtain ⟨ic2, jc2, lc2⟩ := row_cells c2
  try clear ic3 jc3 lc3
  obtain ⟨ic3, jc3, lc3⟩ := row_cells c3
  go_wp2_with fail
  refine (GIV1.out _).mono ?_
  rintro e w3 ⟨rfl, hb⟩
  replace c2 := below_row hb c2 (by first | omega | (simp; done) | (simp; omega))
  replace c3 := below_row hb c3 (by first | omega | (simp; done) | (simp; omega))
  replace bb := bb.trans (hb.mono (by first | omega | (simp; done) | (simp; omega)))
  have s_w3 : w2.heap.size + 0 ≤ w3.heap.size := by have := hb.size; first | omega | (simp at this; omega)
  clear hb
  try clear ic2 jc2 lc2
  obtain ⟨ic2, jc2, lc2⟩ := row_cells c2
  try clear ic3 jc3 lc3
  obtain ⟨ic3, jc3, lc3⟩ := row_cells c3
  go_wp2_with fail
  refine (CHK1.out _).mono ?_
  rintro e w4 ⟨rfl, hb⟩
  replace c2 := below_row hb c2 (by first | omega | (simp; done) | (simp; omega))
  replace c3 := below_row hb c3 (by first | omega | (simp; done) | (simp; omega))
  replace bb := bb.trans (hb.mono (by first | omega | (simp; done) | (simp; omega)))
  have s_w4 : w3.heap.size + 0 ≤ w4.heap.size := by have := hb.size; first | omega | (simp at this; omega)
  clear hb
  try clear ic2 jc2 lc2
  obtain ⟨ic2, jc2, lc2⟩ := row_cells c2
  try clear ic3 jc3 lc3
  obtain ⟨ic3, jc3, lc3⟩ := row_cells c3
  go_wp2_with fail
  refine (GIV1.out _).mono ?_
  rintro e w5 ⟨rfl, hb⟩
  replace c2 := below_row hb c2 (by first | omega | (simp; done) | (simp; omega))
  replace c3 := below_row hb c3 (by first | omega | (simp; done) | (simp; omega))
  replace bb := bb.trans (hb.mono (by first | omega | (simp; done) | (simp; omega)))
  have s_w5 : w4.heap.size + 0 ≤ w5.heap.size := by have := hb.size; first | omega | (simp at this; omega)
  clear hb
  try clear ic2 jc2 lc2
  obtain ⟨ic2, jc2, lc2⟩ := row_cells c2
  try clear ic3 jc3 lc3
  obtain ⟨ic3, jc3, lc3⟩ := row_cells c3
  go_wp2_with fail
  refine (ENC1.out _).mono ?_
  rintro e w6 ⟨rfl, hb⟩
  replace c2 := below_row hb c2 (by first | omega | (simp; done) | (simp; omega))
  replace c3 := below_row hb c3 (by first | omega | (simp; done) | (simp; omega))
  replace bb := bb.trans (hb.mono (by first | omega | (simp; done) | (simp; omega)))
  have s_w6 : w5.heap.size + 0 ≤ w6.heap.size := by have := hb.size; first | omega | (simp at this; omega)
  clear hb
  try clear ic2 jc2 lc2
  obtain ⟨ic2, jc2, lc2⟩ := row_cells c2
  try clear ic3 jc3 lc3
  obtain ⟨ic3, jc3, lc3⟩ := row_cells c3
  go_wp2_with fail
  refine (GIV2.out _).mono ?_
  rintro e w7 ⟨rfl, hb⟩
  replace c2 := below_row hb (alloc_row c2 (by first | omega | (simp; done) | (simp; omega))) (by first | omega | (simp; done) | (simp; omega))
  replace c3 := below_row hb (alloc_row c3 (by first | omega | (simp; done) | (simp; omega))) (by first | omega | (simp; done) | (simp; omega))
  have c9 := below_row hb (heap_alloc_new _ _) (by first | omega | (simp; done) | (simp; omega))
  replace bb := (bb.alloc (by first | omega | (simp; done) | (simp; omega)) _).trans (hb.mono (by first | omega | (simp; done) | (simp; omega)))
  have s_w7 : w6.heap.size + 1 ≤ w7.heap.size := by have := hb.size; first | omega | (simp at this; omega)
  clear hb
  try clear ic2 jc2 lc2
  obtain ⟨ic2, jc2, lc2⟩ := row_cells c2
  try clear ic3 jc3 lc3
  obtain ⟨ic3, jc3, lc3⟩ := row_cells c3
  try clear ic9 jc9 lc9
  obtain ⟨ic9, jc9, lc9⟩ := row_cells c9
  go_wp2_with fail
  refine (ENC2.out _).mono ?_
  rintro e w8 ⟨rfl, hb⟩
  replace c2 := below_row hb c2 (by first | omega | (simp; done) | (simp; omega))
  replace c3 := below_row hb c3 (by first | omega | (simp; done) | (simp; omega))
  replace c9 := below_row hb c9 (by first | omega | (simp; done) | (simp; omega))
  replace bb := bb.trans (hb.mono (by first | omega | (simp; done) | (simp; omega)))
  have s_w8 : w7.heap.size + 0 ≤ w8.heap.size := by have := hb.size; first | omega | (simp at this; omega)
  clear hb
  try clear ic2 jc2 lc2
  obtain ⟨ic2, jc2, lc2⟩ := row_cells c2
  try clear ic3 jc3 lc3
  obtain ⟨ic3, jc3, lc3⟩ := row_cells c3
  try clear ic9 jc9 lc9
  obtain ⟨ic9, jc9, lc9⟩ := row_cells c9
  go_wp2_with fail
  go_quiet (fail)
  go_wp2_with fail
  go_ret
  exact ⟨rfl, (by repeat' (first | (with_reducible exact Below.refl _ _) | (with_reducible assumption) | (with_reducible refine below_setRow ?_ ?_ _) | (with_reducible refine Below.alloc ?_ ?_ _) | (with_reducible refine below_drewN ?_ _) | (with_reducible refine Below.drew ?_) | (with_reducible refine Below.setCell ?_ ?_ _) | omega | (simp; done) | (simp; omega)))⟩

set_option maxRecDepth 100000 in
set_option maxHeartbeats 1000000 in
theorem EntryForms_y1N (t ow r s : Int) (en : Bool) (t' ow' r' s' : Int) (en' : Bool) (w : World) (i1 : I64 t) (i2 : I64 ow) (i3 : I64 r) (i4 : I64 s) (j1 : I64 t') (j2 : I64 ow') (j3 : I64 r') (j4 : I64 s') (ha : OkE t ow r s en) (hb : ¬ OkE t' ow' r' s' en') (k : t = 1) (k2 : 0 ≤ ow ∧ ow ≤ 63) (k3 : 0 ≤ r ∧ r ≤ 63) (k4 : 1 ≤ s ∧ s ≤ 3) (ke : en = false) :
    Calls Try.prog 6 #[.agg #[.int .i64 t, .int .i64 ow, .int .i64 r, .int .i64 s, .bool en], .agg #[.int .i64 t', .int .i64 ow', .int .i64 r', .int .i64 s', .bool en']] w fun e w' => e = .returned (.bool true) ∧ Below w.heap.size w w' := by
  have ENC1 := Lib.hid (fun w => entry_Encode_yes t ow r s en w i1 i2 i3 i4 ha)
  have CHK1 := Lib.hid (fun w => entry_Check_yes t ow r s en w i1 i2 i3 i4 ha)
  have ENC2 := Lib.hid (fun w => entry_Encode_no t' ow' r' s' en' w j1 j2 j3 j4 hb)
  have GIV1 := Lib.hid (fun w => entry_given t ow r s en w)
  have GIV2 := Lib.hid (fun w => entry_given t' ow' r' s' en' w)
  have U0 := fun w => entry_used t w
  generalize entW t ow s en = v at *
  subst ke
  have u : usedO t = true := by simp [usedO]; omega
  simp only [u] at U0
  clear u
  have f0 : (t == 0) = false := by simp; omega
  have f1 : (t == 1) = true := by simp; omega
  have f2 : (t == 2) = false := by simp; omega
  have l1 : 0 ≤ ow := by omega
  have l2 : ow ≤ 63 := by omega
  have l3 : 0 ≤ r := by omega
  have l4 : r ≤ 63 := by omega
  have l5 : 1 ≤ s := by omega
  have l6 : s ≤ 3 := by omega
  have USE := Lib.hid U0
  clear U0
  have bb : Below w.heap.size w w := Below.refl _ _
  clear i1 i2 i3 i4 j1 j2 j3 j4 ha hb k k2 k3 k4
  go_enter Try.func6, Try.ntmps6
  go_wp2_with fail
  refine (entry_head _).mono ?_
  rintro e w1 ⟨rfl, hb⟩
  have c2 := below_row hb (heap_alloc2_old _ _ _) (by first | omega | (simp; done) | (simp; omega))
  have c3 := below_row hb (heap_alloc2_new _ _ _) (by first | omega | (simp; done) | (simp; omega))
  replace bb := ((bb.alloc (by first | omega | (simp; done) | (simp; omega)) _).alloc (by first | omega | (simp; done) | (simp; omega)) _).trans (hb.mono (by first | omega | (simp; done) | (simp; omega)))
  have s_w1 : w.heap.size + 2 ≤ w1.heap.size := by have := hb.size; first | omega | (simp at this; omega)
  clear hb
  try clear ic2 jc2 lc2
  obtain ⟨ic2, jc2, lc2⟩ := row_cells c2
  try clear ic3 jc3 lc3
  obtain ⟨ic3, jc3, lc3⟩ := row_cells c3
  go_wp2_with fail
  refine (USE.out _).mono ?_
  rintro e w2 ⟨rfl, hb⟩
  replace c2 := below_row hb c2 (by first | omega | (simp; done) | (simp; omega))
  replace c3 := below_row hb c3 (by first | omega | (simp; done) | (simp; omega))
  replace bb := bb.trans (hb.mono (by first | omega | (simp; done) | (simp; omega)))
  have s_w2 : w1.heap.size + 0 ≤ w2.heap.size := by have := hb.size; first | omega | (simp at this; omega)
  clear hb
  try clear ic2 jc2 lc2
  obtain ⟨ic2, jc2, lc2⟩ := row_cells c2
  try clear ic3 jc3 lc3
  obtain ⟨ic3, jc3, lc3⟩ := row_cells c3
  go_wp2_with fail
  refine (GIV1.out _).mono ?_
  rintro e w3 ⟨rfl, hb⟩
  replace c2 := below_row hb c2 (by first | omega | (simp; done) | (simp; omega))
  replace c3 := below_row hb c3 (by first | omega | (simp; done) | (simp; omega))
  replace bb := bb.trans (hb.mono (by first | omega | (simp; done) | (simp; omega)))
  have s_w3 : w2.heap.size + 0 ≤ w3.heap.size := by have := hb.size; first | omega | (simp at this; omega)
  clear hb
  try clear ic2 jc2 lc2
  obtain ⟨ic2, jc2, lc2⟩ := row_cells c2
  try clear ic3 jc3 lc3
  obtain ⟨ic3, jc3, lc3⟩ := row_cells c3
  go_wp2_with fail
  refine (CHK1.out _).mono ?_
  rintro e w4 ⟨rfl, hb⟩
  replace c2 := below_row hb c2 (by first | omega | (simp; done) | (simp; omega))
  replace c3 := below_row hb c3 (by first | omega | (simp; done) | (simp; omega))
  replace bb := bb.trans (hb.mono (by first | omega | (simp; done) | (simp; omega)))
  have s_w4 : w3.heap.size + 0 ≤ w4.heap.size := by have := hb.size; first | omega | (simp at this; omega)
  clear hb
  try clear ic2 jc2 lc2
  obtain ⟨ic2, jc2, lc2⟩ := row_cells c2
  try clear ic3 jc3 lc3
  obtain ⟨ic3, jc3, lc3⟩ := row_cells c3
  go_wp2_with fail
  refine (GIV1.out _).mono ?_
  rintro e w5 ⟨rfl, hb⟩
  replace c2 := below_row hb c2 (by first | omega | (simp; done) | (simp; omega))
  replace c3 := below_row hb c3 (by first | omega | (simp; done) | (simp; omega))
  replace bb := bb.trans (hb.mono (by first | omega | (simp; done) | (simp; omega)))
  have s_w5 : w4.heap.size + 0 ≤ w5.heap.size := by have := hb.size; first | omega | (simp at this; omega)
  clear hb
  try clear ic2 jc2 lc2
  obtain ⟨ic2, jc2, lc2⟩ := row_cells c2
  try clear ic3 jc3 lc3
  obtain ⟨ic3, jc3, lc3⟩ := row_cells c3
  go_wp2_with fail
  refine (ENC1.out _).mono ?_
  rintro e w6 ⟨rfl, hb⟩
  replace c2 := below_row hb c2 (by first | omega | (simp; done) | (simp; omega))
  replace c3 := below_row hb c3 (by first | omega | (simp; done) | (simp; omega))
  replace bb := bb.trans (hb.mono (by first | omega | (simp; done) | (simp; omega)))
  have s_w6 : w5.heap.size + 0 ≤ w6.heap.size := by have := hb.size; first | omega | (simp at this; omega)
  clear hb
  try clear ic2 jc2 lc2
  obtain ⟨ic2, jc2, lc2⟩ := row_cells c2
  try clear ic3 jc3 lc3
  obtain ⟨ic3, jc3, lc3⟩ := row_cells c3
  go_wp2_with fail
  refine (GIV2.out _).mono ?_
  rintro e w7 ⟨rfl, hb⟩
  replace c2 := below_row hb (alloc_row c2 (by first | omega | (simp; done) | (simp; omega))) (by first | omega | (simp; done) | (simp; omega))
  replace c3 := below_row hb (alloc_row c3 (by first | omega | (simp; done) | (simp; omega))) (by first | omega | (simp; done) | (simp; omega))
  have c9 := below_row hb (heap_alloc_new _ _) (by first | omega | (simp; done) | (simp; omega))
  replace bb := (bb.alloc (by first | omega | (simp; done) | (simp; omega)) _).trans (hb.mono (by first | omega | (simp; done) | (simp; omega)))
  have s_w7 : w6.heap.size + 1 ≤ w7.heap.size := by have := hb.size; first | omega | (simp at this; omega)
  clear hb
  try clear ic2 jc2 lc2
  obtain ⟨ic2, jc2, lc2⟩ := row_cells c2
  try clear ic3 jc3 lc3
  obtain ⟨ic3, jc3, lc3⟩ := row_cells c3
  try clear ic9 jc9 lc9
  obtain ⟨ic9, jc9, lc9⟩ := row_cells c9
  go_wp2_with fail
  refine (ENC2.out _).mono ?_
  rintro e w8 ⟨rfl, hb⟩
  replace c2 := below_row hb c2 (by first | omega | (simp; done) | (simp; omega))
  replace c3 := below_row hb c3 (by first | omega | (simp; done) | (simp; omega))
  replace c9 := below_row hb c9 (by first | omega | (simp; done) | (simp; omega))
  replace bb := bb.trans (hb.mono (by first | omega | (simp; done) | (simp; omega)))
  have s_w8 : w7.heap.size + 0 ≤ w8.heap.size := by have := hb.size; first | omega | (simp at this; omega)
  clear hb
  try clear ic2 jc2 lc2
  obtain ⟨ic2, jc2, lc2⟩ := row_cells c2
  try clear ic3 jc3 lc3
  obtain ⟨ic3, jc3, lc3⟩ := row_cells c3
  try clear ic9 jc9 lc9
  obtain ⟨ic9, jc9, lc9⟩ := row_cells c9
  go_wp2_with fail
  go_quiet (fail)
  go_wp2_with fail
  go_ret
  exact ⟨rfl, (by repeat' (first | (with_reducible exact Below.refl _ _) | (with_reducible assumption) | (with_reducible refine below_setRow ?_ ?_ _) | (with_reducible refine Below.alloc ?_ ?_ _) | (with_reducible refine below_drewN ?_ _) | (with_reducible refine Below.drew ?_) | (with_reducible refine Below.setCell ?_ ?_ _) | omega | (simp; done) | (simp; omega)))⟩

set_option maxRecDepth 100000 in
set_option maxHeartbeats 1000000 in
theorem EntryForms_hi (t ow r s : Int) (en : Bool) (t' ow' r' s' : Int) (en' : Bool) (w : World) (i1 : I64 t) (i2 : I64 ow) (i3 : I64 r) (i4 : I64 s) (j1 : I64 t') (j2 : I64 ow') (j3 : I64 r') (j4 : I64 s') (ha : ¬ OkE t ow r s en) (k : 7 ≤ t) :
    Calls Try.prog 6 #[.agg #[.int .i64 t, .int .i64 ow, .int .i64 r, .int .i64 s, .bool en], .agg #[.int .i64 t', .int .i64 ow', .int .i64 r', .int .i64 s', .bool en']] w fun e w' => e = .returned (.bool true) ∧ Below w.heap.size w w' := by
  have ENC1 := Lib.hid (fun w => entry_Encode_no t ow r s en w i1 i2 i3 i4 ha)
  have CHK1 := Lib.hid (fun w => entry_Check_no t ow r s en w i1 i2 i3 i4 ha)
  obtain ⟨x, y, z, E2⟩ := entry_Encode_any t' ow' r' s' en' w j1 j2 j3 j4
  have ENC2 := Lib.hid E2
  clear E2
  have GIV1 := Lib.hid (fun w => entry_given t ow r s en w)
  have GIV2 := Lib.hid (fun w => entry_given t' ow' r' s' en' w)
  have U0 := fun w => entry_used t w
  have u : usedO t = false := by simp [usedO]; omega
  simp only [u] at U0
  clear u
  have f0 : (t == 0) = false := by simp; omega
  have f1 : (t == 1) = false := by simp; omega
  have f2 : (t == 2) = false := by simp; omega
  have USE := Lib.hid U0
  clear U0
  have bb : Below w.heap.size w w := Below.refl _ _
  clear i1 i2 i3 i4 j1 j2 j3 j4 ha k
  go_enter Try.func6, Try.ntmps6
  go_wp2_with fail
  refine (entry_head _).mono ?_
  rintro e w1 ⟨rfl, hb⟩
  have c2 := below_row hb (heap_alloc2_old _ _ _) (by first | omega | (simp; done) | (simp; omega))
  have c3 := below_row hb (heap_alloc2_new _ _ _) (by first | omega | (simp; done) | (simp; omega))
  replace bb := ((bb.alloc (by first | omega | (simp; done) | (simp; omega)) _).alloc (by first | omega | (simp; done) | (simp; omega)) _).trans (hb.mono (by first | omega | (simp; done) | (simp; omega)))
  have s_w1 : w.heap.size + 2 ≤ w1.heap.size := by have := hb.size; first | omega | (simp at this; omega)
  clear hb
  try clear ic2 jc2 lc2
  obtain ⟨ic2, jc2, lc2⟩ := row_cells c2
  try clear ic3 jc3 lc3
  obtain ⟨ic3, jc3, lc3⟩ := row_cells c3
  go_wp2_with fail
  refine (USE.out _).mono ?_
  rintro e w2 ⟨rfl, hb⟩
  replace c2 := below_row hb c2 (by first | omega | (simp; done) | (simp; omega))
  replace c3 := below_row hb c3 (by first | omega | (simp; done) | (simp; omega))
  replace bb := bb.trans (hb.mono (by first | omega | (simp; done) | (simp; omega)))
  have s_w2 : w1.heap.size + 0 ≤ w2.heap.size := by have := hb.size; first | omega | (simp at this; omega)
  clear hb
  try clear ic2 jc2 lc2
  obtain ⟨ic2, jc2, lc2⟩ := row_cells c2
  try clear ic3 jc3 lc3
  obtain ⟨ic3, jc3, lc3⟩ := row_cells c3
  go_wp2_with fail
  refine (GIV1.out _).mono ?_
  rintro e w3 ⟨rfl, hb⟩
  replace c2 := below_row hb c2 (by first | omega | (simp; done) | (simp; omega))
  replace c3 := below_row hb c3 (by first | omega | (simp; done) | (simp; omega))
  replace bb := bb.trans (hb.mono (by first | omega | (simp; done) | (simp; omega)))
  have s_w3 : w2.heap.size + 0 ≤ w3.heap.size := by have := hb.size; first | omega | (simp at this; omega)
  clear hb
  try clear ic2 jc2 lc2
  obtain ⟨ic2, jc2, lc2⟩ := row_cells c2
  try clear ic3 jc3 lc3
  obtain ⟨ic3, jc3, lc3⟩ := row_cells c3
  go_wp2_with fail
  refine (CHK1.out _).mono ?_
  rintro e w4 ⟨rfl, hb⟩
  replace c2 := below_row hb c2 (by first | omega | (simp; done) | (simp; omega))
  replace c3 := below_row hb c3 (by first | omega | (simp; done) | (simp; omega))
  replace bb := bb.trans (hb.mono (by first | omega | (simp; done) | (simp; omega)))
  have s_w4 : w3.heap.size + 0 ≤ w4.heap.size := by have := hb.size; first | omega | (simp at this; omega)
  clear hb
  try clear ic2 jc2 lc2
  obtain ⟨ic2, jc2, lc2⟩ := row_cells c2
  try clear ic3 jc3 lc3
  obtain ⟨ic3, jc3, lc3⟩ := row_cells c3
  go_wp2_with fail
  refine (GIV1.out _).mono ?_
  rintro e w5 ⟨rfl, hb⟩
  replace c2 := below_row hb c2 (by first | omega | (simp; done) | (simp; omega))
  replace c3 := below_row hb c3 (by first | omega | (simp; done) | (simp; omega))
  replace bb := bb.trans (hb.mono (by first | omega | (simp; done) | (simp; omega)))
  have s_w5 : w4.heap.size + 0 ≤ w5.heap.size := by have := hb.size; first | omega | (simp at this; omega)
  clear hb
  try clear ic2 jc2 lc2
  obtain ⟨ic2, jc2, lc2⟩ := row_cells c2
  try clear ic3 jc3 lc3
  obtain ⟨ic3, jc3, lc3⟩ := row_cells c3
  go_wp2_with fail
  refine (ENC1.out _).mono ?_
  rintro e w6 ⟨rfl, hb⟩
  replace c2 := below_row hb c2 (by first | omega | (simp; done) | (simp; omega))
  replace c3 := below_row hb c3 (by first | omega | (simp; done) | (simp; omega))
  replace bb := bb.trans (hb.mono (by first | omega | (simp; done) | (simp; omega)))
  have s_w6 : w5.heap.size + 0 ≤ w6.heap.size := by have := hb.size; first | omega | (simp at this; omega)
  clear hb
  try clear ic2 jc2 lc2
  obtain ⟨ic2, jc2, lc2⟩ := row_cells c2
  try clear ic3 jc3 lc3
  obtain ⟨ic3, jc3, lc3⟩ := row_cells c3
  go_wp2_with fail
  refine (GIV2.out _).mono ?_
  rintro e w7 ⟨rfl, hb⟩
  replace c2 := below_row hb (alloc_row c2 (by first | omega | (simp; done) | (simp; omega))) (by first | omega | (simp; done) | (simp; omega))
  replace c3 := below_row hb (alloc_row c3 (by first | omega | (simp; done) | (simp; omega))) (by first | omega | (simp; done) | (simp; omega))
  have c9 := below_row hb (heap_alloc_new _ _) (by first | omega | (simp; done) | (simp; omega))
  replace bb := (bb.alloc (by first | omega | (simp; done) | (simp; omega)) _).trans (hb.mono (by first | omega | (simp; done) | (simp; omega)))
  have s_w7 : w6.heap.size + 1 ≤ w7.heap.size := by have := hb.size; first | omega | (simp at this; omega)
  clear hb
  try clear ic2 jc2 lc2
  obtain ⟨ic2, jc2, lc2⟩ := row_cells c2
  try clear ic3 jc3 lc3
  obtain ⟨ic3, jc3, lc3⟩ := row_cells c3
  try clear ic9 jc9 lc9
  obtain ⟨ic9, jc9, lc9⟩ := row_cells c9
  go_wp2_with fail
  refine (ENC2.out _).mono ?_
  rintro e w8 ⟨rfl, hb⟩
  replace c2 := below_row hb c2 (by first | omega | (simp; done) | (simp; omega))
  replace c3 := below_row hb c3 (by first | omega | (simp; done) | (simp; omega))
  replace c9 := below_row hb c9 (by first | omega | (simp; done) | (simp; omega))
  replace bb := bb.trans (hb.mono (by first | omega | (simp; done) | (simp; omega)))
  have s_w8 : w7.heap.size + 0 ≤ w8.heap.size := by have := hb.size; first | omega | (simp at this; omega)
  clear hb
  try clear ic2 jc2 lc2
  obtain ⟨ic2, jc2, lc2⟩ := row_cells c2
  try clear ic3 jc3 lc3
  obtain ⟨ic3, jc3, lc3⟩ := row_cells c3
  try clear ic9 jc9 lc9
  obtain ⟨ic9, jc9, lc9⟩ := row_cells c9
  go_wp2_with fail
  go_quiet (fail)
  go_wp2_with fail
  go_ret
  exact ⟨rfl, (by repeat' (first | (with_reducible exact Below.refl _ _) | (with_reducible assumption) | (with_reducible refine below_setRow ?_ ?_ _) | (with_reducible refine Below.alloc ?_ ?_ _) | (with_reducible refine below_drewN ?_ _) | (with_reducible refine Below.drew ?_) | (with_reducible refine Below.setCell ?_ ?_ _) | omega | (simp; done) | (simp; omega)))⟩

set_option maxRecDepth 100000 in
set_option maxHeartbeats 1000000 in
theorem EntryForms_n0d (t ow r s : Int) (en : Bool) (t' ow' r' s' : Int) (en' : Bool) (w : World) (i1 : I64 t) (i2 : I64 ow) (i3 : I64 r) (i4 : I64 s) (j1 : I64 t') (j2 : I64 ow') (j3 : I64 r') (j4 : I64 s') (ha : ¬ OkE t ow r s en) (k : t = 0) (k2 : ow = 0) (k3 : r = 0) (k4 : s = 0) (ke : en = true) :
    Calls Try.prog 6 #[.agg #[.int .i64 t, .int .i64 ow, .int .i64 r, .int .i64 s, .bool en], .agg #[.int .i64 t', .int .i64 ow', .int .i64 r', .int .i64 s', .bool en']] w fun e w' => e = .returned (.bool true) ∧ Below w.heap.size w w' := by
  have ENC1 := Lib.hid (fun w => entry_Encode_no t ow r s en w i1 i2 i3 i4 ha)
  have CHK1 := Lib.hid (fun w => entry_Check_no t ow r s en w i1 i2 i3 i4 ha)
  obtain ⟨x, y, z, E2⟩ := entry_Encode_any t' ow' r' s' en' w j1 j2 j3 j4
  have ENC2 := Lib.hid E2
  clear E2
  have GIV1 := Lib.hid (fun w => entry_given t ow r s en w)
  have GIV2 := Lib.hid (fun w => entry_given t' ow' r' s' en' w)
  have U0 := fun w => entry_used t w
  subst ke
  have u : usedO t = false := by simp [usedO]; omega
  simp only [u] at U0
  clear u
  have f0 : (t == 0) = true := by simp; omega
  have f1 : (t == 1) = false := by simp; omega
  have f2 : (t == 2) = false := by simp; omega
  have g0 : (ow == 0) = true := by simp; omega
  have g1 : (r == 0) = true := by simp; omega
  have g2 : (s == 0) = true := by simp; omega
  have USE := Lib.hid U0
  clear U0
  have bb : Below w.heap.size w w := Below.refl _ _
  clear i1 i2 i3 i4 j1 j2 j3 j4 ha k k2 k3 k4
  go_enter Try.func6, Try.ntmps6
  go_wp2_with fail
  refine (entry_head _).mono ?_
  rintro e w1 ⟨rfl, hb⟩
  have c2 := below_row hb (heap_alloc2_old _ _ _) (by first | omega | (simp; done) | (simp; omega))
  have c3 := below_row hb (heap_alloc2_new _ _ _) (by first | omega | (simp; done) | (simp; omega))
  replace bb := ((bb.alloc (by first | omega | (simp; done) | (simp; omega)) _).alloc (by first | omega | (simp; done) | (simp; omega)) _).trans (hb.mono (by first | omega | (simp; done) | (simp; omega)))
  have s_w1 : w.heap.size + 2 ≤ w1.heap.size := by have := hb.size; first | omega | (simp at this; omega)
  clear hb
  try clear ic2 jc2 lc2
  obtain ⟨ic2, jc2, lc2⟩ := row_cells c2
  try clear ic3 jc3 lc3
  obtain ⟨ic3, jc3, lc3⟩ := row_cells c3
  go_wp2_with fail
  refine (USE.out _).mono ?_
  rintro e w2 ⟨rfl, hb⟩
  replace c2 := below_row hb c2 (by first | omega | (simp; done) | (simp; omega))
  replace c3 := below_row hb c3 (by first | omega | (simp; done) | (simp; omega))
  replace bb := bb.trans (hb.mono (by first | omega | (simp; done) | (simp; omega)))
  have s_w2 : w1.heap.size + 0 ≤ w2.heap.size := by have := hb.size; first | omega | (simp at this; omega)
  clear hb
  try clear ic2 jc2 lc2
  obtain ⟨ic2, jc2, lc2⟩ := row_cells c2
  try clear ic3 jc3 lc3
  obtain ⟨ic3, jc3, lc3⟩ := row_cells c3
  go_wp2_with fail
  refine (GIV1.out _).mono ?_
  rintro e w3 ⟨rfl, hb⟩
  replace c2 := below_row hb c2 (by first | omega | (simp; done) | (simp; omega))
  replace c3 := below_row hb c3 (by first | omega | (simp; done) | (simp; omega))
  replace bb := bb.trans (hb.mono (by first | omega | (simp; done) | (simp; omega)))
  have s_w3 : w2.heap.size + 0 ≤ w3.heap.size := by have := hb.size; first | omega | (simp at this; omega)
  clear hb
  try clear ic2 jc2 lc2
  obtain ⟨ic2, jc2, lc2⟩ := row_cells c2
  try clear ic3 jc3 lc3
  obtain ⟨ic3, jc3, lc3⟩ := row_cells c3
  go_wp2_with fail
  refine (CHK1.out _).mono ?_
  rintro e w4 ⟨rfl, hb⟩
  replace c2 := below_row hb c2 (by first | omega | (simp; done) | (simp; omega))
  replace c3 := below_row hb c3 (by first | omega | (simp; done) | (simp; omega))
  replace bb := bb.trans (hb.mono (by first | omega | (simp; done) | (simp; omega)))
  have s_w4 : w3.heap.size + 0 ≤ w4.heap.size := by have := hb.size; first | omega | (simp at this; omega)
  clear hb
  try clear ic2 jc2 lc2
  obtain ⟨ic2, jc2, lc2⟩ := row_cells c2
  try clear ic3 jc3 lc3
  obtain ⟨ic3, jc3, lc3⟩ := row_cells c3
  go_wp2_with fail
  refine (GIV1.out _).mono ?_
  rintro e w5 ⟨rfl, hb⟩
  replace c2 := below_row hb c2 (by first | omega | (simp; done) | (simp; omega))
  replace c3 := below_row hb c3 (by first | omega | (simp; done) | (simp; omega))
  replace bb := bb.trans (hb.mono (by first | omega | (simp; done) | (simp; omega)))
  have s_w5 : w4.heap.size + 0 ≤ w5.heap.size := by have := hb.size; first | omega | (simp at this; omega)
  clear hb
  try clear ic2 jc2 lc2
  obtain ⟨ic2, jc2, lc2⟩ := row_cells c2
  try clear ic3 jc3 lc3
  obtain ⟨ic3, jc3, lc3⟩ := row_cells c3
  go_wp2_with fail
  refine (ENC1.out _).mono ?_
  rintro e w6 ⟨rfl, hb⟩
  replace c2 := below_row hb c2 (by first | omega | (simp; done) | (simp; omega))
  replace c3 := below_row hb c3 (by first | omega | (simp; done) | (simp; omega))
  replace bb := bb.trans (hb.mono (by first | omega | (simp; done) | (simp; omega)))
  have s_w6 : w5.heap.size + 0 ≤ w6.heap.size := by have := hb.size; first | omega | (simp at this; omega)
  clear hb
  try clear ic2 jc2 lc2
  obtain ⟨ic2, jc2, lc2⟩ := row_cells c2
  try clear ic3 jc3 lc3
  obtain ⟨ic3, jc3, lc3⟩ := row_cells c3
  go_wp2_with fail
  refine (GIV2.out _).mono ?_
  rintro e w7 ⟨rfl, hb⟩
  replace c2 := below_row hb (alloc_row c2 (by first | omega | (simp; done) | (simp; omega))) (by first | omega | (simp; done) | (simp; omega))
  replace c3 := below_row hb (alloc_row c3 (by first | omega | (simp; done) | (simp; omega))) (by first | omega | (simp; done) | (simp; omega))
  have c9 := below_row hb (heap_alloc_new _ _) (by first | omega | (simp; done) | (simp; omega))
  replace bb := (bb.alloc (by first | omega | (simp; done) | (simp; omega)) _).trans (hb.mono (by first | omega | (simp; done) | (simp; omega)))
  have s_w7 : w6.heap.size + 1 ≤ w7.heap.size := by have := hb.size; first | omega | (simp at this; omega)
  clear hb
  try clear ic2 jc2 lc2
  obtain ⟨ic2, jc2, lc2⟩ := row_cells c2
  try clear ic3 jc3 lc3
  obtain ⟨ic3, jc3, lc3⟩ := row_cells c3
  try clear ic9 jc9 lc9
  obtain ⟨ic9, jc9, lc9⟩ := row_cells c9
  go_wp2_with fail
  refine (ENC2.out _).mono ?_
  rintro e w8 ⟨rfl, hb⟩
  replace c2 := below_row hb c2 (by first | omega | (simp; done) | (simp; omega))
  replace c3 := below_row hb c3 (by first | omega | (simp; done) | (simp; omega))
  replace c9 := below_row hb c9 (by first | omega | (simp; done) | (simp; omega))
  replace bb := bb.trans (hb.mono (by first | omega | (simp; done) | (simp; omega)))
  have s_w8 : w7.heap.size + 0 ≤ w8.heap.size := by have := hb.size; first | omega | (simp at this; omega)
  clear hb
  try clear ic2 jc2 lc2
  obtain ⟨ic2, jc2, lc2⟩ := row_cells c2
  try clear ic3 jc3 lc3
  obtain ⟨ic3, jc3, lc3⟩ := row_cells c3
  try clear ic9 jc9 lc9
  obtain ⟨ic9, jc9, lc9⟩ := row_cells c9
  go_wp2_with fail
  go_quiet (fail)
  go_wp2_with fail
  go_ret
  exact ⟨rfl, (by repeat' (first | (with_reducible exact Below.refl _ _) | (with_reducible assumption) | (with_reducible refine below_setRow ?_ ?_ _) | (with_reducible refine Below.alloc ?_ ?_ _) | (with_reducible refine below_drewN ?_ _) | (with_reducible refine Below.drew ?_) | (with_reducible refine Below.setCell ?_ ?_ _) | omega | (simp; done) | (simp; omega)))⟩

set_option maxRecDepth 100000 in
set_option maxHeartbeats 1000000 in
theorem EntryForms_n1d (t ow r s : Int) (en : Bool) (t' ow' r' s' : Int) (en' : Bool) (w : World) (i1 : I64 t) (i2 : I64 ow) (i3 : I64 r) (i4 : I64 s) (j1 : I64 t') (j2 : I64 ow') (j3 : I64 r') (j4 : I64 s') (ha : ¬ OkE t ow r s en) (k : t = 1) (k2 : 0 ≤ ow ∧ ow ≤ 63) (l4 : 63 < r) :
    Calls Try.prog 6 #[.agg #[.int .i64 t, .int .i64 ow, .int .i64 r, .int .i64 s, .bool en], .agg #[.int .i64 t', .int .i64 ow', .int .i64 r', .int .i64 s', .bool en']] w fun e w' => e = .returned (.bool true) ∧ Below w.heap.size w w' := by
  have ENC1 := Lib.hid (fun w => entry_Encode_no t ow r s en w i1 i2 i3 i4 ha)
  have CHK1 := Lib.hid (fun w => entry_Check_no t ow r s en w i1 i2 i3 i4 ha)
  obtain ⟨x, y, z, E2⟩ := entry_Encode_any t' ow' r' s' en' w j1 j2 j3 j4
  have ENC2 := Lib.hid E2
  clear E2
  have GIV1 := Lib.hid (fun w => entry_given t ow r s en w)
  have GIV2 := Lib.hid (fun w => entry_given t' ow' r' s' en' w)
  have U0 := fun w => entry_used t w
  have u : usedO t = true := by simp [usedO]; omega
  simp only [u] at U0
  clear u
  have f0 : (t == 0) = false := by simp; omega
  have f1 : (t == 1) = true := by simp; omega
  have f2 : (t == 2) = false := by simp; omega
  have l1 : 0 ≤ ow := by omega
  have l2 : ow ≤ 63 := by omega
  have l3 : 0 ≤ r := by omega
  have USE := Lib.hid U0
  clear U0
  have bb : Below w.heap.size w w := Below.refl _ _
  clear i1 i2 i3 i4 j1 j2 j3 j4 ha k k2
  go_enter Try.func6, Try.ntmps6
  go_wp2_with fail
  refine (entry_head _).mono ?_
  rintro e w1 ⟨rfl, hb⟩
  have c2 := below_row hb (heap_alloc2_old _ _ _) (by first | omega | (simp; done) | (simp; omega))
  have c3 := below_row hb (heap_alloc2_new _ _ _) (by first | omega | (simp; done) | (simp; omega))
  replace bb := ((bb.alloc (by first | omega | (simp; done) | (simp; omega)) _).alloc (by first | omega | (simp; done) | (simp; omega)) _).trans (hb.mono (by first | omega | (simp; done) | (simp; omega)))
  have s_w1 : w.heap.size + 2 ≤ w1.heap.size := by have := hb.size; first | omega | (simp at this; omega)
  clear hb
  try clear ic2 jc2 lc2
  obtain ⟨ic2, jc2, lc2⟩ := row_cells c2
  try clear ic3 jc3 lc3
  obtain ⟨ic3, jc3, lc3⟩ := row_cells c3
  go_wp2_with fail
  refine (USE.out _).mono ?_
  rintro e w2 ⟨rfl, hb⟩
  replace c2 := below_row hb c2 (by first | omega | (simp; done) | (simp; omega))
  replace c3 := below_row hb c3 (by first | omega | (simp; done) | (simp; omega))
  replace bb := bb.trans (hb.mono (by first | omega | (simp; done) | (simp; omega)))
  have s_w2 : w1.heap.size + 0 ≤ w2.heap.size := by have := hb.size; first | omega | (simp at this; omega)
  clear hb
  try clear ic2 jc2 lc2
  obtain ⟨ic2, jc2, lc2⟩ := row_cells c2
  try clear ic3 jc3 lc3
  obtain ⟨ic3, jc3, lc3⟩ := row_cells c3
  go_wp2_with fail
  refine (GIV1.out _).mono ?_
  rintro e w3 ⟨rfl, hb⟩
  replace c2 := below_row hb c2 (by first | omega | (simp; done) | (simp; omega))
  replace c3 := below_row hb c3 (by first | omega | (simp; done) | (simp; omega))
  replace bb := bb.trans (hb.mono (by first | omega | (simp; done) | (simp; omega)))
  have s_w3 : w2.heap.size + 0 ≤ w3.heap.size := by have := hb.size; first | omega | (simp at this; omega)
  clear hb
  try clear ic2 jc2 lc2
  obtain ⟨ic2, jc2, lc2⟩ := row_cells c2
  try clear ic3 jc3 lc3
  obtain ⟨ic3, jc3, lc3⟩ := row_cells c3
  go_wp2_with fail
  refine (CHK1.out _).mono ?_
  rintro e w4 ⟨rfl, hb⟩
  replace c2 := below_row hb c2 (by first | omega | (simp; done) | (simp; omega))
  replace c3 := below_row hb c3 (by first | omega | (simp; done) | (simp; omega))
  replace bb := bb.trans (hb.mono (by first | omega | (simp; done) | (simp; omega)))
  have s_w4 : w3.heap.size + 0 ≤ w4.heap.size := by have := hb.size; first | omega | (simp at this; omega)
  clear hb
  try clear ic2 jc2 lc2
  obtain ⟨ic2, jc2, lc2⟩ := row_cells c2
  try clear ic3 jc3 lc3
  obtain ⟨ic3, jc3, lc3⟩ := row_cells c3
  go_wp2_with fail
  refine (GIV1.out _).mono ?_
  rintro e w5 ⟨rfl, hb⟩
  replace c2 := below_row hb c2 (by first | omega | (simp; done) | (simp; omega))
  replace c3 := below_row hb c3 (by first | omega | (simp; done) | (simp; omega))
  replace bb := bb.trans (hb.mono (by first | omega | (simp; done) | (simp; omega)))
  have s_w5 : w4.heap.size + 0 ≤ w5.heap.size := by have := hb.size; first | omega | (simp at this; omega)
  clear hb
  try clear ic2 jc2 lc2
  obtain ⟨ic2, jc2, lc2⟩ := row_cells c2
  try clear ic3 jc3 lc3
  obtain ⟨ic3, jc3, lc3⟩ := row_cells c3
  go_wp2_with fail
  refine (ENC1.out _).mono ?_
  rintro e w6 ⟨rfl, hb⟩
  replace c2 := below_row hb c2 (by first | omega | (simp; done) | (simp; omega))
  replace c3 := below_row hb c3 (by first | omega | (simp; done) | (simp; omega))
  replace bb := bb.trans (hb.mono (by first | omega | (simp; done) | (simp; omega)))
  have s_w6 : w5.heap.size + 0 ≤ w6.heap.size := by have := hb.size; first | omega | (simp at this; omega)
  clear hb
  try clear ic2 jc2 lc2
  obtain ⟨ic2, jc2, lc2⟩ := row_cells c2
  try clear ic3 jc3 lc3
  obtain ⟨ic3, jc3, lc3⟩ := row_cells c3
  go_wp2_with fail
  refine (GIV2.out _).mono ?_
  rintro e w7 ⟨rfl, hb⟩
  replace c2 := below_row hb (alloc_row c2 (by first | omega | (simp; done) | (simp; omega))) (by first | omega | (simp; done) | (simp; omega))
  replace c3 := below_row hb (alloc_row c3 (by first | omega | (simp; done) | (simp; omega))) (by first | omega | (simp; done) | (simp; omega))
  have c9 := below_row hb (heap_alloc_new _ _) (by first | omega | (simp; done) | (simp; omega))
  replace bb := (bb.alloc (by first | omega | (simp; done) | (simp; omega)) _).trans (hb.mono (by first | omega | (simp; done) | (simp; omega)))
  have s_w7 : w6.heap.size + 1 ≤ w7.heap.size := by have := hb.size; first | omega | (simp at this; omega)
  clear hb
  try clear ic2 jc2 lc2
  obtain ⟨ic2, jc2, lc2⟩ := row_cells c2
  try clear ic3 jc3 lc3
  obtain ⟨ic3, jc3, lc3⟩ := row_cells c3
  try clear ic9 jc9 lc9
  obtain ⟨ic9, jc9, lc9⟩ := row_cells c9
  go_wp2_with fail
  refine (ENC2.out _).mono ?_
  rintro e w8 ⟨rfl, hb⟩
  replace c2 := below_row hb c2 (by first | omega | (simp; done) | (simp; omega))
  replace c3 := below_row hb c3 (by first | omega | (simp; done) | (simp; omega))
  replace c9 := below_row hb c9 (by first | omega | (simp; done) | (simp; omega))
  replace bb := bb.trans (hb.mono (by first | omega | (simp; done) | (simp; omega)))
  have s_w8 : w7.heap.size + 0 ≤ w8.heap.size := by have := hb.size; first | omega | (simp at this; omega)
  clear hb
  try clear ic2 jc2 lc2
  obtain ⟨ic2, jc2, lc2⟩ := row_cells c2
  try clear ic3 jc3 lc3
  obtain ⟨ic3, jc3, lc3⟩ := row_cells c3
  try clear ic9 jc9 lc9
  obtain ⟨ic9, jc9, lc9⟩ := row_cells c9
  go_wp2_with fail
  go_quiet (fail)
  go_wp2_with fail
  go_ret
  exact ⟨rfl, (by repeat' (first | (with_reducible exact Below.refl _ _) | (with_reducible assumption) | (with_reducible refine below_setRow ?_ ?_ _) | (with_reducible refine Below.alloc ?_ ?_ _) | (with_reducible refine below_drewN ?_ _) | (with_reducible refine Below.drew ?_) | (with_reducible refine Below.setCell ?_ ?_ _) | omega | (simp; done) | (simp; omega)))⟩

set_option maxRecDepth 100000 in
set_option maxHeartbeats 1000000 in
theorem EntryForms_n2a (t ow r s : Int) (en : Bool) (t' ow' r' s' : Int) (en' : Bool) (w : World) (i1 : I64 t) (i2 : I64 ow) (i3 : I64 r) (i4 : I64 s) (j1 : I64 t') (j2 : I64 ow') (j3 : I64 r') (j4 : I64 s') (ha : ¬ OkE t ow r s en) (k : t = 2) (l1 : ow < 0) :
    Calls Try.prog 6 #[.agg #[.int .i64 t, .int .i64 ow, .int .i64 r, .int .i64 s, .bool en], .agg #[.int .i64 t', .int .i64 ow', .int .i64 r', .int .i64 s', .bool en']] w fun e w' => e = .returned (.bool true) ∧ Below w.heap.size w w' := by
  have ENC1 := Lib.hid (fun w => entry_Encode_no t ow r s en w i1 i2 i3 i4 ha)
  have CHK1 := Lib.hid (fun w => entry_Check_no t ow r s en w i1 i2 i3 i4 ha)
  obtain ⟨x, y, z, E2⟩ := entry_Encode_any t' ow' r' s' en' w j1 j2 j3 j4
  have ENC2 := Lib.hid E2
  clear E2
  have GIV1 := Lib.hid (fun w => entry_given t ow r s en w)
  have GIV2 := Lib.hid (fun w => entry_given t' ow' r' s' en' w)
  have U0 := fun w => entry_used t w
  have u : usedO t = true := by simp [usedO]; omega
  simp only [u] at U0
  clear u
  have f0 : (t == 0) = false := by simp; omega
  have f1 : (t == 1) = false := by simp; omega
  have f2 : (t == 2) = true := by simp; omega
  have USE := Lib.hid U0
  clear U0
  have bb : Below w.heap.size w w := Below.refl _ _
  clear i1 i2 i3 i4 j1 j2 j3 j4 ha k
  go_enter Try.func6, Try.ntmps6
  go_wp2_with fail
  refine (entry_head _).mono ?_
  rintro e w1 ⟨rfl, hb⟩
  have c2 := below_row hb (heap_alloc2_old _ _ _) (by first | omega | (simp; done) | (simp; omega))
  have c3 := below_row hb (heap_alloc2_new _ _ _) (by first | omega | (simp; done) | (simp; omega))
  replace bb := ((bb.alloc (by first | omega | (simp; done) | (simp; omega)) _).alloc (by first | omega | (simp; done) | (simp; omega)) _).trans (hb.mono (by first | omega | (simp; done) | (simp; omega)))
  have s_w1 : w.heap.size + 2 ≤ w1.heap.size := by have := hb.size; first | omega | (simp at this; omega)
  clear hb
  try clear ic2 jc2 lc2
  obtain ⟨ic2, jc2, lc2⟩ := row_cells c2
  try clear ic3 jc3 lc3
  obtain ⟨ic3, jc3, lc3⟩ := row_cells c3
  go_wp2_with fail
  refine (USE.out _).mono ?_
  rintro e w2 ⟨rfl, hb⟩
  replace c2 := below_row hb c2 (by first | omega | (simp; done) | (simp; omega))
  replace c3 := below_row hb c3 (by first | omega | (simp; done) | (simp; omega))
  replace bb := bb.trans (hb.mono (by first | omega | (simp; done) | (simp; omega)))
  have s_w2 : w1.heap.size + 0 ≤ w2.heap.size := by have := hb.size; first | omega | (simp at this; omega)
  clear hb
  try clear ic2 jc2 lc2
  obtain ⟨ic2, jc2, lc2⟩ := row_cells c2
  try clear ic3 jc3 lc3
  obtain ⟨ic3, jc3, lc3⟩ := row_cells c3
  go_wp2_with fail
  refine (GIV1.out _).mono ?_
  rintro e w3 ⟨rfl, hb⟩
  replace c2 := below_row hb c2 (by first | omega | (simp; done) | (simp; omega))
  replace c3 := below_row hb c3 (by first | omega | (simp; done) | (simp; omega))
  replace bb := bb.trans (hb.mono (by first | omega | (simp; done) | (simp; omega)))
  have s_w3 : w2.heap.size + 0 ≤ w3.heap.size := by have := hb.size; first | omega | (simp at this; omega)
  clear hb
  try clear ic2 jc2 lc2
  obtain ⟨ic2, jc2, lc2⟩ := row_cells c2
  try clear ic3 jc3 lc3
  obtain ⟨ic3, jc3, lc3⟩ := row_cells c3
  go_wp2_with fail
  refine (CHK1.out _).mono ?_
  rintro e w4 ⟨rfl, hb⟩
  replace c2 := below_row hb c2 (by first | omega | (simp; done) | (simp; omega))
  replace c3 := below_row hb c3 (by first | omega | (simp; done) | (simp; omega))
  replace bb := bb.trans (hb.mono (by first | omega | (simp; done) | (simp; omega)))
  have s_w4 : w3.heap.size + 0 ≤ w4.heap.size := by have := hb.size; first | omega | (simp at this; omega)
  clear hb
  try clear ic2 jc2 lc2
  obtain ⟨ic2, jc2, lc2⟩ := row_cells c2
  try clear ic3 jc3 lc3
  obtain ⟨ic3, jc3, lc3⟩ := row_cells c3
  go_wp2_with fail
  refine (GIV1.out _).mono ?_
  rintro e w5 ⟨rfl, hb⟩
  replace c2 := below_row hb c2 (by first | omega | (simp; done) | (simp; omega))
  replace c3 := below_row hb c3 (by first | omega | (simp; done) | (simp; omega))
  replace bb := bb.trans (hb.mono (by first | omega | (simp; done) | (simp; omega)))
  have s_w5 : w4.heap.size + 0 ≤ w5.heap.size := by have := hb.size; first | omega | (simp at this; omega)
  clear hb
  try clear ic2 jc2 lc2
  obtain ⟨ic2, jc2, lc2⟩ := row_cells c2
  try clear ic3 jc3 lc3
  obtain ⟨ic3, jc3, lc3⟩ := row_cells c3
  go_wp2_with fail
  refine (ENC1.out _).mono ?_
  rintro e w6 ⟨rfl, hb⟩
  replace c2 := below_row hb c2 (by first | omega | (simp; done) | (simp; omega))
  replace c3 := below_row hb c3 (by first | omega | (simp; done) | (simp; omega))
  replace bb := bb.trans (hb.mono (by first | omega | (simp; done) | (simp; omega)))
  have s_w6 : w5.heap.size + 0 ≤ w6.heap.size := by have := hb.size; first | omega | (simp at this; omega)
  clear hb
  try clear ic2 jc2 lc2
  obtain ⟨ic2, jc2, lc2⟩ := row_cells c2
  try clear ic3 jc3 lc3
  obtain ⟨ic3, jc3, lc3⟩ := row_cells c3
  go_wp2_with fail
  refine (GIV2.out _).mono ?_
  rintro e w7 ⟨rfl, hb⟩
  replace c2 := below_row hb (alloc_row c2 (by first | omega | (simp; done) | (simp; omega))) (by first | omega | (simp; done) | (simp; omega))
  replace c3 := below_row hb (alloc_row c3 (by first | omega | (simp; done) | (simp; omega))) (by first | omega | (simp; done) | (simp; omega))
  have c9 := below_row hb (heap_alloc_new _ _) (by first | omega | (simp; done) | (simp; omega))
  replace bb := (bb.alloc (by first | omega | (simp; done) | (simp; omega)) _).trans (hb.mono (by first | omega | (simp; done) | (simp; omega)))
  have s_w7 : w6.heap.size + 1 ≤ w7.heap.size := by have := hb.size; first | omega | (simp at this; omega)
  clear hb
  try clear ic2 jc2 lc2
  obtain ⟨ic2, jc2, lc2⟩ := row_cells c2
  try clear ic3 jc3 lc3
  obtain ⟨ic3, jc3, lc3⟩ := row_cells c3
  try clear ic9 jc9 lc9
  obtain ⟨ic9, jc9, lc9⟩ := row_cells c9
  go_wp2_with fail
  refine (ENC2.out _).mono ?_
  rintro e w8 ⟨rfl, hb⟩
  replace c2 := below_row hb c2 (by first | omega | (simp; done) | (simp; omega))
  replace c3 := below_row hb c3 (by first | omega | (simp; done) | (simp; omega))
  replace c9 := below_row hb c9 (by first | omega | (simp; done) | (simp; omega))
  replace bb := bb.trans (hb.mono (by first | omega | (simp; done) | (simp; omega)))
  have s_w8 : w7.heap.size + 0 ≤ w8.heap.size := by have := hb.size; first | omega | (simp at this; omega)
  clear hb
  try clear ic2 jc2 lc2
  obtain ⟨ic2, jc2, lc2⟩ := row_cells c2
  try clear ic3 jc3 lc3
  obtain ⟨ic3, jc3, lc3⟩ := row_cells c3
  try clear ic9 jc9 lc9
  obtain ⟨ic9, jc9, lc9⟩ := row_cells c9
  go_wp2_with fail
  go_quiet (fail)
  go_wp2_with fail
  go_ret
  exact ⟨rfl, (by repeat' (first | (with_reducible exact Below.refl _ _) | (with_reducible assumption) | (with_reducible refine below_setRow ?_ ?_ _) | (with_reducible refine Below.alloc ?_ ?_ _) | (with_reducible refine below_drewN ?_ _) | (with_reducible refine Below.drew ?_) | (with_reducible refine Below.setCell ?_ ?_ _) | omega | (simp; done) | (simp; omega)))⟩

set_option maxRecDepth 100000 in
set_option maxHeartbeats 1000000 in
theorem EntryForms_n3a (t ow r s : Int) (en : Bool) (t' ow' r' s' : Int) (en' : Bool) (w : World) (i1 : I64 t) (i2 : I64 ow) (i3 : I64 r) (i4 : I64 s) (j1 : I64 t') (j2 : I64 ow') (j3 : I64 r') (j4 : I64 s') (ha : ¬ OkE t ow r s en) (k : 3 ≤ t ∧ t ≤ 6) (l1 : ow < 0) :
    Calls Try.prog 6 #[.agg #[.int .i64 t, .int .i64 ow, .int .i64 r, .int .i64 s, .bool en], .agg #[.int .i64 t', .int .i64 ow', .int .i64 r', .int .i64 s', .bool en']] w fun e w' => e = .returned (.bool true) ∧ Below w.heap.size w w' := by
  have ENC1 := Lib.hid (fun w => entry_Encode_no t ow r s en w i1 i2 i3 i4 ha)
  have CHK1 := Lib.hid (fun w => entry_Check_no t ow r s en w i1 i2 i3 i4 ha)
  obtain ⟨x, y, z, E2⟩ := entry_Encode_any t' ow' r' s' en' w j1 j2 j3 j4
  have ENC2 := Lib.hid E2
  clear E2
  have GIV1 := Lib.hid (fun w => entry_given t ow r s en w)
  have GIV2 := Lib.hid (fun w => entry_given t' ow' r' s' en' w)
  have U0 := fun w => entry_used t w
  have u : usedO t = true := by simp [usedO]; omega
  simp only [u] at U0
  clear u
  have f0 : (t == 0) = false := by simp; omega
  have f1 : (t == 1) = false := by simp; omega
  have f2 : (t == 2) = false := by simp; omega
  have USE := Lib.hid U0
  clear U0
  have bb : Below w.heap.size w w := Below.refl _ _
  clear i1 i2 i3 i4 j1 j2 j3 j4 ha k
  go_enter Try.func6, Try.ntmps6
  go_wp2_with fail
  refine (entry_head _).mono ?_
  rintro e w1 ⟨rfl, hb⟩
  have c2 := below_row hb (heap_alloc2_old _ _ _) (by first | omega | (simp; done) | (simp; omega))
  have c3 := below_row hb (heap_alloc2_new _ _ _) (by first | omega | (simp; done) | (simp; omega))
  replace bb := ((bb.alloc (by first | omega | (simp; done) | (simp; omega)) _).alloc (by first | omega | (simp; done) | (simp; omega)) _).trans (hb.mono (by first | omega | (simp; done) | (simp; omega)))
  have s_w1 : w.heap.size + 2 ≤ w1.heap.size := by have := hb.size; first | omega | (simp at this; omega)
  clear hb
  try clear ic2 jc2 lc2
  obtain ⟨ic2, jc2, lc2⟩ := row_cells c2
  try clear ic3 jc3 lc3
  obtain ⟨ic3, jc3, lc3⟩ := row_cells c3
  go_wp2_with fail
  refine (USE.out _).mono ?_
  rintro e w2 ⟨rfl, hb⟩
  replace c2 := below_row hb c2 (by first | omega | (simp; done) | (simp; omega))
  replace c3 := below_row hb c3 (by first | omega | (simp; done) | (simp; omega))
  replace bb := bb.trans (hb.mono (by first | omega | (simp; done) | (simp; omega)))
  have s_w2 : w1.heap.size + 0 ≤ w2.heap.size := by have := hb.size; first | omega | (simp at this; omega)
  clear hb
  try clear ic2 jc2 lc2
  obtain ⟨ic2, jc2, lc2⟩ := row_cells c2
  try clear ic3 jc3 lc3
  obtain ⟨ic3, jc3, lc3⟩ := row_cells c3
  go_wp2_with fail
  refine (GIV1.out _).mono ?_
  rintro e w3 ⟨rfl, hb⟩
  replace c2 := below_row hb c2 (by first | omega | (simp; done) | (simp; omega))
  replace c3 := below_row hb c3 (by first | omega | (simp; done) | (simp; omega))
  replace bb := bb.trans (hb.mono (by first | omega | (simp; done) | (simp; omega)))
  have s_w3 : w2.heap.size + 0 ≤ w3.heap.size := by have := hb.size; first | omega | (simp at this; omega)
  clear hb
  try clear ic2 jc2 lc2
  obtain ⟨ic2, jc2, lc2⟩ := row_cells c2
  try clear ic3 jc3 lc3
  obtain ⟨ic3, jc3, lc3⟩ := row_cells c3
  go_wp2_with fail
  refine (CHK1.out _).mono ?_
  rintro e w4 ⟨rfl, hb⟩
  replace c2 := below_row hb c2 (by first | omega | (simp; done) | (simp; omega))
  replace c3 := below_row hb c3 (by first | omega | (simp; done) | (simp; omega))
  replace bb := bb.trans (hb.mono (by first | omega | (simp; done) | (simp; omega)))
  have s_w4 : w3.heap.size + 0 ≤ w4.heap.size := by have := hb.size; first | omega | (simp at this; omega)
  clear hb
  try clear ic2 jc2 lc2
  obtain ⟨ic2, jc2, lc2⟩ := row_cells c2
  try clear ic3 jc3 lc3
  obtain ⟨ic3, jc3, lc3⟩ := row_cells c3
  go_wp2_with fail
  refine (GIV1.out _).mono ?_
  rintro e w5 ⟨rfl, hb⟩
  replace c2 := below_row hb c2 (by first | omega | (simp; done) | (simp; omega))
  replace c3 := below_row hb c3 (by first | omega | (simp; done) | (simp; omega))
  replace bb := bb.trans (hb.mono (by first | omega | (simp; done) | (simp; omega)))
  have s_w5 : w4.heap.size + 0 ≤ w5.heap.size := by have := hb.size; first | omega | (simp at this; omega)
  clear hb
  try clear ic2 jc2 lc2
  obtain ⟨ic2, jc2, lc2⟩ := row_cells c2
  try clear ic3 jc3 lc3
  obtain ⟨ic3, jc3, lc3⟩ := row_cells c3
  go_wp2_with fail
  refine (ENC1.out _).mono ?_
  rintro e w6 ⟨rfl, hb⟩
  replace c2 := below_row hb c2 (by first | omega | (simp; done) | (simp; omega))
  replace c3 := below_row hb c3 (by first | omega | (simp; done) | (simp; omega))
  replace bb := bb.trans (hb.mono (by first | omega | (simp; done) | (simp; omega)))
  have s_w6 : w5.heap.size + 0 ≤ w6.heap.size := by have := hb.size; first | omega | (simp at this; omega)
  clear hb
  try clear ic2 jc2 lc2
  obtain ⟨ic2, jc2, lc2⟩ := row_cells c2
  try clear ic3 jc3 lc3
  obtain ⟨ic3, jc3, lc3⟩ := row_cells c3
  go_wp2_with fail
  refine (GIV2.out _).mono ?_
  rintro e w7 ⟨rfl, hb⟩
  replace c2 := below_row hb (alloc_row c2 (by first | omega | (simp; done) | (simp; omega))) (by first | omega | (simp; done) | (simp; omega))
  replace c3 := below_row hb (alloc_row c3 (by first | omega | (simp; done) | (simp; omega))) (by first | omega | (simp; done) | (simp; omega))
  have c9 := below_row hb (heap_alloc_new _ _) (by first | omega | (simp; done) | (simp; omega))
  replace bb := (bb.alloc (by first | omega | (simp; done) | (simp; omega)) _).trans (hb.mono (by first | omega | (simp; done) | (simp; omega)))
  have s_w7 : w6.heap.size + 1 ≤ w7.heap.size := by have := hb.size; first | omega | (simp at this; omega)
  clear hb
  try clear ic2 jc2 lc2
  obtain ⟨ic2, jc2, lc2⟩ := row_cells c2
  try clear ic3 jc3 lc3
  obtain ⟨ic3, jc3, lc3⟩ := row_cells c3
  try clear ic9 jc9 lc9
  obtain ⟨ic9, jc9, lc9⟩ := row_cells c9
  go_wp2_with fail
  refine (ENC2.out _).mono ?_
  rintro e w8 ⟨rfl, hb⟩
  replace c2 := below_row hb c2 (by first | omega | (simp; done) | (simp; omega))
  replace c3 := below_row hb c3 (by first | omega | (simp; done) | (simp; omega))
  replace c9 := below_row hb c9 (by first | omega | (simp; done) | (simp; omega))
  replace bb := bb.trans (hb.mono (by first | omega | (simp; done) | (simp; omega)))
  have s_w8 : w7.heap.size + 0 ≤ w8.heap.size := by have := hb.size; first | omega | (simp at this; omega)
  clear hb
  try clear ic2 jc2 lc2
  obtain ⟨ic2, jc2, lc2⟩ := row_cells c2
  try clear ic3 jc3 lc3
  obtain ⟨ic3, jc3, lc3⟩ := row_cells c3
  try clear ic9 jc9 lc9
  obtain ⟨ic9, jc9, lc9⟩ := row_cells c9
  go_wp2_with fail
  go_quiet (fail)
  go_wp2_with fail
  go_ret
  exact ⟨rfl, (by repeat' (first | (with_reducible exact Below.refl _ _) | (with_reducible assumption) | (with_reducible refine below_setRow ?_ ?_ _) | (with_reducible refine Below.alloc ?_ ?_ _) | (with_reducible refine below_drewN ?_ _) | (with_reducible refine Below.drew ?_) | (with_reducible refine Below.setCell ?_ ?_ _) | omega | (simp; done) | (simp; omega)))⟩

set_option maxRecDepth 100000 in
set_option maxHeartbeats 1000000 in
theorem EntryForms_n3e (t ow r s : Int) (en : Bool) (t' ow' r' s' : Int) (en' : Bool) (w : World) (i1 : I64 t) (i2 : I64 ow) (i3 : I64 r) (i4 : I64 s) (j1 : I64 t') (j2 : I64 ow') (j3 : I64 r') (j4 : I64 s') (ha : ¬ OkE t ow r s en) (k : 3 ≤ t ∧ t ≤ 6) (k2 : 0 ≤ ow ∧ ow ≤ 63) (k3 : r = 0) (k4 : s = 0) (ke : en = true) :
    Calls Try.prog 6 #[.agg #[.int .i64 t, .int .i64 ow, .int .i64 r, .int .i64 s, .bool en], .agg #[.int .i64 t', .int .i64 ow', .int .i64 r', .int .i64 s', .bool en']] w fun e w' => e = .returned (.bool true) ∧ Below w.heap.size w w' := by
  have ENC1 := Lib.hid (fun w => entry_Encode_no t ow r s en w i1 i2 i3 i4 ha)
  have CHK1 := Lib.hid (fun w => entry_Check_no t ow r s en w i1 i2 i3 i4 ha)
  obtain ⟨x, y, z, E2⟩ := entry_Encode_any t' ow' r' s' en' w j1 j2 j3 j4
  have ENC2 := Lib.hid E2
  clear E2
  have GIV1 := Lib.hid (fun w => entry_given t ow r s en w)
  have GIV2 := Lib.hid (fun w => entry_given t' ow' r' s' en' w)
  have U0 := fun w => entry_used t w
  subst ke
  have u : usedO t = true := by simp [usedO]; omega
  simp only [u] at U0
  clear u
  have f0 : (t == 0) = false := by simp; omega
  have f1 : (t == 1) = false := by simp; omega
  have f2 : (t == 2) = false := by simp; omega
  have l1 : 0 ≤ ow := by omega
  have l2 : ow ≤ 63 := by omega
  have g1 : (r == 0) = true := by simp; omega
  have g2 : (s == 0) = true := by simp; omega
  have USE := Lib.hid U0
  clear U0
  have bb : Below w.heap.size w w := Below.refl _ _
  clear i1 i2 i3 i4 j1 j2 j3 j4 ha k k2 k3 k4
  go_enter Try.func6, Try.ntmps6
  go_wp2_with fail
  refine (entry_head _).mono ?_
  rintro e w1 ⟨rfl, hb⟩
  have c2 := below_row hb (heap_alloc2_old _ _ _) (by first | omega | (simp; done) | (simp; omega))
  have c3 := below_row hb (heap_alloc2_new _ _ _) (by first | omega | (simp; done) | (simp; omega))
  replace bb := ((bb.alloc (by first | omega | (simp; done) | (simp; omega)) _).alloc (by first | omega | (simp; done) | (simp; omega)) _).trans (hb.mono (by first | omega | (simp; done) | (simp; omega)))
  have s_w1 : w.heap.size + 2 ≤ w1.heap.size := by have := hb.size; first | omega | (simp at this; omega)
  clear hb
  try clear ic2 jc2 lc2
  obtain ⟨ic2, jc2, lc2⟩ := row_cells c2
  try clear ic3 jc3 lc3
  obtain ⟨ic3, jc3, lc3⟩ := row_cells c3
  go_wp2_with fail
  refine (USE.out _).mono ?_
  rintro e w2 ⟨rfl, hb⟩
  replace c2 := below_row hb c2 (by first | omega | (simp; done) | (simp; omega))
  replace c3 := below_row hb c3 (by first | omega | (simp; done) | (simp; omega))
  replace bb := bb.trans (hb.mono (by first | omega | (simp; done) | (simp; omega)))
  have s_w2 : w1.heap.size + 0 ≤ w2.heap.size := by have := hb.size; first | omega | (simp at this; omega)
  clear hb
  try clear ic2 jc2 lc2
  obtain ⟨ic2, jc2, lc2⟩ := row_cells c2
  try clear ic3 jc3 lc3
  obtain ⟨ic3, jc3, lc3⟩ := row_cells c3
  go_wp2_with fail
  refine (GIV1.out _).mono ?_
  rintro e w3 ⟨rfl, hb⟩
  replace c2 := below_row hb c2 (by first | omega | (simp; done) | (simp; omega))
  replace c3 := below_row hb c3 (by first | omega | (simp; done) | (simp; omega))
  replace bb := bb.trans (hb.mono (by first | omega | (simp; done) | (simp; omega)))
  have s_w3 : w2.heap.size + 0 ≤ w3.heap.size := by have := hb.size; first | omega | (simp at this; omega)
  clear hb
  try clear ic2 jc2 lc2
  obtain ⟨ic2, jc2, lc2⟩ := row_cells c2
  try clear ic3 jc3 lc3
  obtain ⟨ic3, jc3, lc3⟩ := row_cells c3
  go_wp2_with fail
  refine (CHK1.out _).mono ?_
  rintro e w4 ⟨rfl, hb⟩
  replace c2 := below_row hb c2 (by first | omega | (simp; done) | (simp; omega))
  replace c3 := below_row hb c3 (by first | omega | (simp; done) | (simp; omega))
  replace bb := bb.trans (hb.mono (by first | omega | (simp; done) | (simp; omega)))
  have s_w4 : w3.heap.size + 0 ≤ w4.heap.size := by have := hb.size; first | omega | (simp at this; omega)
  clear hb
  try clear ic2 jc2 lc2
  obtain ⟨ic2, jc2, lc2⟩ := row_cells c2
  try clear ic3 jc3 lc3
  obtain ⟨ic3, jc3, lc3⟩ := row_cells c3
  go_wp2_with fail
  refine (GIV1.out _).mono ?_
  rintro e w5 ⟨rfl, hb⟩
  replace c2 := below_row hb c2 (by first | omega | (simp; done) | (simp; omega))
  replace c3 := below_row hb c3 (by first | omega | (simp; done) | (simp; omega))
  replace bb := bb.trans (hb.mono (by first | omega | (simp; done) | (simp; omega)))
  have s_w5 : w4.heap.size + 0 ≤ w5.heap.size := by have := hb.size; first | omega | (simp at this; omega)
  clear hb
  try clear ic2 jc2 lc2
  obtain ⟨ic2, jc2, lc2⟩ := row_cells c2
  try clear ic3 jc3 lc3
  obtain ⟨ic3, jc3, lc3⟩ := row_cells c3
  go_wp2_with fail
  refine (ENC1.out _).mono ?_
  rintro e w6 ⟨rfl, hb⟩
  replace c2 := below_row hb c2 (by first | omega | (simp; done) | (simp; omega))
  replace c3 := below_row hb c3 (by first | omega | (simp; done) | (simp; omega))
  replace bb := bb.trans (hb.mono (by first | omega | (simp; done) | (simp; omega)))
  have s_w6 : w5.heap.size + 0 ≤ w6.heap.size := by have := hb.size; first | omega | (simp at this; omega)
  clear hb
  try clear ic2 jc2 lc2
  obtain ⟨ic2, jc2, lc2⟩ := row_cells c2
  try clear ic3 jc3 lc3
  obtain ⟨ic3, jc3, lc3⟩ := row_cells c3
  go_wp2_with fail
  refine (GIV2.out _).mono ?_
  rintro e w7 ⟨rfl, hb⟩
  replace c2 := below_row hb (alloc_row c2 (by first | omega | (simp; done) | (simp; omega))) (by first | omega | (simp; done) | (simp; omega))
  replace c3 := below_row hb (alloc_row c3 (by first | omega | (simp; done) | (simp; omega))) (by first | omega | (simp; done) | (simp; omega))
  have c9 := below_row hb (heap_alloc_new _ _) (by first | omega | (simp; done) | (simp; omega))
  replace bb := (bb.alloc (by first | omega | (simp; done) | (simp; omega)) _).trans (hb.mono (by first | omega | (simp; done) | (simp; omega)))
  have s_w7 : w6.heap.size + 1 ≤ w7.heap.size := by have := hb.size; first | omega | (simp at this; omega)
  clear hb
  try clear ic2 jc2 lc2
  obtain ⟨ic2, jc2, lc2⟩ := row_cells c2
  try clear ic3 jc3 lc3
  obtain ⟨ic3, jc3, lc3⟩ := row_cells c3
  try clear ic9 jc9 lc9
  obtain ⟨ic9, jc9, lc9⟩ := row_cells c9
  go_wp2_with fail
  refine (ENC2.out _).mono ?_
  rintro e w8 ⟨rfl, hb⟩
  replace c2 := below_row hb c2 (by first | omega | (simp; done) | (simp; omega))
  replace c3 := below_row hb c3 (by first | omega | (simp; done) | (simp; omega))
  replace c9 := below_row hb c9 (by first | omega | (simp; done) | (simp; omega))
  replace bb := bb.trans (hb.mono (by first | omega | (simp; done) | (simp; omega)))
  have s_w8 : w7.heap.size + 0 ≤ w8.heap.size := by have := hb.size; first | omega | (simp at this; omega)
  clear hb
  try clear ic2 jc2 lc2
  obtain ⟨ic2, jc2, lc2⟩ := row_cells c2
  try clear ic3 jc3 lc3
  obtain ⟨ic3, jc3, lc3⟩ := row_cells c3
  try clear ic9 jc9 lc9
  obtain ⟨ic9, jc9, lc9⟩ := row_cells c9
  go_wp2_with fail
  go_quiet (fail)
  go_wp2_with fail
  go_ret
  exact ⟨rfl, (by repeat' (first | (with_reducible exact Below.refl _ _) | (with_reducible assumption) | (with_reducible refine below_setRow ?_ ?_ _) | (with_reducible refine Below.alloc ?_ ?_ _) | (with_reducible refine below_drewN ?_ _) | (with_reducible refine Below.drew ?_) | (with_reducible refine Below.setCell ?_ ?_ _) | omega | (simp; done) | (simp; omega)))⟩
end Go.Proofs.Ytmmejomalfjcnaa
