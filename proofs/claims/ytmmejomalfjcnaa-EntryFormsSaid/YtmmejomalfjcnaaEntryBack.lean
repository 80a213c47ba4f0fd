/- The walk of the law EntryBack: for every entry and every two words it answers true and writes to nothing that was there. No condition beyond the arguments' types. -/
import Derived.Test.YtmmejomalfjcnaaEntryHead
namespace Go.Proofs.Ytmmejomalfjcnaa
open Go.RowKit
set_option linter.unusedVariables false

theorem ent_back {t ow r s : Int} {en : Bool} (h : OkE t ow r s en) : dT (entW t ow s en) = t ∧ dO (entW t ow s en) = ow ∧ dR r = r ∧ dS (entW t ow s en) = s ∧ dE (entW t ow s en) = en ∧ isEnt (entW t ow s en) r := by
  have b := h.bounds
  have h1 : dT (entW t ow s en) = t := by unfold dT entW; cases en <;> simp <;> omega
  have h2 : dO (entW t ow s en) = ow := by unfold dO entW; cases en <;> simp <;> omega
  have h3 : dR r = r := by unfold dR; omega
  have h4 : dS (entW t ow s en) = s := by unfold dS entW; cases en <;> simp <;> omega
  have h5 : dE (entW t ow s en) = en := by unfold dE entW; cases en <;> simp <;> omega
  exact ⟨h1, h2, h3, h4, h5, by unfold isEnt; rw [h1, h2, h3, h4, h5]; exact ⟨h, rfl, rfl⟩⟩

set_option maxHeartbeats 400000 in
theorem entry_given (t ow r s : Int) (en : Bool) (w : World) :
    Calls Try.prog 26 #[.agg #[.int .i64 t, .int .i64 ow, .int .i64 r, .int .i64 s, .bool en]] w fun e w' => e = .returned (.agg #[.int .i64 t, .int .i64 ow, .int .i64 r, .int .i64 s, .bool en]) ∧ Below w.heap.size w w' := by
  go_enter Try.func26, Try.ntmps26
  go_wp2_with (with_reducible (refine wpList_store_row rfl 57 _ _ rfl _ _ rfl rfl _ _ (by first | (with_reducible assumption) | (with_reducible exact heap_alloc_new _ _) | (with_reducible exact heap_alloc2_old _ _ _) | (with_reducible exact heap_alloc2_new _ _ _) | (with_reducible exact alloc_row (by assumption) (by omega))) (rsz ent_size (by simp)) (by simp) (by simp [Value.oneCell']) ?_))
  exact ret_row rfl (by first | (with_reducible assumption) | (with_reducible exact heap_alloc_new _ _) | (with_reducible exact heap_alloc2_new _ _ _) | (with_reducible exact heap_alloc2_old _ _ _) | (with_reducible exact alloc_row (by assumption) (by omega)) | (with_reducible exact setRow_heap _ _ _ _ _ _ (by assumption)) | (with_reducible exact setRow_heap _ _ _ _ _ _ (heap_alloc2_new _ _ _)) | (with_reducible exact setRow_heap _ _ _ _ _ _ (heap_alloc2_old _ _ _)) | (with_reducible exact setRow_heap _ _ _ _ _ _ (alloc_row (by assumption) (by omega))) | (with_reducible exact setRow_heap _ _ _ _ _ _ (heap_alloc_new _ _))) rfl (by kernel_rfl) (rsz ent_size (by first | rfl | simp)) rfl ⟨rfl, (by repeat' (first | (with_reducible exact Below.refl _ _) | (with_reducible assumption) | (with_reducible refine below_setRow ?_ ?_ _) | (with_reducible refine Below.alloc ?_ ?_ _) | (with_reducible refine below_drewN ?_ _) | (with_reducible refine Below.drew ?_) | (with_reducible refine Below.setCell ?_ ?_ _) | omega | (simp; done) | (simp; omega)))⟩

set_option maxRecDepth 100000 in
set_option maxHeartbeats 1000000 in
theorem EntryBack_yes_yes (t ow r s : Int) (en : Bool) (a b : Int) (w : World) (i1 : I64 t) (i2 : I64 ow) (i3 : I64 r) (i4 : I64 s) (ua : U32 a) (ub : U32 b) (ha : isEnt a b) (he : OkE t ow r s en) :
    Calls Try.prog 8 #[.agg #[.int .i64 t, .int .i64 ow, .int .i64 r, .int .i64 s, .bool en], .agg #[.int .u32 a, .int .u32 b]] w fun e w' => e = .returned (.bool true) ∧ Below w.heap.size w w' := by
  have DEC := Lib.hid (fun w => entry_Decode_yes a b w ua ub ha)
  obtain ⟨j1, j2, j3, j4⟩ := dec_rng a b
  have E1 := fun w => entry_Encode_yes _ _ _ _ _ w j1 j2 j3 j4 ha.1
  rw [ha.2.1] at E1
  have ENC1 := Lib.hid E1
  have CHK1 := Lib.hid (fun w => entry_Check_yes _ _ _ _ _ w j1 j2 j3 j4 ha.1)
  have ur : U32 (dR b) := by unfold U32 dR; omega
  have hq1 := fun w => w2_eq ua ur ua ub true (by simp [ha.2.2]) w
  clear E1 j1 j2 j3 j4 ur
  generalize dT a = t1 at *
  generalize dO a = o1 at *
  generalize dR b = r1 at *
  generalize dS a = s1 at *
  generalize dE a = n1 at *
  clear ha
  have ENC2 := Lib.hid (fun w => entry_Encode_yes t ow r s en w i1 i2 i3 i4 he)
  have CHK2 := Lib.hid (fun w => entry_Check_yes t ow r s en w i1 i2 i3 i4 he)
  obtain ⟨k1, k2, k3, k4, k5, k6⟩ := ent_back he
  have D2 := fun w => entry_Decode_yes (entW t ow s en) r w he.word.1 he.word.2 k6
  rw [k1, k2, k3, k4, k5] at D2
  have DEC2 := Lib.hid D2
  have hq2 := fun w => ent_eq (en := en) (en' := en) i1 i2 i3 i4 i1 i2 i3 i4 true (by simp) w
  clear D2 k1 k2 k3 k4 k5 k6 he
  generalize entW t ow s en = v at *
  have bb : Below w.heap.size w w := Below.refl _ _
  have GIV := Lib.hid (fun w => entry_given t ow r s en w)
  clear i1 i2 i3 i4 ua ub
  go_enter Try.func8, Try.ntmps8
  go_wp2_with fail
  refine (entry_head _).mono ?_
  rintro e w1 ⟨rfl, hb⟩
  have c2 := below_row hb (heap_alloc2_old _ _ _) (by first | omega | (simp; done) | (simp; omega))
  have c3 := below_row hb (heap_alloc2_new _ _ _) (by first | omega | (simp; done) | (simp; omega))
  replace bb := ((bb.alloc (by first | omega | (simp; done) | (simp; omega)) _).alloc (by first | omega | (simp; done) | (simp; omega)) _).trans (hb.mono (by first | omega | (simp; done) | (simp; omega)))
  have s_w1 : w.heap.size + 2 ≤ w1.heap.size := by have := hb.size; first | omega | (simp at this; omega)
  clear hb
  try clear ic2 jc2 lc2
  obtain ⟨ic2, jc2, lc2⟩ := row_cells c2
  try clear ic3 jc3 lc3
  obtain ⟨ic3, jc3, lc3⟩ := row_cells c3
  go_wp2_with fail
  refine (DEC.out _).mono ?_
  rintro e w2 ⟨rfl, hb⟩
  replace c2 := below_row hb c2 (by first | omega | (simp; done) | (simp; omega))
  replace c3 := below_row hb c3 (by first | omega | (simp; done) | (simp; omega))
  replace bb := bb.trans (hb.mono (by first | omega | (simp; done) | (simp; omega)))
  have s_w2 : w1.heap.size + 0 ≤ w2.heap.size := by have := hb.size; first | omega | (simp at this; omega)
  clear hb
  try clear ic2 jc2 lc2
  obtain ⟨ic2, jc2, lc2⟩ := row_cells c2
  try clear ic3 jc3 lc3
  obtain ⟨ic3, jc3, lc3⟩ := row_cells c3
  go_wp2_with fail
  refine (ENC1.out _).mono ?_
  rintro e w3 ⟨rfl, hb⟩
  replace c2 := below_row hb (alloc_row c2 (by first | omega | (simp; done) | (simp; omega))) (by first | omega | (simp; done) | (simp; omega))
  replace c3 := below_row hb (alloc_row c3 (by first | omega | (simp; done) | (simp; omega))) (by first | omega | (simp; done) | (simp; omega))
  have c5 := below_row hb (heap_alloc_new _ _) (by first | omega | (simp; done) | (simp; omega))
  replace bb := (bb.alloc (by first | omega | (simp; done) | (simp; omega)) _).trans (hb.mono (by first | omega | (simp; done) | (simp; omega)))
  have s_w3 : w2.heap.size + 1 ≤ w3.heap.size := by have := hb.size; first | omega | (simp at this; omega)
  clear hb
  try clear ic2 jc2 lc2
  obtain ⟨ic2, jc2, lc2⟩ := row_cells c2
  try clear ic3 jc3 lc3
  obtain ⟨ic3, jc3, lc3⟩ := row_cells c3
  try clear ic5 jc5 lc5
  obtain ⟨ic5, jc5, lc5⟩ := row_cells c5
  go_wp2_with fail
  refine (CHK1.out _).mono ?_
  rintro e w4 ⟨rfl, hb⟩
  replace c2 := below_row hb (alloc_row c2 (by first | omega | (simp; done) | (simp; omega))) (by first | omega | (simp; done) | (simp; omega))
  replace c3 := below_row hb (alloc_row c3 (by first | omega | (simp; done) | (simp; omega))) (by first | omega | (simp; done) | (simp; omega))
  replace bb := (bb.alloc (by first | omega | (simp; done) | (simp; omega)) _).trans (hb.mono (by first | omega | (simp; done) | (simp; omega)))
  have s_w4 : w3.heap.size + 1 ≤ w4.heap.size := by have := hb.size; first | omega | (simp at this; omega)
  clear hb
  try clear ic2 jc2 lc2
  obtain ⟨ic2, jc2, lc2⟩ := row_cells c2
  try clear ic3 jc3 lc3
  obtain ⟨ic3, jc3, lc3⟩ := row_cells c3
  go_wp2_with fail
  refine (GIV.out _).mono ?_
  rintro e w5 ⟨rfl, hb⟩
  replace bb := bb.trans (hb.mono (by first | omega | (simp; done) | (simp; omega)))
  have s_w5 : w4.heap.size + 0 ≤ w5.heap.size := by have := hb.size; first | omega | (simp at this; omega)
  clear hb
  go_wp2_with fail
  refine (ENC2.out _).mono ?_
  rintro e w6 ⟨rfl, hb⟩
  have c9 := below_row hb (heap_alloc_new _ _) (by first | omega | (simp; done) | (simp; omega))
  replace bb := (bb.alloc (by first | omega | (simp; done) | (simp; omega)) _).trans (hb.mono (by first | omega | (simp; done) | (simp; omega)))
  have s_w6 : w5.heap.size + 1 ≤ w6.heap.size := by have := hb.size; first | omega | (simp at this; omega)
  clear hb
  try clear ic9 jc9 lc9
  obtain ⟨ic9, jc9, lc9⟩ := row_cells c9
  go_wp2_with fail
  refine (CHK2.out _).mono ?_
  rintro e w7 ⟨rfl, hb⟩
  replace c9 := below_row hb (alloc_row c9 (by first | omega | (simp; done) | (simp; omega))) (by first | omega | (simp; done) | (simp; omega))
  have c10 := below_row hb (heap_alloc_new _ _) (by first | omega | (simp; done) | (simp; omega))
  replace bb := (bb.alloc (by first | omega | (simp; done) | (simp; omega)) _).trans (hb.mono (by first | omega | (simp; done) | (simp; omega)))
  have s_w7 : w6.heap.size + 1 ≤ w7.heap.size := by have := hb.size; first | omega | (simp at this; omega)
  clear hb
  try clear ic9 jc9 lc9
  obtain ⟨ic9, jc9, lc9⟩ := row_cells c9
  try clear ic10 jc10 lc10
  obtain ⟨ic10, jc10, lc10⟩ := row_cells c10
  go_wp2_with fail
  refine (DEC2.out _).mono ?_
  rintro e w8 ⟨rfl, hb⟩
  replace c9 := below_row hb c9 (by first | omega | (simp; done) | (simp; omega))
  replace c10 := below_row hb c10 (by first | omega | (simp; done) | (simp; omega))
  replace bb := bb.trans (hb.mono (by first | omega | (simp; done) | (simp; omega)))
  have s_w8 : w7.heap.size + 0 ≤ w8.heap.size := by have := hb.size; first | omega | (simp at this; omega)
  clear hb
  try clear ic9 jc9 lc9
  obtain ⟨ic9, jc9, lc9⟩ := row_cells c9
  try clear ic10 jc10 lc10
  obtain ⟨ic10, jc10, lc10⟩ := row_cells c10
  go_wp2_with fail
  go_ret
  exact ⟨rfl, (by repeat' (first | (with_reducible exact Below.refl _ _) | (with_reducible assumption) | (with_reducible refine below_setRow ?_ ?_ _) | (with_reducible refine Below.alloc ?_ ?_ _) | (with_reducible refine below_drewN ?_ _) | (with_reducible refine Below.drew ?_) | (with_reducible refine Below.setCell ?_ ?_ _) | omega | (simp; done) | (simp; omega)))⟩

set_option maxRecDepth 100000 in
set_option maxHeartbeats 1000000 in
theorem EntryBack_yes_no (t ow r s : Int) (en : Bool) (a b : Int) (w : World) (i1 : I64 t) (i2 : I64 ow) (i3 : I64 r) (i4 : I64 s) (ua : U32 a) (ub : U32 b) (ha : isEnt a b) (he : ¬ OkE t ow r s en) :
    Calls Try.prog 8 #[.agg #[.int .i64 t, .int .i64 ow, .int .i64 r, .int .i64 s, .bool en], .agg #[.int .u32 a, .int .u32 b]] w fun e w' => e = .returned (.bool true) ∧ Below w.heap.size w w' := by
  have DEC := Lib.hid (fun w => entry_Decode_yes a b w ua ub ha)
  obtain ⟨j1, j2, j3, j4⟩ := dec_rng a b
  have E1 := fun w => entry_Encode_yes _ _ _ _ _ w j1 j2 j3 j4 ha.1
  rw [ha.2.1] at E1
  have ENC1 := Lib.hid E1
  have CHK1 := Lib.hid (fun w => entry_Check_yes _ _ _ _ _ w j1 j2 j3 j4 ha.1)
  have ur : U32 (dR b) := by unfold U32 dR; omega
  have hq1 := fun w => w2_eq ua ur ua ub true (by simp [ha.2.2]) w
  clear E1 j1 j2 j3 j4 ur
  generalize dT a = t1 at *
  generalize dO a = o1 at *
  generalize dR b = r1 at *
  generalize dS a = s1 at *
  generalize dE a = n1 at *
  clear ha
  have ENC2 := Lib.hid (fun w => entry_Encode_no t ow r s en w i1 i2 i3 i4 he)
  have CHK2 := Lib.hid (fun w => entry_Check_no t ow r s en w i1 i2 i3 i4 he)
  have hq2 := fun w => w2_eq (a := 0) (b := 0) (a' := 0) (b' := 0) (by decide) (by decide) (by decide) (by decide) true (by simp) w
  clear he
  have bb : Below w.heap.size w w := Below.refl _ _
  have GIV := Lib.hid (fun w => entry_given t ow r s en w)
  clear i1 i2 i3 i4 ua ub
  go_enter Try.func8, Try.ntmps8
  go_wp2_with fail
  refine (entry_head _).mono ?_
  rintro e w1 ⟨rfl, hb⟩
  have c2 := below_row hb (heap_alloc2_old _ _ _) (by first | omega | (simp; done) | (simp; omega))
  have c3 := below_row hb (heap_alloc2_new _ _ _) (by first | omega | (simp; done) | (simp; omega))
  replace bb := ((bb.alloc (by first | omega | (simp; done) | (simp; omega)) _).alloc (by first | omega | (simp; done) | (simp; omega)) _).trans (hb.mono (by first | omega | (simp; done) | (simp; omega)))
  have s_w1 : w.heap.size + 2 ≤ w1.heap.size := by have := hb.size; first | omega | (simp at this; omega)
  clear hb
  try clear ic2 jc2 lc2
  obtain ⟨ic2, jc2, lc2⟩ := row_cells c2
  try clear ic3 jc3 lc3
  obtain ⟨ic3, jc3, lc3⟩ := row_cells c3
  go_wp2_with fail
  refine (DEC.out _).mono ?_
  rintro e w2 ⟨rfl, hb⟩
  replace c2 := below_row hb c2 (by first | omega | (simp; done) | (simp; omega))
  replace c3 := below_row hb c3 (by first | omega | (simp; done) | (simp; omega))
  replace bb := bb.trans (hb.mono (by first | omega | (simp; done) | (simp; omega)))
  have s_w2 : w1.heap.size + 0 ≤ w2.heap.size := by have := hb.size; first | omega | (simp at this; omega)
  clear hb
  try clear ic2 jc2 lc2
  obtain ⟨ic2, jc2, lc2⟩ := row_cells c2
  try clear ic3 jc3 lc3
  obtain ⟨ic3, jc3, lc3⟩ := row_cells c3
  go_wp2_with fail
  refine (ENC1.out _).mono ?_
  rintro e w3 ⟨rfl, hb⟩
  replace c2 := below_row hb (alloc_row c2 (by first | omega | (simp; done) | (simp; omega))) (by first | omega | (simp; done) | (simp; omega))
  replace c3 := below_row hb (alloc_row c3 (by first | omega | (simp; done) | (simp; omega))) (by first | omega | (simp; done) | (simp; omega))
  have c5 := below_row hb (heap_alloc_new _ _) (by first | omega | (simp; done) | (simp; omega))
  replace bb := (bb.alloc (by first | omega | (simp; done) | (simp; omega)) _).trans (hb.mono (by first | omega | (simp; done) | (simp; omega)))
  have s_w3 : w2.heap.size + 1 ≤ w3.heap.size := by have := hb.size; first | omega | (simp at this; omega)
  clear hb
  try clear ic2 jc2 lc2
  obtain ⟨ic2, jc2, lc2⟩ := row_cells c2
  try clear ic3 jc3 lc3
  obtain ⟨ic3, jc3, lc3⟩ := row_cells c3
  try clear ic5 jc5 lc5
  obtain ⟨ic5, jc5, lc5⟩ := row_cells c5
  go_wp2_with fail
  refine (CHK1.out _).mono ?_
  rintro e w4 ⟨rfl, hb⟩
  replace c2 := below_row hb (alloc_row c2 (by first | omega | (simp; done) | (simp; omega))) (by first | omega | (simp; done) | (simp; omega))
  replace c3 := below_row hb (alloc_row c3 (by first | omega | (simp; done) | (simp; omega))) (by first | omega | (simp; done) | (simp; omega))
  replace bb := (bb.alloc (by first | omega | (simp; done) | (simp; omega)) _).trans (hb.mono (by first | omega | (simp; done) | (simp; omega)))
  have s_w4 : w3.heap.size + 1 ≤ w4.heap.size := by have := hb.size; first | omega | (simp at this; omega)
  clear hb
  try clear ic2 jc2 lc2
  obtain ⟨ic2, jc2, lc2⟩ := row_cells c2
  try clear ic3 jc3 lc3
  obtain ⟨ic3, jc3, lc3⟩ := row_cells c3
  go_wp2_with fail
  refine (GIV.out _).mono ?_
  rintro e w5 ⟨rfl, hb⟩
  replace bb := bb.trans (hb.mono (by first | omega | (simp; done) | (simp; omega)))
  have s_w5 : w4.heap.size + 0 ≤ w5.heap.size := by have := hb.size; first | omega | (simp at this; omega)
  clear hb
  go_wp2_with fail
  refine (ENC2.out _).mono ?_
  rintro e w6 ⟨rfl, hb⟩
  have c9 := below_row hb (heap_alloc_new _ _) (by first | omega | (simp; done) | (simp; omega))
  replace bb := (bb.alloc (by first | omega | (simp; done) | (simp; omega)) _).trans (hb.mono (by first | omega | (simp; done) | (simp; omega)))
  have s_w6 : w5.heap.size + 1 ≤ w6.heap.size := by have := hb.size; first | omega | (simp at this; omega)
  clear hb
  try clear ic9 jc9 lc9
  obtain ⟨ic9, jc9, lc9⟩ := row_cells c9
  go_wp2_with fail
  refine (CHK2.out _).mono ?_
  rintro e w7 ⟨rfl, hb⟩
  replace c9 := below_row hb (alloc_row c9 (by first | omega | (simp; done) | (simp; omega))) (by first | omega | (simp; done) | (simp; omega))
  have c10 := below_row hb (heap_alloc_new _ _) (by first | omega | (simp; done) | (simp; omega))
  replace bb := (bb.alloc (by first | omega | (simp; done) | (simp; omega)) _).trans (hb.mono (by first | omega | (simp; done) | (simp; omega)))
  have s_w7 : w6.heap.size + 1 ≤ w7.heap.size := by have := hb.size; first | omega | (simp at this; omega)
  clear hb
  try clear ic9 jc9 lc9
  obtain ⟨ic9, jc9, lc9⟩ := row_cells c9
  try clear ic10 jc10 lc10
  obtain ⟨ic10, jc10, lc10⟩ := row_cells c10
  go_wp2_with fail
  go_ret
  exact ⟨rfl, (by repeat' (first | (with_reducible exact Below.refl _ _) | (with_reducible assumption) | (with_reducible refine below_setRow ?_ ?_ _) | (with_reducible refine Below.alloc ?_ ?_ _) | (with_reducible refine below_drewN ?_ _) | (with_reducible refine Below.drew ?_) | (with_reducible refine Below.setCell ?_ ?_ _) | omega | (simp; done) | (simp; omega)))⟩

set_option maxRecDepth 100000 in
set_option maxHeartbeats 1000000 in
theorem EntryBack_no_yes (t ow r s : Int) (en : Bool) (a b : Int) (w : World) (i1 : I64 t) (i2 : I64 ow) (i3 : I64 r) (i4 : I64 s) (ua : U32 a) (ub : U32 b) (ha : ¬ isEnt a b) (he : OkE t ow r s en) :
    Calls Try.prog 8 #[.agg #[.int .i64 t, .int .i64 ow, .int .i64 r, .int .i64 s, .bool en], .agg #[.int .u32 a, .int .u32 b]] w fun e w' => e = .returned (.bool true) ∧ Below w.heap.size w w' := by
  have DEC := Lib.hid (fun w => entry_Decode_no a b w ua ub ha)
  have hq1 := fun w => ent_eq (t := 0) (ow := 0) (r := 0) (s := 0) (en := false) (t' := 0) (ow' := 0) (r' := 0) (s' := 0) (en' := false) (by decide) (by decide) (by decide) (by decide) (by decide) (by decide) (by decide) (by decide) true (by simp) w
  clear ha
  have ENC2 := Lib.hid (fun w => entry_Encode_yes t ow r s en w i1 i2 i3 i4 he)
  have CHK2 := Lib.hid (fun w => entry_Check_yes t ow r s en w i1 i2 i3 i4 he)
  obtain ⟨k1, k2, k3, k4, k5, k6⟩ := ent_back he
  have D2 := fun w => entry_Decode_yes (entW t ow s en) r w he.word.1 he.word.2 k6
  rw [k1, k2, k3, k4, k5] at D2
  have DEC2 := Lib.hid D2
  have hq2 := fun w => ent_eq (en := en) (en' := en) i1 i2 i3 i4 i1 i2 i3 i4 true (by simp) w
  clear D2 k1 k2 k3 k4 k5 k6 he
  generalize entW t ow s en = v at *
  have bb : Below w.heap.size w w := Below.refl _ _
  have GIV := Lib.hid (fun w => entry_given t ow r s en w)
  clear i1 i2 i3 i4 ua ub
  go_enter Try.func8, Try.ntmps8
  go_wp2_with fail
  refine (entry_head _).mono ?_
  rintro e w1 ⟨rfl, hb⟩
  have c2 := below_row hb (heap_alloc2_old _ _ _) (by first | omega | (simp; done) | (simp; omega))
  have c3 := below_row hb (heap_alloc2_new _ _ _) (by first | omega | (simp; done) | (simp; omega))
  replace bb := ((bb.alloc (by first | omega | (simp; done) | (simp; omega)) _).alloc (by first | omega | (simp; done) | (simp; omega)) _).trans (hb.mono (by first | omega | (simp; done) | (simp; omega)))
  have s_w1 : w.heap.size + 2 ≤ w1.heap.size := by have := hb.size; first | omega | (simp at this; omega)
  clear hb
  try clear ic2 jc2 lc2
  obtain ⟨ic2, jc2, lc2⟩ := row_cells c2
  try clear ic3 jc3 lc3
  obtain ⟨ic3, jc3, lc3⟩ := row_cells c3
  go_wp2_with fail
  refine (DEC.out _).mono ?_
  rintro e w2 ⟨rfl, hb⟩
  replace c2 := below_row hb c2 (by first | omega | (simp; done) | (simp; omega))
  replace c3 := below_row hb c3 (by first | omega | (simp; done) | (simp; omega))
  replace bb := bb.trans (hb.mono (by first | omega | (simp; done) | (simp; omega)))
  have s_w2 : w1.heap.size + 0 ≤ w2.heap.size := by have := hb.size; first | omega | (simp at this; omega)
  clear hb
  try clear ic2 jc2 lc2
  obtain ⟨ic2, jc2, lc2⟩ := row_cells c2
  try clear ic3 jc3 lc3
  obtain ⟨ic3, jc3, lc3⟩ := row_cells c3
  go_wp2_with fail
  refine (GIV.out _).mono ?_
  rintro e w5 ⟨rfl, hb⟩
  replace bb := (bb.alloc (by first | omega | (simp; done) | (simp; omega)) _).trans (hb.mono (by first | omega | (simp; done) | (simp; omega)))
  have s_w5 : w2.heap.size + 1 ≤ w5.heap.size := by have := hb.size; first | omega | (simp at this; omega)
  clear hb
  go_wp2_with fail
  refine (ENC2.out _).mono ?_
  rintro e w6 ⟨rfl, hb⟩
  have c9 := below_row hb (heap_alloc_new _ _) (by first | omega | (simp; done) | (simp; omega))
  replace bb := (bb.alloc (by first | omega | (simp; done) | (simp; omega)) _).trans (hb.mono (by first | omega | (simp; done) | (simp; omega)))
  have s_w6 : w5.heap.size + 1 ≤ w6.heap.size := by have := hb.size; first | omega | (simp at this; omega)
  clear hb
  try clear ic9 jc9 lc9
  obtain ⟨ic9, jc9, lc9⟩ := row_cells c9
  go_wp2_with fail
  refine (CHK2.out _).mono ?_
  rintro e w7 ⟨rfl, hb⟩
  replace c9 := below_row hb (alloc_row c9 (by first | omega | (simp; done) | (simp; omega))) (by first | omega | (simp; done) | (simp; omega))
  have c10 := below_row hb (heap_alloc_new _ _) (by first | omega | (simp; done) | (simp; omega))
  replace bb := (bb.alloc (by first | omega | (simp; done) | (simp; omega)) _).trans (hb.mono (by first | omega | (simp; done) | (simp; omega)))
  have s_w7 : w6.heap.size + 1 ≤ w7.heap.size := by have := hb.size; first | omega | (simp at this; omega)
  clear hb
  try clear ic9 jc9 lc9
  obtain ⟨ic9, jc9, lc9⟩ := row_cells c9
  try clear ic10 jc10 lc10
  obtain ⟨ic10, jc10, lc10⟩ := row_cells c10
  go_wp2_with fail
  refine (DEC2.out _).mono ?_
  rintro e w8 ⟨rfl, hb⟩
  replace c9 := below_row hb c9 (by first | omega | (simp; done) | (simp; omega))
  replace c10 := below_row hb c10 (by first | omega | (simp; done) | (simp; omega))
  replace bb := bb.trans (hb.mono (by first | omega | (simp; done) | (simp; omega)))
  have s_w8 : w7.heap.size + 0 ≤ w8.heap.size := by have := hb.size; first | omega | (simp at this; omega)
  clear hb
  try clear ic9 jc9 lc9
  obtain ⟨ic9, jc9, lc9⟩ := row_cells c9
  try clear ic10 jc10 lc10
  obtain ⟨ic10, jc10, lc10⟩ := row_cells c10
  go_wp2_with fail
  go_ret
  exact ⟨rfl, (by repeat' (first | (with_reducible exact Below.refl _ _) | (with_reducible assumption) | (with_reducible refine below_setRow ?_ ?_ _) | (with_reducible refine Below.alloc ?_ ?_ _) | (with_reducible refine below_drewN ?_ _) | (with_reducible refine Below.drew ?_) | (with_reducible refine Below.setCell ?_ ?_ _) | omega | (simp; done) | (simp; omega)))⟩

set_option maxRecDepth 100000 in
set_option maxHeartbeats 1000000 in
theorem EntryBack_no_no (t ow r s : Int) (en : Bool) (a b : Int) (w : World) (i1 : I64 t) (i2 : I64 ow) (i3 : I64 r) (i4 : I64 s) (ua : U32 a) (ub : U32 b) (ha : ¬ isEnt a b) (he : ¬ OkE t ow r s en) :
    Calls Try.prog 8 #[.agg #[.int .i64 t, .int .i64 ow, .int .i64 r, .int .i64 s, .bool en], .agg #[.int .u32 a, .int .u32 b]] w fun e w' => e = .returned (.bool true) ∧ Below w.heap.size w w' := by
  have DEC := Lib.hid (fun w => entry_Decode_no a b w ua ub ha)
  have hq1 := fun w => ent_eq (t := 0) (ow := 0) (r := 0) (s := 0) (en := false) (t' := 0) (ow' := 0) (r' := 0) (s' := 0) (en' := false) (by decide) (by decide) (by decide) (by decide) (by decide) (by decide) (by decide) (by decide) true (by simp) w
  clear ha
  have ENC2 := Lib.hid (fun w => entry_Encode_no t ow r s en w i1 i2 i3 i4 he)
  have CHK2 := Lib.hid (fun w => entry_Check_no t ow r s en w i1 i2 i3 i4 he)
  have hq2 := fun w => w2_eq (a := 0) (b := 0) (a' := 0) (b' := 0) (by decide) (by decide) (by decide) (by decide) true (by simp) w
  clear he
  have bb : Below w.heap.size w w := Below.refl _ _
  have GIV := Lib.hid (fun w => entry_given t ow r s en w)
  clear i1 i2 i3 i4 ua ub
  go_enter Try.func8, Try.ntmps8
  go_wp2_with fail
  refine (entry_head _).mono ?_
  rintro e w1 ⟨rfl, hb⟩
  have c2 := below_row hb (heap_alloc2_old _ _ _) (by first | omega | (simp; done) | (simp; omega))
  have c3 := below_row hb (heap_alloc2_new _ _ _) (by first | omega | (simp; done) | (simp; omega))
  replace bb := ((bb.alloc (by first | omega | (simp; done) | (simp; omega)) _).alloc (by first | omega | (simp; done) | (simp; omega)) _).trans (hb.mono (by first | omega | (simp; done) | (simp; omega)))
  have s_w1 : w.heap.size + 2 ≤ w1.heap.size := by have := hb.size; first | omega | (simp at this; omega)
  clear hb
  try clear ic2 jc2 lc2
  obtain ⟨ic2, jc2, lc2⟩ := row_cells c2
  try clear ic3 jc3 lc3
  obtain ⟨ic3, jc3, lc3⟩ := row_cells c3
  go_wp2_with fail
  refine (DEC.out _).mono ?_
  rintro e w2 ⟨rfl, hb⟩
  replace c2 := below_row hb c2 (by first | omega | (simp; done) | (simp; omega))
  replace c3 := below_row hb c3 (by first | omega | (simp; done) | (simp; omega))
  replace bb := bb.trans (hb.mono (by first | omega | (simp; done) | (simp; omega)))
  have s_w2 : w1.heap.size + 0 ≤ w2.heap.size := by have := hb.size; first | omega | (simp at this; omega)
  clear hb
  try clear ic2 jc2 lc2
  obtain ⟨ic2, jc2, lc2⟩ := row_cells c2
  try clear ic3 jc3 lc3
  obtain ⟨ic3, jc3, lc3⟩ := row_cells c3
  go_wp2_with fail
  refine (GIV.out _).mono ?_
  rintro e w5 ⟨rfl, hb⟩
  replace bb := (bb.alloc (by first | omega | (simp; done) | (simp; omega)) _).trans (hb.mono (by first | omega | (simp; done) | (simp; omega)))
  have s_w5 : w2.heap.size + 1 ≤ w5.heap.size := by have := hb.size; first | omega | (simp at this; omega)
  clear hb
  go_wp2_with fail
  refine (ENC2.out _).mono ?_
  rintro e w6 ⟨rfl, hb⟩
  have c9 := below_row hb (heap_alloc_new _ _) (by first | omega | (simp; done) | (simp; omega))
  replace bb := (bb.alloc (by first | omega | (simp; done) | (simp; omega)) _).trans (hb.mono (by first | omega | (simp; done) | (simp; omega)))
  have s_w6 : w5.heap.size + 1 ≤ w6.heap.size := by have := hb.size; first | omega | (simp at this; omega)
  clear hb
  try clear ic9 jc9 lc9
  obtain ⟨ic9, jc9, lc9⟩ := row_cells c9
  go_wp2_with fail
  refine (CHK2.out _).mono ?_
  rintro e w7 ⟨rfl, hb⟩
  replace c9 := below_row hb (alloc_row c9 (by first | omega | (simp; done) | (simp; omega))) (by first | omega | (simp; done) | (simp; omega))
  have c10 := below_row hb (heap_alloc_new _ _) (by first | omega | (simp; done) | (simp; omega))
  replace bb := (bb.alloc (by first | omega | (simp; done) | (simp; omega)) _).trans (hb.mono (by first | omega | (simp; done) | (simp; omega)))
  have s_w7 : w6.heap.size + 1 ≤ w7.heap.size := by have := hb.size; first | omega | (simp at this; omega)
  clear hb
  try clear ic9 jc9 lc9
  obtain ⟨ic9, jc9, lc9⟩ := row_cells c9
  try clear ic10 jc10 lc10
  obtain ⟨ic10, jc10, lc10⟩ := row_cells c10
  go_wp2_with fail
  go_ret
  exact ⟨rfl, (by repeat' (first | (with_reducible exact Below.refl _ _) | (with_reducible assumption) | (with_reducible refine below_setRow ?_ ?_ _) | (with_reducible refine Below.alloc ?_ ?_ _) | (with_reducible refine below_drewN ?_ _) | (with_reducible refine Below.drew ?_) | (with_reducible refine Below.setCell ?_ ?_ _) | omega | (simp; done) | (simp; omega)))⟩

theorem EntryBack_walk (t ow r s : Int) (en : Bool) (a b : Int) (w : World) (i1 : I64 t) (i2 : I64 ow) (i3 : I64 r) (i4 : I64 s) (ua : U32 a) (ub : U32 b) :
    Calls Try.prog 8 #[.agg #[.int .i64 t, .int .i64 ow, .int .i64 r, .int .i64 s, .bool en], .agg #[.int .u32 a, .int .u32 b]] w fun e w' => e = .returned (.bool true) ∧ Below w.heap.size w w' := by
  by_cases ha : isEnt a b
  · by_cases he : OkE t ow r s en
    · exact EntryBack_yes_yes t ow r s en a b w i1 i2 i3 i4 ua ub ha he
    · exact EntryBack_yes_no t ow r s en a b w i1 i2 i3 i4 ua ub ha he
  · by_cases he : OkE t ow r s en
    · exact EntryBack_no_yes t ow r s en a b w i1 i2 i3 i4 ua ub ha he
    · exact EntryBack_no_no t ow r s en a b w i1 i2 i3 i4 ua ub ha he
end Go.Proofs.Ytmmejomalfjcnaa
