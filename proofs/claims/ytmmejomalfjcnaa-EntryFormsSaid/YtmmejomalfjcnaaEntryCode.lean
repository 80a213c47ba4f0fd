/- entry.Encode and entry.Decode: an entry's two words, and the entry that two words are. No condition beyond the arguments' types. -/
import Derived.Test.YtmmejomalfjcnaaEntryCheck
namespace Go.Proofs.Ytmmejomalfjcnaa
open Go.RowKit

/-- An entry's first word. -/
def entW (t ow s : Int) (en : Bool) : Int := t + s * 16 + ow * 65536 + (if en then 256 else 0)

theorem w2_size : (Try.prog.info? 59).map (·.size) = some 2 := by kernel_rfl
theorem w2_flat : flatAt Try.prog 2 59 = some [some .u32, some .u32] := by kernel_rfl
theorem w2_agg : isAggT Try.prog 59 = true := by kernel_rfl

theorem OkE.bounds {t ow r s : Int} {en : Bool} (h : OkE t ow r s en) : 0 ≤ t ∧ t ≤ 6 ∧ 0 ≤ ow ∧ ow ≤ 63 ∧ 0 ≤ r ∧ r ≤ 63 ∧ 0 ≤ s ∧ s ≤ 3 := by
  unfold OkE pg at h; omega

theorem ent_bits {t ow s : Int} (h1 : 0 ≤ t) (h2 : t ≤ 6) (h3 : 0 ≤ ow) (h4 : ow ≤ 63) (h5 : 0 ≤ s) (h6 : s ≤ 3) :
    bits .or .u32 t (s * 16) = t + s * 16 ∧ bits .or .u32 (t + s * 16) (ow * 65536) = t + s * 16 + ow * 65536 ∧ bits .or .u32 (t + s * 16 + ow * 65536) 256 = t + s * 16 + ow * 65536 + 256 := by
  refine ⟨?_, ?_, or_bit 8 rfl (by omega) (by unfold U32; omega) (by omega)⟩
  · rw [or_comm32, or_add 4 (p := 16) rfl (by unfold U32; omega) h1 (by omega) (by omega) (by omega)]; omega
  · rw [or_comm32, or_add 16 (p := 65536) rfl (by unfold U32; omega) (by omega) (by omega) (by omega) (by omega)]; omega

set_option maxRecDepth 100000 in
set_option maxHeartbeats 400000 in
theorem entry_Encode_yes (t ow r s : Int) (en : Bool) (w : World) (i1 : I64 t) (i2 : I64 ow) (i3 : I64 r) (i4 : I64 s) (h : OkE t ow r s en) :
    Calls Try.prog 27 #[.agg #[.int .i64 t, .int .i64 ow, .int .i64 r, .int .i64 s, .bool en]] w fun e w' => e = .returned (.tuple #[.agg #[.int .u32 (entW t ow s en), .int .u32 r], .int .i64 0]) ∧ Below w.heap.size w w' := by
  obtain ⟨b1, b2, b3, b4, b5, b6, b7, b8⟩ := h.bounds
  obtain ⟨e1, e2, e3⟩ := ent_bits b1 b2 b3 b4 b7 b8
  have HC := Lib.hid (fun w => entry_Check_yes t ow r s en w i1 i2 i3 i4 h)
  have bb : Below w.heap.size w w := Below.refl _ _
  clear h i1 i2 i3 i4
  cases en
  · rw [show entW t ow s false = t + s * 16 + ow * 65536 from by simp [entW]]
    go_enter Try.func27, Try.ntmps27
    go_wp2_with ((with_reducible (refine wpList_load_row rfl 57 _ rfl _ rfl _ _ _ _ (by first | (with_reducible assumption) | (with_reducible exact heap_alloc_new _ _) | (with_reducible exact heap_alloc2_old _ _ _) | (with_reducible exact heap_alloc2_new _ _ _) | (with_reducible exact alloc_row (by assumption) (by omega))) Try.underlying57 rfl (rsz ent_size (by simp)) ?_)))
    refine (HC.out _).mono ?_
    rintro e w1 ⟨rfl, hb⟩
    have c1 := below_row hb (heap_alloc2_old _ _ _) (by first | omega | (simp; done) | (simp; omega))
    have c2 := below_row hb (heap_alloc2_new _ _ _) (by first | omega | (simp; done) | (simp; omega))
    replace bb := ((bb.alloc (by first | omega | (simp; done) | (simp; omega)) _).alloc (by first | omega | (simp; done) | (simp; omega)) _).trans (hb.mono (by first | omega | (simp; done) | (simp; omega)))
    have s_w1 : w.heap.size + 2 ≤ w1.heap.size := by have := hb.size; first | omega | (simp at this; omega)
    clear hb
    try clear ic1 jc1 lc1
    obtain ⟨ic1, jc1, lc1⟩ := row_cells c1
    try clear ic2 jc2 lc2
    obtain ⟨ic2, jc2, lc2⟩ := row_cells c2
    go_wp2_with ((with_reducible (refine wpList_store_row rfl 59 _ _ rfl _ _ rfl rfl _ _ (by first | (with_reducible assumption) | (with_reducible exact heap_alloc_new _ _) | (with_reducible exact heap_alloc2_old _ _ _) | (with_reducible exact heap_alloc2_new _ _ _) | (with_reducible exact alloc_row (by assumption) (by omega))) (rsz w2_size (by simp)) (by simp) (by simp [Value.oneCell']) ?_)))
    exact ret_row_tmp rfl (by first | (with_reducible assumption) | (with_reducible exact heap_alloc_new _ _) | (with_reducible exact heap_alloc2_new _ _ _) | (with_reducible exact heap_alloc2_old _ _ _) | (with_reducible exact alloc_row (by assumption) (by omega)) | (with_reducible exact setRow_heap _ _ _ _ _ _ (by assumption)) | (with_reducible exact setRow_heap _ _ _ _ _ _ (heap_alloc2_new _ _ _)) | (with_reducible exact setRow_heap _ _ _ _ _ _ (heap_alloc2_old _ _ _)) | (with_reducible exact setRow_heap _ _ _ _ _ _ (alloc_row (by assumption) (by omega))) | (with_reducible exact setRow_heap _ _ _ _ _ _ (heap_alloc_new _ _))) rfl (by kernel_rfl) (rsz w2_size (by first | rfl | simp)) rfl ⟨rfl, (by repeat' (first | (with_reducible exact Below.refl _ _) | (with_reducible assumption) | (with_reducible refine below_setRow ?_ ?_ _) | (with_reducible refine Below.alloc ?_ ?_ _) | (with_reducible refine below_drewN ?_ _) | (with_reducible refine Below.drew ?_) | (with_reducible refine Below.setCell ?_ ?_ _) | omega | (simp; done) | (simp; omega)))⟩
  · rw [show entW t ow s true = t + s * 16 + ow * 65536 + 256 from by simp [entW]]
    go_enter Try.func27, Try.ntmps27
    go_wp2_with ((with_reducible (refine wpList_load_row rfl 57 _ rfl _ rfl _ _ _ _ (by first | (with_reducible assumption) | (with_reducible exact heap_alloc_new _ _) | (with_reducible exact heap_alloc2_old _ _ _) | (with_reducible exact heap_alloc2_new _ _ _) | (with_reducible exact alloc_row (by assumption) (by omega))) Try.underlying57 rfl (rsz ent_size (by simp)) ?_)))
    refine (HC.out _).mono ?_
    rintro e w1 ⟨rfl, hb⟩
    have c1 := below_row hb (heap_alloc2_old _ _ _) (by first | omega | (simp; done) | (simp; omega))
    have c2 := below_row hb (heap_alloc2_new _ _ _) (by first | omega | (simp; done) | (simp; omega))
    replace bb := ((bb.alloc (by first | omega | (simp; done) | (simp; omega)) _).alloc (by first | omega | (simp; done) | (simp; omega)) _).trans (hb.mono (by first | omega | (simp; done) | (simp; omega)))
    have s_w1 : w.heap.size + 2 ≤ w1.heap.size := by have := hb.size; first | omega | (simp at this; omega)
    clear hb
    try clear ic1 jc1 lc1
    obtain ⟨ic1, jc1, lc1⟩ := row_cells c1
    try clear ic2 jc2 lc2
    obtain ⟨ic2, jc2, lc2⟩ := row_cells c2
    go_wp2_with ((with_reducible (refine wpList_store_row rfl 59 _ _ rfl _ _ rfl rfl _ _ (by first | (with_reducible assumption) | (with_reducible exact heap_alloc_new _ _) | (with_reducible exact heap_alloc2_old _ _ _) | (with_reducible exact heap_alloc2_new _ _ _) | (with_reducible exact alloc_row (by assumption) (by omega))) (rsz w2_size (by simp)) (by simp) (by simp [Value.oneCell']) ?_)))
    exact ret_row_tmp rfl (by first | (with_reducible assumption) | (with_reducible exact heap_alloc_new _ _) | (with_reducible exact heap_alloc2_new _ _ _) | (with_reducible exact heap_alloc2_old _ _ _) | (with_reducible exact alloc_row (by assumption) (by omega)) | (with_reducible exact setRow_heap _ _ _ _ _ _ (by assumption)) | (with_reducible exact setRow_heap _ _ _ _ _ _ (heap_alloc2_new _ _ _)) | (with_reducible exact setRow_heap _ _ _ _ _ _ (heap_alloc2_old _ _ _)) | (with_reducible exact setRow_heap _ _ _ _ _ _ (alloc_row (by assumption) (by omega))) | (with_reducible exact setRow_heap _ _ _ _ _ _ (heap_alloc_new _ _))) rfl (by kernel_rfl) (rsz w2_size (by first | rfl | simp)) rfl ⟨rfl, (by repeat' (first | (with_reducible exact Below.refl _ _) | (with_reducible assumption) | (with_reducible refine below_setRow ?_ ?_ _) | (with_reducible refine Below.alloc ?_ ?_ _) | (with_reducible refine below_drewN ?_ _) | (with_reducible refine Below.drew ?_) | (with_reducible refine Below.setCell ?_ ?_ _) | omega | (simp; done) | (simp; omega)))⟩

set_option maxRecDepth 100000 in
set_option maxHeartbeats 400000 in
theorem entry_Encode_no (t ow r s : Int) (en : Bool) (w : World) (i1 : I64 t) (i2 : I64 ow) (i3 : I64 r) (i4 : I64 s) (h : ¬ OkE t ow r s en) :
    Calls Try.prog 27 #[.agg #[.int .i64 t, .int .i64 ow, .int .i64 r, .int .i64 s, .bool en]] w fun e w' => e = .returned (.tuple #[.agg #[.int .u32 0, .int .u32 0], .int .i64 110]) ∧ Below w.heap.size w w' := by
  have HC := Lib.hid (fun w => entry_Check_no t ow r s en w i1 i2 i3 i4 h)
  have bb : Below w.heap.size w w := Below.refl _ _
  clear h i1 i2 i3 i4
  go_enter Try.func27, Try.ntmps27
  go_wp2_with ((with_reducible (refine wpList_load_row rfl 57 _ rfl _ rfl _ _ _ _ (by first | (with_reducible assumption) | (with_reducible exact heap_alloc_new _ _) | (with_reducible exact heap_alloc2_old _ _ _) | (with_reducible exact heap_alloc2_new _ _ _) | (with_reducible exact alloc_row (by assumption) (by omega))) Try.underlying57 rfl (rsz ent_size (by simp)) ?_)))
  refine (HC.out _).mono ?_
  rintro e w1 ⟨rfl, hb⟩
  have c1 := below_row hb (heap_alloc2_old _ _ _) (by first | omega | (simp; done) | (simp; omega))
  have c2 := below_row hb (heap_alloc2_new _ _ _) (by first | omega | (simp; done) | (simp; omega))
  replace bb := ((bb.alloc (by first | omega | (simp; done) | (simp; omega)) _).alloc (by first | omega | (simp; done) | (simp; omega)) _).trans (hb.mono (by first | omega | (simp; done) | (simp; omega)))
  have s_w1 : w.heap.size + 2 ≤ w1.heap.size := by have := hb.size; first | omega | (simp at this; omega)
  clear hb
  try clear ic1 jc1 lc1
  obtain ⟨ic1, jc1, lc1⟩ := row_cells c1
  try clear ic2 jc2 lc2
  obtain ⟨ic2, jc2, lc2⟩ := row_cells c2
  go_wp2_with ((with_reducible (refine wpList_store_row rfl 59 _ _ rfl _ _ rfl rfl _ _ (by first | (with_reducible assumption) | (with_reducible exact heap_alloc_new _ _) | (with_reducible exact heap_alloc2_old _ _ _) | (with_reducible exact heap_alloc2_new _ _ _) | (with_reducible exact alloc_row (by assumption) (by omega))) (rsz w2_size (by simp)) (by simp) (by simp [Value.oneCell']) ?_)))
  exact ret_row_tmp rfl (by first | (with_reducible assumption) | (with_reducible exact heap_alloc_new _ _) | (with_reducible exact heap_alloc2_new _ _ _) | (with_reducible exact heap_alloc2_old _ _ _) | (with_reducible exact alloc_row (by assumption) (by omega)) | (with_reducible exact setRow_heap _ _ _ _ _ _ (by assumption)) | (with_reducible exact setRow_heap _ _ _ _ _ _ (heap_alloc2_new _ _ _)) | (with_reducible exact setRow_heap _ _ _ _ _ _ (heap_alloc2_old _ _ _)) | (with_reducible exact setRow_heap _ _ _ _ _ _ (alloc_row (by assumption) (by omega))) | (with_reducible exact setRow_heap _ _ _ _ _ _ (heap_alloc_new _ _))) rfl (by kernel_rfl) (rsz w2_size (by first | rfl | simp)) rfl ⟨rfl, (by repeat' (first | (with_reducible exact Below.refl _ _) | (with_reducible assumption) | (with_reducible refine below_setRow ?_ ?_ _) | (with_reducible refine Below.alloc ?_ ?_ _) | (with_reducible refine below_drewN ?_ _) | (with_reducible refine Below.drew ?_) | (with_reducible refine Below.setCell ?_ ?_ _) | omega | (simp; done) | (simp; omega)))⟩

/-- What the parts of two words are. -/
def dT (a : Int) : Int := a % 8
def dS (a : Int) : Int := a / 16 % 4
def dE (a : Int) : Bool := a / 256 % 2 == 1
def dO (a : Int) : Int := a / 65536 % 64
def dR (b : Int) : Int := b % 64
/-- Are the two words an entry's? -/
def isEnt (a b : Int) : Prop := OkE (dT a) (dO a) (dR b) (dS a) (dE a) ∧ entW (dT a) (dO a) (dS a) (dE a) = a ∧ dR b = b
instance (a b : Int) : Decidable (isEnt a b) := by unfold isEnt; infer_instance

theorem dec_bits {a b : Int} (ha : U32 a) (hb : U32 b) : bits .and .u32 a 7 = dT a ∧ bits .and .u32 (a / 16) 3 = dS a ∧ (bits .and .u32 (a / 256) 1 == 1) = dE a ∧ bits .and .u32 (a / 65536) 63 = dO a ∧ bits .and .u32 b 63 = dR b := by
  unfold U32 at ha hb
  refine ⟨and_mask 3 (by decide) (by omega) ha, and_mask 2 (by decide) (by omega) (by unfold U32; omega), ?_, and_mask 6 (by decide) (by omega) (by unfold U32; omega), and_mask 6 (by decide) (by omega) hb⟩
  rw [and_mask 1 (by decide) (by omega) (by unfold U32; omega)]; rfl

theorem w2_eq {a b a' b' : Int} (h1 : U32 a) (h2 : U32 b) (k1 : U32 a') (k2 : U32 b') (q : Bool) (hq : q = true ↔ (a = a' ∧ b = b')) (w : World) :
    (Op.equalIn 10000 59 (.agg #[.int .u32 a, .int .u32 b]) (.agg #[.int .u32 a', .int .u32 b'])).run Try.prog w = .ok q w :=
  run_equalIn_flat (xs := [.int .u32 a, .int .u32 b]) (ys := [.int .u32 a', .int .u32 b']) w w2_agg w2_flat (by decide) ⟨⟨_, rfl, h1.wf⟩, ⟨_, rfl, h2.wf⟩, trivial⟩ ⟨⟨_, rfl, k1.wf⟩, ⟨_, rfl, k2.wf⟩, trivial⟩ q (by rw [hq]; simp)

theorem OkE.word {t ow r s : Int} {en : Bool} (h : OkE t ow r s en) : U32 (entW t ow s en) ∧ U32 r := by
  have := h.bounds
  unfold U32 entW; cases en <;> simp <;> omega

theorem dec_rng (a b : Int) : I64 (dT a) ∧ I64 (dO a) ∧ I64 (dR b) ∧ I64 (dS a) := by unfold I64 dT dO dR dS; omega
theorem zero2_built : Try.prog.built 57 [] = some #[.int .i64 0, .int .i64 0, .int .i64 0, .int .i64 0, .bool false] := by kernel_rfl

set_option maxRecDepth 100000 in
set_option maxHeartbeats 400000 in
theorem entry_Decode_yes (a b : Int) (w : World) (ha : U32 a) (hb : U32 b) (h : isEnt a b) :
    Calls Try.prog 31 #[.agg #[.int .u32 a, .int .u32 b]] w fun e w' => e = .returned (.tuple #[.agg #[.int .i64 (dT a), .int .i64 (dO a), .int .i64 (dR b), .int .i64 (dS a), .bool (dE a)], .int .i64 0]) ∧ Below w.heap.size w w' := by
  obtain ⟨e1, e2, e3, e4, e5⟩ := dec_bits ha hb
  obtain ⟨i1, i2, i3, i4⟩ := dec_rng a b
  obtain ⟨h1, h2, h3⟩ := h
  have HC := fun w => entry_Encode_yes _ _ _ _ _ w i1 i2 i3 i4 h1
  rw [h2] at HC
  replace HC := Lib.hid HC
  have bb : Below w.heap.size w w := Below.refl _ _
  have hr : U32 (dR b) := by unfold U32 dR; omega
  have hq := fun w => w2_eq ha hr ha hb true (by simp [h3]) w
  have q1 : 0 ≤ dT a ∧ dT a < 8 ∧ 0 ≤ dO a ∧ dO a < 64 ∧ 0 ≤ dR b ∧ dR b < 64 ∧ 0 ≤ dS a ∧ dS a < 4 := by unfold dT dO dR dS; omega
  unfold U32 at ha hb
  obtain ⟨a1, a2⟩ := ha
  obtain ⟨a3, a4⟩ := hb
  obtain ⟨q1, q2, q3, q4, q5, q6, q7, q8⟩ := q1
  generalize dT a = t at *
  generalize dO a = ow at *
  generalize dR b = r at *
  generalize dS a = s at *
  generalize dE a = en at *
  clear h1 h2 h3 i1 i2 i3 i4 hr
  go_enter Try.func31, Try.ntmps31
  go_wp2_with fail
  refine (HC.out _).mono ?_
  rintro e w1 ⟨rfl, hb⟩
  have c1 := below_row hb (heap_alloc3_0 _ _ _ _) (by first | omega | (simp; done) | (simp; omega))
  have c2 := below_row hb (heap_alloc3_1 _ _ _ _) (by first | omega | (simp; done) | (simp; omega))
  have c4 := below_row hb (heap_alloc3_2 _ _ _ _) (by first | omega | (simp; done) | (simp; omega))
  replace bb := (((bb.alloc (by first | omega | (simp; done) | (simp; omega)) _).alloc (by first | omega | (simp; done) | (simp; omega)) _).alloc (by first | omega | (simp; done) | (simp; omega)) _).trans (hb.mono (by first | omega | (simp; done) | (simp; omega)))
  have s_w1 : w.heap.size + 3 ≤ w1.heap.size := by have := hb.size; first | omega | (simp at this; omega)
  clear hb
  try clear ic1 jc1 lc1
  obtain ⟨ic1, jc1, lc1⟩ := row_cells c1
  try clear ic2 jc2 lc2
  obtain ⟨ic2, jc2, lc2⟩ := row_cells c2
  try clear ic4 jc4 lc4
  obtain ⟨ic4, jc4, lc4⟩ := row_cells c4
  go_wp2_with (first | (with_reducible (refine wpList_store_row rfl 57 _ _ rfl _ _ rfl rfl _ _ (by first | (with_reducible assumption) | (with_reducible exact heap_alloc_new _ _) | (with_reducible exact heap_alloc2_old _ _ _) | (with_reducible exact heap_alloc2_new _ _ _) | (with_reducible exact alloc_row (by assumption) (by omega))) (rsz ent_size (by simp)) (by simp) (by simp [Value.oneCell']) ?_)) | (with_reducible (refine wpList_load_row rfl 57 _ rfl _ rfl _ _ _ _ (by first | (with_reducible assumption) | (with_reducible exact heap_alloc_new _ _) | (with_reducible exact heap_alloc2_old _ _ _) | (with_reducible exact heap_alloc2_new _ _ _) | (with_reducible exact alloc_row (by assumption) (by omega))) Try.underlying57 rfl (rsz ent_size (by simp)) ?_)))
  exact ret_row_tmp rfl (by first | (with_reducible assumption) | (with_reducible exact heap_alloc_new _ _) | (with_reducible exact heap_alloc2_new _ _ _) | (with_reducible exact heap_alloc2_old _ _ _) | (with_reducible exact alloc_row (by assumption) (by omega)) | (with_reducible exact setRow_heap _ _ _ _ _ _ (by assumption)) | (with_reducible exact setRow_heap _ _ _ _ _ _ (heap_alloc2_new _ _ _)) | (with_reducible exact setRow_heap _ _ _ _ _ _ (heap_alloc2_old _ _ _)) | (with_reducible exact setRow_heap _ _ _ _ _ _ (alloc_row (by assumption) (by omega))) | (with_reducible exact setRow_heap _ _ _ _ _ _ (heap_alloc_new _ _))) rfl (by kernel_rfl) (rsz ent_size (by first | rfl | simp)) rfl ⟨rfl, (by repeat' (first | (with_reducible exact Below.refl _ _) | (with_reducible assumption) | (with_reducible refine below_setRow ?_ ?_ _) | (with_reducible refine Below.alloc ?_ ?_ _) | (with_reducible refine below_drewN ?_ _) | (with_reducible refine Below.drew ?_) | (with_reducible refine Below.setCell ?_ ?_ _) | omega | (simp; done) | (simp; omega)))⟩

set_option maxRecDepth 100000 in
set_option maxHeartbeats 400000 in
theorem entry_Decode_no (a b : Int) (w : World) (ha : U32 a) (hb : U32 b) (h : ¬ isEnt a b) :
    Calls Try.prog 31 #[.agg #[.int .u32 a, .int .u32 b]] w fun e w' => e = .returned (.tuple #[.agg #[.int .i64 0, .int .i64 0, .int .i64 0, .int .i64 0, .bool false], .int .i64 110]) ∧ Below w.heap.size w w' := by
  obtain ⟨e1, e2, e3, e4, e5⟩ := dec_bits ha hb
  obtain ⟨i1, i2, i3, i4⟩ := dec_rng a b
  have bb : Below w.heap.size w w := Below.refl _ _
  have q1 : 0 ≤ dT a ∧ dT a < 8 ∧ 0 ≤ dO a ∧ dO a < 64 ∧ 0 ≤ dR b ∧ dR b < 64 ∧ 0 ≤ dS a ∧ dS a < 4 := by unfold dT dO dR dS; omega
  obtain ⟨q1, q2, q3, q4, q5, q6, q7, q8⟩ := q1
  by_cases ho : OkE (dT a) (dO a) (dR b) (dS a) (dE a)
  · have HC := fun w => entry_Encode_yes _ _ _ _ _ w i1 i2 i3 i4 ho
    have hq := fun w => w2_eq ho.word.1 ho.word.2 ha hb false (by simp only [Bool.false_eq_true, false_iff]; exact fun k => h ⟨ho, k⟩) w
    replace HC := Lib.hid HC
    unfold U32 at ha hb
    obtain ⟨a1, a2⟩ := ha
    obtain ⟨a3, a4⟩ := hb
    clear h ho
    generalize entW (dT a) (dO a) (dS a) (dE a) = v at *
    generalize dT a = t at *
    generalize dO a = ow at *
    generalize dR b = r at *
    generalize dS a = s at *
    generalize dE a = en at *
    clear i1 i2 i3 i4
    go_enter Try.func31, Try.ntmps31
    go_wp2_with fail
    refine (HC.out _).mono ?_
    rintro e w1 ⟨rfl, hb⟩
    have c1 := below_row hb (heap_alloc3_0 _ _ _ _) (by first | omega | (simp; done) | (simp; omega))
    have c2 := below_row hb (heap_alloc3_1 _ _ _ _) (by first | omega | (simp; done) | (simp; omega))
    have c4 := below_row hb (heap_alloc3_2 _ _ _ _) (by first | omega | (simp; done) | (simp; omega))
    replace bb := (((bb.alloc (by first | omega | (simp; done) | (simp; omega)) _).alloc (by first | omega | (simp; done) | (simp; omega)) _).alloc (by first | omega | (simp; done) | (simp; omega)) _).trans (hb.mono (by first | omega | (simp; done) | (simp; omega)))
    have s_w1 : w.heap.size + 3 ≤ w1.heap.size := by have := hb.size; first | omega | (simp at this; omega)
    clear hb
    try clear ic1 jc1 lc1
    obtain ⟨ic1, jc1, lc1⟩ := row_cells c1
    try clear ic2 jc2 lc2
    obtain ⟨ic2, jc2, lc2⟩ := row_cells c2
    try clear ic4 jc4 lc4
    obtain ⟨ic4, jc4, lc4⟩ := row_cells c4
    go_wp2_with (first | (with_reducible (refine wpList_store_row rfl 57 _ _ rfl _ _ rfl rfl _ _ (by first | (with_reducible assumption) | (with_reducible exact heap_alloc_new _ _) | (with_reducible exact heap_alloc2_old _ _ _) | (with_reducible exact heap_alloc2_new _ _ _) | (with_reducible exact alloc_row (by assumption) (by omega))) (rsz ent_size (by simp)) (by simp) (by simp [Value.oneCell']) ?_)) | (with_reducible (refine wpList_load_row rfl 57 _ rfl _ rfl _ _ _ _ (by first | (with_reducible assumption) | (with_reducible exact heap_alloc_new _ _) | (with_reducible exact heap_alloc2_old _ _ _) | (with_reducible exact heap_alloc2_new _ _ _) | (with_reducible exact alloc_row (by assumption) (by omega))) Try.underlying57 rfl (rsz ent_size (by simp)) ?_)))
    exact ret_row_tmp rfl (by first | (with_reducible assumption) | (with_reducible exact heap_alloc_new _ _) | (with_reducible exact heap_alloc2_new _ _ _) | (with_reducible exact heap_alloc2_old _ _ _) | (with_reducible exact alloc_row (by assumption) (by omega)) | (with_reducible exact setRow_heap _ _ _ _ _ _ (by assumption)) | (with_reducible exact setRow_heap _ _ _ _ _ _ (heap_alloc2_new _ _ _)) | (with_reducible exact setRow_heap _ _ _ _ _ _ (heap_alloc2_old _ _ _)) | (with_reducible exact setRow_heap _ _ _ _ _ _ (alloc_row (by assumption) (by omega))) | (with_reducible exact setRow_heap _ _ _ _ _ _ (heap_alloc_new _ _))) rfl (by kernel_rfl) (rsz ent_size (by first | rfl | simp)) rfl ⟨rfl, (by repeat' (first | (with_reducible exact Below.refl _ _) | (with_reducible assumption) | (with_reducible refine below_setRow ?_ ?_ _) | (with_reducible refine Below.alloc ?_ ?_ _) | (with_reducible refine below_drewN ?_ _) | (with_reducible refine Below.drew ?_) | (with_reducible refine Below.setCell ?_ ?_ _) | omega | (simp; done) | (simp; omega)))⟩
  · have HC := Lib.hid (fun w => entry_Encode_no _ _ _ _ _ w i1 i2 i3 i4 ho)
    unfold U32 at ha hb
    obtain ⟨a1, a2⟩ := ha
    obtain ⟨a3, a4⟩ := hb
    clear h ho
    generalize dT a = t at *
    generalize dO a = ow at *
    generalize dR b = r at *
    generalize dS a = s at *
    generalize dE a = en at *
    clear i1 i2 i3 i4
    go_enter Try.func31, Try.ntmps31
    go_wp2_with fail
    refine (HC.out _).mono ?_
    rintro e w1 ⟨rfl, hb⟩
    have c1 := below_row hb (heap_alloc3_0 _ _ _ _) (by first | omega | (simp; done) | (simp; omega))
    have c2 := below_row hb (heap_alloc3_1 _ _ _ _) (by first | omega | (simp; done) | (simp; omega))
    have c4 := below_row hb (heap_alloc3_2 _ _ _ _) (by first | omega | (simp; done) | (simp; omega))
    replace bb := (((bb.alloc (by first | omega | (simp; done) | (simp; omega)) _).alloc (by first | omega | (simp; done) | (simp; omega)) _).alloc (by first | omega | (simp; done) | (simp; omega)) _).trans (hb.mono (by first | omega | (simp; done) | (simp; omega)))
    have s_w1 : w.heap.size + 3 ≤ w1.heap.size := by have := hb.size; first | omega | (simp at this; omega)
    clear hb
    try clear ic1 jc1 lc1
    obtain ⟨ic1, jc1, lc1⟩ := row_cells c1
    try clear ic2 jc2 lc2
    obtain ⟨ic2, jc2, lc2⟩ := row_cells c2
    try clear ic4 jc4 lc4
    obtain ⟨ic4, jc4, lc4⟩ := row_cells c4
    go_wp2_with (first | (with_reducible (refine wpList_store_row rfl 57 _ _ rfl _ _ rfl rfl _ _ (by first | (with_reducible assumption) | (with_reducible exact heap_alloc_new _ _) | (with_reducible exact heap_alloc2_old _ _ _) | (with_reducible exact heap_alloc2_new _ _ _) | (with_reducible exact alloc_row (by assumption) (by omega))) (rsz ent_size (by simp)) (by simp) (by simp [Value.oneCell']) ?_)) | (with_reducible (refine wpList_load_row rfl 57 _ rfl _ rfl _ _ _ _ (by first | (with_reducible assumption) | (with_reducible exact heap_alloc_new _ _) | (with_reducible exact heap_alloc2_old _ _ _) | (with_reducible exact heap_alloc2_new _ _ _) | (with_reducible exact alloc_row (by assumption) (by omega))) Try.underlying57 rfl (rsz ent_size (by simp)) ?_)))
    exact ret_row_tmp rfl (by first | (with_reducible assumption) | (with_reducible exact heap_alloc_new _ _) | (with_reducible exact heap_alloc2_new _ _ _) | (with_reducible exact heap_alloc2_old _ _ _) | (with_reducible exact alloc_row (by assumption) (by omega)) | (with_reducible exact setRow_heap _ _ _ _ _ _ (by assumption)) | (with_reducible exact setRow_heap _ _ _ _ _ _ (heap_alloc2_new _ _ _)) | (with_reducible exact setRow_heap _ _ _ _ _ _ (heap_alloc2_old _ _ _)) | (with_reducible exact setRow_heap _ _ _ _ _ _ (alloc_row (by assumption) (by omega))) | (with_reducible exact setRow_heap _ _ _ _ _ _ (heap_alloc_new _ _))) rfl (by kernel_rfl) (rsz ent_size (by first | rfl | simp)) rfl ⟨rfl, (by repeat' (first | (with_reducible exact Below.refl _ _) | (with_reducible assumption) | (with_reducible refine below_setRow ?_ ?_ _) | (with_reducible refine Below.alloc ?_ ?_ _) | (with_reducible refine below_drewN ?_ _) | (with_reducible refine Below.drew ?_) | (with_reducible refine Below.setCell ?_ ?_ _) | omega | (simp; done) | (simp; omega)))⟩
end Go.Proofs.Ytmmejomalfjcnaa
