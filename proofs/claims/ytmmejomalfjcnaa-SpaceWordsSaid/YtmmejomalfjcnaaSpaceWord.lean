/- space.Word and space.Parse: a mapping's word, and the mapping that a word is. No condition beyond the arguments' types. -/
import Derived.Test.YtmmejomalfjcnaaRows
import Derived.Test.YtmmejomalfjcnaaFlatEq
import Derived.Test.YtmmejomalfjcnaaBits
import Derived.Test.YtmmejomalfjcnaaBase
import Derived.WalkSpells
import Derived.WalkLawsBesides
import Derived.Deep.QuietTactic
import Derived.BigQuiet
import Derived.Deep.Cut
import Derived.Lib.Hide
import Derived.Laws.CopyOwn
namespace Go.Proofs.Ytmmejomalfjcnaa
open Go.RowKit

def flag (b : Bool) (n : Int) : Int := if b then n else 0
/-- The word of a mapping that may be. -/
def mapWord (va : Int) (wr ex : Bool) : Int := va + 1 + flag wr 2 + flag ex 4

set_option maxHeartbeats 400000 in
theorem space_Word_yes (va : Int) (wr ex : Bool) (w : World) (hu : U32 va) (h1 : va % 4096 = 0) (h2 : va < 1073741824) :
    Calls Try.prog 17 #[.agg #[.int .u32 va, .bool wr, .bool ex]] w fun e w' => e = .returned (.tuple #[.int .u32 (mapWord va wr ex), .int .i64 0]) ∧ Below w.heap.size w w' := by
  have t1 : (va % 4096 != 0) = false := by simp [h1]
  have t2 : ¬ (1073741824 ≤ va) := by omega
  have t3 : decide (1073741824 ≤ va) = false := by simpa using t2
  have u := hu
  unfold U32 at hu
  have e1 : bits .or .u32 va 1 = va + 1 := or_bit 0 rfl (by omega) u (by omega)
  have e2 : bits .or .u32 (va + 1) 2 = va + 1 + 2 := or_bit 1 rfl (by omega) (by unfold U32; omega) (by omega)
  have e3 : bits .or .u32 (va + 1) 4 = va + 1 + 4 := or_bit 2 rfl (by omega) (by unfold U32; omega) (by omega)
  have e4 : bits .or .u32 (va + 1 + 2) 4 = va + 1 + 2 + 4 := or_bit 2 rfl (by omega) (by unfold U32; omega) (by omega)
  obtain ⟨u1, u2⟩ := hu
  clear h1 u
  cases wr <;> cases ex
  all_goals
    go_enter Try.func17, Try.ntmps17
    go_wp2
    go_ret2
    exact ⟨ret_tup (by simp [mapWord, flag]), (Below.refl _ _).alloc (Nat.le_refl _) _⟩

theorem space_Word_no (va : Int) (wr ex : Bool) (w : World) (hu : U32 va) (h : ¬ (va % 4096 = 0 ∧ va < 1073741824)) :
    Calls Try.prog 17 #[.agg #[.int .u32 va, .bool wr, .bool ex]] w fun e w' => e = .returned (.tuple #[.int .u32 0, .int .i64 91]) ∧ Below w.heap.size w w' := by
  obtain ⟨u1, u2⟩ := hu
  by_cases h1 : va % 4096 = 0
  · have t1 : (va % 4096 != 0) = false := by simp [h1]
    have t2 : 1073741824 ≤ va := by omega
    clear h h1
    go_enter Try.func17, Try.ntmps17
    go_wp2
    go_ret2
    exact ⟨rfl, (Below.refl _ _).alloc (Nat.le_refl _) _⟩
  · have t1 : (va % 4096 != 0) = true := by simp [h1]
    clear h h1
    go_enter Try.func17, Try.ntmps17
    go_wp2
    go_ret2
    exact ⟨rfl, (Below.refl _ _).alloc (Nat.le_refl _) _⟩

theorem sp_size : (Try.prog.info? 32).map (·.size) = some 3 := by kernel_rfl
def pVA (w : Int) : Int := w - w % 4096
def pWr (w : Int) : Bool := w / 2 % 2 == 1
def pEx (w : Int) : Bool := w / 4 % 2 == 1
/-- Is the word a mapping's? -/
def isMap (w : Int) : Bool := w < 1073741824 && mapWord (pVA w) (pWr w) (pEx w) == w

theorem pVA_U32 {w : Int} (h : U32 w) : U32 (pVA w) ∧ pVA w % 4096 = 0 := by unfold U32 pVA at *; omega

theorem parse_facts {w : Int} (hu : U32 w) : bits .andNot .u32 w 4095 = pVA w ∧ (bits .and .u32 w 2 != 0) = pWr w ∧ (bits .and .u32 w 4 != 0) = pEx w := by
  refine ⟨andNot_low 12 rfl (by omega) hu, ?_, ?_⟩
  · rw [and_bit (m := 2) 1 rfl (by omega) hu, pWr, Bool.eq_iff_iff, bne_iff_ne, beq_iff_eq]; unfold U32 at hu; omega
  · rw [and_bit (m := 4) 2 rfl (by omega) hu, pEx, Bool.eq_iff_iff, bne_iff_ne, beq_iff_eq]; unfold U32 at hu; omega

set_option maxHeartbeats 400000 in
theorem space_Parse_yes (x : Int) (w : World) (hu : U32 x) (h : isMap x = true) :
    Calls Try.prog 18 #[.int .u32 x] w fun e w' => e = .returned (.tuple #[.agg #[.int .u32 (pVA x), .bool (pWr x), .bool (pEx x)], .int .i64 0]) ∧ Below w.heap.size w w' := by
  obtain ⟨f1, f2, f3⟩ := parse_facts hu
  obtain ⟨v1, v2⟩ := pVA_U32 hu
  simp only [isMap, Bool.and_eq_true, decide_eq_true_eq, beq_iff_eq] at h
  have h1 : pVA x < 1073741824 := by unfold U32 at hu; unfold pVA; omega
  have hw := Lib.hid h.2
  have ht : (mapWord (pVA x) (pWr x) (pEx x) != x) = false := by simp [h.2]
  clear h
  generalize pVA x = va at *
  generalize pWr x = wr at *
  generalize pEx x = ex at *
  have V2 := Lib.hid v2
  clear v2
  go_enter Try.func18, Try.ntmps18
  go_wp2_with fail
  refine (space_Word_yes va wr ex _ v1 V2.out h1).mono ?_
  rintro e w1 ⟨rfl, hb1⟩
  have b1 : Below w.heap.size w w1 := (((Below.refl _ _).alloc (Nat.le_refl _) _).alloc (by simp) _).trans (hb1.mono (by simp; omega))
  have hc4 : w1.heap[w.heap.size + 1]? = some (.cells #[.int .u32 va, .bool wr, .bool ex] 32 (0, 0)) := below_row hb1 (heap_alloc2_new _ _ _) (by simp)
  have hc2 : w1.heap[w.heap.size]? = some (.cells #[.int .u32 0, .bool false, .bool false] 32 (0, 0)) := below_row hb1 (heap_alloc2_old _ _ _) (by simp; omega)
  clear hb1
  go_wp2_with (first | (with_reducible (refine wpList_load_row rfl 32 _ rfl _ rfl _ _ _ _ (by assumption) Try.underlying32 rfl (rsz sp_size (by simp)) ?_)) | (with_reducible (refine wpList_store_row rfl 32 _ _ rfl _ _ rfl rfl _ _ (by assumption) (rsz sp_size (by simp)) (by simp) (by simp [Value.oneCell']) ?_)))
  refine ret_row_tmp rfl (setRow_heap _ _ _ _ _ _ hc2) rfl (by kernel_rfl) (rsz sp_size (by simp)) rfl ⟨rfl, below_setRow b1 (Nat.le_refl _) _⟩

set_option maxHeartbeats 400000 in
theorem space_Parse_no (x : Int) (w : World) (hu : U32 x) (h : isMap x = false) :
    Calls Try.prog 18 #[.int .u32 x] w fun e w' => e = .returned (.tuple #[.agg #[.int .u32 0, .bool false, .bool false], .int .i64 142]) ∧ Below w.heap.size w w' := by
  obtain ⟨f1, f2, f3⟩ := parse_facts hu
  obtain ⟨v1, v2⟩ := pVA_U32 hu
  by_cases h1 : pVA x < 1073741824
  · have hl : x < 1073741824 := by unfold U32 at hu; unfold pVA at h1; omega
    have ht : (mapWord (pVA x) (pWr x) (pEx x) != x) = true := by simpa [isMap, hl] using h
    clear h hl
    generalize pVA x = va at *
    generalize pWr x = wr at *
    generalize pEx x = ex at *
    have V2 := Lib.hid v2
    clear v2
    go_enter Try.func18, Try.ntmps18
    go_wp2_with fail
    refine (space_Word_yes va wr ex _ v1 V2.out h1).mono ?_
    rintro e w1 ⟨rfl, hb1⟩
    have b1 : Below w.heap.size w w1 := (((Below.refl _ _).alloc (Nat.le_refl _) _).alloc (by simp) _).trans (hb1.mono (by simp; omega))
    have hc2 : w1.heap[w.heap.size]? = some (.cells #[.int .u32 0, .bool false, .bool false] 32 (0, 0)) := below_row hb1 (heap_alloc2_old _ _ _) (by simp; omega)
    clear hb1
    go_wp2_with (first | (with_reducible (refine wpList_store_row rfl 32 _ _ rfl _ _ rfl rfl _ _ (by assumption) (rsz sp_size (by simp)) (by simp) (by simp [Value.oneCell']) ?_)))
    refine ret_row_tmp rfl (setRow_heap _ _ _ _ _ _ hc2) rfl (by kernel_rfl) (rsz sp_size (by simp)) rfl ⟨rfl, below_setRow b1 (Nat.le_refl _) _⟩
  · have hno : ¬ (pVA x % 4096 = 0 ∧ pVA x < 1073741824) := fun h => h1 h.2
    clear h
    generalize pVA x = va at *
    generalize pWr x = wr at *
    generalize pEx x = ex at *
    have V2 := Lib.hid v2
    have NO := Lib.hid hno
    clear v2 hno h1
    go_enter Try.func18, Try.ntmps18
    go_wp2_with fail
    refine (space_Word_no va wr ex _ v1 NO.out).mono ?_
    rintro e w1 ⟨rfl, hb1⟩
    have b1 : Below w.heap.size w w1 := (((Below.refl _ _).alloc (Nat.le_refl _) _).alloc (by simp) _).trans (hb1.mono (by simp; omega))
    have hc2 : w1.heap[w.heap.size]? = some (.cells #[.int .u32 0, .bool false, .bool false] 32 (0, 0)) := below_row hb1 (heap_alloc2_old _ _ _) (by simp; omega)
    clear hb1
    go_wp2_with (first | (with_reducible (refine wpList_store_row rfl 32 _ _ rfl _ _ rfl rfl _ _ (by assumption) (rsz sp_size (by simp)) (by simp) (by simp [Value.oneCell']) ?_)))
    refine ret_row_tmp rfl (setRow_heap _ _ _ _ _ _ hc2) rfl (by kernel_rfl) (rsz sp_size (by simp)) rfl ⟨rfl, below_setRow b1 (Nat.le_refl _) _⟩

theorem mapWord_back {va : Int} {a b : Bool} (h1 : va % 4096 = 0) (h2 : va < 1073741824) (hu : U32 va) :
    pVA (mapWord va a b) = va ∧ pWr (mapWord va a b) = a ∧ pEx (mapWord va a b) = b ∧ U32 (mapWord va a b) ∧ isMap (mapWord va a b) = true ∧
    (bits .and .u32 (mapWord va a b) 4294963200 != va) = false ∧ (bits .and .u32 (mapWord va a b) 1 != 1) = false ∧ (bits .and .u32 (mapWord va a b) 2 != 0) = a ∧ (bits .and .u32 (mapWord va a b) 4 != 0) = b := by
  have hU : U32 (mapWord va a b) := by unfold U32 at *; unfold mapWord flag; cases a <;> cases b <;> simp <;> omega
  have e1 : pVA (mapWord va a b) = va := by unfold pVA mapWord flag; cases a <;> cases b <;> simp <;> omega
  have e2 : pWr (mapWord va a b) = a := by unfold pWr mapWord flag; cases a <;> cases b <;> simp <;> omega
  have e3 : pEx (mapWord va a b) = b := by unfold pEx mapWord flag; cases a <;> cases b <;> simp <;> omega
  obtain ⟨_, f2, f3⟩ := parse_facts hU
  refine ⟨e1, e2, e3, hU, ?_, ?_, ?_, by rw [f2, e2], by rw [f3, e3]⟩
  · have : mapWord va a b < 1073741824 := by unfold U32 at *; unfold mapWord flag; cases a <;> cases b <;> simp <;> omega
    simp [isMap, e1, e2, e3, this]
  · rw [and_high 12 (by decide) (by omega) hU]
    have : mapWord va a b - mapWord va a b % 2 ^ 12 = va := e1
    rw [this]; simp
  · rw [and_mask 1 (by decide) (by omega) hU]
    have : mapWord va a b % 2 = 1 := by unfold mapWord flag; cases a <;> cases b <;> simp <;> omega
    simp [this]

set_option maxHeartbeats 400000 in
theorem space_head (w : World) : Calls Try.prog 16 #[] w fun e w' => e = .returned (.bool true) ∧ Below w.heap.size w w' := by
  go_enter Try.func16, Try.ntmps16
  go_wp2_with fail
  refine (space_Word_yes 20480 true false _ (by decide) (by decide) (by decide)).mono ?_
  rintro e w1 ⟨rfl, hb1⟩
  have hm : mapWord 20480 true false = 20483 := by decide
  rw [hm]
  clear hm
  go_wp2_with fail
  refine (space_Parse_no 20482 _ (by decide) (by decide)).mono ?_
  rintro e w2 ⟨rfl, hb2⟩
  go_wp2_with fail
  go_ret
  have s1 := hb1.size
  have s2 := hb2.size
  exact ⟨rfl, (hb1.trans (hb2.mono s1)).alloc (by omega) _⟩
end Go.Proofs.Ytmmejomalfjcnaa
