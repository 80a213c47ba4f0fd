/- The head of the laws of layer 11: the constants, and one entry's words. -/
import Derived.Test.YtmmejomalfjcnaaEntryCode
namespace Go.Proofs.Ytmmejomalfjcnaa
open Go.RowKit
set_option linter.unusedVariables false

set_option maxHeartbeats 400000 in
theorem entry_numbers (w : World) : Calls Try.prog 56 #[] w fun e w' => e = .returned (.bool true) ∧ w = w' := by
  go_enter Try.func56, Try.ntmps56
  go_wp2
  go_ret
  exact ⟨rfl, rfl⟩
theorem entry_numbers_b (w : World) : Calls Try.prog 56 #[] w fun e w' => e = .returned (.bool true) ∧ Below w.heap.size w w' :=
  (entry_numbers w).mono fun _ _ h => ⟨h.1, by rw [← h.2]; exact Below.refl _ _⟩

set_option maxRecDepth 100000 in
set_option maxHeartbeats 400000 in
theorem entry_head (w : World) : Calls Try.prog 23 #[] w fun e w' => e = .returned (.bool true) ∧ Below w.heap.size w w' := by
  have bb : Below w.heap.size w w := Below.refl _ _
  have HC := fun w => entry_Encode_yes 1 5 2 2 false w (by decide) (by decide) (by decide) (by decide) (by decide)
  rw [show entW 1 5 2 false = 327713 from rfl] at HC
  replace HC := Lib.hid HC
  have hq := fun w => w2_eq (a := 327713) (b := 2) (a' := 327713) (b' := 2) (by decide) (by decide) (by decide) (by decide) true (by simp) w
  go_enter Try.func23, Try.ntmps23
  go_wp2_with fail
  refine (HC.out _).mono ?_
  rintro e w1 ⟨rfl, hb⟩
  replace bb := bb.trans (hb.mono (by first | omega | (simp; done) | (simp; omega)))
  have s_w1 : w.heap.size + 0 ≤ w1.heap.size := by have := hb.size; first | omega | (simp at this; omega)
  clear hb
  go_wp2_with fail
  refine (entry_numbers_b _).mono ?_
  rintro e w2 ⟨rfl, hb⟩
  have c1 := below_row hb (heap_alloc_new _ _) (by first | omega | (simp; done) | (simp; omega))
  replace bb := (bb.alloc (by first | omega | (simp; done) | (simp; omega)) _).trans (hb.mono (by first | omega | (simp; done) | (simp; omega)))
  have s_w2 : w1.heap.size + 1 ≤ w2.heap.size := by have := hb.size; first | omega | (simp at this; omega)
  clear hb
  try clear ic1 jc1 lc1
  obtain ⟨ic1, jc1, lc1⟩ := row_cells c1
  go_wp2_with fail
  go_ret
  exact ⟨rfl, bb⟩
end Go.Proofs.Ytmmejomalfjcnaa
