/- The tag that is known, the program's. No condition. -/
import Derived.Test.YtheeaplnobdpoaaDoorMacF
import Derived.Lib.SlBytesConst
import Derived.ProofKit
import Derived.KernelRfl
namespace Go.Proofs.YtheeaplnobdpoaaDoor
open Go.RowKit Sx
set_option linter.unusedVariables false
set_option maxRecDepth 100000
set_option maxHeartbeats 4000000
theorem reads_cells {W : World} {b : Nat} {c : Array Value} {ty : TypeId} {fr : Nat × Nat} {xs : List Int} (h : W.heap[b]? = some (.cells c ty fr)) (hc : ∀ j, j < xs.length → c[j]? = some (.int .u8 (xs.getD j 0))) : Reads W (fun _ => False) .u8 (.slice (some ⟨b, 0, none⟩) xs.length xs.length) xs := by
  refine .inr ⟨b, 0, xs.length, rfl, Nat.le_refl _, (Array.getElem?_eq_some_iff.1 h).1, id, fun j hj => ?_⟩
  simp only [World.cell?, h]
  rw [Nat.zero_add]
  exact hc j hj
theorem globs_below {w w' : World} (hg : Globs w fun _ => False) (h : Below w.heap.size w w') : Globs w' fun _ => False := by
  intro g cs hh
  obtain ⟨h1, c, ty, fr, h2, h3⟩ := hg g cs hh
  exact ⟨id, c, ty, fr, by rw [h.block g (Array.getElem?_eq_some_iff.1 h2).1]; exact h2, h3⟩
theorem first_call (w : World) (hg : Globs w fun _ => False) : Calls Tryd.prog 14 #[] w fun e w' => e = .returned (.bool true) ∧ Below w.heap.size w w' := by
  have bb : Below w.heap.size w w := Below.refl _ _
  have kc := fun (w : World) (C : Array Value) (n c : Nat) => Lib.run_convert_bytes_const (P := Tryd.prog) w 26 5 C n c Tryd.underlying26 Tryd.underlying5
  have kc2 := fun (w : World) (A : Obj) (C : Array Value) (n c : Nat) => by
    have h := kc (w.alloc A) C n c
    rw [show (w.alloc A).heap.size = w.heap.size + 1 from Array.size_push _] at h
    exact h
  have heq : ∀ w : World, (Op.equalIn 10000 29 (.agg #[.int .u32 1541194054, .int .u32 3210769742, .int .u32 1778656294, .int .u32 144012743, .int .u32 1509965576, .int .u32 2636593539, .int .u32 2649512121, .int .u32 1693202499]) (.agg #[.int .u32 1541194054, .int .u32 3210769742, .int .u32 1778656294, .int .u32 144012743, .int .u32 1509965576, .int .u32 2636593539, .int .u32 2649512121, .int .u32 1693202499])).run Tryd.prog w = .ok true w := fun w =>
    run_equalIn_flat (P := Tryd.prog) (n := 8) (t := 29) (ks := List.replicate 8 (some .u32)) (xs := [.int .u32 1541194054, .int .u32 3210769742, .int .u32 1778656294, .int .u32 144012743, .int .u32 1509965576, .int .u32 2636593539, .int .u32 2649512121, .int .u32 1693202499]) (ys := [.int .u32 1541194054, .int .u32 3210769742, .int .u32 1778656294, .int .u32 144012743, .int .u32 1509965576, .int .u32 2636593539, .int .u32 2649512121, .int .u32 1693202499]) w (by kernel_rfl) (by kernel_rfl) (by decide) ⟨⟨_, rfl, rfl⟩, ⟨_, rfl, rfl⟩, ⟨_, rfl, rfl⟩, ⟨_, rfl, rfl⟩, ⟨_, rfl, rfl⟩, ⟨_, rfl, rfl⟩, ⟨_, rfl, rfl⟩, ⟨_, rfl, rfl⟩, trivial⟩ ⟨⟨_, rfl, rfl⟩, ⟨_, rfl, rfl⟩, ⟨_, rfl, rfl⟩, ⟨_, rfl, rfl⟩, ⟨_, rfl, rfl⟩, ⟨_, rfl, rfl⟩, ⟨_, rfl, rfl⟩, ⟨_, rfl, rfl⟩, trivial⟩ true (by simp)
  go_enter Tryd.func14, Tryd.ntmps14
  go_wp2_with fail
  refine (new_law w hg).mono ?_
  rintro e w1 ⟨⟨b, rfl⟩, bel1⟩
  go_wp2_with fail
  have belA : Below w.heap.size w (w1.alloc (.cells #[.int .u8 74, .int .u8 101, .int .u8 102, .int .u8 101] 5 (4, 5))) := bel1.alloc bel1.size _
  have sA : (w1.alloc (.cells #[.int .u8 74, .int .u8 101, .int .u8 102, .int .u8 101] 5 (4, 5))).heap.size = w1.heap.size + 1 := Array.size_push _
  have belB : Below w.heap.size w ((w1.alloc (.cells #[.int .u8 74, .int .u8 101, .int .u8 102, .int .u8 101] 5 (4, 5))).alloc (.cells #[.int .u8 119, .int .u8 104, .int .u8 97, .int .u8 116, .int .u8 32, .int .u8 100, .int .u8 111, .int .u8 32, .int .u8 121, .int .u8 97, .int .u8 32, .int .u8 119, .int .u8 97, .int .u8 110, .int .u8 116, .int .u8 32, .int .u8 102, .int .u8 111, .int .u8 114, .int .u8 32, .int .u8 110, .int .u8 111, .int .u8 116, .int .u8 104, .int .u8 105, .int .u8 110, .int .u8 103, .int .u8 63] 5 (28, 29))) := belA.alloc belA.size _
  have hA : ((w1.alloc (.cells #[.int .u8 74, .int .u8 101, .int .u8 102, .int .u8 101] 5 (4, 5))).alloc (.cells #[.int .u8 119, .int .u8 104, .int .u8 97, .int .u8 116, .int .u8 32, .int .u8 100, .int .u8 111, .int .u8 32, .int .u8 121, .int .u8 97, .int .u8 32, .int .u8 119, .int .u8 97, .int .u8 110, .int .u8 116, .int .u8 32, .int .u8 102, .int .u8 111, .int .u8 114, .int .u8 32, .int .u8 110, .int .u8 111, .int .u8 116, .int .u8 104, .int .u8 105, .int .u8 110, .int .u8 103, .int .u8 63] 5 (28, 29))).heap[w1.heap.size]? = some (.cells #[.int .u8 74, .int .u8 101, .int .u8 102, .int .u8 101] 5 (4, 5)) := by
    show ((w1.heap.push _).push _)[w1.heap.size]? = _
    rw [Array.getElem?_push, if_neg (by rw [Array.size_push]; omega), Array.getElem?_push, if_pos rfl]
  have hB : ((w1.alloc (.cells #[.int .u8 74, .int .u8 101, .int .u8 102, .int .u8 101] 5 (4, 5))).alloc (.cells #[.int .u8 119, .int .u8 104, .int .u8 97, .int .u8 116, .int .u8 32, .int .u8 100, .int .u8 111, .int .u8 32, .int .u8 121, .int .u8 97, .int .u8 32, .int .u8 119, .int .u8 97, .int .u8 110, .int .u8 116, .int .u8 32, .int .u8 102, .int .u8 111, .int .u8 114, .int .u8 32, .int .u8 110, .int .u8 111, .int .u8 116, .int .u8 104, .int .u8 105, .int .u8 110, .int .u8 103, .int .u8 63] 5 (28, 29))).heap[w1.heap.size + 1]? = some (.cells #[.int .u8 119, .int .u8 104, .int .u8 97, .int .u8 116, .int .u8 32, .int .u8 100, .int .u8 111, .int .u8 32, .int .u8 121, .int .u8 97, .int .u8 32, .int .u8 119, .int .u8 97, .int .u8 110, .int .u8 116, .int .u8 32, .int .u8 102, .int .u8 111, .int .u8 114, .int .u8 32, .int .u8 110, .int .u8 111, .int .u8 116, .int .u8 104, .int .u8 105, .int .u8 110, .int .u8 103, .int .u8 63] 5 (28, 29)) := by
    show ((w1.heap.push _).push _)[w1.heap.size + 1]? = _
    rw [Array.getElem?_push, if_pos (by rw [Array.size_push])]
  have r1 := reads_cells (xs := jK) hA (fun j hj => by
    have hj : j < 4 := hj
    rcases (by omega : j = 0 ∨ j = 1 ∨ j = 2 ∨ j = 3) with rfl | rfl | rfl | rfl <;> rfl)
  have r2 := reads_cells (xs := jM) hB (fun j hj => by
    have hj : j < 28 := hj
    rcases (by omega : j = 0 ∨ j = 1 ∨ j = 2 ∨ j = 3 ∨ j = 4 ∨ j = 5 ∨ j = 6 ∨ j = 7 ∨ j = 8 ∨ j = 9 ∨ j = 10 ∨ j = 11 ∨ j = 12 ∨ j = 13 ∨ j = 14 ∨ j = 15 ∨ j = 16 ∨ j = 17 ∨ j = 18 ∨ j = 19 ∨ j = 20 ∨ j = 21 ∨ j = 22 ∨ j = 23 ∨ j = 24 ∨ j = 25 ∨ j = 26 ∨ j = 27) with rfl | rfl | rfl | rfl | rfl | rfl | rfl | rfl | rfl | rfl | rfl | rfl | rfl | rfl | rfl | rfl | rfl | rfl | rfl | rfl | rfl | rfl | rfl | rfl | rfl | rfl | rfl | rfl <;> rfl)
  have hres : den Num.zero (.agg [.int .u32 ((tagV jK jM).getD 0 0), .int .u32 ((tagV jK jM).getD 1 0), .int .u32 ((tagV jK jM).getD 2 0), .int .u32 ((tagV jK jM).getD 3 0), .int .u32 ((tagV jK jM).getD 4 0), .int .u32 ((tagV jK jM).getD 5 0), .int .u32 ((tagV jK jM).getD 6 0), .int .u32 ((tagV jK jM).getD 7 0)]) = .agg #[.int .u32 1541194054, .int .u32 3210769742, .int .u32 1778656294, .int .u32 144012743, .int .u32 1509965576, .int .u32 2636593539, .int .u32 2649512121, .int .u32 1693202499] := by
    rw [jefe]; rfl
  refine (pure_law (TagBytes_ok (.slice (some ⟨w1.heap.size, 0, none⟩) 4 4) jK (.slice (some ⟨w1.heap.size + 1, 0, none⟩) 28 28) jM (by decide) (by decide) (fun x hx => by simp only [InK]; simp [jK] at hx; omega) (fun x hx => by simp only [InK]; simp [jM] at hx; omega)) ((w1.alloc (.cells #[.int .u8 74, .int .u8 101, .int .u8 102, .int .u8 101] 5 (4, 5))).alloc (.cells #[.int .u8 119, .int .u8 104, .int .u8 97, .int .u8 116, .int .u8 32, .int .u8 100, .int .u8 111, .int .u8 32, .int .u8 121, .int .u8 97, .int .u8 32, .int .u8 119, .int .u8 97, .int .u8 110, .int .u8 116, .int .u8 32, .int .u8 102, .int .u8 111, .int .u8 114, .int .u8 32, .int .u8 110, .int .u8 111, .int .u8 116, .int .u8 104, .int .u8 105, .int .u8 110, .int .u8 103, .int .u8 63] 5 (28, 29))) (globs_below hg belB) ⟨r1, r2, trivial⟩).mono ?_
  rintro e w2 ⟨rfl, bel2⟩
  change den Num.zero _ = _ at hres
  erw [hres]
  go_wp2_with fail
  have belC := belB.trans (bel2.mono belB.size)
  go_ret
  exact ⟨rfl, belC.alloc belC.size _⟩
end Go.Proofs.YtheeaplnobdpoaaDoor
