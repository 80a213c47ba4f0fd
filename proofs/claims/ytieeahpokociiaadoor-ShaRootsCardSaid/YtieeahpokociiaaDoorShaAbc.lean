/- One sum that is known. No condition. -/
import Derived.Test.YtieeahpokociiaaDoorShaP
import Derived.Lib.SlBytesConst
import Derived.ProofKit
import Derived.KernelRfl
namespace Go.Proofs.YtieeahpokociiaaDoor
open Go.RowKit Sx
set_option linter.unusedVariables false
set_option maxRecDepth 100000
set_option maxHeartbeats 4000000
theorem abc_sum : sumW (wB [97, 98, 99] 0) (lastB [97, 98, 99]) 24 = [3128432319, 2399260650, 1094795486, 1571693091, 2953011619, 2518121116, 3021012833, 4060091821] := by kernel_rfl
theorem reads_new (w : World) (e : TypeId) (fr : Nat × Nat) (a b c : Int) : Reads (w.alloc (.cells #[.int .u8 a, .int .u8 b, .int .u8 c] e fr)) (fun _ => False) .u8 (.slice (some ⟨w.heap.size, 0, none⟩) 3 3) [a, b, c] := by
  refine .inr ⟨w.heap.size, 0, 3, rfl, Nat.le_refl _, (by show w.heap.size < (w.heap.push _).size; rw [Array.size_push]; omega), id, fun j hj => ?_⟩
  have : (w.alloc (.cells #[.int .u8 a, .int .u8 b, .int .u8 c] e fr)).heap[w.heap.size]? = some (.cells #[.int .u8 a, .int .u8 b, .int .u8 c] e fr) := by
    show (w.heap.push _)[w.heap.size]? = _
    simp
  have hj : j < 3 := hj
  simp only [World.cell?, this]
  rcases (by omega : j = 0 ∨ j = 1 ∨ j = 2) with rfl | rfl | rfl <;> rfl
theorem abc_call (w : World) (hg : Globs w fun _ => False) : Calls Tryd.prog 10 #[] w fun e w' => e = .returned (.bool true) ∧ Below w.heap.size w w' := by
  have bb : Below w.heap.size w w := Below.refl _ _
  have kc := fun (w : World) (C : Array Value) (n c : Nat) => Lib.run_convert_bytes_const (P := Tryd.prog) w 31 5 C n c Tryd.underlying31 Tryd.underlying5
  have heq : ∀ w : World, (Op.equalIn 10000 23 (.agg #[.int .u32 3128432319, .int .u32 2399260650, .int .u32 1094795486, .int .u32 1571693091, .int .u32 2953011619, .int .u32 2518121116, .int .u32 3021012833, .int .u32 4060091821]) (.agg #[.int .u32 3128432319, .int .u32 2399260650, .int .u32 1094795486, .int .u32 1571693091, .int .u32 2953011619, .int .u32 2518121116, .int .u32 3021012833, .int .u32 4060091821])).run Tryd.prog w = .ok true w := fun w =>
    run_equalIn_flat (P := Tryd.prog) (n := 8) (t := 23) (ks := List.replicate 8 (some .u32)) (xs := [.int .u32 3128432319, .int .u32 2399260650, .int .u32 1094795486, .int .u32 1571693091, .int .u32 2953011619, .int .u32 2518121116, .int .u32 3021012833, .int .u32 4060091821]) (ys := [.int .u32 3128432319, .int .u32 2399260650, .int .u32 1094795486, .int .u32 1571693091, .int .u32 2953011619, .int .u32 2518121116, .int .u32 3021012833, .int .u32 4060091821]) w (by kernel_rfl) (by kernel_rfl) (by decide) ⟨⟨_, rfl, rfl⟩, ⟨_, rfl, rfl⟩, ⟨_, rfl, rfl⟩, ⟨_, rfl, rfl⟩, ⟨_, rfl, rfl⟩, ⟨_, rfl, rfl⟩, ⟨_, rfl, rfl⟩, ⟨_, rfl, rfl⟩, trivial⟩ ⟨⟨_, rfl, rfl⟩, ⟨_, rfl, rfl⟩, ⟨_, rfl, rfl⟩, ⟨_, rfl, rfl⟩, ⟨_, rfl, rfl⟩, ⟨_, rfl, rfl⟩, ⟨_, rfl, rfl⟩, ⟨_, rfl, rfl⟩, trivial⟩ true (by simp)
  go_enter Tryd.func10, Tryd.ntmps10
  go_wp2_with fail
  have hres : den Num.zero (.agg [.int .u32 ((sumW (wB [97, 98, 99] 0) (lastB [97, 98, 99]) 24).getD 0 0), .int .u32 ((sumW (wB [97, 98, 99] 0) (lastB [97, 98, 99]) 24).getD 1 0), .int .u32 ((sumW (wB [97, 98, 99] 0) (lastB [97, 98, 99]) 24).getD 2 0), .int .u32 ((sumW (wB [97, 98, 99] 0) (lastB [97, 98, 99]) 24).getD 3 0), .int .u32 ((sumW (wB [97, 98, 99] 0) (lastB [97, 98, 99]) 24).getD 4 0), .int .u32 ((sumW (wB [97, 98, 99] 0) (lastB [97, 98, 99]) 24).getD 5 0), .int .u32 ((sumW (wB [97, 98, 99] 0) (lastB [97, 98, 99]) 24).getD 6 0), .int .u32 ((sumW (wB [97, 98, 99] 0) (lastB [97, 98, 99]) 24).getD 7 0)]) = .agg #[.int .u32 3128432319, .int .u32 2399260650, .int .u32 1094795486, .int .u32 1571693091, .int .u32 2953011619, .int .u32 2518121116, .int .u32 3021012833, .int .u32 4060091821] := by
    rw [abc_sum]; rfl
  have hal : Below w.heap.size w (w.alloc (.cells #[.int .u8 97, .int .u8 98, .int .u8 99] 5 (3, 4))) := bb.alloc (Nat.le_refl _) _
  refine (pure_law (SumBytes_ok (.slice (some ⟨w.heap.size, 0, none⟩) 3 3) [97, 98, 99] (by simp) (by intro x hx; simp only [InK]; simp at hx; omega)) (w.alloc (.cells #[.int .u8 97, .int .u8 98, .int .u8 99] 5 (3, 4))) ?_ ⟨reads_new w _ _ _ _ _, trivial⟩).mono ?_
  · intro g cs h
    obtain ⟨h1, c, ty, fr, h2, h3⟩ := hg g cs h
    refine ⟨id, c, ty, fr, ?_, h3⟩
    have hlt := (Array.getElem?_eq_some_iff.1 h2).1
    show (w.heap.push _)[g]? = _
    rw [Array.getElem?_push, if_neg (by omega)]; exact h2
  rintro e w1 ⟨rfl, bel⟩
  have hres2 := hres
  change den Num.zero _ = _ at hres
  erw [hres]
  go_wp2_with fail
  go_ret
  exact ⟨rfl, hal.trans (bel.mono (by show w.heap.size ≤ (w.heap.push _).size; rw [Array.size_push]; omega))⟩
end Go.Proofs.YtieeahpokociiaaDoor
