/- One tag that is known (RFC 4231). No condition. -/
import Derived.Test.YtheeaplnobdpoaaDoorMacE
import Derived.Lib.SlBytesConst
import Derived.ProofKit
import Derived.KernelRfl
namespace Go.Proofs.YtheeaplnobdpoaaDoor
open Go.RowKit Sx
set_option linter.unusedVariables false
set_option maxRecDepth 100000
set_option maxHeartbeats 4000000
def jK : List Int := [74, 101, 102, 101]
def jM : List Int := [119, 104, 97, 116, 32, 100, 111, 32, 121, 97, 32, 119, 97, 110, 116, 32, 102, 111, 114, 32, 110, 111, 116, 104, 105, 110, 103, 63]
def jP (pad : Int) : List Int := (zK jK).map fun x => bits .xor .u8 x pad
def jD : List Int := [2732885382, 1026030040, 1689030016, 607298029, 1199410252, 1865719062, 3571968279, 3324627671]
def jT : List Int := [1541194054, 3210769742, 1778656294, 144012743, 1509965576, 2636593539, 2649512121, 1693202499]
theorem jP_eq (pad : Int) : padS jK pad = jP pad := by
  have h : keyS jK = jK := by unfold keyS; rw [if_neg (by decide)]
  unfold padS; rw [h]; rfl
theorem j1 : sumW (wB (jP 54 ++ jM) ((jP 54 ++ jM).length / 4)) (lastB (jP 54 ++ jM)) (8 * ((jP 54 ++ jM).length : Int)) = jD := by kernel_rfl
theorem j2 : sumW (wB (jP 92 ++ bO jD) ((jP 92 ++ bO jD).length / 4)) (lastB (jP 92 ++ bO jD)) (8 * ((jP 92 ++ bO jD).length : Int)) = jT := by kernel_rfl
theorem jefe : tagV jK jM = jT := by
  rw [tagV_eq, jP_eq, jP_eq, sV_eq (jP 54 ++ jM)]
  have e1 : s8 (jP 54 ++ jM) = jD := by unfold s8; rw [j1]; rfl
  have e2 : e8 jD = jD := rfl
  rw [e1, e2, bV_eq, sV_eq]
  unfold s8
  rw [j2]
  rfl
/-- A handle under no key is one. -/
theorem new_law (w : World) (hg : Globs w fun _ => False) : Calls Tryd.prog 18 #[.slice none 0 0] w fun e w' => (∃ b, e = .returned (.pointer (some b))) ∧ Below w.heap.size w w' := by
  have h := NewMac_ok (.slice none 0 0) [] (by simp) w (fun _ => False) Num.zero w ⟨Frm.refl _ _, hg, fun i r h => by simp at h, fun i j r q h => by simp at h, fun i r h => by simp at h, ⟨fun _ _ => False, fun i r x h => by simp at h⟩⟩ ⟨Or.inl ⟨none, 0, rfl, rfl, fun _ => rfl⟩, trivial⟩
  refine h.mono ?_
  rintro e w' ⟨ρ', res, rows', ⟨x, hx, _, rfl, rfl⟩, rfl, _, hmem, _, _⟩
  simp only [List.mem_cons, List.not_mem_nil, or_false] at hx
  subst hx
  exact ⟨⟨_, rfl⟩, hmem.frame.os, hmem.frame.tape, hmem.frame.output, hmem.frame.size, fun k hk => hmem.frame.block k hk id⟩
end Go.Proofs.YtheeaplnobdpoaaDoor
