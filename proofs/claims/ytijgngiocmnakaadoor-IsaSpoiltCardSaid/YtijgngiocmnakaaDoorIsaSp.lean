/- Bits turned in words that are instructions. No condition. -/
import Derived.Test.YtijgngiocmnakaaDoorIsaP
import Derived.Test.YtijgngiocmnakaaDoorIsaXor
namespace Go.Proofs.YtijgngiocmnakaaDoor
open Go.RowKit Sx
set_option linter.unusedVariables false
set_option linter.unusedSimpArgs false
set_option maxRecDepth 100000
set_option maxHeartbeats 1000000
theorem sp_au {w X : Int} (k : Nat) (hk : k < 32) (hw : InK .u32 w) (hg : w / 67108864 = 1 ∨ w / 67108864 = 2) (h : okW w = true) (hX : X = if w / 2 ^ k % 2 = 0 then w + 2 ^ k else w - 2 ^ k) (hxu : InK .u32 X) (hx : okW X = true) : bits .and .u32 (4290838527 / 2 ^ k) 1 = 1 := by
  have h1 := ok_au hw hg h
  have h2 := fun e => ok_au hxu e hx
  simp only [InK] at hw hxu
  rcases (by omega : k = 0 ∨ k = 1 ∨ k = 2 ∨ k = 3 ∨ k = 4 ∨ k = 5 ∨ k = 6 ∨ k = 7 ∨ k = 8 ∨ k = 9 ∨ k = 10 ∨ k = 11 ∨ k = 12 ∨ k = 13 ∨ k = 14 ∨ k = 15 ∨ k = 16 ∨ k = 17 ∨ k = 18 ∨ k = 19 ∨ k = 20 ∨ k = 21 ∨ k = 22 ∨ k = 23 ∨ k = 24 ∨ k = 25 ∨ k = 26 ∨ k = 27 ∨ k = 28 ∨ k = 29 ∨ k = 30 ∨ k = 31) with rfl | rfl | rfl | rfl | rfl | rfl | rfl | rfl | rfl | rfl | rfl | rfl | rfl | rfl | rfl | rfl | rfl | rfl | rfl | rfl | rfl | rfl | rfl | rfl | rfl | rfl | rfl | rfl | rfl | rfl | rfl | rfl
  · exact (by kernel_rfl : bits .and .u32 (4290838527 / 2 ^ 0) 1 = 1)
  · exact (by kernel_rfl : bits .and .u32 (4290838527 / 2 ^ 1) 1 = 1)
  · exact (by kernel_rfl : bits .and .u32 (4290838527 / 2 ^ 2) 1 = 1)
  · exact (by kernel_rfl : bits .and .u32 (4290838527 / 2 ^ 3) 1 = 1)
  · exact (by kernel_rfl : bits .and .u32 (4290838527 / 2 ^ 4) 1 = 1)
  · exact (by kernel_rfl : bits .and .u32 (4290838527 / 2 ^ 5) 1 = 1)
  · exact (by kernel_rfl : bits .and .u32 (4290838527 / 2 ^ 6) 1 = 1)
  · exact (by kernel_rfl : bits .and .u32 (4290838527 / 2 ^ 7) 1 = 1)
  · exact (by kernel_rfl : bits .and .u32 (4290838527 / 2 ^ 8) 1 = 1)
  · exact (by kernel_rfl : bits .and .u32 (4290838527 / 2 ^ 9) 1 = 1)
  · exact (by kernel_rfl : bits .and .u32 (4290838527 / 2 ^ 10) 1 = 1)
  · exact (by kernel_rfl : bits .and .u32 (4290838527 / 2 ^ 11) 1 = 1)
  · exact (by kernel_rfl : bits .and .u32 (4290838527 / 2 ^ 12) 1 = 1)
  · exact (by kernel_rfl : bits .and .u32 (4290838527 / 2 ^ 13) 1 = 1)
  · exact (by kernel_rfl : bits .and .u32 (4290838527 / 2 ^ 14) 1 = 1)
  · exact (by kernel_rfl : bits .and .u32 (4290838527 / 2 ^ 15) 1 = 1)
  · exfalso
    rw [show (2 : Int) ^ 16 = 65536 from rfl] at hX
    split at hX <;> (have h3 := h2 (by omega); omega)
  · exfalso
    rw [show (2 : Int) ^ 17 = 131072 from rfl] at hX
    split at hX <;> (have h3 := h2 (by omega); omega)
  · exfalso
    rw [show (2 : Int) ^ 18 = 262144 from rfl] at hX
    split at hX <;> (have h3 := h2 (by omega); omega)
  · exfalso
    rw [show (2 : Int) ^ 19 = 524288 from rfl] at hX
    split at hX <;> (have h3 := h2 (by omega); omega)
  · exfalso
    rw [show (2 : Int) ^ 20 = 1048576 from rfl] at hX
    split at hX <;> (have h3 := h2 (by omega); omega)
  · exfalso
    rw [show (2 : Int) ^ 21 = 2097152 from rfl] at hX
    split at hX <;> (have h3 := h2 (by omega); omega)
  · exact (by kernel_rfl : bits .and .u32 (4290838527 / 2 ^ 22) 1 = 1)
  · exact (by kernel_rfl : bits .and .u32 (4290838527 / 2 ^ 23) 1 = 1)
  · exact (by kernel_rfl : bits .and .u32 (4290838527 / 2 ^ 24) 1 = 1)
  · exact (by kernel_rfl : bits .and .u32 (4290838527 / 2 ^ 25) 1 = 1)
  · exact (by kernel_rfl : bits .and .u32 (4290838527 / 2 ^ 26) 1 = 1)
  · exact (by kernel_rfl : bits .and .u32 (4290838527 / 2 ^ 27) 1 = 1)
  · exact (by kernel_rfl : bits .and .u32 (4290838527 / 2 ^ 28) 1 = 1)
  · exact (by kernel_rfl : bits .and .u32 (4290838527 / 2 ^ 29) 1 = 1)
  · exact (by kernel_rfl : bits .and .u32 (4290838527 / 2 ^ 30) 1 = 1)
  · exact (by kernel_rfl : bits .and .u32 (4290838527 / 2 ^ 31) 1 = 1)
theorem or_au {w : Int} (hw : InK .u32 w) (hg : w / 67108864 = 1 ∨ w / 67108864 = 2) (h : okW w = true) : okW (bits .or .u32 w 62914560) = false := by
  have h1 := ok_au hw hg h
  have e := oF22_4 (x := w) (by simpa [InK] using hw)
  cases hx : okW (bits .or .u32 w 62914560) with
  | false => rfl
  | true =>
    exfalso
    rw [e] at hx
    simp only [InK] at hw
    have h2 := ok_au (by simp only [InK]; omega) (by omega) hx
    omega
theorem sp_ab {w X : Int} (k : Nat) (hk : k < 32) (hw : InK .u32 w) (hg : w / 67108864 = 3 ∨ w / 67108864 = 19) (h : okW w = true) (hX : X = if w / 2 ^ k % 2 = 0 then w + 2 ^ k else w - 2 ^ k) (hxu : InK .u32 X) (hx : okW X = true) : bits .and .u32 (4294705152 / 2 ^ k) 1 = 1 := by
  have h1 := ok_ab hw hg h
  have h2 := fun e => ok_ab hxu e hx
  simp only [InK] at hw hxu
  rcases (by omega : k = 0 ∨ k = 1 ∨ k = 2 ∨ k = 3 ∨ k = 4 ∨ k = 5 ∨ k = 6 ∨ k = 7 ∨ k = 8 ∨ k = 9 ∨ k = 10 ∨ k = 11 ∨ k = 12 ∨ k = 13 ∨ k = 14 ∨ k = 15 ∨ k = 16 ∨ k = 17 ∨ k = 18 ∨ k = 19 ∨ k = 20 ∨ k = 21 ∨ k = 22 ∨ k = 23 ∨ k = 24 ∨ k = 25 ∨ k = 26 ∨ k = 27 ∨ k = 28 ∨ k = 29 ∨ k = 30 ∨ k = 31) with rfl | rfl | rfl | rfl | rfl | rfl | rfl | rfl | rfl | rfl | rfl | rfl | rfl | rfl | rfl | rfl | rfl | rfl | rfl | rfl | rfl | rfl | rfl | rfl | rfl | rfl | rfl | rfl | rfl | rfl | rfl | rfl
  · exfalso
    rw [show (2 : Int) ^ 0 = 1 from rfl] at hX
    split at hX <;> (have h3 := h2 (by omega); omega)
  · exfalso
    rw [show (2 : Int) ^ 1 = 2 from rfl] at hX
    split at hX <;> (have h3 := h2 (by omega); omega)
  · exfalso
    rw [show (2 : Int) ^ 2 = 4 from rfl] at hX
    split at hX <;> (have h3 := h2 (by omega); omega)
  · exfalso
    rw [show (2 : Int) ^ 3 = 8 from rfl] at hX
    split at hX <;> (have h3 := h2 (by omega); omega)
  · exfalso
    rw [show (2 : Int) ^ 4 = 16 from rfl] at hX
    split at hX <;> (have h3 := h2 (by omega); omega)
  · exfalso
    rw [show (2 : Int) ^ 5 = 32 from rfl] at hX
    split at hX <;> (have h3 := h2 (by omega); omega)
  · exfalso
    rw [show (2 : Int) ^ 6 = 64 from rfl] at hX
    split at hX <;> (have h3 := h2 (by omega); omega)
  · exfalso
    rw [show (2 : Int) ^ 7 = 128 from rfl] at hX
    split at hX <;> (have h3 := h2 (by omega); omega)
  · exfalso
    rw [show (2 : Int) ^ 8 = 256 from rfl] at hX
    split at hX <;> (have h3 := h2 (by omega); omega)
  · exfalso
    rw [show (2 : Int) ^ 9 = 512 from rfl] at hX
    split at hX <;> (have h3 := h2 (by omega); omega)
  · exfalso
    rw [show (2 : Int) ^ 10 = 1024 from rfl] at hX
    split at hX <;> (have h3 := h2 (by omega); omega)
  · exfalso
    rw [show (2 : Int) ^ 11 = 2048 from rfl] at hX
    split at hX <;> (have h3 := h2 (by omega); omega)
  · exfalso
    rw [show (2 : Int) ^ 12 = 4096 from rfl] at hX
    split at hX <;> (have h3 := h2 (by omega); omega)
  · exfalso
    rw [show (2 : Int) ^ 13 = 8192 from rfl] at hX
    split at hX <;> (have h3 := h2 (by omega); omega)
  · exfalso
    rw [show (2 : Int) ^ 14 = 16384 from rfl] at hX
    split at hX <;> (have h3 := h2 (by omega); omega)
  · exfalso
    rw [show (2 : Int) ^ 15 = 32768 from rfl] at hX
    split at hX <;> (have h3 := h2 (by omega); omega)
  · exfalso
    rw [show (2 : Int) ^ 16 = 65536 from rfl] at hX
    split at hX <;> (have h3 := h2 (by omega); omega)
  · exfalso
    rw [show (2 : Int) ^ 17 = 131072 from rfl] at hX
    split at hX <;> (have h3 := h2 (by omega); omega)
  · exact (by kernel_rfl : bits .and .u32 (4294705152 / 2 ^ 18) 1 = 1)
  · exact (by kernel_rfl : bits .and .u32 (4294705152 / 2 ^ 19) 1 = 1)
  · exact (by kernel_rfl : bits .and .u32 (4294705152 / 2 ^ 20) 1 = 1)
  · exact (by kernel_rfl : bits .and .u32 (4294705152 / 2 ^ 21) 1 = 1)
  · exact (by kernel_rfl : bits .and .u32 (4294705152 / 2 ^ 22) 1 = 1)
  · exact (by kernel_rfl : bits .and .u32 (4294705152 / 2 ^ 23) 1 = 1)
  · exact (by kernel_rfl : bits .and .u32 (4294705152 / 2 ^ 24) 1 = 1)
  · exact (by kernel_rfl : bits .and .u32 (4294705152 / 2 ^ 25) 1 = 1)
  · exact (by kernel_rfl : bits .and .u32 (4294705152 / 2 ^ 26) 1 = 1)
  · exact (by kernel_rfl : bits .and .u32 (4294705152 / 2 ^ 27) 1 = 1)
  · exact (by kernel_rfl : bits .and .u32 (4294705152 / 2 ^ 28) 1 = 1)
  · exact (by kernel_rfl : bits .and .u32 (4294705152 / 2 ^ 29) 1 = 1)
  · exact (by kernel_rfl : bits .and .u32 (4294705152 / 2 ^ 30) 1 = 1)
  · exact (by kernel_rfl : bits .and .u32 (4294705152 / 2 ^ 31) 1 = 1)
theorem or_ab {w : Int} (hw : InK .u32 w) (hg : w / 67108864 = 3 ∨ w / 67108864 = 19) (h : okW w = true) : okW (bits .or .u32 w 62914560) = false := by
  have h1 := ok_ab hw hg h
  have e := oF22_4 (x := w) (by simpa [InK] using hw)
  cases hx : okW (bits .or .u32 w 62914560) with
  | false => rfl
  | true =>
    exfalso
    rw [e] at hx
    simp only [InK] at hw
    have h2 := ok_ab (by simp only [InK]; omega) (by omega) hx
    omega
theorem sp_abc {w X : Int} (k : Nat) (hk : k < 32) (hw : InK .u32 w) (hg : w / 67108864 = 4 ∨ w / 67108864 = 5 ∨ w / 67108864 = 6 ∨ w / 67108864 = 7 ∨ w / 67108864 = 8 ∨ w / 67108864 = 9 ∨ w / 67108864 = 10 ∨ w / 67108864 = 11 ∨ w / 67108864 = 12 ∨ w / 67108864 = 13 ∨ w / 67108864 = 17 ∨ w / 67108864 = 18) (h : okW w = true) (hX : X = if w / 2 ^ k % 2 = 0 then w + 2 ^ k else w - 2 ^ k) (hxu : InK .u32 X) (hx : okW X = true) : bits .and .u32 (4294950912 / 2 ^ k) 1 = 1 := by
  have h1 := ok_abc hw hg h
  have h2 := fun e => ok_abc hxu e hx
  simp only [InK] at hw hxu
  rcases (by omega : k = 0 ∨ k = 1 ∨ k = 2 ∨ k = 3 ∨ k = 4 ∨ k = 5 ∨ k = 6 ∨ k = 7 ∨ k = 8 ∨ k = 9 ∨ k = 10 ∨ k = 11 ∨ k = 12 ∨ k = 13 ∨ k = 14 ∨ k = 15 ∨ k = 16 ∨ k = 17 ∨ k = 18 ∨ k = 19 ∨ k = 20 ∨ k = 21 ∨ k = 22 ∨ k = 23 ∨ k = 24 ∨ k = 25 ∨ k = 26 ∨ k = 27 ∨ k = 28 ∨ k = 29 ∨ k = 30 ∨ k = 31) with rfl | rfl | rfl | rfl | rfl | rfl | rfl | rfl | rfl | rfl | rfl | rfl | rfl | rfl | rfl | rfl | rfl | rfl | rfl | rfl | rfl | rfl | rfl | rfl | rfl | rfl | rfl | rfl | rfl | rfl | rfl | rfl
  · exfalso
    rw [show (2 : Int) ^ 0 = 1 from rfl] at hX
    split at hX <;> (have h3 := h2 (by omega); omega)
  · exfalso
    rw [show (2 : Int) ^ 1 = 2 from rfl] at hX
    split at hX <;> (have h3 := h2 (by omega); omega)
  · exfalso
    rw [show (2 : Int) ^ 2 = 4 from rfl] at hX
    split at hX <;> (have h3 := h2 (by omega); omega)
  · exfalso
    rw [show (2 : Int) ^ 3 = 8 from rfl] at hX
    split at hX <;> (have h3 := h2 (by omega); omega)
  · exfalso
    rw [show (2 : Int) ^ 4 = 16 from rfl] at hX
    split at hX <;> (have h3 := h2 (by omega); omega)
  · exfalso
    rw [show (2 : Int) ^ 5 = 32 from rfl] at hX
    split at hX <;> (have h3 := h2 (by omega); omega)
  · exfalso
    rw [show (2 : Int) ^ 6 = 64 from rfl] at hX
    split at hX <;> (have h3 := h2 (by omega); omega)
  · exfalso
    rw [show (2 : Int) ^ 7 = 128 from rfl] at hX
    split at hX <;> (have h3 := h2 (by omega); omega)
  · exfalso
    rw [show (2 : Int) ^ 8 = 256 from rfl] at hX
    split at hX <;> (have h3 := h2 (by omega); omega)
  · exfalso
    rw [show (2 : Int) ^ 9 = 512 from rfl] at hX
    split at hX <;> (have h3 := h2 (by omega); omega)
  · exfalso
    rw [show (2 : Int) ^ 10 = 1024 from rfl] at hX
    split at hX <;> (have h3 := h2 (by omega); omega)
  · exfalso
    rw [show (2 : Int) ^ 11 = 2048 from rfl] at hX
    split at hX <;> (have h3 := h2 (by omega); omega)
  · exfalso
    rw [show (2 : Int) ^ 12 = 4096 from rfl] at hX
    split at hX <;> (have h3 := h2 (by omega); omega)
  · exfalso
    rw [show (2 : Int) ^ 13 = 8192 from rfl] at hX
    split at hX <;> (have h3 := h2 (by omega); omega)
  · exact (by kernel_rfl : bits .and .u32 (4294950912 / 2 ^ 14) 1 = 1)
  · exact (by kernel_rfl : bits .and .u32 (4294950912 / 2 ^ 15) 1 = 1)
  · exact (by kernel_rfl : bits .and .u32 (4294950912 / 2 ^ 16) 1 = 1)
  · exact (by kernel_rfl : bits .and .u32 (4294950912 / 2 ^ 17) 1 = 1)
  · exact (by kernel_rfl : bits .and .u32 (4294950912 / 2 ^ 18) 1 = 1)
  · exact (by kernel_rfl : bits .and .u32 (4294950912 / 2 ^ 19) 1 = 1)
  · exact (by kernel_rfl : bits .and .u32 (4294950912 / 2 ^ 20) 1 = 1)
  · exact (by kernel_rfl : bits .and .u32 (4294950912 / 2 ^ 21) 1 = 1)
  · exact (by kernel_rfl : bits .and .u32 (4294950912 / 2 ^ 22) 1 = 1)
  · exact (by kernel_rfl : bits .and .u32 (4294950912 / 2 ^ 23) 1 = 1)
  · exact (by kernel_rfl : bits .and .u32 (4294950912 / 2 ^ 24) 1 = 1)
  · exact (by kernel_rfl : bits .and .u32 (4294950912 / 2 ^ 25) 1 = 1)
  · exact (by kernel_rfl : bits .and .u32 (4294950912 / 2 ^ 26) 1 = 1)
  · exact (by kernel_rfl : bits .and .u32 (4294950912 / 2 ^ 27) 1 = 1)
  · exact (by kernel_rfl : bits .and .u32 (4294950912 / 2 ^ 28) 1 = 1)
  · exact (by kernel_rfl : bits .and .u32 (4294950912 / 2 ^ 29) 1 = 1)
  · exact (by kernel_rfl : bits .and .u32 (4294950912 / 2 ^ 30) 1 = 1)
  · exact (by kernel_rfl : bits .and .u32 (4294950912 / 2 ^ 31) 1 = 1)
theorem or_abc {w : Int} (hw : InK .u32 w) (hg : w / 67108864 = 4 ∨ w / 67108864 = 5 ∨ w / 67108864 = 6 ∨ w / 67108864 = 7 ∨ w / 67108864 = 8 ∨ w / 67108864 = 9 ∨ w / 67108864 = 10 ∨ w / 67108864 = 11 ∨ w / 67108864 = 12 ∨ w / 67108864 = 13 ∨ w / 67108864 = 17 ∨ w / 67108864 = 18) (h : okW w = true) : okW (bits .or .u32 w 62914560) = false := by
  have h1 := ok_abc hw hg h
  have e := oF22_4 (x := w) (by simpa [InK] using hw)
  cases hx : okW (bits .or .u32 w 62914560) with
  | false => rfl
  | true =>
    exfalso
    rw [e] at hx
    simp only [InK] at hw
    have h2 := ok_abc (by simp only [InK]; omega) (by omega) hx
    omega
theorem sp_abs {w X : Int} (k : Nat) (hk : k < 32) (hw : InK .u32 w) (hg : w / 67108864 = 14 ∨ w / 67108864 = 15 ∨ w / 67108864 = 16) (h : okW w = true) (hX : X = if w / 2 ^ k % 2 = 0 then w + 2 ^ k else w - 2 ^ k) (hxu : InK .u32 X) (hx : okW X = true) : bits .and .u32 (4294770687 / 2 ^ k) 1 = 1 := by
  have h1 := ok_abs hw hg h
  have h2 := fun e => ok_abs hxu e hx
  simp only [InK] at hw hxu
  rcases (by omega : k = 0 ∨ k = 1 ∨ k = 2 ∨ k = 3 ∨ k = 4 ∨ k = 5 ∨ k = 6 ∨ k = 7 ∨ k = 8 ∨ k = 9 ∨ k = 10 ∨ k = 11 ∨ k = 12 ∨ k = 13 ∨ k = 14 ∨ k = 15 ∨ k = 16 ∨ k = 17 ∨ k = 18 ∨ k = 19 ∨ k = 20 ∨ k = 21 ∨ k = 22 ∨ k = 23 ∨ k = 24 ∨ k = 25 ∨ k = 26 ∨ k = 27 ∨ k = 28 ∨ k = 29 ∨ k = 30 ∨ k = 31) with rfl | rfl | rfl | rfl | rfl | rfl | rfl | rfl | rfl | rfl | rfl | rfl | rfl | rfl | rfl | rfl | rfl | rfl | rfl | rfl | rfl | rfl | rfl | rfl | rfl | rfl | rfl | rfl | rfl | rfl | rfl | rfl
  · exact (by kernel_rfl : bits .and .u32 (4294770687 / 2 ^ 0) 1 = 1)
  · exact (by kernel_rfl : bits .and .u32 (4294770687 / 2 ^ 1) 1 = 1)
  · exact (by kernel_rfl : bits .and .u32 (4294770687 / 2 ^ 2) 1 = 1)
  · exact (by kernel_rfl : bits .and .u32 (4294770687 / 2 ^ 3) 1 = 1)
  · exact (by kernel_rfl : bits .and .u32 (4294770687 / 2 ^ 4) 1 = 1)
  · exact (by kernel_rfl : bits .and .u32 (4294770687 / 2 ^ 5) 1 = 1)
  · exact (by kernel_rfl : bits .and .u32 (4294770687 / 2 ^ 6) 1 = 1)
  · exact (by kernel_rfl : bits .and .u32 (4294770687 / 2 ^ 7) 1 = 1)
  · exact (by kernel_rfl : bits .and .u32 (4294770687 / 2 ^ 8) 1 = 1)
  · exact (by kernel_rfl : bits .and .u32 (4294770687 / 2 ^ 9) 1 = 1)
  · exact (by kernel_rfl : bits .and .u32 (4294770687 / 2 ^ 10) 1 = 1)
  · exact (by kernel_rfl : bits .and .u32 (4294770687 / 2 ^ 11) 1 = 1)
  · exact (by kernel_rfl : bits .and .u32 (4294770687 / 2 ^ 12) 1 = 1)
  · exact (by kernel_rfl : bits .and .u32 (4294770687 / 2 ^ 13) 1 = 1)
  · exact (by kernel_rfl : bits .and .u32 (4294770687 / 2 ^ 14) 1 = 1)
  · exact (by kernel_rfl : bits .and .u32 (4294770687 / 2 ^ 15) 1 = 1)
  · exfalso
    rw [show (2 : Int) ^ 16 = 65536 from rfl] at hX
    split at hX <;> (have h3 := h2 (by omega); omega)
  · exfalso
    rw [show (2 : Int) ^ 17 = 131072 from rfl] at hX
    split at hX <;> (have h3 := h2 (by omega); omega)
  · exact (by kernel_rfl : bits .and .u32 (4294770687 / 2 ^ 18) 1 = 1)
  · exact (by kernel_rfl : bits .and .u32 (4294770687 / 2 ^ 19) 1 = 1)
  · exact (by kernel_rfl : bits .and .u32 (4294770687 / 2 ^ 20) 1 = 1)
  · exact (by kernel_rfl : bits .and .u32 (4294770687 / 2 ^ 21) 1 = 1)
  · exact (by kernel_rfl : bits .and .u32 (4294770687 / 2 ^ 22) 1 = 1)
  · exact (by kernel_rfl : bits .and .u32 (4294770687 / 2 ^ 23) 1 = 1)
  · exact (by kernel_rfl : bits .and .u32 (4294770687 / 2 ^ 24) 1 = 1)
  · exact (by kernel_rfl : bits .and .u32 (4294770687 / 2 ^ 25) 1 = 1)
  · exact (by kernel_rfl : bits .and .u32 (4294770687 / 2 ^ 26) 1 = 1)
  · exact (by kernel_rfl : bits .and .u32 (4294770687 / 2 ^ 27) 1 = 1)
  · exact (by kernel_rfl : bits .and .u32 (4294770687 / 2 ^ 28) 1 = 1)
  · exact (by kernel_rfl : bits .and .u32 (4294770687 / 2 ^ 29) 1 = 1)
  · exact (by kernel_rfl : bits .and .u32 (4294770687 / 2 ^ 30) 1 = 1)
  · exact (by kernel_rfl : bits .and .u32 (4294770687 / 2 ^ 31) 1 = 1)
theorem or_abs {w : Int} (hw : InK .u32 w) (hg : w / 67108864 = 14 ∨ w / 67108864 = 15 ∨ w / 67108864 = 16) (h : okW w = true) : okW (bits .or .u32 w 62914560) = false := by
  have h1 := ok_abs hw hg h
  have e := oF22_4 (x := w) (by simpa [InK] using hw)
  cases hx : okW (bits .or .u32 w 62914560) with
  | false => rfl
  | true =>
    exfalso
    rw [e] at hx
    simp only [InK] at hw
    have h2 := ok_abs (by simp only [InK]; omega) (by omega) hx
    omega
theorem sp_as {w X : Int} (k : Nat) (hk : k < 32) (hw : InK .u32 w) (hg : w / 67108864 = 20) (h : okW w = true) (hX : X = if w / 2 ^ k % 2 = 0 then w + 2 ^ k else w - 2 ^ k) (hxu : InK .u32 X) (hx : okW X = true) : bits .and .u32 (4290838527 / 2 ^ k) 1 = 1 := by
  have h1 := ok_as hw hg h
  have h2 := fun e => ok_as hxu e hx
  simp only [InK] at hw hxu
  rcases (by omega : k = 0 ∨ k = 1 ∨ k = 2 ∨ k = 3 ∨ k = 4 ∨ k = 5 ∨ k = 6 ∨ k = 7 ∨ k = 8 ∨ k = 9 ∨ k = 10 ∨ k = 11 ∨ k = 12 ∨ k = 13 ∨ k = 14 ∨ k = 15 ∨ k = 16 ∨ k = 17 ∨ k = 18 ∨ k = 19 ∨ k = 20 ∨ k = 21 ∨ k = 22 ∨ k = 23 ∨ k = 24 ∨ k = 25 ∨ k = 26 ∨ k = 27 ∨ k = 28 ∨ k = 29 ∨ k = 30 ∨ k = 31) with rfl | rfl | rfl | rfl | rfl | rfl | rfl | rfl | rfl | rfl | rfl | rfl | rfl | rfl | rfl | rfl | rfl | rfl | rfl | rfl | rfl | rfl | rfl | rfl | rfl | rfl | rfl | rfl | rfl | rfl | rfl | rfl
  · exact (by kernel_rfl : bits .and .u32 (4290838527 / 2 ^ 0) 1 = 1)
  · exact (by kernel_rfl : bits .and .u32 (4290838527 / 2 ^ 1) 1 = 1)
  · exact (by kernel_rfl : bits .and .u32 (4290838527 / 2 ^ 2) 1 = 1)
  · exact (by kernel_rfl : bits .and .u32 (4290838527 / 2 ^ 3) 1 = 1)
  · exact (by kernel_rfl : bits .and .u32 (4290838527 / 2 ^ 4) 1 = 1)
  · exact (by kernel_rfl : bits .and .u32 (4290838527 / 2 ^ 5) 1 = 1)
  · exact (by kernel_rfl : bits .and .u32 (4290838527 / 2 ^ 6) 1 = 1)
  · exact (by kernel_rfl : bits .and .u32 (4290838527 / 2 ^ 7) 1 = 1)
  · exact (by kernel_rfl : bits .and .u32 (4290838527 / 2 ^ 8) 1 = 1)
  · exact (by kernel_rfl : bits .and .u32 (4290838527 / 2 ^ 9) 1 = 1)
  · exact (by kernel_rfl : bits .and .u32 (4290838527 / 2 ^ 10) 1 = 1)
  · exact (by kernel_rfl : bits .and .u32 (4290838527 / 2 ^ 11) 1 = 1)
  · exact (by kernel_rfl : bits .and .u32 (4290838527 / 2 ^ 12) 1 = 1)
  · exact (by kernel_rfl : bits .and .u32 (4290838527 / 2 ^ 13) 1 = 1)
  · exact (by kernel_rfl : bits .and .u32 (4290838527 / 2 ^ 14) 1 = 1)
  · exact (by kernel_rfl : bits .and .u32 (4290838527 / 2 ^ 15) 1 = 1)
  · exfalso
    rw [show (2 : Int) ^ 16 = 65536 from rfl] at hX
    split at hX <;> (have h3 := h2 (by omega); omega)
  · exfalso
    rw [show (2 : Int) ^ 17 = 131072 from rfl] at hX
    split at hX <;> (have h3 := h2 (by omega); omega)
  · exfalso
    rw [show (2 : Int) ^ 18 = 262144 from rfl] at hX
    split at hX <;> (have h3 := h2 (by omega); omega)
  · exfalso
    rw [show (2 : Int) ^ 19 = 524288 from rfl] at hX
    split at hX <;> (have h3 := h2 (by omega); omega)
  · exfalso
    rw [show (2 : Int) ^ 20 = 1048576 from rfl] at hX
    split at hX <;> (have h3 := h2 (by omega); omega)
  · exfalso
    rw [show (2 : Int) ^ 21 = 2097152 from rfl] at hX
    split at hX <;> (have h3 := h2 (by omega); omega)
  · exact (by kernel_rfl : bits .and .u32 (4290838527 / 2 ^ 22) 1 = 1)
  · exact (by kernel_rfl : bits .and .u32 (4290838527 / 2 ^ 23) 1 = 1)
  · exact (by kernel_rfl : bits .and .u32 (4290838527 / 2 ^ 24) 1 = 1)
  · exact (by kernel_rfl : bits .and .u32 (4290838527 / 2 ^ 25) 1 = 1)
  · exact (by kernel_rfl : bits .and .u32 (4290838527 / 2 ^ 26) 1 = 1)
  · exact (by kernel_rfl : bits .and .u32 (4290838527 / 2 ^ 27) 1 = 1)
  · exact (by kernel_rfl : bits .and .u32 (4290838527 / 2 ^ 28) 1 = 1)
  · exact (by kernel_rfl : bits .and .u32 (4290838527 / 2 ^ 29) 1 = 1)
  · exact (by kernel_rfl : bits .and .u32 (4290838527 / 2 ^ 30) 1 = 1)
  · exact (by kernel_rfl : bits .and .u32 (4290838527 / 2 ^ 31) 1 = 1)
theorem or_as {w : Int} (hw : InK .u32 w) (hg : w / 67108864 = 20) (h : okW w = true) : okW (bits .or .u32 w 62914560) = false := by
  have h1 := ok_as hw hg h
  have e := oF22_4 (x := w) (by simpa [InK] using hw)
  cases hx : okW (bits .or .u32 w 62914560) with
  | false => rfl
  | true =>
    exfalso
    rw [e] at hx
    simp only [InK] at hw
    have h2 := ok_as (by simp only [InK]; omega) (by omega) hx
    omega
theorem sp_ko {w X : Int} (k : Nat) (hk : k < 32) (hw : InK .u32 w) (hg : w / 67108864 = 21) (h : okW w = true) (hX : X = if w / 2 ^ k % 2 = 0 then w + 2 ^ k else w - 2 ^ k) (hxu : InK .u32 X) (hx : okW X = true) : bits .and .u32 (4257284095 / 2 ^ k) 1 = 1 := by
  have h1 := ok_ko hw hg h
  have h2 := fun e => ok_ko hxu e hx
  simp only [InK] at hw hxu
  rcases (by omega : k = 0 ∨ k = 1 ∨ k = 2 ∨ k = 3 ∨ k = 4 ∨ k = 5 ∨ k = 6 ∨ k = 7 ∨ k = 8 ∨ k = 9 ∨ k = 10 ∨ k = 11 ∨ k = 12 ∨ k = 13 ∨ k = 14 ∨ k = 15 ∨ k = 16 ∨ k = 17 ∨ k = 18 ∨ k = 19 ∨ k = 20 ∨ k = 21 ∨ k = 22 ∨ k = 23 ∨ k = 24 ∨ k = 25 ∨ k = 26 ∨ k = 27 ∨ k = 28 ∨ k = 29 ∨ k = 30 ∨ k = 31) with rfl | rfl | rfl | rfl | rfl | rfl | rfl | rfl | rfl | rfl | rfl | rfl | rfl | rfl | rfl | rfl | rfl | rfl | rfl | rfl | rfl | rfl | rfl | rfl | rfl | rfl | rfl | rfl | rfl | rfl | rfl | rfl
  · exact (by kernel_rfl : bits .and .u32 (4257284095 / 2 ^ 0) 1 = 1)
  · exact (by kernel_rfl : bits .and .u32 (4257284095 / 2 ^ 1) 1 = 1)
  · exact (by kernel_rfl : bits .and .u32 (4257284095 / 2 ^ 2) 1 = 1)
  · exact (by kernel_rfl : bits .and .u32 (4257284095 / 2 ^ 3) 1 = 1)
  · exact (by kernel_rfl : bits .and .u32 (4257284095 / 2 ^ 4) 1 = 1)
  · exact (by kernel_rfl : bits .and .u32 (4257284095 / 2 ^ 5) 1 = 1)
  · exact (by kernel_rfl : bits .and .u32 (4257284095 / 2 ^ 6) 1 = 1)
  · exact (by kernel_rfl : bits .and .u32 (4257284095 / 2 ^ 7) 1 = 1)
  · exact (by kernel_rfl : bits .and .u32 (4257284095 / 2 ^ 8) 1 = 1)
  · exact (by kernel_rfl : bits .and .u32 (4257284095 / 2 ^ 9) 1 = 1)
  · exact (by kernel_rfl : bits .and .u32 (4257284095 / 2 ^ 10) 1 = 1)
  · exact (by kernel_rfl : bits .and .u32 (4257284095 / 2 ^ 11) 1 = 1)
  · exact (by kernel_rfl : bits .and .u32 (4257284095 / 2 ^ 12) 1 = 1)
  · exact (by kernel_rfl : bits .and .u32 (4257284095 / 2 ^ 13) 1 = 1)
  · exact (by kernel_rfl : bits .and .u32 (4257284095 / 2 ^ 14) 1 = 1)
  · exact (by kernel_rfl : bits .and .u32 (4257284095 / 2 ^ 15) 1 = 1)
  · exfalso
    rw [show (2 : Int) ^ 16 = 65536 from rfl] at hX
    split at hX <;> (have h3 := h2 (by omega); omega)
  · exfalso
    rw [show (2 : Int) ^ 17 = 131072 from rfl] at hX
    split at hX <;> (have h3 := h2 (by omega); omega)
  · exfalso
    rw [show (2 : Int) ^ 18 = 262144 from rfl] at hX
    split at hX <;> (have h3 := h2 (by omega); omega)
  · exfalso
    rw [show (2 : Int) ^ 19 = 524288 from rfl] at hX
    split at hX <;> (have h3 := h2 (by omega); omega)
  · exfalso
    rw [show (2 : Int) ^ 20 = 1048576 from rfl] at hX
    split at hX <;> (have h3 := h2 (by omega); omega)
  · exfalso
    rw [show (2 : Int) ^ 21 = 2097152 from rfl] at hX
    split at hX <;> (have h3 := h2 (by omega); omega)
  · exact (by kernel_rfl : bits .and .u32 (4257284095 / 2 ^ 22) 1 = 1)
  · exact (by kernel_rfl : bits .and .u32 (4257284095 / 2 ^ 23) 1 = 1)
  · exact (by kernel_rfl : bits .and .u32 (4257284095 / 2 ^ 24) 1 = 1)
  · exfalso
    rw [show (2 : Int) ^ 25 = 33554432 from rfl] at hX
    split at hX <;> (have h3 := h2 (by omega); omega)
  · exact (by kernel_rfl : bits .and .u32 (4257284095 / 2 ^ 26) 1 = 1)
  · exact (by kernel_rfl : bits .and .u32 (4257284095 / 2 ^ 27) 1 = 1)
  · exact (by kernel_rfl : bits .and .u32 (4257284095 / 2 ^ 28) 1 = 1)
  · exact (by kernel_rfl : bits .and .u32 (4257284095 / 2 ^ 29) 1 = 1)
  · exact (by kernel_rfl : bits .and .u32 (4257284095 / 2 ^ 30) 1 = 1)
  · exact (by kernel_rfl : bits .and .u32 (4257284095 / 2 ^ 31) 1 = 1)
theorem or_ko {w : Int} (hw : InK .u32 w) (hg : w / 67108864 = 21) (h : okW w = true) : okW (bits .or .u32 w 29360128) = false := by
  have h1 := ok_ko hw hg h
  have e := oF22_3 (x := w) (by simpa [InK] using hw)
  cases hx : okW (bits .or .u32 w 29360128) with
  | false => rfl
  | true =>
    exfalso
    rw [e] at hx
    simp only [InK] at hw
    have h2 := ok_ko (by simp only [InK]; omega) (by omega) hx
    omega
theorem sp_o {w X : Int} (k : Nat) (hk : k < 32) (hw : InK .u32 w) (hg : w / 67108864 = 22) (h : okW w = true) (hX : X = if w / 2 ^ k % 2 = 0 then w + 2 ^ k else w - 2 ^ k) (hxu : InK .u32 X) (hx : okW X = true) : bits .and .u32 (4227923967 / 2 ^ k) 1 = 1 := by
  have h1 := ok_o hw hg h
  have h2 := fun e => ok_o hxu e hx
  simp only [InK] at hw hxu
  rcases (by omega : k = 0 ∨ k = 1 ∨ k = 2 ∨ k = 3 ∨ k = 4 ∨ k = 5 ∨ k = 6 ∨ k = 7 ∨ k = 8 ∨ k = 9 ∨ k = 10 ∨ k = 11 ∨ k = 12 ∨ k = 13 ∨ k = 14 ∨ k = 15 ∨ k = 16 ∨ k = 17 ∨ k = 18 ∨ k = 19 ∨ k = 20 ∨ k = 21 ∨ k = 22 ∨ k = 23 ∨ k = 24 ∨ k = 25 ∨ k = 26 ∨ k = 27 ∨ k = 28 ∨ k = 29 ∨ k = 30 ∨ k = 31) with rfl | rfl | rfl | rfl | rfl | rfl | rfl | rfl | rfl | rfl | rfl | rfl | rfl | rfl | rfl | rfl | rfl | rfl | rfl | rfl | rfl | rfl | rfl | rfl | rfl | rfl | rfl | rfl | rfl | rfl | rfl | rfl
  · exact (by kernel_rfl : bits .and .u32 (4227923967 / 2 ^ 0) 1 = 1)
  · exact (by kernel_rfl : bits .and .u32 (4227923967 / 2 ^ 1) 1 = 1)
  · exact (by kernel_rfl : bits .and .u32 (4227923967 / 2 ^ 2) 1 = 1)
  · exact (by kernel_rfl : bits .and .u32 (4227923967 / 2 ^ 3) 1 = 1)
  · exact (by kernel_rfl : bits .and .u32 (4227923967 / 2 ^ 4) 1 = 1)
  · exact (by kernel_rfl : bits .and .u32 (4227923967 / 2 ^ 5) 1 = 1)
  · exact (by kernel_rfl : bits .and .u32 (4227923967 / 2 ^ 6) 1 = 1)
  · exact (by kernel_rfl : bits .and .u32 (4227923967 / 2 ^ 7) 1 = 1)
  · exact (by kernel_rfl : bits .and .u32 (4227923967 / 2 ^ 8) 1 = 1)
  · exact (by kernel_rfl : bits .and .u32 (4227923967 / 2 ^ 9) 1 = 1)
  · exact (by kernel_rfl : bits .and .u32 (4227923967 / 2 ^ 10) 1 = 1)
  · exact (by kernel_rfl : bits .and .u32 (4227923967 / 2 ^ 11) 1 = 1)
  · exact (by kernel_rfl : bits .and .u32 (4227923967 / 2 ^ 12) 1 = 1)
  · exact (by kernel_rfl : bits .and .u32 (4227923967 / 2 ^ 13) 1 = 1)
  · exact (by kernel_rfl : bits .and .u32 (4227923967 / 2 ^ 14) 1 = 1)
  · exact (by kernel_rfl : bits .and .u32 (4227923967 / 2 ^ 15) 1 = 1)
  · exfalso
    rw [show (2 : Int) ^ 16 = 65536 from rfl] at hX
    split at hX <;> (have h3 := h2 (by omega); omega)
  · exfalso
    rw [show (2 : Int) ^ 17 = 131072 from rfl] at hX
    split at hX <;> (have h3 := h2 (by omega); omega)
  · exfalso
    rw [show (2 : Int) ^ 18 = 262144 from rfl] at hX
    split at hX <;> (have h3 := h2 (by omega); omega)
  · exfalso
    rw [show (2 : Int) ^ 19 = 524288 from rfl] at hX
    split at hX <;> (have h3 := h2 (by omega); omega)
  · exfalso
    rw [show (2 : Int) ^ 20 = 1048576 from rfl] at hX
    split at hX <;> (have h3 := h2 (by omega); omega)
  · exfalso
    rw [show (2 : Int) ^ 21 = 2097152 from rfl] at hX
    split at hX <;> (have h3 := h2 (by omega); omega)
  · exfalso
    rw [show (2 : Int) ^ 22 = 4194304 from rfl] at hX
    split at hX <;> (have h3 := h2 (by omega); omega)
  · exfalso
    rw [show (2 : Int) ^ 23 = 8388608 from rfl] at hX
    split at hX <;> (have h3 := h2 (by omega); omega)
  · exfalso
    rw [show (2 : Int) ^ 24 = 16777216 from rfl] at hX
    split at hX <;> (have h3 := h2 (by omega); omega)
  · exfalso
    rw [show (2 : Int) ^ 25 = 33554432 from rfl] at hX
    split at hX <;> (have h3 := h2 (by omega); omega)
  · exact (by kernel_rfl : bits .and .u32 (4227923967 / 2 ^ 26) 1 = 1)
  · exact (by kernel_rfl : bits .and .u32 (4227923967 / 2 ^ 27) 1 = 1)
  · exact (by kernel_rfl : bits .and .u32 (4227923967 / 2 ^ 28) 1 = 1)
  · exact (by kernel_rfl : bits .and .u32 (4227923967 / 2 ^ 29) 1 = 1)
  · exact (by kernel_rfl : bits .and .u32 (4227923967 / 2 ^ 30) 1 = 1)
  · exact (by kernel_rfl : bits .and .u32 (4227923967 / 2 ^ 31) 1 = 1)
theorem sp_a {w X : Int} (k : Nat) (hk : k < 32) (hw : InK .u32 w) (hg : w / 67108864 = 23) (h : okW w = true) (hX : X = if w / 2 ^ k % 2 = 0 then w + 2 ^ k else w - 2 ^ k) (hxu : InK .u32 X) (hx : okW X = true) : bits .and .u32 (4290772992 / 2 ^ k) 1 = 1 := by
  have h1 := ok_a hw hg h
  have h2 := fun e => ok_a hxu e hx
  simp only [InK] at hw hxu
  rcases (by omega : k = 0 ∨ k = 1 ∨ k = 2 ∨ k = 3 ∨ k = 4 ∨ k = 5 ∨ k = 6 ∨ k = 7 ∨ k = 8 ∨ k = 9 ∨ k = 10 ∨ k = 11 ∨ k = 12 ∨ k = 13 ∨ k = 14 ∨ k = 15 ∨ k = 16 ∨ k = 17 ∨ k = 18 ∨ k = 19 ∨ k = 20 ∨ k = 21 ∨ k = 22 ∨ k = 23 ∨ k = 24 ∨ k = 25 ∨ k = 26 ∨ k = 27 ∨ k = 28 ∨ k = 29 ∨ k = 30 ∨ k = 31) with rfl | rfl | rfl | rfl | rfl | rfl | rfl | rfl | rfl | rfl | rfl | rfl | rfl | rfl | rfl | rfl | rfl | rfl | rfl | rfl | rfl | rfl | rfl | rfl | rfl | rfl | rfl | rfl | rfl | rfl | rfl | rfl
  · exfalso
    rw [show (2 : Int) ^ 0 = 1 from rfl] at hX
    split at hX <;> (have h3 := h2 (by omega); omega)
  · exfalso
    rw [show (2 : Int) ^ 1 = 2 from rfl] at hX
    split at hX <;> (have h3 := h2 (by omega); omega)
  · exfalso
    rw [show (2 : Int) ^ 2 = 4 from rfl] at hX
    split at hX <;> (have h3 := h2 (by omega); omega)
  · exfalso
    rw [show (2 : Int) ^ 3 = 8 from rfl] at hX
    split at hX <;> (have h3 := h2 (by omega); omega)
  · exfalso
    rw [show (2 : Int) ^ 4 = 16 from rfl] at hX
    split at hX <;> (have h3 := h2 (by omega); omega)
  · exfalso
    rw [show (2 : Int) ^ 5 = 32 from rfl] at hX
    split at hX <;> (have h3 := h2 (by omega); omega)
  · exfalso
    rw [show (2 : Int) ^ 6 = 64 from rfl] at hX
    split at hX <;> (have h3 := h2 (by omega); omega)
  · exfalso
    rw [show (2 : Int) ^ 7 = 128 from rfl] at hX
    split at hX <;> (have h3 := h2 (by omega); omega)
  · exfalso
    rw [show (2 : Int) ^ 8 = 256 from rfl] at hX
    split at hX <;> (have h3 := h2 (by omega); omega)
  · exfalso
    rw [show (2 : Int) ^ 9 = 512 from rfl] at hX
    split at hX <;> (have h3 := h2 (by omega); omega)
  · exfalso
    rw [show (2 : Int) ^ 10 = 1024 from rfl] at hX
    split at hX <;> (have h3 := h2 (by omega); omega)
  · exfalso
    rw [show (2 : Int) ^ 11 = 2048 from rfl] at hX
    split at hX <;> (have h3 := h2 (by omega); omega)
  · exfalso
    rw [show (2 : Int) ^ 12 = 4096 from rfl] at hX
    split at hX <;> (have h3 := h2 (by omega); omega)
  · exfalso
    rw [show (2 : Int) ^ 13 = 8192 from rfl] at hX
    split at hX <;> (have h3 := h2 (by omega); omega)
  · exfalso
    rw [show (2 : Int) ^ 14 = 16384 from rfl] at hX
    split at hX <;> (have h3 := h2 (by omega); omega)
  · exfalso
    rw [show (2 : Int) ^ 15 = 32768 from rfl] at hX
    split at hX <;> (have h3 := h2 (by omega); omega)
  · exfalso
    rw [show (2 : Int) ^ 16 = 65536 from rfl] at hX
    split at hX <;> (have h3 := h2 (by omega); omega)
  · exfalso
    rw [show (2 : Int) ^ 17 = 131072 from rfl] at hX
    split at hX <;> (have h3 := h2 (by omega); omega)
  · exfalso
    rw [show (2 : Int) ^ 18 = 262144 from rfl] at hX
    split at hX <;> (have h3 := h2 (by omega); omega)
  · exfalso
    rw [show (2 : Int) ^ 19 = 524288 from rfl] at hX
    split at hX <;> (have h3 := h2 (by omega); omega)
  · exfalso
    rw [show (2 : Int) ^ 20 = 1048576 from rfl] at hX
    split at hX <;> (have h3 := h2 (by omega); omega)
  · exfalso
    rw [show (2 : Int) ^ 21 = 2097152 from rfl] at hX
    split at hX <;> (have h3 := h2 (by omega); omega)
  · exact (by kernel_rfl : bits .and .u32 (4290772992 / 2 ^ 22) 1 = 1)
  · exact (by kernel_rfl : bits .and .u32 (4290772992 / 2 ^ 23) 1 = 1)
  · exact (by kernel_rfl : bits .and .u32 (4290772992 / 2 ^ 24) 1 = 1)
  · exact (by kernel_rfl : bits .and .u32 (4290772992 / 2 ^ 25) 1 = 1)
  · exact (by kernel_rfl : bits .and .u32 (4290772992 / 2 ^ 26) 1 = 1)
  · exact (by kernel_rfl : bits .and .u32 (4290772992 / 2 ^ 27) 1 = 1)
  · exact (by kernel_rfl : bits .and .u32 (4290772992 / 2 ^ 28) 1 = 1)
  · exact (by kernel_rfl : bits .and .u32 (4290772992 / 2 ^ 29) 1 = 1)
  · exact (by kernel_rfl : bits .and .u32 (4290772992 / 2 ^ 30) 1 = 1)
  · exact (by kernel_rfl : bits .and .u32 (4290772992 / 2 ^ 31) 1 = 1)
theorem or_a {w : Int} (hw : InK .u32 w) (hg : w / 67108864 = 23) (h : okW w = true) : okW (bits .or .u32 w 62914560) = false := by
  have h1 := ok_a hw hg h
  have e := oF22_4 (x := w) (by simpa [InK] using hw)
  cases hx : okW (bits .or .u32 w 62914560) with
  | false => rfl
  | true =>
    exfalso
    rw [e] at hx
    simp only [InK] at hw
    have h2 := ok_a (by simp only [InK]; omega) (by omega) hx
    omega
theorem sp_u {w X : Int} (k : Nat) (hk : k < 32) (hw : InK .u32 w) (hg : w / 67108864 = 24) (h : okW w = true) (hX : X = if w / 2 ^ k % 2 = 0 then w + 2 ^ k else w - 2 ^ k) (hxu : InK .u32 X) (hx : okW X = true) : bits .and .u32 (4227923967 / 2 ^ k) 1 = 1 := by
  have h1 := ok_u hw hg h
  have h2 := fun e => ok_u hxu e hx
  simp only [InK] at hw hxu
  rcases (by omega : k = 0 ∨ k = 1 ∨ k = 2 ∨ k = 3 ∨ k = 4 ∨ k = 5 ∨ k = 6 ∨ k = 7 ∨ k = 8 ∨ k = 9 ∨ k = 10 ∨ k = 11 ∨ k = 12 ∨ k = 13 ∨ k = 14 ∨ k = 15 ∨ k = 16 ∨ k = 17 ∨ k = 18 ∨ k = 19 ∨ k = 20 ∨ k = 21 ∨ k = 22 ∨ k = 23 ∨ k = 24 ∨ k = 25 ∨ k = 26 ∨ k = 27 ∨ k = 28 ∨ k = 29 ∨ k = 30 ∨ k = 31) with rfl | rfl | rfl | rfl | rfl | rfl | rfl | rfl | rfl | rfl | rfl | rfl | rfl | rfl | rfl | rfl | rfl | rfl | rfl | rfl | rfl | rfl | rfl | rfl | rfl | rfl | rfl | rfl | rfl | rfl | rfl | rfl
  · exact (by kernel_rfl : bits .and .u32 (4227923967 / 2 ^ 0) 1 = 1)
  · exact (by kernel_rfl : bits .and .u32 (4227923967 / 2 ^ 1) 1 = 1)
  · exact (by kernel_rfl : bits .and .u32 (4227923967 / 2 ^ 2) 1 = 1)
  · exact (by kernel_rfl : bits .and .u32 (4227923967 / 2 ^ 3) 1 = 1)
  · exact (by kernel_rfl : bits .and .u32 (4227923967 / 2 ^ 4) 1 = 1)
  · exact (by kernel_rfl : bits .and .u32 (4227923967 / 2 ^ 5) 1 = 1)
  · exact (by kernel_rfl : bits .and .u32 (4227923967 / 2 ^ 6) 1 = 1)
  · exact (by kernel_rfl : bits .and .u32 (4227923967 / 2 ^ 7) 1 = 1)
  · exact (by kernel_rfl : bits .and .u32 (4227923967 / 2 ^ 8) 1 = 1)
  · exact (by kernel_rfl : bits .and .u32 (4227923967 / 2 ^ 9) 1 = 1)
  · exact (by kernel_rfl : bits .and .u32 (4227923967 / 2 ^ 10) 1 = 1)
  · exact (by kernel_rfl : bits .and .u32 (4227923967 / 2 ^ 11) 1 = 1)
  · exact (by kernel_rfl : bits .and .u32 (4227923967 / 2 ^ 12) 1 = 1)
  · exact (by kernel_rfl : bits .and .u32 (4227923967 / 2 ^ 13) 1 = 1)
  · exact (by kernel_rfl : bits .and .u32 (4227923967 / 2 ^ 14) 1 = 1)
  · exact (by kernel_rfl : bits .and .u32 (4227923967 / 2 ^ 15) 1 = 1)
  · exfalso
    rw [show (2 : Int) ^ 16 = 65536 from rfl] at hX
    split at hX <;> (have h3 := h2 (by omega); omega)
  · exfalso
    rw [show (2 : Int) ^ 17 = 131072 from rfl] at hX
    split at hX <;> (have h3 := h2 (by omega); omega)
  · exfalso
    rw [show (2 : Int) ^ 18 = 262144 from rfl] at hX
    split at hX <;> (have h3 := h2 (by omega); omega)
  · exfalso
    rw [show (2 : Int) ^ 19 = 524288 from rfl] at hX
    split at hX <;> (have h3 := h2 (by omega); omega)
  · exfalso
    rw [show (2 : Int) ^ 20 = 1048576 from rfl] at hX
    split at hX <;> (have h3 := h2 (by omega); omega)
  · exfalso
    rw [show (2 : Int) ^ 21 = 2097152 from rfl] at hX
    split at hX <;> (have h3 := h2 (by omega); omega)
  · exfalso
    rw [show (2 : Int) ^ 22 = 4194304 from rfl] at hX
    split at hX <;> (have h3 := h2 (by omega); omega)
  · exfalso
    rw [show (2 : Int) ^ 23 = 8388608 from rfl] at hX
    split at hX <;> (have h3 := h2 (by omega); omega)
  · exfalso
    rw [show (2 : Int) ^ 24 = 16777216 from rfl] at hX
    split at hX <;> (have h3 := h2 (by omega); omega)
  · exfalso
    rw [show (2 : Int) ^ 25 = 33554432 from rfl] at hX
    split at hX <;> (have h3 := h2 (by omega); omega)
  · exact (by kernel_rfl : bits .and .u32 (4227923967 / 2 ^ 26) 1 = 1)
  · exact (by kernel_rfl : bits .and .u32 (4227923967 / 2 ^ 27) 1 = 1)
  · exact (by kernel_rfl : bits .and .u32 (4227923967 / 2 ^ 28) 1 = 1)
  · exact (by kernel_rfl : bits .and .u32 (4227923967 / 2 ^ 29) 1 = 1)
  · exact (by kernel_rfl : bits .and .u32 (4227923967 / 2 ^ 30) 1 = 1)
  · exact (by kernel_rfl : bits .and .u32 (4227923967 / 2 ^ 31) 1 = 1)
end Go.Proofs.YtijgngiocmnakaaDoor
