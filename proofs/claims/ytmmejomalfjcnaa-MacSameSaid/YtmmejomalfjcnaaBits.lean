/- Plain laws on the bits of 32-bit words, no program in sight. -/
import Derived.WalkKit
namespace Go.Proofs.Ytmmejomalfjcnaa
open Go.RowKit

def U32 (x : Int) : Prop := 0 ≤ x ∧ x < 4294967296
theorem U32.of_wf {x : Int} (h : (Lit.int .u32 x).wf = true) : U32 x := by
  simp [Lit.wf, IntKind.min, IntKind.max, IntKind.signed, IntKind.bits] at h; unfold U32; omega
theorem U32.wf {x : Int} (h : U32 x) : (Lit.int .u32 x).wf = true := by
  unfold U32 at h; simp [Lit.wf, IntKind.min, IntKind.max, IntKind.signed, IntKind.bits]; omega

theorem bv_int {x : Int} (h : U32 x) : ((BitVec.ofInt 32 x).toNat : Int) = x := by
  unfold U32 at h; rw [BitVec.toNat_ofInt]; simp; omega
theorem bv_eq {x y : Int} (hx : U32 x) (hy : U32 y) : BitVec.ofInt 32 x = BitVec.ofInt 32 y ↔ x = y := by
  constructor
  · intro h
    have := congrArg (fun b => (BitVec.toNat b : Int)) h
    simp only [bv_int hx, bv_int hy] at this
    exact this
  · rintro rfl; rfl
theorem wrap_bv (b : BitVec 32) : IntKind.wrap .u32 (b.toNat : Int) = (b.toNat : Int) := by
  have := b.isLt
  simp [IntKind.wrap, IntKind.signed, IntKind.bits]; omega
theorem bits_u32 (op : BinOp) (x y : Int) : ∃ b : BitVec 32, bits op .u32 x y = (b.toNat : Int) := by
  unfold bits
  exact ⟨_, wrap_bv _⟩
theorem bits_U32 (op : BinOp) (x y : Int) : U32 (bits op .u32 x y) := by
  obtain ⟨b, h⟩ := bits_u32 op x y
  rw [h]; have := b.isLt; unfold U32; omega
theorem bits_xor_bv (x y : Int) : bits .xor .u32 x y = ((BitVec.ofInt 32 x ^^^ BitVec.ofInt 32 y).toNat : Int) := by
  unfold bits; exact wrap_bv _
theorem bits_or_bv (x y : Int) : bits .or .u32 x y = ((BitVec.ofInt 32 x ||| BitVec.ofInt 32 y).toNat : Int) := by
  unfold bits; exact wrap_bv _
theorem bits_and_bv (x y : Int) : bits .and .u32 x y = ((BitVec.ofInt 32 x &&& BitVec.ofInt 32 y).toNat : Int) := by
  unfold bits; exact wrap_bv _
theorem bv_toNat_zero (b : BitVec 32) : ((b.toNat : Int) = 0) ↔ b = 0#32 := by
  rw [show ((b.toNat : Int) = 0) ↔ b.toNat = 0 by omega]
  constructor
  · intro h; exact BitVec.eq_of_toNat_eq (by simpa using h)
  · rintro rfl; rfl
theorem bits_xor_zero {x y : Int} (hx : U32 x) (hy : U32 y) : bits .xor .u32 x y = 0 ↔ x = y := by
  rw [bits_xor_bv, bv_toNat_zero, ← bv_eq hx hy, BitVec.xor_eq_zero_iff]
theorem bits_or_zero {x y : Int} (hx : U32 x) (hy : U32 y) : bits .or .u32 x y = 0 ↔ x = 0 ∧ y = 0 := by
  have h0 : U32 0 := by unfold U32; omega
  rw [bits_or_bv, bv_toNat_zero, BitVec.or_eq_zero_iff, ← bv_eq hx h0, ← bv_eq hy h0]; simp
theorem flip_ne {x : Int} {k : Nat} (hx : U32 x) (hk : k < 32) : x ≠ bits .xor .u32 x (2 ^ k % 4294967296) := by
  intro e
  rw [bits_xor_bv] at e
  have h1 : BitVec.ofInt 32 x = BitVec.ofInt 32 x ^^^ BitVec.ofInt 32 (2 ^ k % 4294967296) := by
    apply BitVec.eq_of_toNat_eq
    have := bv_int hx
    omega
  have h2 : BitVec.ofInt 32 (2 ^ k % 4294967296) = 0#32 := by
    have := congrArg (fun b => BitVec.ofInt 32 x ^^^ b) h1
    simpa [← BitVec.xor_assoc] using this.symm
  have h3 : (2 : Int) ^ k < 2 ^ 32 := by
    have := Nat.pow_lt_pow_right (a := 2) (by omega) hk
    exact_mod_cast this
  have h4 : (0 : Int) < 2 ^ k := by exact_mod_cast Nat.two_pow_pos k
  have hu : U32 (2 ^ k % 4294967296) := by unfold U32; omega
  have h5 := bv_int hu
  rw [h2] at h5
  simp at h5
  omega
end Go.Proofs.Ytmmejomalfjcnaa
