/- Plain laws on the bits of 32-bit words, no program in sight. -/
import Derived.WalkKit
namespace Go.Proofs.Ytmmejomalfjcnaa
open Go.RowKit

def U32 (x : Int) : Prop := 0 ≤ x ∧ x < 4294967296
instance (x : Int) : Decidable (U32 x) := inferInstanceAs (Decidable (0 ≤ x ∧ x < 4294967296))
theorem U32.of_wf {x : Int} (h : (Lit.int .u32 x).wf = true) : U32 x := by
  simp [Lit.wf, IntKind.min, IntKind.max, IntKind.signed, IntKind.bits] at h; unfold U32; omega
theorem U32.wf {x : Int} (h : U32 x) : (Lit.int .u32 x).wf = true := by
  unfold U32 at h; simp [Lit.wf, IntKind.min, IntKind.max, IntKind.signed, IntKind.bits]; omega

theorem bv_int {x : Int} (h : U32 x) : ((BitVec.ofInt 32 x).toNat : Int) = x := by
  unfold U32 at h; rw [BitVec.toNat_ofInt]; simp; omega
theorem bv_eq {x y : Int} (hx : U32 x) (hy : U32 y) : BitVec.ofInt 32 x = BitVec.ofInt 32 y ↔ x = y := by
  constructor
  · intro h
    have := congrArg (fun b => (BitVec.toNat b : Int)) h
    simp only [bv_int hx, bv_int hy] at this
    exact this
  · rintro rfl; rfl
theorem wrap_bv (b : BitVec 32) : IntKind.wrap .u32 (b.toNat : Int) = (b.toNat : Int) := by
  have := b.isLt
  simp [IntKind.wrap, IntKind.signed, IntKind.bits]; omega
theorem bits_u32 (op : BinOp) (x y : Int) : ∃ b : BitVec 32, bits op .u32 x y = (b.toNat : Int) := by
  unfold bits
  exact ⟨_, wrap_bv _⟩
theorem bits_U32 (op : BinOp) (x y : Int) : U32 (bits op .u32 x y) := by
  obtain ⟨b, h⟩ := bits_u32 op x y
  rw [h]; have := b.isLt; unfold U32; omega
theorem bits_xor_bv (x y : Int) : bits .xor .u32 x y = ((BitVec.ofInt 32 x ^^^ BitVec.ofInt 32 y).toNat : Int) := by
  unfold bits; exact wrap_bv _
theorem bits_or_bv (x y : Int) : bits .or .u32 x y = ((BitVec.ofInt 32 x ||| BitVec.ofInt 32 y).toNat : Int) := by
  unfold bits; exact wrap_bv _
theorem bits_and_bv (x y : Int) : bits .and .u32 x y = ((BitVec.ofInt 32 x &&& BitVec.ofInt 32 y).toNat : Int) := by
  unfold bits; exact wrap_bv _
theorem bv_toNat_zero (b : BitVec 32) : ((b.toNat : Int) = 0) ↔ b = 0#32 := by
  rw [show ((b.toNat : Int) = 0) ↔ b.toNat = 0 by omega]
  constructor
  · intro h; exact BitVec.eq_of_toNat_eq (by simpa using h)
  · rintro rfl; rfl
theorem bits_xor_zero {x y : Int} (hx : U32 x) (hy : U32 y) : bits .xor .u32 x y = 0 ↔ x = y := by
  rw [bits_xor_bv, bv_toNat_zero, ← bv_eq hx hy, BitVec.xor_eq_zero_iff]
theorem bits_or_zero {x y : Int} (hx : U32 x) (hy : U32 y) : bits .or .u32 x y = 0 ↔ x = 0 ∧ y = 0 := by
  have h0 : U32 0 := by unfold U32; omega
  rw [bits_or_bv, bv_toNat_zero, BitVec.or_eq_zero_iff, ← bv_eq hx h0, ← bv_eq hy h0]; simp
theorem flip_ne {x : Int} {k : Nat} (hx : U32 x) (hk : k < 32) : x ≠ bits .xor .u32 x (2 ^ k % 4294967296) := by
  intro e
  rw [bits_xor_bv] at e
  have h1 : BitVec.ofInt 32 x = BitVec.ofInt 32 x ^^^ BitVec.ofInt 32 (2 ^ k % 4294967296) := by
    apply BitVec.eq_of_toNat_eq
    have := bv_int hx
    omega
  have h2 : BitVec.ofInt 32 (2 ^ k % 4294967296) = 0#32 := by
    have := congrArg (fun b => BitVec.ofInt 32 x ^^^ b) h1
    simpa [← BitVec.xor_assoc] using this.symm
  have h3 : (2 : Int) ^ k < 2 ^ 32 := by
    have := Nat.pow_lt_pow_right (a := 2) (by omega) hk
    exact_mod_cast this
  have h4 : (0 : Int) < 2 ^ k := by exact_mod_cast Nat.two_pow_pos k
  have hu : U32 (2 ^ k % 4294967296) := by unfold U32; omega
  have h5 := bv_int hu
  rw [h2] at h5
  simp at h5
  omega

theorem bits_split (a b : BitVec 32) : (a &&& b).toNat + (a &&& ~~~b).toNat = a.toNat := by
  have h : (a &&& b) &&& (a &&& ~~~b) = 0#32 := by
    ext i; simp; intro h1 h2 h3; exact h2
  have h2 : (a &&& b) ||| (a &&& ~~~b) = a := by
    ext i hi; simp; cases a[i] <;> cases b[i] <;> rfl
  have h3 := BitVec.add_eq_or_of_and_eq_zero _ _ h
  rw [h2] at h3
  have h4 := BitVec.toNat_add_of_and_eq_zero h
  rw [← h4, h3]

theorem and_mask {x m : Int} (k : Nat) (hm : m + 1 = 2 ^ k) (hk : k ≤ 32) (hx : U32 x) : bits .and .u32 x m = x % (m + 1) := by
  unfold U32 at hx
  have h2 : (1 : Int) ≤ 2 ^ k := by exact_mod_cast Nat.one_le_two_pow
  have h3 : (2 : Int) ^ k ≤ 2 ^ 32 := by exact_mod_cast Nat.pow_le_pow_right (by omega) hk
  rw [u32_and x m (by omega) (by omega) (by omega) (by omega)]
  have e : m.toNat = 2 ^ k - 1 := by
    have : ((2 ^ k : Nat) : Int) = 2 ^ k := by push_cast; rfl
    omega
  rw [e, Nat.and_two_pow_sub_one_eq_mod, hm]
  push_cast
  rw [Int.toNat_of_nonneg hx.1]

theorem and_bit {x m : Int} (k : Nat) (hm : m = 2 ^ k) (hk : k < 32) (hx : U32 x) : bits .and .u32 x m = x / m % 2 * m := by
  unfold U32 at hx
  have h2 : (1 : Int) ≤ 2 ^ k := by exact_mod_cast Nat.one_le_two_pow
  have h3 : (2 : Int) ^ k ≤ 2 ^ 31 := by exact_mod_cast Nat.pow_le_pow_right (by omega) (by omega)
  rw [u32_and x m (by omega) (by omega) (by omega) (by omega)]
  have e : m.toNat = 2 ^ k := by
    have : ((2 ^ k : Nat) : Int) = 2 ^ k := by push_cast; rfl
    omega
  rw [e, nat_bit, hm]
  push_cast
  rw [Int.toNat_of_nonneg hx.1]

theorem or_add {x y p : Int} (k : Nat) (hp : p = 2 ^ k) (hx : U32 x) (hy : 0 ≤ y) (hy2 : y < p) (hm : x % p = 0) (hpx : p ≤ 4294967296) : bits .or .u32 x y = x + y := by
  unfold U32 at hx
  rw [u32_or x y hx.1 hx.2 hy (by omega)]
  have e : ((2 ^ k : Nat) : Int) = p := by rw [hp]; push_cast; rfl
  rw [nat_join k x.toNat y.toNat ?_ (by omega)]
  · omega
  · have : ((x.toNat % 2 ^ k : Nat) : Int) = 0 := by push_cast [Int.toNat_of_nonneg hx.1]; rw [← hp]; exact hm
    exact_mod_cast this

theorem andNot_low {x m : Int} (k : Nat) (hm : m + 1 = 2 ^ k) (hk : k ≤ 32) (hx : U32 x) : bits .andNot .u32 x m = x - x % (m + 1) := by
  have hU := hx
  unfold U32 at hx
  have h2 : (1 : Int) ≤ 2 ^ k := by exact_mod_cast Nat.one_le_two_pow
  have h3 : (2 : Int) ^ k ≤ 2 ^ 32 := by exact_mod_cast Nat.pow_le_pow_right (by omega) hk
  have e : m.toNat = 2 ^ k - 1 := by
    have : ((2 ^ k : Nat) : Int) = 2 ^ k := by push_cast; rfl
    omega
  have h := bits_split (BitVec.ofInt 32 x) (BitVec.ofInt 32 m)
  have ha : bits .and .u32 x m = ((BitVec.ofInt 32 x &&& BitVec.ofInt 32 m).toNat : Int) := bits_and_bv x m
  have hn : bits .andNot .u32 x m = ((BitVec.ofInt 32 x &&& ~~~(BitVec.ofInt 32 m)).toNat : Int) := by unfold bits; exact wrap_bv _
  have hxx := bv_int hU
  rw [and_mask k hm hk hU] at ha
  omega

theorem or_disj {x y : Int} (hx : U32 x) (hy : U32 y) (h : bits .and .u32 x y = 0) : bits .or .u32 x y = x + y := by
  rw [bits_and_bv, bv_toNat_zero] at h
  rw [bits_or_bv, ← BitVec.add_eq_or_of_and_eq_zero _ _ h, BitVec.toNat_add_of_and_eq_zero h]
  push_cast
  rw [bv_int hx, bv_int hy]

theorem or_bit {x m : Int} (k : Nat) (hm : m = 2 ^ k) (hk : k < 32) (hx : U32 x) (h : x / m % 2 = 0) : bits .or .u32 x m = x + m := by
  have h2 : (1 : Int) ≤ 2 ^ k := by exact_mod_cast Nat.one_le_two_pow
  have h3 : (2 : Int) ^ k ≤ 2 ^ 31 := by exact_mod_cast Nat.pow_le_pow_right (by omega) (by omega)
  exact or_disj hx (by unfold U32; omega) (by rw [and_bit k hm hk hx, h]; simp)

theorem and_high {x m : Int} (k : Nat) (hm : m = 4294967296 - 2 ^ k) (hk : k ≤ 32) (hx : U32 x) : bits .and .u32 x m = x - x % 2 ^ k := by
  have h2 : (1 : Int) ≤ 2 ^ k := by exact_mod_cast Nat.one_le_two_pow
  have h3 : (2 : Int) ^ k ≤ 2 ^ 32 := by exact_mod_cast Nat.pow_le_pow_right (by omega) hk
  have h := andNot_low (x := x) (m := 2 ^ k - 1) k (by omega) hk hx
  rw [show (2 : Int) ^ k - 1 + 1 = 2 ^ k by omega] at h
  rw [← h]
  have hn : bits .andNot .u32 x (2 ^ k - 1) = ((BitVec.ofInt 32 x &&& ~~~(BitVec.ofInt 32 (2 ^ k - 1))).toNat : Int) := by unfold bits; exact wrap_bv _
  rw [hn, bits_and_bv, hm]
  congr 3
  apply BitVec.eq_of_toNat_eq
  rw [BitVec.toNat_not, BitVec.toNat_ofInt, BitVec.toNat_ofInt]
  simp
  omega

theorem bits_and_assoc_low (x m k : Int) : bits .and .u32 (bits .and .u32 x k) m = bits .and .u32 x (bits .and .u32 k m) := by
  have h1 := bits_U32 .and x k
  have h2 := bits_U32 .and k m
  have e1 : BitVec.ofInt 32 (bits .and .u32 x k) = BitVec.ofInt 32 x &&& BitVec.ofInt 32 k := by
    apply BitVec.eq_of_toNat_eq
    have := bv_int h1
    rw [bits_and_bv] at this
    rw [bits_and_bv]; omega
  have e2 : BitVec.ofInt 32 (bits .and .u32 k m) = BitVec.ofInt 32 k &&& BitVec.ofInt 32 m := by
    apply BitVec.eq_of_toNat_eq
    have := bv_int h2
    rw [bits_and_bv] at this
    rw [bits_and_bv]; omega
  rw [bits_and_bv (bits .and .u32 x k) m, bits_and_bv x (bits .and .u32 k m), e1, e2, BitVec.and_assoc]

/-- No bit from 3 to 11: the low twelve bits are below 8. -/
theorem and_low_high (x : Int) (hx : U32 x) (h : bits .and .u32 x 4088 = 0) : x % 4096 < 8 := by
  have h1 : bits .and .u32 x 4095 = x % 4096 := and_mask 12 (by decide) (by omega) hx
  have h7 : bits .and .u32 x 7 = x % 8 := and_mask 3 (by decide) (by omega) hx
  have e : bits .and .u32 (bits .and .u32 x 4095) 4088 = 0 := by
    rw [bits_and_assoc_low x 4088 4095, show bits .and .u32 4095 4088 = 4088 from by decide]; exact h
  rw [h1] at e
  have hs : U32 (x % 4096) := by unfold U32; omega
  have hh := and_high (x := x % 4096) 3 rfl (by omega) hs
  rw [show (4294967296 - 2 ^ 3 : Int) = 4294967288 by omega] at hh
  have e2 : bits .and .u32 (x % 4096) 4294967288 = 0 := by
    have e3 : bits .and .u32 (bits .and .u32 x 4095) 4294967288 = 0 := by
      rw [bits_and_assoc_low x 4294967288 4095, show bits .and .u32 4095 4294967288 = 4088 from by decide]; exact h
    rwa [h1] at e3
  omega

theorem or_comm32 (x y : Int) : bits .or .u32 x y = bits .or .u32 y x := by rw [bits_or_bv, bits_or_bv, BitVec.or_comm]
theorem and_comm32 (x y : Int) : bits .and .u32 x y = bits .and .u32 y x := by rw [bits_and_bv, bits_and_bv, BitVec.and_comm]
end Go.Proofs.Ytmmejomalfjcnaa
