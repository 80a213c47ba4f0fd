/- Bits turned, fields filled. No condition. -/
import Derived.Test.YtijgngiocmnakaaDoorFieldBits
namespace Go.Proofs.YtijgngiocmnakaaDoor
open Go.RowKit Sx
set_option linter.unusedVariables false
set_option linter.unusedSimpArgs false
set_option maxRecDepth 100000
set_option maxHeartbeats 1000000
/-- A word with one bit turned. -/
theorem xor_bit {x : Int} (k : Nat) (hk : k < 32) (hx : U32 x) : bits .xor .u32 x (2 ^ k) = if x / 2 ^ k % 2 = 0 then x + 2 ^ k else x - 2 ^ k := by
  have hm : U32 ((2 : Int) ^ k) := by
    unfold U32
    have h1 : (2 : Int) ^ k < 2 ^ 32 := by exact_mod_cast Nat.pow_lt_pow_right (by omega) hk
    have h2 : (0 : Int) < 2 ^ k := by exact_mod_cast Nat.two_pow_pos k
    omega
  have ha := and_bit (x := x) (m := 2 ^ k) k rfl hk hx
  split
  · rename_i h
    rw [h, Int.zero_mul] at ha
    rw [← or_disj hx hm ha, bits_xor_bv, bits_or_bv]
    have hz : BitVec.ofInt 32 x &&& BitVec.ofInt 32 (2 ^ k) = 0#32 := by
      rw [← bv_toNat_zero, ← bits_and_bv]; exact ha
    congr 2
    apply BitVec.eq_of_getLsbD_eq
    intro i hi
    have := congrArg (fun b => b.getLsbD i) hz
    simp only [BitVec.getLsbD_and, BitVec.getLsbD_zero] at this
    simp only [BitVec.getLsbD_xor, BitVec.getLsbD_or]
    revert this
    cases (BitVec.ofInt 32 x).getLsbD i <;> cases (BitVec.ofInt 32 (2 ^ k)).getLsbD i <;> simp
  · rename_i h
    have h1 : x / 2 ^ k % 2 = 1 := by omega
    rw [h1, Int.one_mul] at ha
    have hn := andNot_eq (x := x) (m := 2 ^ k) hx
    rw [ha] at hn
    rw [← hn, bits_xor_bv]
    have e2 : bits .andNot .u32 x (2 ^ k) = ((BitVec.ofInt 32 x &&& ~~~(BitVec.ofInt 32 (2 ^ k))).toNat : Int) := by unfold bits; exact wrap_bv _
    rw [e2]
    have hz : BitVec.ofInt 32 x &&& BitVec.ofInt 32 (2 ^ k) = BitVec.ofInt 32 (2 ^ k) := by
      apply BitVec.eq_of_toNat_eq
      have g1 := bits_and_bv x (2 ^ k)
      rw [ha] at g1
      have g2 := bv_int hm
      omega
    congr 2
    apply BitVec.eq_of_getLsbD_eq
    intro i hi
    have := congrArg (fun b => b.getLsbD i) hz
    simp only [BitVec.getLsbD_and] at this
    simp only [BitVec.getLsbD_xor, BitVec.getLsbD_and, BitVec.getLsbD_not, hi, decide_true, Bool.true_and]
    revert this
    cases (BitVec.ofInt 32 x).getLsbD i <;> cases (BitVec.ofInt 32 (2 ^ k)).getLsbD i <;> simp
theorem or_field {x m : Int} (k n : Nat) (hm : m = (2 ^ n - 1) * 2 ^ k) (hk : k + n ≤ 32) (hx : U32 x) (hU : U32 m) : bits .or .u32 x m = x - x / 2 ^ k % 2 ^ n * 2 ^ k + m := by
  have ha := and_field (x := x) k n hm hk hx
  have hn := andNot_eq (x := x) (m := m) hx
  rw [ha] at hn
  rw [← hn]
  have hnU : U32 (bits .andNot .u32 x m) := bits_U32 _ _ _
  have e2 : bits .andNot .u32 x m = ((BitVec.ofInt 32 x &&& ~~~(BitVec.ofInt 32 m)).toNat : Int) := by unfold bits; exact wrap_bv _
  have e3 : BitVec.ofInt 32 (bits .andNot .u32 x m) = BitVec.ofInt 32 x &&& ~~~(BitVec.ofInt 32 m) := by
    apply BitVec.eq_of_toNat_eq
    have := bv_int hnU
    omega
  have h0 : bits .and .u32 (bits .andNot .u32 x m) m = 0 := by
    rw [bits_and_bv, bv_toNat_zero, e3]
    apply BitVec.eq_of_getLsbD_eq
    intro i hi
    simp only [BitVec.getLsbD_and, BitVec.getLsbD_not, hi, decide_true, Bool.true_and, BitVec.getLsbD_zero]
    cases (BitVec.ofInt 32 x).getLsbD i <;> cases (BitVec.ofInt 32 m).getLsbD i <;> rfl
  rw [← or_disj hnU hU h0, bits_or_bv, bits_or_bv, e3]
  congr 2
  apply BitVec.eq_of_getLsbD_eq
  intro i hi
  simp only [BitVec.getLsbD_or, BitVec.getLsbD_and, BitVec.getLsbD_not, hi, decide_true, Bool.true_and]
  cases (BitVec.ofInt 32 x).getLsbD i <;> cases (BitVec.ofInt 32 m).getLsbD i <;> rfl
theorem oF22_4 {x : Int} (h : 0 ≤ x ∧ x < 4294967296) : bits .or .u32 x 62914560 = x - x / 4194304 % 16 * 4194304 + 62914560 := or_field 22 4 (by decide) (by decide) h (by decide)
theorem oF22_3 {x : Int} (h : 0 ≤ x ∧ x < 4294967296) : bits .or .u32 x 29360128 = x - x / 4194304 % 8 * 4194304 + 29360128 := or_field 22 3 (by decide) (by decide) h (by decide)
end Go.Proofs.YtijgngiocmnakaaDoor
