/- Fields of words of 32 bits: taken out, laid in. No condition. -/
import Derived.Test.YtimjnajdpccjdaaDoorSxD
namespace Go.Proofs.YtimjnajdpccjdaaDoor
set_option linter.unusedVariables false
set_option linter.unusedSimpArgs false
open Go.RowKit
theorem nat_and_shl (a b k : Nat) : a &&& (b <<< k) = ((a >>> k) &&& b) <<< k := by
  apply Nat.eq_of_testBit_eq
  intro i
  simp only [Nat.testBit_and, Nat.testBit_shiftLeft, Nat.testBit_shiftRight]
  by_cases h : k ≤ i
  · simp [h, Nat.add_sub_cancel' h]
  · simp [h]
theorem and_field {x m : Int} (k n : Nat) (hm : m = (2 ^ n - 1) * 2 ^ k) (hk : k + n ≤ 32) (hx : U32 x) : bits .and .u32 x m = x / 2 ^ k % 2 ^ n * 2 ^ k := by
  unfold U32 at hx
  have h2 : (1 : Int) ≤ 2 ^ n := by exact_mod_cast Nat.one_le_two_pow
  have h2k : (1 : Int) ≤ 2 ^ k := by exact_mod_cast Nat.one_le_two_pow
  have h3 : ((2 : Int) ^ n - 1) * 2 ^ k < 2 ^ 32 := by
    have : (2 : Int) ^ n * 2 ^ k ≤ 2 ^ 32 := by rw [← Int.pow_add]; exact_mod_cast Nat.pow_le_pow_right (by omega) (by omega)
    rw [Int.sub_mul]; omega
  have h4 : 0 ≤ m := by rw [hm]; exact Int.mul_nonneg (by omega) (by omega)
  rw [u32_and x m (by omega) (by omega) h4 (by rw [hm]; omega)]
  have e : m.toNat = (2 ^ n - 1) <<< k := by
    rw [Nat.shiftLeft_eq]
    have h5 : 1 ≤ 2 ^ n := Nat.one_le_two_pow
    have : (((2 ^ n - 1) * 2 ^ k : Nat) : Int) = m := by rw [hm]; push_cast [Int.ofNat_sub h5]; rfl
    omega
  rw [e, nat_and_shl, Nat.and_two_pow_sub_one_eq_mod, Nat.shiftLeft_eq, Nat.shiftRight_eq_div_pow]
  push_cast
  rw [Int.toNat_of_nonneg hx.1]
theorem andNot_eq {x m : Int} (hx : U32 x) : bits .andNot .u32 x m = x - bits .and .u32 x m := by
  have h := bits_split (BitVec.ofInt 32 x) (BitVec.ofInt 32 m)
  have ha : bits .and .u32 x m = ((BitVec.ofInt 32 x &&& BitVec.ofInt 32 m).toNat : Int) := bits_and_bv x m
  have hn : bits .andNot .u32 x m = ((BitVec.ofInt 32 x &&& ~~~(BitVec.ofInt 32 m)).toNat : Int) := by unfold bits; exact wrap_bv _
  have hxx := bv_int hx
  omega
theorem lay_field {x v m p : Int} (k n : Nat) (hm : m = (2 ^ n - 1) * 2 ^ k) (hk : k + n ≤ 32) (hp : p = 2 ^ (k + n)) (hx : U32 x) (h0 : x % p = 0) : bits .or .u32 (bits .andNot .u32 x m) (bits .and .u32 (IntKind.u32.wrap (v * 2 ^ k)) m) = x + v % 2 ^ n * 2 ^ k := by
  have hU := hx
  unfold U32 at hx
  have e1 : (2 : Int) ^ (k + n) = 2 ^ n * 2 ^ k := by rw [Int.pow_add, Int.mul_comm]
  have hn0 : (0 : Int) < 2 ^ n := by exact_mod_cast Nat.two_pow_pos n
  have hk0 : (0 : Int) < 2 ^ k := by exact_mod_cast Nat.two_pow_pos k
  have z : x / 2 ^ k % 2 ^ n = 0 := by
    obtain ⟨q, hq⟩ := Int.dvd_of_emod_eq_zero h0
    rw [hq, hp, e1, show (2 : Int) ^ n * 2 ^ k * q = (2 ^ n * q) * 2 ^ k by rw [Int.mul_assoc, Int.mul_comm (2 ^ k), ← Int.mul_assoc], Int.mul_ediv_cancel _ (by omega), Int.mul_emod_right]
  rw [andNot_eq hU, and_field k n hm hk hU, z, Int.zero_mul, Int.sub_zero]
  have hw : U32 (IntKind.u32.wrap (v * 2 ^ k)) := by
    unfold IntKind.wrap U32
    simp [IntKind.bits, IntKind.signed]
    omega
  rw [and_field k n hm hk hw]
  have e2 : IntKind.u32.wrap (v * 2 ^ k) / 2 ^ k % 2 ^ n = v % 2 ^ n := by
    have : IntKind.u32.wrap (v * 2 ^ k) = v * 2 ^ k % 2 ^ 32 := by unfold IntKind.wrap; simp [IntKind.bits, IntKind.signed]
    rw [this]
    obtain ⟨j, hj⟩ : ∃ j, 32 = k + n + j := ⟨32 - (k + n), by omega⟩
    have e3 : (2 : Int) ^ 32 = 2 ^ k * (2 ^ n * 2 ^ j) := by rw [hj, Int.pow_add, Int.pow_add, Int.mul_assoc]
    rw [e3, Int.mul_comm v, Int.mul_emod_mul_of_pos _ _ hk0, Int.mul_ediv_cancel_left _ (by omega), Int.emod_emod_of_dvd _ ⟨_, rfl⟩]
  rw [e2]
  have b0 : 0 ≤ v % 2 ^ n := Int.emod_nonneg _ (by omega)
  have b1 : v % 2 ^ n < 2 ^ n := Int.emod_lt_of_pos _ hn0
  have hle : p ≤ 4294967296 := by rw [hp]; have : (2 : Int) ^ (k + n) ≤ 2 ^ 32 := by exact_mod_cast Nat.pow_le_pow_right (by omega) hk
                                  omega
  refine or_add (k + n) hp hU (Int.mul_nonneg b0 (by omega)) ?_ h0 hle
  rw [hp, e1]
  exact Int.mul_lt_mul_of_pos_right b1 hk0
end Go.Proofs.YtimjnajdpccjdaaDoor
