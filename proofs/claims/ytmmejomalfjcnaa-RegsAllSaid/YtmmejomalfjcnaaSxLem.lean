/- Rewriting lemmas over words, with side conditions for omega. No condition. -/
import Derived.Test.YtmmejomalfjcnaaSxUse
import Derived.Test.YtmmejomalfjcnaaBits
namespace Go.Proofs.Ytmmejomalfjcnaa
open Go.RowKit Sx
set_option linter.unusedVariables false
theorem w_u32 {x : Int} (h : 0 ≤ x ∧ x < 4294967296) : IntKind.u32.wrap x = x := wrap_in (k := .u32) h
theorem w_i64 {x : Int} (h : -9223372036854775808 ≤ x ∧ x < 9223372036854775808) : IntKind.i64.wrap x = x := wrap_in (k := .i64) h
theorem w_u64 {x : Int} (h : 0 ≤ x ∧ x < 18446744073709551616) : IntKind.u64.wrap x = x := wrap_in (k := .u64) h
theorem w_u8 {x : Int} (h : 0 ≤ x ∧ x < 256) : IntKind.u8.wrap x = x := wrap_in (k := .u8) h
theorem or_b0 {x : Int} (h : 0 ≤ x ∧ x < 4294967296) (e : x / 1 % 2 = 0) : bits .or .u32 x 1 = x + 1 := or_bit 0 (by decide) (by decide) h e
theorem and_b0 {x : Int} (h : 0 ≤ x ∧ x < 4294967296) : bits .and .u32 x 1 = x / 1 % 2 * 1 := and_bit 0 (by decide) (by decide) h
theorem or_b1 {x : Int} (h : 0 ≤ x ∧ x < 4294967296) (e : x / 2 % 2 = 0) : bits .or .u32 x 2 = x + 2 := or_bit 1 (by decide) (by decide) h e
theorem and_b1 {x : Int} (h : 0 ≤ x ∧ x < 4294967296) : bits .and .u32 x 2 = x / 2 % 2 * 2 := and_bit 1 (by decide) (by decide) h
theorem and_m1 {x : Int} (h : 0 ≤ x ∧ x < 4294967296) : bits .and .u32 x 1 = x % 2 := and_mask 1 (by decide) (by decide) h
theorem or_b2 {x : Int} (h : 0 ≤ x ∧ x < 4294967296) (e : x / 4 % 2 = 0) : bits .or .u32 x 4 = x + 4 := or_bit 2 (by decide) (by decide) h e
theorem and_b2 {x : Int} (h : 0 ≤ x ∧ x < 4294967296) : bits .and .u32 x 4 = x / 4 % 2 * 4 := and_bit 2 (by decide) (by decide) h
theorem and_m2 {x : Int} (h : 0 ≤ x ∧ x < 4294967296) : bits .and .u32 x 3 = x % 4 := and_mask 2 (by decide) (by decide) h
theorem or_b3 {x : Int} (h : 0 ≤ x ∧ x < 4294967296) (e : x / 8 % 2 = 0) : bits .or .u32 x 8 = x + 8 := or_bit 3 (by decide) (by decide) h e
theorem and_b3 {x : Int} (h : 0 ≤ x ∧ x < 4294967296) : bits .and .u32 x 8 = x / 8 % 2 * 8 := and_bit 3 (by decide) (by decide) h
theorem and_m3 {x : Int} (h : 0 ≤ x ∧ x < 4294967296) : bits .and .u32 x 7 = x % 8 := and_mask 3 (by decide) (by decide) h
theorem or_b4 {x : Int} (h : 0 ≤ x ∧ x < 4294967296) (e : x / 16 % 2 = 0) : bits .or .u32 x 16 = x + 16 := or_bit 4 (by decide) (by decide) h e
theorem and_b4 {x : Int} (h : 0 ≤ x ∧ x < 4294967296) : bits .and .u32 x 16 = x / 16 % 2 * 16 := and_bit 4 (by decide) (by decide) h
theorem and_m4 {x : Int} (h : 0 ≤ x ∧ x < 4294967296) : bits .and .u32 x 15 = x % 16 := and_mask 4 (by decide) (by decide) h
theorem or_b5 {x : Int} (h : 0 ≤ x ∧ x < 4294967296) (e : x / 32 % 2 = 0) : bits .or .u32 x 32 = x + 32 := or_bit 5 (by decide) (by decide) h e
theorem and_b5 {x : Int} (h : 0 ≤ x ∧ x < 4294967296) : bits .and .u32 x 32 = x / 32 % 2 * 32 := and_bit 5 (by decide) (by decide) h
theorem and_m5 {x : Int} (h : 0 ≤ x ∧ x < 4294967296) : bits .and .u32 x 31 = x % 32 := and_mask 5 (by decide) (by decide) h
theorem or_b6 {x : Int} (h : 0 ≤ x ∧ x < 4294967296) (e : x / 64 % 2 = 0) : bits .or .u32 x 64 = x + 64 := or_bit 6 (by decide) (by decide) h e
theorem and_b6 {x : Int} (h : 0 ≤ x ∧ x < 4294967296) : bits .and .u32 x 64 = x / 64 % 2 * 64 := and_bit 6 (by decide) (by decide) h
theorem and_m6 {x : Int} (h : 0 ≤ x ∧ x < 4294967296) : bits .and .u32 x 63 = x % 64 := and_mask 6 (by decide) (by decide) h
theorem or_b7 {x : Int} (h : 0 ≤ x ∧ x < 4294967296) (e : x / 128 % 2 = 0) : bits .or .u32 x 128 = x + 128 := or_bit 7 (by decide) (by decide) h e
theorem and_b7 {x : Int} (h : 0 ≤ x ∧ x < 4294967296) : bits .and .u32 x 128 = x / 128 % 2 * 128 := and_bit 7 (by decide) (by decide) h
theorem and_m7 {x : Int} (h : 0 ≤ x ∧ x < 4294967296) : bits .and .u32 x 127 = x % 128 := and_mask 7 (by decide) (by decide) h
theorem or_b8 {x : Int} (h : 0 ≤ x ∧ x < 4294967296) (e : x / 256 % 2 = 0) : bits .or .u32 x 256 = x + 256 := or_bit 8 (by decide) (by decide) h e
theorem and_b8 {x : Int} (h : 0 ≤ x ∧ x < 4294967296) : bits .and .u32 x 256 = x / 256 % 2 * 256 := and_bit 8 (by decide) (by decide) h
theorem and_m8 {x : Int} (h : 0 ≤ x ∧ x < 4294967296) : bits .and .u32 x 255 = x % 256 := and_mask 8 (by decide) (by decide) h
theorem or_b9 {x : Int} (h : 0 ≤ x ∧ x < 4294967296) (e : x / 512 % 2 = 0) : bits .or .u32 x 512 = x + 512 := or_bit 9 (by decide) (by decide) h e
theorem and_b9 {x : Int} (h : 0 ≤ x ∧ x < 4294967296) : bits .and .u32 x 512 = x / 512 % 2 * 512 := and_bit 9 (by decide) (by decide) h
theorem and_m9 {x : Int} (h : 0 ≤ x ∧ x < 4294967296) : bits .and .u32 x 511 = x % 512 := and_mask 9 (by decide) (by decide) h
theorem or_b10 {x : Int} (h : 0 ≤ x ∧ x < 4294967296) (e : x / 1024 % 2 = 0) : bits .or .u32 x 1024 = x + 1024 := or_bit 10 (by decide) (by decide) h e
theorem and_b10 {x : Int} (h : 0 ≤ x ∧ x < 4294967296) : bits .and .u32 x 1024 = x / 1024 % 2 * 1024 := and_bit 10 (by decide) (by decide) h
theorem and_m10 {x : Int} (h : 0 ≤ x ∧ x < 4294967296) : bits .and .u32 x 1023 = x % 1024 := and_mask 10 (by decide) (by decide) h
theorem or_b11 {x : Int} (h : 0 ≤ x ∧ x < 4294967296) (e : x / 2048 % 2 = 0) : bits .or .u32 x 2048 = x + 2048 := or_bit 11 (by decide) (by decide) h e
theorem and_b11 {x : Int} (h : 0 ≤ x ∧ x < 4294967296) : bits .and .u32 x 2048 = x / 2048 % 2 * 2048 := and_bit 11 (by decide) (by decide) h
theorem and_m11 {x : Int} (h : 0 ≤ x ∧ x < 4294967296) : bits .and .u32 x 2047 = x % 2048 := and_mask 11 (by decide) (by decide) h
theorem or_b12 {x : Int} (h : 0 ≤ x ∧ x < 4294967296) (e : x / 4096 % 2 = 0) : bits .or .u32 x 4096 = x + 4096 := or_bit 12 (by decide) (by decide) h e
theorem and_b12 {x : Int} (h : 0 ≤ x ∧ x < 4294967296) : bits .and .u32 x 4096 = x / 4096 % 2 * 4096 := and_bit 12 (by decide) (by decide) h
theorem and_m12 {x : Int} (h : 0 ≤ x ∧ x < 4294967296) : bits .and .u32 x 4095 = x % 4096 := and_mask 12 (by decide) (by decide) h
theorem or_b13 {x : Int} (h : 0 ≤ x ∧ x < 4294967296) (e : x / 8192 % 2 = 0) : bits .or .u32 x 8192 = x + 8192 := or_bit 13 (by decide) (by decide) h e
theorem and_b13 {x : Int} (h : 0 ≤ x ∧ x < 4294967296) : bits .and .u32 x 8192 = x / 8192 % 2 * 8192 := and_bit 13 (by decide) (by decide) h
theorem and_m13 {x : Int} (h : 0 ≤ x ∧ x < 4294967296) : bits .and .u32 x 8191 = x % 8192 := and_mask 13 (by decide) (by decide) h
theorem or_b14 {x : Int} (h : 0 ≤ x ∧ x < 4294967296) (e : x / 16384 % 2 = 0) : bits .or .u32 x 16384 = x + 16384 := or_bit 14 (by decide) (by decide) h e
theorem and_b14 {x : Int} (h : 0 ≤ x ∧ x < 4294967296) : bits .and .u32 x 16384 = x / 16384 % 2 * 16384 := and_bit 14 (by decide) (by decide) h
theorem and_m14 {x : Int} (h : 0 ≤ x ∧ x < 4294967296) : bits .and .u32 x 16383 = x % 16384 := and_mask 14 (by decide) (by decide) h
theorem or_b15 {x : Int} (h : 0 ≤ x ∧ x < 4294967296) (e : x / 32768 % 2 = 0) : bits .or .u32 x 32768 = x + 32768 := or_bit 15 (by decide) (by decide) h e
theorem and_b15 {x : Int} (h : 0 ≤ x ∧ x < 4294967296) : bits .and .u32 x 32768 = x / 32768 % 2 * 32768 := and_bit 15 (by decide) (by decide) h
theorem and_m15 {x : Int} (h : 0 ≤ x ∧ x < 4294967296) : bits .and .u32 x 32767 = x % 32768 := and_mask 15 (by decide) (by decide) h
theorem or_b16 {x : Int} (h : 0 ≤ x ∧ x < 4294967296) (e : x / 65536 % 2 = 0) : bits .or .u32 x 65536 = x + 65536 := or_bit 16 (by decide) (by decide) h e
theorem and_b16 {x : Int} (h : 0 ≤ x ∧ x < 4294967296) : bits .and .u32 x 65536 = x / 65536 % 2 * 65536 := and_bit 16 (by decide) (by decide) h
theorem and_m16 {x : Int} (h : 0 ≤ x ∧ x < 4294967296) : bits .and .u32 x 65535 = x % 65536 := and_mask 16 (by decide) (by decide) h
theorem or_b17 {x : Int} (h : 0 ≤ x ∧ x < 4294967296) (e : x / 131072 % 2 = 0) : bits .or .u32 x 131072 = x + 131072 := or_bit 17 (by decide) (by decide) h e
theorem and_b17 {x : Int} (h : 0 ≤ x ∧ x < 4294967296) : bits .and .u32 x 131072 = x / 131072 % 2 * 131072 := and_bit 17 (by decide) (by decide) h
theorem and_m17 {x : Int} (h : 0 ≤ x ∧ x < 4294967296) : bits .and .u32 x 131071 = x % 131072 := and_mask 17 (by decide) (by decide) h
theorem or_b18 {x : Int} (h : 0 ≤ x ∧ x < 4294967296) (e : x / 262144 % 2 = 0) : bits .or .u32 x 262144 = x + 262144 := or_bit 18 (by decide) (by decide) h e
theorem and_b18 {x : Int} (h : 0 ≤ x ∧ x < 4294967296) : bits .and .u32 x 262144 = x / 262144 % 2 * 262144 := and_bit 18 (by decide) (by decide) h
theorem and_m18 {x : Int} (h : 0 ≤ x ∧ x < 4294967296) : bits .and .u32 x 262143 = x % 262144 := and_mask 18 (by decide) (by decide) h
theorem or_b19 {x : Int} (h : 0 ≤ x ∧ x < 4294967296) (e : x / 524288 % 2 = 0) : bits .or .u32 x 524288 = x + 524288 := or_bit 19 (by decide) (by decide) h e
theorem and_b19 {x : Int} (h : 0 ≤ x ∧ x < 4294967296) : bits .and .u32 x 524288 = x / 524288 % 2 * 524288 := and_bit 19 (by decide) (by decide) h
theorem and_m19 {x : Int} (h : 0 ≤ x ∧ x < 4294967296) : bits .and .u32 x 524287 = x % 524288 := and_mask 19 (by decide) (by decide) h
theorem or_b20 {x : Int} (h : 0 ≤ x ∧ x < 4294967296) (e : x / 1048576 % 2 = 0) : bits .or .u32 x 1048576 = x + 1048576 := or_bit 20 (by decide) (by decide) h e
theorem and_b20 {x : Int} (h : 0 ≤ x ∧ x < 4294967296) : bits .and .u32 x 1048576 = x / 1048576 % 2 * 1048576 := and_bit 20 (by decide) (by decide) h
theorem and_m20 {x : Int} (h : 0 ≤ x ∧ x < 4294967296) : bits .and .u32 x 1048575 = x % 1048576 := and_mask 20 (by decide) (by decide) h
theorem or_b21 {x : Int} (h : 0 ≤ x ∧ x < 4294967296) (e : x / 2097152 % 2 = 0) : bits .or .u32 x 2097152 = x + 2097152 := or_bit 21 (by decide) (by decide) h e
theorem and_b21 {x : Int} (h : 0 ≤ x ∧ x < 4294967296) : bits .and .u32 x 2097152 = x / 2097152 % 2 * 2097152 := and_bit 21 (by decide) (by decide) h
theorem and_m21 {x : Int} (h : 0 ≤ x ∧ x < 4294967296) : bits .and .u32 x 2097151 = x % 2097152 := and_mask 21 (by decide) (by decide) h
theorem or_b22 {x : Int} (h : 0 ≤ x ∧ x < 4294967296) (e : x / 4194304 % 2 = 0) : bits .or .u32 x 4194304 = x + 4194304 := or_bit 22 (by decide) (by decide) h e
theorem and_b22 {x : Int} (h : 0 ≤ x ∧ x < 4294967296) : bits .and .u32 x 4194304 = x / 4194304 % 2 * 4194304 := and_bit 22 (by decide) (by decide) h
theorem and_m22 {x : Int} (h : 0 ≤ x ∧ x < 4294967296) : bits .and .u32 x 4194303 = x % 4194304 := and_mask 22 (by decide) (by decide) h
theorem or_b23 {x : Int} (h : 0 ≤ x ∧ x < 4294967296) (e : x / 8388608 % 2 = 0) : bits .or .u32 x 8388608 = x + 8388608 := or_bit 23 (by decide) (by decide) h e
theorem and_b23 {x : Int} (h : 0 ≤ x ∧ x < 4294967296) : bits .and .u32 x 8388608 = x / 8388608 % 2 * 8388608 := and_bit 23 (by decide) (by decide) h
theorem and_m23 {x : Int} (h : 0 ≤ x ∧ x < 4294967296) : bits .and .u32 x 8388607 = x % 8388608 := and_mask 23 (by decide) (by decide) h
theorem or_b24 {x : Int} (h : 0 ≤ x ∧ x < 4294967296) (e : x / 16777216 % 2 = 0) : bits .or .u32 x 16777216 = x + 16777216 := or_bit 24 (by decide) (by decide) h e
theorem and_b24 {x : Int} (h : 0 ≤ x ∧ x < 4294967296) : bits .and .u32 x 16777216 = x / 16777216 % 2 * 16777216 := and_bit 24 (by decide) (by decide) h
theorem and_m24 {x : Int} (h : 0 ≤ x ∧ x < 4294967296) : bits .and .u32 x 16777215 = x % 16777216 := and_mask 24 (by decide) (by decide) h
theorem or_b25 {x : Int} (h : 0 ≤ x ∧ x < 4294967296) (e : x / 33554432 % 2 = 0) : bits .or .u32 x 33554432 = x + 33554432 := or_bit 25 (by decide) (by decide) h e
theorem and_b25 {x : Int} (h : 0 ≤ x ∧ x < 4294967296) : bits .and .u32 x 33554432 = x / 33554432 % 2 * 33554432 := and_bit 25 (by decide) (by decide) h
theorem and_m25 {x : Int} (h : 0 ≤ x ∧ x < 4294967296) : bits .and .u32 x 33554431 = x % 33554432 := and_mask 25 (by decide) (by decide) h
theorem or_b26 {x : Int} (h : 0 ≤ x ∧ x < 4294967296) (e : x / 67108864 % 2 = 0) : bits .or .u32 x 67108864 = x + 67108864 := or_bit 26 (by decide) (by decide) h e
theorem and_b26 {x : Int} (h : 0 ≤ x ∧ x < 4294967296) : bits .and .u32 x 67108864 = x / 67108864 % 2 * 67108864 := and_bit 26 (by decide) (by decide) h
theorem and_m26 {x : Int} (h : 0 ≤ x ∧ x < 4294967296) : bits .and .u32 x 67108863 = x % 67108864 := and_mask 26 (by decide) (by decide) h
theorem or_b27 {x : Int} (h : 0 ≤ x ∧ x < 4294967296) (e : x / 134217728 % 2 = 0) : bits .or .u32 x 134217728 = x + 134217728 := or_bit 27 (by decide) (by decide) h e
theorem and_b27 {x : Int} (h : 0 ≤ x ∧ x < 4294967296) : bits .and .u32 x 134217728 = x / 134217728 % 2 * 134217728 := and_bit 27 (by decide) (by decide) h
theorem and_m27 {x : Int} (h : 0 ≤ x ∧ x < 4294967296) : bits .and .u32 x 134217727 = x % 134217728 := and_mask 27 (by decide) (by decide) h
theorem or_b28 {x : Int} (h : 0 ≤ x ∧ x < 4294967296) (e : x / 268435456 % 2 = 0) : bits .or .u32 x 268435456 = x + 268435456 := or_bit 28 (by decide) (by decide) h e
theorem and_b28 {x : Int} (h : 0 ≤ x ∧ x < 4294967296) : bits .and .u32 x 268435456 = x / 268435456 % 2 * 268435456 := and_bit 28 (by decide) (by decide) h
theorem and_m28 {x : Int} (h : 0 ≤ x ∧ x < 4294967296) : bits .and .u32 x 268435455 = x % 268435456 := and_mask 28 (by decide) (by decide) h
theorem or_b29 {x : Int} (h : 0 ≤ x ∧ x < 4294967296) (e : x / 536870912 % 2 = 0) : bits .or .u32 x 536870912 = x + 536870912 := or_bit 29 (by decide) (by decide) h e
theorem and_b29 {x : Int} (h : 0 ≤ x ∧ x < 4294967296) : bits .and .u32 x 536870912 = x / 536870912 % 2 * 536870912 := and_bit 29 (by decide) (by decide) h
theorem and_m29 {x : Int} (h : 0 ≤ x ∧ x < 4294967296) : bits .and .u32 x 536870911 = x % 536870912 := and_mask 29 (by decide) (by decide) h
theorem or_b30 {x : Int} (h : 0 ≤ x ∧ x < 4294967296) (e : x / 1073741824 % 2 = 0) : bits .or .u32 x 1073741824 = x + 1073741824 := or_bit 30 (by decide) (by decide) h e
theorem and_b30 {x : Int} (h : 0 ≤ x ∧ x < 4294967296) : bits .and .u32 x 1073741824 = x / 1073741824 % 2 * 1073741824 := and_bit 30 (by decide) (by decide) h
theorem and_m30 {x : Int} (h : 0 ≤ x ∧ x < 4294967296) : bits .and .u32 x 1073741823 = x % 1073741824 := and_mask 30 (by decide) (by decide) h
theorem or_b31 {x : Int} (h : 0 ≤ x ∧ x < 4294967296) (e : x / 2147483648 % 2 = 0) : bits .or .u32 x 2147483648 = x + 2147483648 := or_bit 31 (by decide) (by decide) h e
theorem and_b31 {x : Int} (h : 0 ≤ x ∧ x < 4294967296) : bits .and .u32 x 2147483648 = x / 2147483648 % 2 * 2147483648 := and_bit 31 (by decide) (by decide) h
theorem and_m31 {x : Int} (h : 0 ≤ x ∧ x < 4294967296) : bits .and .u32 x 2147483647 = x % 2147483648 := and_mask 31 (by decide) (by decide) h
theorem and_m32 {x : Int} (h : 0 ≤ x ∧ x < 4294967296) : bits .and .u32 x 4294967295 = x := by rw [and_mask 32 (by decide) (by decide) h]; simp only [Int.reduceAdd]; omega
end Go.Proofs.Ytmmejomalfjcnaa
