/- The document's reckoning of roots, as functions; the first ones of the round constants. No condition. -/
import Derived.Test.YtieeahpokociiaaDoorSxD
namespace Go.Proofs.YtieeahpokociiaaDoor
open Go.RowKit Sx
set_option linter.unusedVariables false
set_option maxRecDepth 100000
set_option maxHeartbeats 4000000
def tJ (l : List Int) (y : Int) (i : Nat) : Nat → List Int → List Int
  | 0, p => p
  | j + 1, p => (tJ l y i j p).set (i + j) (((tJ l y i j p).getD (i + j) 0 + (l.getD i 0 * (y / 2 ^ (16 * j) % 65536)) % 18446744073709551616) % 18446744073709551616)
def tI (l : List Int) (y : Int) : Nat → List Int
  | 0 => List.replicate (l.length + 3) 0
  | i + 1 => tJ l y i 3 (tI l y i)
def tC (p : List Int) : Nat → List Int
  | 0 => p
  | i + 1 => ((tC p i).set (i + 1) (((tC p i).getD (i + 1) 0 + (tC p i).getD i 0 / 65536) % 18446744073709551616)).set i (((tC p i).set (i + 1) (((tC p i).getD (i + 1) 0 + (tC p i).getD i 0 / 65536) % 18446744073709551616)).getD i 0 % 65536)
def timesS (l : List Int) (y : Int) : List Int := tC (tI l y l.length) (l.length + 2)
def aHi (l : List Int) (sh : Int) : Nat → Int
  | 0 => 0
  | k + 1 => if sh ≤ 16 * ((l.length : Int) - 1 - k) then (aHi l sh k * 65536 % 18446744073709551616 + l.getD (l.length - 1 - k) 0) % 18446744073709551616 else aHi l sh k
def aRe (l : List Int) (sh : Int) : Nat → Bool
  | 0 => false
  | k + 1 => if sh ≤ 16 * ((l.length : Int) - 1 - k) then aRe l sh k else (l.getD (l.length - 1 - k) 0 != 0 || aRe l sh k)
def aboveS (l : List Int) (n sh : Int) : Bool := decide (n < aHi l sh l.length) || (decide (aHi l sh l.length = n) && aRe l sh l.length)
def fitsS (y n : Int) (third : Bool) : Bool := if third then !aboveS (timesS (timesS (timesS [1] y) y) y) n 96 else !aboveS (timesS (timesS [1] y) y) n 64
def bS (n : Int) (third : Bool) : Nat → Int
  | 0 => 0
  | k + 1 => if fitsS ((bS n third k + 2 ^ (35 - k)) % 18446744073709551616) n third = true then (bS n third k + 2 ^ (35 - k)) % 18446744073709551616 else bS n third k
def PR : List Int := [2, 3, 5, 7, 11, 13, 17, 19, 23, 29, 31, 37, 41, 43, 47, 53, 59, 61, 67, 71, 73, 79, 83, 89, 97, 101, 103, 107, 109, 113, 127, 131, 137, 139, 149, 151, 157, 163, 167, 173, 179, 181, 191, 193, 197, 199, 211, 223, 227, 229, 233, 239, 241, 251, 257, 263, 269, 271, 277, 281, 283, 293, 307, 311]
def KCS : List Int := [1116352408, 1899447441, 3049323471, 3921009573, 961987163, 1508970993, 2453635748, 2870763221, 3624381080, 310598401, 607225278, 1426881987, 1925078388, 2162078206, 2614888103, 3248222580, 3835390401, 4022224774, 264347078, 604807628, 770255983, 1249150122, 1555081692, 1996064986, 2554220882, 2821834349, 2952996808, 3210313671, 3336571891, 3584528711, 113926993, 338241895, 666307205, 773529912, 1294757372, 1396182291, 1695183700, 1986661051, 2177026350, 2456956037, 2730485921, 2820302411, 3259730800, 3345764771, 3516065817, 3600352804, 4094571909, 275423344, 430227734, 506948616, 659060556, 883997877, 958139571, 1322822218, 1537002063, 1747873779, 1955562222, 2024104815, 2227730452, 2361852424, 2428436474, 2756734187, 3204031479, 3329325298]
theorem rk0 : ∀ j : Fin 4, IntKind.u32.wrap (bS (PR.getD (0 + j.val) 0) true 36) = KCS.getD (0 + j.val) 0 := by decide +kernel
theorem rk1 : ∀ j : Fin 4, IntKind.u32.wrap (bS (PR.getD (4 + j.val) 0) true 36) = KCS.getD (4 + j.val) 0 := by decide +kernel
theorem rk2 : ∀ j : Fin 4, IntKind.u32.wrap (bS (PR.getD (8 + j.val) 0) true 36) = KCS.getD (8 + j.val) 0 := by decide +kernel
theorem rk3 : ∀ j : Fin 4, IntKind.u32.wrap (bS (PR.getD (12 + j.val) 0) true 36) = KCS.getD (12 + j.val) 0 := by decide +kernel
theorem rk4 : ∀ j : Fin 4, IntKind.u32.wrap (bS (PR.getD (16 + j.val) 0) true 36) = KCS.getD (16 + j.val) 0 := by decide +kernel
theorem rk5 : ∀ j : Fin 4, IntKind.u32.wrap (bS (PR.getD (20 + j.val) 0) true 36) = KCS.getD (20 + j.val) 0 := by decide +kernel
theorem rk6 : ∀ j : Fin 4, IntKind.u32.wrap (bS (PR.getD (24 + j.val) 0) true 36) = KCS.getD (24 + j.val) 0 := by decide +kernel
theorem rk7 : ∀ j : Fin 4, IntKind.u32.wrap (bS (PR.getD (28 + j.val) 0) true 36) = KCS.getD (28 + j.val) 0 := by decide +kernel
end Go.Proofs.YtieeahpokociiaaDoor
