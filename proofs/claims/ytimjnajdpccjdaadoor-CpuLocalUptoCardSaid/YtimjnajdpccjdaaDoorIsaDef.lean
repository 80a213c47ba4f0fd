/- Plain law of the packages isa and wardenref05: what shapes, names, fields are. No condition. -/
import Derived.Test.YtimjnajdpccjdaaDoorSxTypes
import Derived.Test.YtimjnajdpccjdaaDoorSxD
namespace Go.Proofs.YtimjnajdpccjdaaDoor
set_option linter.unusedVariables false
set_option linter.unusedSimpArgs false
open Go.RowKit Sx
def shapesL : List ByteArray := [⟨#[]⟩, ⟨#[97, 117]⟩, ⟨#[97, 117]⟩, ⟨#[97, 98]⟩, ⟨#[97, 98, 99]⟩, ⟨#[97, 98, 99]⟩, ⟨#[97, 98, 99]⟩, ⟨#[97, 98, 99]⟩, ⟨#[97, 98, 99]⟩, ⟨#[97, 98, 99]⟩, ⟨#[97, 98, 99]⟩, ⟨#[97, 98, 99]⟩, ⟨#[97, 98, 99]⟩, ⟨#[97, 98, 99]⟩, ⟨#[97, 98, 115]⟩, ⟨#[97, 98, 115]⟩, ⟨#[97, 98, 115]⟩, ⟨#[97, 98, 99]⟩, ⟨#[97, 98, 99]⟩, ⟨#[97, 98]⟩, ⟨#[97, 115]⟩, ⟨#[107, 111]⟩, ⟨#[111]⟩, ⟨#[97]⟩, ⟨#[117]⟩]
def shapeS (op : Int) : ByteArray := if 1 ≤ op ∧ op < 25 then shapesL.getD op.toNat ⟨#[]⟩ else ⟨#[]⟩
def withinS (u : Bool) (v lo hi : Int) : Bool := if u then decide (lo ≤ v) && decide (v ≤ hi) else decide (v = 0)
def hasB (s : ByteArray) (c : Int) : Bool := s.data.toList.any fun b => (b.toNat : Int) == c
def immS (s : ByteArray) (imm : Int) : Bool := if hasB s 117 then decide (0 ≤ imm) && decide (imm ≤ 65535) else if hasB s 115 || hasB s 111 then decide (-32768 ≤ imm) && decide (imm ≤ 32767) else decide (imm = 0)
def okI (s : ByteArray) (cond a b c imm : Int) : Bool := withinS (hasB s 97) a 0 14 && withinS (hasB s 98) b 0 14 && withinS (hasB s 99) c 0 14 && withinS (hasB s 107) cond 0 6 && immS s imm
def chkS (op cond a b c imm : Int) : Int := if strEq (shapeS op) ⟨#[]⟩ then 50 else if okI (shapeS op) cond a b c imm then 0 else 51
def encS (op cond a b c imm : Int) : Int := op * 67108864 + a * 4194304 + cond * 4194304 + b * 262144 + c * 16384 + imm % 65536
def zB (b : Bool) (n : Int) : Int := if b then n else 0
theorem wmod32 (x : Int) : IntKind.u32.wrap x = x % 4294967296 := by unfold IntKind.wrap; simp [IntKind.bits, IntKind.signed]
theorem zB_t {b : Bool} {n : Int} (h : b = true) : zB b n = n := by simp [zB, h]
theorem zB_f {b : Bool} {n : Int} (h : b = false) : zB b n = 0 := by simp [zB, h]
def extS (w : Int) : Int := if w % 65536 < 32768 then w % 65536 else w % 65536 - 65536
def dA (w : Int) : Int := zB (hasB (shapeS (w / 67108864)) 97) (w / 4194304 % 16)
def dK (w : Int) : Int := zB (hasB (shapeS (w / 67108864)) 107) (w / 4194304 % 8)
def dB (w : Int) : Int := zB (hasB (shapeS (w / 67108864)) 98) (w / 262144 % 16)
def dC (w : Int) : Int := zB (hasB (shapeS (w / 67108864)) 99) (w / 16384 % 16)
def dI (w : Int) : Int := if hasB (shapeS (w / 67108864)) 115 || hasB (shapeS (w / 67108864)) 111 then extS w else zB (hasB (shapeS (w / 67108864)) 117) (w % 65536)
def okWi (w : Int) : Bool := decide (chkS (w / 67108864) (dK w) (dA w) (dB w) (dC w) (dI w) = 0) && decide (encS (w / 67108864) (dK w) (dA w) (dB w) (dC w) (dI w) = w)
def e50 (b : Bool) : Int := if b then 0 else 50
theorem wi32 {x : Int} (h : 0 ≤ x ∧ x < 65536) : IntKind.i32.wrap x = x := wrap_in (k := .i32) (by simp [Sx.InK]; omega)
theorem extS_in (w : Int) : -32768 ≤ extS w ∧ extS w ≤ 32767 := by unfold extS; split <;> omega
def places : List (Int × Int) := [(26, 6), (22, 4), (22, 3), (18, 4), (14, 4), (0, 16)]
end Go.Proofs.YtimjnajdpccjdaaDoor
