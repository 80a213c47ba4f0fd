/- Small laws for walks, over any program: a row that stays over a call, a whole array stored into the block that was made last. -/
import Derived.WalkKit
import Derived.Deep.WholeRow
namespace Go.Proofs.Ytmmejomalfjcnaa
open Go.RowKit

theorem ret_int {k : IntKind} {a b : Int} (h : a = b) : Ending.returned (.int k a) = .returned (.int k b) := by rw [h]
theorem below_row {B b : Nat} {w w1 : World} {o : Obj} (hb : Below B w w1) (c : w.heap[b]? = some o) (h : b < B) : w1.heap[b]? = some o := (hb.block b h).trans c
theorem alloc_row {w : World} {o x : Obj} {i : Nat} (c : w.heap[i]? = some x) (h : i < w.heap.size) : (w.alloc o).heap[i]? = some x := (Below.heap_alloc w o i h).trans c
theorem below_cells {W w1 : World} (hb : Below W.heap.size W w1) : (∀ b o, b < W.heap.size → w1.cell? ⟨b, o, none⟩ = W.cell? ⟨b, o, none⟩) ∧ (∀ b o, b < W.heap.size → w1.frozen? ⟨b, o, none⟩ = W.frozen? ⟨b, o, none⟩) :=
  ⟨fun b o h => hb.cell (p := ⟨b, o, none⟩) h, fun b o h => hb.frozen (p := ⟨b, o, none⟩) h⟩
theorem rsize {n : Nat} (xs : List Int) (h : xs.length = n) {k : IntKind} {x : Option Nat} (hx : x = some n) : x = some (xs.map (Value.int k)).toArray.size := by simp [hx, h]
theorem oneCells (k : IntKind) (xs : List Int) : (xs.map (Value.int k)).toArray.all (·.oneCell') = true := by simp [Value.oneCell']
theorem wpList_store_new {P : Program} {ops : Array Oper} {rest : List Oper} {o : Oper} {a : Act} {w : World} {Q : Exit → Act → World → Prop} (hgd : o.guard = none) (ty : TypeId) (x y : Operand) (ho : o.op = .store ty x y)
    {t : TypeId} {old : Array Value} (cells : Array Value) (hx : a.eval x = .pointer (some ⟨w.heap.size, 0, none⟩)) (hy : a.eval y = .agg cells)
    (hi : (P.info? ty).map (·.size) = some cells.size)
    (hold : old.size = cells.size) (h1 : cells.all (·.oneCell') = true)
    (h : wpList P ops Q rest (a.put o.dst undef) (w.alloc (.cells cells t))) : wpList P ops Q (o :: rest) a (w.alloc (.cells old t)) :=
  wpList_store_row hgd ty x y ho _ cells hx hy t old (heap_alloc_new _ _) hi hold h1 (by rw [World.setRow_alloc_new]; exact h)
end Go.Proofs.Ytmmejomalfjcnaa
