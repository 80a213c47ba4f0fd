/- A symbolic executor for functions of the model: symbolic values, rows of memory, what a call does. No condition. -/
import Derived.WalkKit
import Derived.Deep.WholeRow
import Derived.BigRegion
namespace Go.Proofs.Ytmmejomalfjcnaa
open Go.RowKit
set_option linter.unusedVariables false
set_option linter.unusedSectionVars false
set_option linter.unusedSimpArgs false
namespace Sx

/-- A symbolic value: its shape is closed, its leaves are terms. -/
inductive SV where
  | top
  | lit (k : IntKind) (n : Int)
  | int (k : IntKind) (n : Int)
  | litb (b : Bool)
  | bool (b : Bool)
  | str (s : ByteArray)
  | val (v : Value)
  | hnd (b : Nat)
  | ptr (i off : Nat)
  | pte (i off : Nat) (e : Int)
  | sl (i off len cap : Nat)
  | rd (k : IntKind) (v : Value) (xs : List Int)
  | rda (k : IntKind) (v : Value) (xs : List Int) (e : Int)
  | ints (k : IntKind) (n : Nat) (xs : List Int)
  | agg (cs : List SV)
  | tup (cs : List SV)
  | fn (f : Fn) (first captured : List SV)
  deriving Inhabited

/-- n integers as cells. -/
def intCells (k : IntKind) (n : Nat) (xs : List Int) : List Value := (List.range n).map fun j => .int k (xs.getD j 0)
def elemAddr (v : Value) (e : Int) : Value :=
  match v with
  | .slice (some a) _ _ => .pointer (some ⟨a.block, a.off + e.toNat, none⟩)
  | _ => undef

mutual
/-- The value that it stands for, the blocks' numbers being these. -/
def den (ρ : Nat → Nat) : SV → Value
  | .top => undef
  | .lit k n => .int k n
  | .int k n => .int k n
  | .litb b => .bool b
  | .bool b => .bool b
  | .str s => .string s
  | .val v => v
  | .hnd b => .pointer (some ⟨b, 0, none⟩)
  | .ptr i off => .pointer (some ⟨ρ i, off, none⟩)
  | .pte i off e => .pointer (some ⟨ρ i, off + e.toNat, none⟩)
  | .sl i off len cap => .slice (some ⟨ρ i, off, none⟩) len cap
  | .rd _ v _ => v
  | .rda _ v _ e => elemAddr v e
  | .ints k n xs => .agg (intCells k n xs).toArray
  | .agg cs => .agg (cellsL ρ cs).toArray
  | .tup cs => .tuple (denL ρ cs).toArray
  | .fn f a b => .func f (denL ρ a).toArray (denL ρ b).toArray
def denL (ρ : Nat → Nat) : List SV → List Value
  | [] => []
  | c :: cs => den ρ c :: denL ρ cs
def cellsL (ρ : Nat → Nat) : List SV → List Value
  | [] => []
  | .ints k n xs :: cs => intCells k n xs ++ cellsL ρ cs
  | c :: cs => den ρ c :: cellsL ρ cs
end

/-- A slice value that reads as integers: in memory that nobody writes. -/
def Reads (W : World) (F : Nat → Prop) (k : IntKind) (v : Value) (xs : List Int) : Prop :=
  (∃ a cap, v = .slice a xs.length cap ∧ xs = [] ∧ (a = none → cap = 0)) ∨
  ∃ b off cap, v = .slice (some ⟨b, off, none⟩) xs.length cap ∧ b < W.heap.size ∧ ¬ F b ∧ (∀ j, j < xs.length → W.cell? ⟨b, off + j, none⟩ = some (.int k (xs.getD j 0)))

mutual
/-- Its blocks are among the first n; what it reads is there. -/
def okd (W : World) (F : Nat → Prop) (n : Nat) : SV → Prop
  | .ptr i _ => i < n
  | .pte i _ _ => i < n
  | .sl i _ _ _ => i < n
  | .rd k v xs => Reads W F k v xs
  | .rda k v xs e => Reads W F k v xs ∧ 0 ≤ e ∧ e < xs.length
  | .agg cs => okdL W F n cs
  | .tup cs => okdL W F n cs
  | .fn _ a b => okdL W F n a ∧ okdL W F n b
  | _ => True
def okdL (W : World) (F : Nat → Prop) (n : Nat) : List SV → Prop
  | [] => True
  | c :: cs => okd W F n c ∧ okdL W F n cs
end

/-- A row of cells. -/
structure Row where
  ty : TypeId
  cs : List SV

/-- What has become of the world: below its size all but the blocks F is as it was. -/
structure Frm (F : Nat → Prop) (w w' : World) : Prop where
  os : w'.os = w.os
  tape : w'.tape = w.tape
  output : w'.output = w.output
  size : w.heap.size ≤ w'.heap.size
  block : ∀ b, b < w.heap.size → ¬ F b → w'.heap[b]? = w.heap[b]?

theorem Frm.refl (F : Nat → Prop) (w : World) : Frm F w w := ⟨rfl, rfl, rfl, Nat.le_refl _, fun _ _ _ => rfl⟩
theorem Frm.trans {F : Nat → Prop} {a b c : World} (h : Frm F a b) (k : Frm F b c) : Frm F a c :=
  ⟨k.os.trans h.os, k.tape.trans h.tape, k.output.trans h.output, Nat.le_trans h.size k.size, fun i hi hf => (k.block i (Nat.lt_of_lt_of_le hi h.size) hf).trans (h.block i hi hf)⟩

/-- Cells that hold what symbolic cells say. -/
def CellsOK (ρ : Nat → Nat) : List SV → List Value → Prop
  | [], vs => vs = []
  | .top :: r, vs => ∃ v t, vs = v :: t ∧ CellsOK ρ r t
  | .ints k n xs :: r, vs => ∃ t, vs = intCells k n xs ++ t ∧ CellsOK ρ r t
  | c :: r, vs => ∃ t, vs = den ρ c :: t ∧ CellsOK ρ r t

/-- The memory holds the rows; of what was there at the beginning only F has changed. -/
structure MemOK (W : World) (F : Nat → Prop) (ρ : Nat → Nat) (rows : List (Option Row)) (w : World) : Prop where
  frame : Frm F W w
  row : ∀ i r, rows[i]? = some (some r) → ∃ c : Array Value, w.heap[ρ i]? = some (.cells c r.ty (0, 0)) ∧ CellsOK ρ r.cs c.toList ∧ okdL W F rows.length r.cs
  inj : ∀ i j r q, rows[i]? = some (some r) → rows[j]? = some (some q) → ρ i = ρ j → i = j
  mine : ∀ i r, rows[i]? = some (some r) → F (ρ i) ∨ W.heap.size ≤ ρ i
theorem MemOK.lt {W : World} {F : Nat → Prop} {ρ : Nat → Nat} {rows : List (Option Row)} {w : World} (h : MemOK W F ρ rows w) {i : Nat} {r : Row} (hr : rows[i]? = some (some r)) : ρ i < w.heap.size := by
  obtain ⟨c, h1, _⟩ := h.row i r hr
  exact (Array.getElem?_eq_some_iff.1 h1).1

/-- The symbolic state of a function: temporaries, rows. -/
structure SS where
  tm : List (Nat × SV)
  rows : List (Option Row)

structure Sat (W : World) (F : Nat → Prop) (nt : Nat) (ρ : Nat → Nat) (s : SS) (a : Act) (w : World) : Prop where
  size : a.tmps.size = nt
  defers : a.defers = []
  tm : ∀ d sv, s.tm.lookup d = some sv → sv = .top ∨ (a.tmps[d]? = some (den ρ sv) ∧ okd W F s.rows.length sv)
  mem : MemOK W F ρ s.rows w

/-- What a call from these arguments and rows leads to. -/
def SemCall (P : Program) (f : FuncId) (args : List SV) (rows : List (Option Row)) (k : SV → List (Option Row) → Prop) : Prop :=
  ∀ (W : World) (F : Nat → Prop) (ρ : Nat → Nat) (w : World), MemOK W F ρ rows w → okdL W F rows.length args →
    Calls P f (denL ρ args).toArray w fun e w' => ∃ ρ' res rows', k res rows' ∧ e = .returned (den ρ' res) ∧ okd W F rows'.length res ∧ MemOK W F ρ' rows' w' ∧ rows.length ≤ rows'.length ∧ ∀ i, i < rows.length → ρ' i = ρ i
end Sx
end Go.Proofs.Ytmmejomalfjcnaa
