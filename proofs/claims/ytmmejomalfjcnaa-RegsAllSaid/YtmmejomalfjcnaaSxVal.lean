/- A symbolic executor for functions of the model: symbolic values, rows of memory. No condition. -/
import Derived.WalkKit
import Derived.Deep.WholeRow
import Derived.BigRegion
namespace Go.Proofs.Ytmmejomalfjcnaa
open Go.RowKit
set_option linter.unusedVariables false
set_option linter.unusedSectionVars false
set_option linter.unusedSimpArgs false
namespace Sx

/-- A symbolic value: its shape is closed, its leaves are terms. -/
inductive SV where
  | top
  | lit (k : IntKind) (n : Int)
  | int (k : IntKind) (n : Int)
  | litb (b : Bool)
  | bool (b : Bool)
  | str (s : ByteArray)
  | val (v : Value)
  | hnd (b : Nat)
  | gp (g off : Nat)
  | gpe (g off sz n : Nat) (e : Int)
  | ptr (i off : Nat)
  | pte (i off : Nat) (e : Int)
  | sl (i off len cap : Nat)
  | os (i off len cap : Nat)
  | on (i len : Nat) (z : Bool)
  | rd (k : IntKind) (v : Value) (xs : List Int)
  | rda (k : IntKind) (v : Value) (xs : List Int) (e : Int)
  | rs (sz : Nat) (v : Value) (n : Nat) (f : Nat → List SV)
  | rsa (sz : Nat) (v : Value) (n : Nat) (f : Nat → List SV) (e : Int) (off : Nat)
  | ints (k : IntKind) (n : Nat) (xs : List Int)
  | agg (cs : List SV)
  | tup (cs : List SV)
  | fn (f : Fn) (first captured : List SV)
  deriving Inhabited

/-- Of each row: its block, and, if it is a list, how many elements it has room for. -/
abbrev Num := Nat → Nat × Nat
def Num.zero : Num := fun _ => (0, 0)

/-- n integers as cells. -/
def intCells (k : IntKind) (n : Nat) (xs : List Int) : List Value := (List.range n).map fun j => .int k (xs.getD j 0)
def elemAddr (v : Value) (e : Int) : Value :=
  match v with
  | .slice (some a) _ _ => .pointer (some ⟨a.block, a.off + e.toNat, none⟩)
  | _ => undef

/-- The place of a cell of a slice's element. -/
def elemCell (sz : Nat) (v : Value) (e : Int) (off : Nat) : Value :=
  match v with
  | .slice (some a) _ _ => .pointer (some ⟨a.block, a.off + e.toNat * sz + off, none⟩)
  | _ => undef

/-- A list that a row holds: nil, if it never had room and z says so. -/
def listV (b : Nat × Nat) (len : Nat) (z : Bool) : Value :=
  if z = true ∧ b.2 = 0 then .slice none len 0 else .slice (some ⟨b.1, 0, none⟩) len b.2

mutual
/-- The value that it stands for, the blocks' numbers being these. -/
def den (ρ : Num) : SV → Value
  | .top => undef
  | .lit k n => .int k n
  | .int k n => .int k n
  | .litb b => .bool b
  | .bool b => .bool b
  | .str s => .string s
  | .val v => v
  | .hnd b => .pointer (some ⟨b, 0, none⟩)
  | .gp g off => .pointer (some ⟨g, off, none⟩)
  | .gpe g off sz _ e => .pointer (some ⟨g, off + e.toNat * sz, none⟩)
  | .ptr i off => .pointer (some ⟨(ρ i).1, off, none⟩)
  | .pte i off e => .pointer (some ⟨(ρ i).1, off + e.toNat, none⟩)
  | .sl i off len cap => .slice (some ⟨(ρ i).1, off, none⟩) len cap
  | .os i off len cap => .slice (some ⟨(ρ i).1, off, none⟩) len cap
  | .on i len z => listV (ρ i) len z
  | .rd _ v _ => v
  | .rda _ v _ e => elemAddr v e
  | .rs _ v _ _ => v
  | .rsa sz v _ _ e off => elemCell sz v e off
  | .ints k n xs => .agg (intCells k n xs).toArray
  | .agg cs => .agg (cellsL ρ cs).toArray
  | .tup cs => .tuple (denL ρ cs).toArray
  | .fn f a b => .func f (denL ρ a).toArray (denL ρ b).toArray
def denL (ρ : Num) : List SV → List Value
  | [] => []
  | c :: cs => den ρ c :: denL ρ cs
def cellsL (ρ : Num) : List SV → List Value
  | [] => []
  | .ints k n xs :: cs => intCells k n xs ++ cellsL ρ cs
  | c :: cs => den ρ c :: cellsL ρ cs
end

/-- A slice value that reads as integers: in memory that nobody writes. -/
def Reads (W : World) (F : Nat → Prop) (k : IntKind) (v : Value) (xs : List Int) : Prop :=
  (∃ a cap, v = .slice a xs.length cap ∧ xs = [] ∧ (a = none → cap = 0)) ∨
  ∃ b off cap, v = .slice (some ⟨b, off, none⟩) xs.length cap ∧ xs.length ≤ cap ∧ b < W.heap.size ∧ ¬ F b ∧ (∀ j, j < xs.length → W.cell? ⟨b, off + j, none⟩ = some (.int k (xs.getD j 0)))

/-- A slice value whose elements read as cells: in memory that nobody writes. -/
def ReadsS (W : World) (F : Nat → Prop) (sz : Nat) (v : Value) (n : Nat) (f : Nat → List Value) : Prop :=
  (∀ e, e < n → (f e).length = sz) ∧
  ((∃ a cap, v = .slice a n cap ∧ n = 0 ∧ (a = none → cap = 0)) ∨
  ∃ b off cap, v = .slice (some ⟨b, off, none⟩) n cap ∧ n ≤ cap ∧ b < W.heap.size ∧ ¬ F b ∧ ∀ e, e < n → ∀ j, j < sz → W.cell? ⟨b, off + e * sz + j, none⟩ = some ((f e).getD j undef))

mutual
/-- Its blocks are among the first n; what it reads is there. -/
def okd (W : World) (F : Nat → Prop) (n : Nat) : SV → Prop
  | .gpe _ _ _ m e => 0 ≤ e ∧ e < m
  | .ptr i _ => i < n
  | .pte i _ _ => i < n
  | .sl i _ _ _ => i < n
  | .os i _ _ _ => i < n
  | .on i _ _ => i < n
  | .rd k v xs => Reads W F k v xs
  | .rda k v xs e => Reads W F k v xs ∧ 0 ≤ e ∧ e < xs.length
  | .rs sz v m f => ReadsS W F sz v m (fun e => cellsL Num.zero (f e)) ∧ ∀ e, e < m → okdL W F 0 (f e)
  | .rsa sz v m f e off => (ReadsS W F sz v m (fun e => cellsL Num.zero (f e)) ∧ ∀ e, e < m → okdL W F 0 (f e)) ∧ 0 ≤ e ∧ e < m ∧ off < sz
  | .agg cs => okdL W F n cs
  | .tup cs => okdL W F n cs
  | .fn _ a b => okdL W F n a ∧ okdL W F n b
  | _ => True
def okdL (W : World) (F : Nat → Prop) (n : Nat) : List SV → Prop
  | [] => True
  | c :: cs => okd W F n c ∧ okdL W F n cs
end

/-- A row of cells; a list's row (sz: of an element): these, then whatever is spare. -/
structure Row where
  ty : TypeId
  cs : List SV
  sz : Nat := 0

/-- What has become of the world: below its size all but the blocks F is as it was. -/
structure Frm (F : Nat → Prop) (w w' : World) : Prop where
  os : w'.os = w.os
  tape : w'.tape = w.tape
  output : w'.output = w.output
  size : w.heap.size ≤ w'.heap.size
  block : ∀ b, b < w.heap.size → ¬ F b → w'.heap[b]? = w.heap[b]?

theorem Frm.refl (F : Nat → Prop) (w : World) : Frm F w w := ⟨rfl, rfl, rfl, Nat.le_refl _, fun _ _ _ => rfl⟩
theorem Frm.trans {F : Nat → Prop} {a b c : World} (h : Frm F a b) (k : Frm F b c) : Frm F a c :=
  ⟨k.os.trans h.os, k.tape.trans h.tape, k.output.trans h.output, Nat.le_trans h.size k.size, fun i hi hf => (k.block i (Nat.lt_of_lt_of_le hi h.size) hf).trans (h.block i hi hf)⟩

/-- Cells that hold what symbolic cells say. -/
def CellsOK (ρ : Num) : List SV → List Value → Prop
  | [], vs => vs = []
  | .top :: r, vs => ∃ v t, vs = v :: t ∧ CellsOK ρ r t
  | .ints k n xs :: r, vs => ∃ t, vs = intCells k n xs ++ t ∧ CellsOK ρ r t
  | c :: r, vs => ∃ t, vs = den ρ c :: t ∧ CellsOK ρ r t
end Sx
end Go.Proofs.Ytmmejomalfjcnaa
