/- A symbolic executor for functions of the model: what memory holds, what a call does. No condition. -/
import Derived.Test.YtmmejomalfjcnaaSxGlob
namespace Go.Proofs.Ytmmejomalfjcnaa
open Go.RowKit
set_option linter.unusedVariables false
set_option linter.unusedSectionVars false
set_option linter.unusedSimpArgs false
namespace Sx

/-- The package's variables that the program's text lays hold what it lays, and nobody writes them. -/
def Globs (W : World) (F : Nat → Prop) : Prop :=
  ∀ g cs, List.lookup g globs = some cs → ¬ F g ∧ ∃ (c : Array Value) (ty : TypeId) (fr : Nat × Nat), W.heap[g]? = some (.cells c ty fr) ∧ c.toList = cellsL Num.zero cs

/-- Is there a block for a row? (A list that never had room has none.) -/
def Has (ρ : Num) (i : Nat) (r : Row) : Prop := r.sz = 0 ∨ (ρ i).2 ≠ 0
def RowOK (ρ : Num) (w : World) (i : Nat) (r : Row) : Prop :=
  (Has ρ i r ∧ ∃ (c : Array Value) (l rest : List Value), w.heap[(ρ i).1]? = some (.cells c r.ty (0, 0)) ∧ c.toList = l ++ rest ∧ CellsOK ρ r.cs l ∧ (r.sz = 0 → rest = []) ∧ (r.sz ≠ 0 → c.size = (ρ i).2 * r.sz)) ∨
  (¬ Has ρ i r ∧ CellsOK ρ r.cs [])

/-- The memory holds the rows; of what was there at the beginning only F has changed. -/
structure MemOK (W : World) (F : Nat → Prop) (ρ : Num) (rows : List (Option Row)) (w : World) : Prop where
  frame : Frm F W w
  glob : Globs W F
  row : ∀ i r, rows[i]? = some (some r) → RowOK ρ w i r ∧ okdL W F rows.length r.cs
  inj : ∀ i j r q, rows[i]? = some (some r) → rows[j]? = some (some q) → Has ρ i r → Has ρ j q → (ρ i).1 = (ρ j).1 → i = j
  mine : ∀ i r, rows[i]? = some (some r) → Has ρ i r → F (ρ i).1 ∨ W.heap.size ≤ (ρ i).1
theorem RowOK.lt {ρ : Num} {w : World} {i : Nat} {r : Row} (h : RowOK ρ w i r) (hh : Has ρ i r) : (ρ i).1 < w.heap.size := by
  rcases h with ⟨_, c, l, rest, h1, _⟩ | ⟨h, _⟩
  · exact (Array.getElem?_eq_some_iff.1 h1).1
  · exact absurd hh h
theorem MemOK.lt {W : World} {F : Nat → Prop} {ρ : Num} {rows : List (Option Row)} {w : World} (h : MemOK W F ρ rows w) {i : Nat} {r : Row} (hr : rows[i]? = some (some r)) (hh : Has ρ i r) : (ρ i).1 < w.heap.size :=
  (h.row i r hr).1.lt hh
/-- A row elsewhere in time: the block is as it was, the cells stand for the same. -/
theorem RowOK.map {ρ ρ' : Num} {w w' : World} {i i' : Nat} {r r' : Row} (h : RowOK ρ w i r) (hρ : ρ' i' = ρ i) (hty : r'.ty = r.ty) (hsz : r'.sz = r.sz) (hb : Has ρ i r → w'.heap[(ρ i).1]? = w.heap[(ρ i).1]?)
    (hc : ∀ vs, CellsOK ρ r.cs vs → CellsOK ρ' r'.cs vs) : RowOK ρ' w' i' r' := by
  unfold RowOK Has at *
  rw [hρ, hty, hsz]
  rcases h with ⟨h1, c, l, rest, h2, h3, h4, h5⟩ | ⟨h1, h2⟩
  · exact .inl ⟨h1, c, l, rest, by rw [hb h1]; exact h2, h3, hc _ h4, h5⟩
  · exact .inr ⟨h1, hc _ h2⟩
theorem Has.map {ρ ρ' : Num} {i i' : Nat} {r r' : Row} (h : Has ρ' i' r') (hρ : ρ' i' = ρ i) (hsz : r'.sz = r.sz) : Has ρ i r := by
  unfold Has at *
  rw [hρ, hsz] at h; exact h

/-- The symbolic state of a function: temporaries, rows. -/
structure SS where
  tm : List (Nat × SV)
  rows : List (Option Row)

structure Sat (W : World) (F : Nat → Prop) (nt : Nat) (ρ : Num) (s : SS) (a : Act) (w : World) : Prop where
  size : a.tmps.size = nt
  defers : a.defers = []
  tm : ∀ d sv, s.tm.lookup d = some sv → sv = .top ∨ (a.tmps[d]? = some (den ρ sv) ∧ okd W F s.rows.length sv)
  mem : MemOK W F ρ s.rows w

/-- What a call from these arguments and rows leads to. -/
def SemCall (P : Program) (f : FuncId) (args : List SV) (rows : List (Option Row)) (k : SV → List (Option Row) → Prop) : Prop :=
  ∀ (W : World) (F : Nat → Prop) (ρ : Num) (w : World), MemOK W F ρ rows w → okdL W F rows.length args →
    Calls P f (denL ρ args).toArray w fun e w' => ∃ ρ' res rows', k res rows' ∧ e = .returned (den ρ' res) ∧ okd W F rows'.length res ∧ MemOK W F ρ' rows' w' ∧ rows.length ≤ rows'.length ∧ ∀ i, i < rows.length → ρ' i = ρ i
end Sx
end Go.Proofs.Ytmmejomalfjcnaa
