/- The executor, laid together. No condition. -/
import Derived.ChangeKeysEq
import Derived.OpenShut
import Derived.WalkKit
import Derived.ProofKit
import Derived.WideShapes
import Derived.BigRegion
import Derived.Deep.WholeRow
import Derived.Laws.Sem
import Derived.WalkSpells
namespace Go.Proofs.YtimjnajdpccjdaaDoor
open Go.RowKit
set_option linter.unusedVariables false
set_option linter.unusedSectionVars false
set_option linter.unusedSimpArgs false
section
open Go.RowKit Go.ChangeShapes
abbrev FT := Option IntKind
def FT.fit : FT -> Value -> Prop
 | some k, v => ∃ n : Int, v = .int k n /\ (Lit.int k n).wf = true
 | none, v => ∃ x : Bool, v = .bool x
def Fits : List FT -> List Value -> Prop
 | [], [] => True
 | f :: fs, v :: vs => FT.fit f v /\ Fits fs vs
 | _, _ => False
def fieldsAt (P : Program) (g : TypeId -> Option (List FT)) : List Field -> Nat -> Option (List FT)
 | [], _ => some []
 | f :: fs, off =>
   match g f.type with
   | none => none
   | some l => if f.name ≠ "_" /\ f.offset = off /\ P.cellsOf f.type = l.length then (fieldsAt P g fs (off + l.length)).map (l ++ ·) else none
def flatAt (P : Program) : Nat -> TypeId -> Option (List FT)
 | 0, _ => none
 | n + 1, t =>
   match P.underlying t with
   | some .bool => if P.cellsOf t = 1 then some [none] else none
   | some (.int k) => if P.cellsOf t = 1 then some [some k] else none
   | some (.array m e) =>
     match flatAt P n e with
     | none => none
     | some l => if P.cellsOf e = l.length /\ P.cellsOf t = m * l.length then some (List.replicate m l).flatten else none
   | some (.struct fs) =>
     if P.stoodInHeld t = false then
      match fieldsAt P (flatAt P n) fs.toList 0 with
      | none => none
      | some l => if P.cellsOf t = l.length then some l else none
     else none
   | _ => none
theorem Fits.length : ∀ {ks : List FT} {cs : List Value}, Fits ks cs -> cs.length = ks.length
 | [], [], _ => rfl
 | _ :: _, _ :: _, h => by simp [Fits.length h.2]
 | [], _ :: _, h => h.elim
 | _ :: _, [], h => h.elim
theorem Fits.append : ∀ {ks ls : List FT} {cs ds : List Value}, Fits ks cs -> Fits ls ds -> Fits (ks ++ ls) (cs ++ ds)
 | [], _, [], _, _, h => h
 | _ :: _, _, _ :: _, _, h, k => ⟨h.1, Fits.append h.2 k⟩
 | [], _, _ :: _, _, h, _ => h.elim
 | _ :: _, _, [], _, h, _ => h.elim
theorem Fits.split : ∀ {ks ls : List FT} {cs : List Value}, Fits (ks ++ ls) cs -> Fits ks (cs.take ks.length) /\ Fits ls (cs.drop ks.length)
 | [], _, _, h => ⟨by simp [Fits], by simpa using h⟩
 | _ :: ks, ls, c :: cs, h => by
   obtain ⟨a, b⟩ := Fits.split (ks := ks) (ls := ls) h.2
   exact ⟨⟨h.1, a⟩, b⟩
 | _ :: _, _, [], h => h.elim
section
variable {H : Type} {enc : TypeId × Value -> H} {P : Program} {w : World} {base : Nat} {spare : Nat -> Bool} {held : Bool}
end
end
section
variable {P : Program} (w : World)
def isAggT (P : Program) (t : TypeId) : Bool :=
 match P.underlying t with
 | some (.array _ _) | some (.struct _) => true
 | _ => false
end
section
open Go.RowKit Go.ChangeShapes Go.WideShapes
section
variable {H : Type} {enc : TypeId × Value -> H} {P : Program} {w : World} {base : Nat} {spare : Nat -> Bool} {held : Bool}
end
end
section
def U32 (x : Int) : Prop := 0 <= x /\ x < 4294967296
instance (x : Int) : Decidable (U32 x) := inferInstanceAs (Decidable (0 <= x /\ x < 4294967296))
theorem U32.wf {x : Int} (h : U32 x) : (Lit.int .u32 x).wf = true := by
 unfold U32 at h; simp [Lit.wf, IntKind.min, IntKind.max, IntKind.signed, IntKind.bits]; omega
theorem bv_int {x : Int} (h : U32 x) : ((BitVec.ofInt 32 x).toNat : Int) = x := by
 unfold U32 at h; rw [BitVec.toNat_ofInt]; simp; omega
theorem wrap_bv (b : BitVec 32) : IntKind.wrap .u32 (b.toNat : Int) = (b.toNat : Int) := by
 have := b.isLt
 simp [IntKind.wrap, IntKind.signed, IntKind.bits]; omega
theorem bits_u32 (op : BinOp) (x y : Int) : ∃ b : BitVec 32, bits op .u32 x y = (b.toNat : Int) := by
 unfold bits
 exact ⟨_, wrap_bv _⟩
theorem bits_U32 (op : BinOp) (x y : Int) : U32 (bits op .u32 x y) := by
 obtain ⟨b, h⟩ := bits_u32 op x y
 rw [h]; have := b.isLt; unfold U32; omega
theorem bits_or_bv (x y : Int) : bits .or .u32 x y = ((BitVec.ofInt 32 x ||| BitVec.ofInt 32 y).toNat : Int) := by
 unfold bits; exact wrap_bv _
theorem bits_and_bv (x y : Int) : bits .and .u32 x y = ((BitVec.ofInt 32 x &&& BitVec.ofInt 32 y).toNat : Int) := by
 unfold bits; exact wrap_bv _
theorem bv_toNat_zero (b : BitVec 32) : ((b.toNat : Int) = 0) ↔ b = 0#32 := by
 rw [show ((b.toNat : Int) = 0) ↔ b.toNat = 0 by omega]
 constructor
 ·intro h; exact BitVec.eq_of_toNat_eq (by simpa using h)
 ·rintro rfl; rfl
theorem bits_split (a b : BitVec 32) : (a &&& b).toNat + (a &&& ~~~b).toNat = a.toNat := by
 have h : (a &&& b) &&& (a &&& ~~~b) = 0#32 := by
  ext i; simp; intro h1 h2 h3; exact h2
 have h2 : (a &&& b) ||| (a &&& ~~~b) = a := by
  ext i hi; simp; cases a[i] <;> cases b[i] <;> rfl
 have h3 := BitVec.add_eq_or_of_and_eq_zero _ _ h
 rw [h2] at h3
 have h4 := BitVec.toNat_add_of_and_eq_zero h
 rw [<- h4, h3]
theorem and_mask {x m : Int} (k : Nat) (hm : m + 1 = 2 ^ k) (hk : k <= 32) (hx : U32 x) : bits .and .u32 x m = x % (m + 1) := by
 unfold U32 at hx
 have h2 : (1 : Int) <= 2 ^ k := by exact_mod_cast Nat.one_le_two_pow
 have h3 : (2 : Int) ^ k <= 2 ^ 32 := by exact_mod_cast Nat.pow_le_pow_right (by omega) hk
 rw [u32_and x m (by omega) (by omega) (by omega) (by omega)]
 have e : m.toNat = 2 ^ k - 1 := by
  have : ((2 ^ k : Nat) : Int) = 2 ^ k := by push_cast; rfl
  omega
 rw [e, Nat.and_two_pow_sub_one_eq_mod, hm]
 push_cast
 rw [Int.toNat_of_nonneg hx.1]
theorem and_bit {x m : Int} (k : Nat) (hm : m = 2 ^ k) (hk : k < 32) (hx : U32 x) : bits .and .u32 x m = x / m % 2 * m := by
 unfold U32 at hx
 have h2 : (1 : Int) <= 2 ^ k := by exact_mod_cast Nat.one_le_two_pow
 have h3 : (2 : Int) ^ k <= 2 ^ 31 := by exact_mod_cast Nat.pow_le_pow_right (by omega) (by omega)
 rw [u32_and x m (by omega) (by omega) (by omega) (by omega)]
 have e : m.toNat = 2 ^ k := by
  have : ((2 ^ k : Nat) : Int) = 2 ^ k := by push_cast; rfl
  omega
 rw [e, nat_bit, hm]
 push_cast
 rw [Int.toNat_of_nonneg hx.1]
theorem or_add {x y p : Int} (k : Nat) (hp : p = 2 ^ k) (hx : U32 x) (hy : 0 <= y) (hy2 : y < p) (hm : x % p = 0) (hpx : p <= 4294967296) : bits .or .u32 x y = x + y := by
 unfold U32 at hx
 rw [u32_or x y hx.1 hx.2 hy (by omega)]
 have e : ((2 ^ k : Nat) : Int) = p := by rw [hp]; push_cast; rfl
 rw [nat_join k x.toNat y.toNat ?_ (by omega)]
 ·omega
 ·have : ((x.toNat % 2 ^ k : Nat) : Int) = 0 := by push_cast [Int.toNat_of_nonneg hx.1]; rw [<- hp]; exact hm
  exact_mod_cast this
theorem or_disj {x y : Int} (hx : U32 x) (hy : U32 y) (h : bits .and .u32 x y = 0) : bits .or .u32 x y = x + y := by
 rw [bits_and_bv, bv_toNat_zero] at h
 rw [bits_or_bv, <- BitVec.add_eq_or_of_and_eq_zero _ _ h, BitVec.toNat_add_of_and_eq_zero h]
 push_cast
 rw [bv_int hx, bv_int hy]
theorem or_bit {x m : Int} (k : Nat) (hm : m = 2 ^ k) (hk : k < 32) (hx : U32 x) (h : x / m % 2 = 0) : bits .or .u32 x m = x + m := by
 have h2 : (1 : Int) <= 2 ^ k := by exact_mod_cast Nat.one_le_two_pow
 have h3 : (2 : Int) ^ k <= 2 ^ 31 := by exact_mod_cast Nat.pow_le_pow_right (by omega) (by omega)
 exact or_disj hx (by unfold U32; omega) (by rw [and_bit k hm hk hx, h]; simp)
end
section
namespace Sx
inductive OT where
 | dig (st : List Int) (n : Int) (ws : List Int)
 | mem (ps qs : List (List Int)) (m : Int)
inductive FamT where
 | boxes (ty pty : TypeId) (k : IntKind) (n tot : Nat) (ps : List (List Int)) (ks : List Nat)
end Sx
end
section
namespace Sx
inductive SV where
 | top
 | lit (k : IntKind) (n : Int)
 | int (k : IntKind) (n : Int)
 | litb (b : Bool)
 | bool (b : Bool)
 | str (s : ByteArray)
 | val (v : Value)
 | hnd (b : Nat)
 | gp (g off : Nat)
 | gpe (g off sz n : Nat) (e : Int)
 | ptr (i off : Nat)
 | pte (i off : Nat) (e : Int)
 | ptm (i sz : Nat) (e : Int) (off : Nat)
 | sl (i off len cap : Nat)
 | os (i off len cap : Nat)
 | on (i len : Nat) (z : Bool)
 | ow (i : Nat) (z : Bool) (p o n : Nat) (m : Bool)
 | rd (k : IntKind) (v : Value) (xs : List Int)
 | rda (k : IntKind) (v : Value) (xs : List Int) (e : Int)
 | rs (sz : Nat) (v : Value) (n : Nat) (f : Nat -> List SV)
 | rsa (sz : Nat) (v : Value) (n : Nat) (f : Nat -> List SV) (e : Int) (off : Nat)
 | ints (k : IntKind) (n : Nat) (xs : List Int)
 | many (sz n : Nat) (f : Nat -> List SV)
 | agg (cs : List SV)
 | tup (cs : List SV)
 | fn (f : Fn) (first captured : List SV)
 deriving Inhabited
abbrev Num := Nat -> Nat × Nat
def Num.zero : Num := fun _ => (0, 0)
def intCells (k : IntKind) (n : Nat) (xs : List Int) : List Value := (List.range n).map fun j => .int k (xs.getD j 0)
def scC : SV -> Value
 | .lit k n => .int k n
 | .int k n => .int k n
 | .litb b => .bool b
 | .bool b => .bool b
 | _ => undef
def scV : SV -> Bool
 | .lit _ _ | .int _ _ | .litb _ | .bool _ => true
 | _ => false
def scL : List SV -> Bool
 | [] => true
 | c :: cs => scV c && scL cs
def recCells (sz n : Nat) (f : Nat -> List SV) : List Value := (List.range n).flatMap fun e => (List.range sz).map fun j => scC ((f e).getD j .top)
def elemAddr (v : Value) (e : Int) : Value :=
 match v with
 | .slice (some a) _ _ => .pointer (some ⟨a.block, a.off + e.toNat, none⟩)
 | _ => undef
def elemCell (sz : Nat) (v : Value) (e : Int) (off : Nat) : Value :=
 match v with
 | .slice (some a) _ _ => .pointer (some ⟨a.block, a.off + e.toNat * sz + off, none⟩)
 | _ => undef
def listV (b : Nat × Nat) (len : Nat) (z : Bool) : Value :=
 if z = true /\ b.2 = 0 then .slice none len 0 else .slice (some ⟨b.1, 0, none⟩) len b.2
def suffV (b : Nat × Nat) (z : Bool) (p o n : Nat) (m : Bool) : Value :=
 if z = true /\ b.2 = 0 then .slice none n 0 else .slice (some ⟨b.1, if b.2 = o then p else o, none⟩) n (if m = true then n else b.2 - o)
mutual
def den (ρ : Num) : SV -> Value
 | .top => undef
 | .lit k n => .int k n
 | .int k n => .int k n
 | .litb b => .bool b
 | .bool b => .bool b
 | .str s => .string s
 | .val v => v
 | .hnd b => .pointer (some ⟨b, 0, none⟩)
 | .gp g off => .pointer (some ⟨g, off, none⟩)
 | .gpe g off sz _ e => .pointer (some ⟨g, off + e.toNat * sz, none⟩)
 | .ptr i off => .pointer (some ⟨(ρ i).1, off, none⟩)
 | .pte i off e => .pointer (some ⟨(ρ i).1, off + e.toNat, none⟩)
 | .ptm i sz e off => .pointer (some ⟨(ρ i).1, e.toNat * sz + off, none⟩)
 | .sl i off len cap => .slice (some ⟨(ρ i).1, off, none⟩) len cap
 | .os i off len cap => .slice (some ⟨(ρ i).1, off, none⟩) len cap
 | .on i len z => listV (ρ i) len z
 | .ow i z p o n m => suffV (ρ i) z p o n m
 | .rd _ v _ => v
 | .rda _ v _ e => elemAddr v e
 | .rs _ v _ _ => v
 | .rsa sz v _ _ e off => elemCell sz v e off
 | .ints k n xs => .agg (intCells k n xs).toArray
 | .many sz n f => .agg (recCells sz n f).toArray
 | .agg cs => .agg (cellsL ρ cs).toArray
 | .tup cs => .tuple (denL ρ cs).toArray
 | .fn f a b => .func f (denL ρ a).toArray (denL ρ b).toArray
def denL (ρ : Num) : List SV -> List Value
 | [] => []
 | c :: cs => den ρ c :: denL ρ cs
def cellsL (ρ : Num) : List SV -> List Value
 | [] => []
 | .ints k n xs :: cs => intCells k n xs ++ cellsL ρ cs
 | .many sz n f :: cs => recCells sz n f ++ cellsL ρ cs
 | c :: cs => den ρ c :: cellsL ρ cs
end
def Reads (W : World) (F : Nat -> Prop) (k : IntKind) (v : Value) (xs : List Int) : Prop :=
 (∃ a cap, v = .slice a xs.length cap /\ xs = [] /\ (a = none -> cap = 0)) ∨
 ∃ b off cap, v = .slice (some ⟨b, off, none⟩) xs.length cap /\ xs.length <= cap /\ b < W.heap.size /\ ¬ F b /\ (∀ j, j < xs.length -> W.cell? ⟨b, off + j, none⟩ = some (.int k (xs.getD j 0)))
def ReadsS (W : World) (F : Nat -> Prop) (sz : Nat) (v : Value) (n : Nat) (f : Nat -> List Value) : Prop :=
 (∀ e, e < n -> (f e).length = sz) /\
 ((∃ a cap, v = .slice a n cap /\ n = 0 /\ (a = none -> cap = 0)) ∨
 ∃ b off cap, v = .slice (some ⟨b, off, none⟩) n cap /\ n <= cap /\ b < W.heap.size /\ ¬ F b /\ ∀ e, e < n -> ∀ j, j < sz -> W.cell? ⟨b, off + e * sz + j, none⟩ = some ((f e).getD j undef))
mutual
def okd (W : World) (F : Nat -> Prop) (n : Nat) : SV -> Prop
 | .gpe _ _ _ m e => 0 <= e /\ e < m
 | .ptr i _ => i < n
 | .pte i _ _ => i < n
 | .ptm i _ _ _ => i < n
 | .many sz m f => ∀ e, e < m -> scL (f e) = true /\ (f e).length = sz
 | .sl i _ _ _ => i < n
 | .os i _ _ _ => i < n
 | .on i _ _ => i < n
 | .ow i _ _ _ _ _ => i < n
 | .rd k v xs => Reads W F k v xs
 | .rda k v xs e => Reads W F k v xs /\ 0 <= e /\ e < xs.length
 | .rs sz v m f => ReadsS W F sz v m (fun e => cellsL Num.zero (f e)) /\ ∀ e, e < m -> okdL W F 0 (f e)
 | .rsa sz v m f e off => (ReadsS W F sz v m (fun e => cellsL Num.zero (f e)) /\ ∀ e, e < m -> okdL W F 0 (f e)) /\ 0 <= e /\ e < m /\ off < sz
 | .agg cs => okdL W F n cs
 | .tup cs => okdL W F n cs
 | .fn _ a b => okdL W F n a /\ okdL W F n b
 | _ => True
def okdL (W : World) (F : Nat -> Prop) (n : Nat) : List SV -> Prop
 | [] => True
 | c :: cs => okd W F n c /\ okdL W F n cs
end
inductive Ob where
 | iter (s : ByteArray) (p : Nat)
 | own (x : OT)
 | fam (x : FamT)
structure Row where
 ty : TypeId
 cs : List SV
 sz : Nat := 0
 ob : Option Ob := none
structure Frm (F : Nat -> Prop) (w w' : World) : Prop where
 os : w'.os = w.os
 tape : w'.tape = w.tape
 output : w'.output = w.output
 size : w.heap.size <= w'.heap.size
 block : ∀ b, b < w.heap.size -> ¬ F b -> w'.heap[b]? = w.heap[b]?
theorem Frm.refl (F : Nat -> Prop) (w : World) : Frm F w w := ⟨rfl, rfl, rfl, Nat.le_refl _, fun _ _ _ => rfl⟩
theorem Frm.trans {F : Nat -> Prop} {a b c : World} (h : Frm F a b) (k : Frm F b c) : Frm F a c :=
 ⟨k.os.trans h.os, k.tape.trans h.tape, k.output.trans h.output, Nat.le_trans h.size k.size, fun i hi hf => (k.block i (Nat.lt_of_lt_of_le hi h.size) hf).trans (h.block i hi hf)⟩
def CellsOK (ρ : Num) : List SV -> List Value -> Prop
 | [], vs => vs = []
 | .top :: r, vs => ∃ v t, vs = v :: t /\ CellsOK ρ r t
 | .ints k n xs :: r, vs => ∃ t, vs = intCells k n xs ++ t /\ CellsOK ρ r t
 | .many sz n f :: r, vs => ∃ t, vs = recCells sz n f ++ t /\ CellsOK ρ r t
 | c :: r, vs => ∃ t, vs = den ρ c :: t /\ CellsOK ρ r t
end Sx
end
section
namespace Sx
def globs : List (Nat × List SV) := [(1, [.str ⟨#[]⟩, .str ⟨#[]⟩, .str ⟨#[109, 111, 118, 105]⟩, .str ⟨#[97, 117]⟩, .str ⟨#[109, 111, 118, 116]⟩, .str ⟨#[97, 117]⟩, .str ⟨#[109, 111, 118]⟩, .str ⟨#[97, 98]⟩, .str ⟨#[97, 100, 100]⟩, .str ⟨#[97, 98, 99]⟩, .str ⟨#[115, 117, 98]⟩, .str ⟨#[97, 98, 99]⟩, .str ⟨#[109, 117, 108]⟩, .str ⟨#[97, 98, 99]⟩, .str ⟨#[100, 105, 118]⟩, .str ⟨#[97, 98, 99]⟩, .str ⟨#[97, 110, 100]⟩, .str ⟨#[97, 98, 99]⟩, .str ⟨#[111, 114]⟩, .str ⟨#[97, 98, 99]⟩, .str ⟨#[120, 111, 114]⟩, .str ⟨#[97, 98, 99]⟩, .str ⟨#[115, 104, 108]⟩, .str ⟨#[97, 98, 99]⟩, .str ⟨#[115, 104, 114]⟩, .str ⟨#[97, 98, 99]⟩, .str ⟨#[115, 97, 114]⟩, .str ⟨#[97, 98, 99]⟩, .str ⟨#[97, 100, 100, 105]⟩, .str ⟨#[97, 98, 115]⟩, .str ⟨#[108, 100, 114]⟩, .str ⟨#[97, 98, 115]⟩, .str ⟨#[115, 116, 114]⟩, .str ⟨#[97, 98, 115]⟩, .str ⟨#[108, 100, 120]⟩, .str ⟨#[97, 98, 99]⟩, .str ⟨#[115, 116, 120]⟩, .str ⟨#[97, 98, 99]⟩, .str ⟨#[99, 109, 112]⟩, .str ⟨#[97, 98]⟩, .str ⟨#[99, 109, 112, 105]⟩, .str ⟨#[97, 115]⟩, .str ⟨#[98]⟩, .str ⟨#[107, 111]⟩, .str ⟨#[98, 108]⟩, .str ⟨#[111]⟩, .str ⟨#[98, 114]⟩, .str ⟨#[97]⟩, .str ⟨#[115, 118, 99]⟩, .str ⟨#[117]⟩]),
 (0, [.ints .i64 25 [0, 1, 1, 1, 2, 2, 2, 2, 2, 2, 2, 2, 2, 2, 1, 3, 3, 3, 3, 4, 4, 5, 5, 5, 6]])]
def OTrows : OT -> List (Option Row)
 | .dig st n ws => [some ⟨220, [.int .u32 (st.getD 0 0), .int .u32 (st.getD 1 0), .int .u32 (st.getD 2 0), .int .u32 (st.getD 3 0), .int .u32 (st.getD 4 0), .int .u32 (st.getD 5 0), .int .u32 (st.getD 6 0), .int .u32 (st.getD 7 0), .int .i64 n, .on 1 ws.length true], 0, none⟩, some ⟨23, [.ints .u32 ws.length ws], 1, none⟩]
 | .mem ps qs m => [some ⟨120, [.on 1 ps.length false, .on 2 qs.length false, .int .i64 m], 0, none⟩, some ⟨0, [], 0, some (.fam (.boxes 155 129 .u32 1024 ps.length ps []))⟩, some ⟨0, [], 0, some (.fam (.boxes 155 129 .u32 1024 qs.length qs []))⟩]
def nilTab : List (TypeId × Nat × Row) := List.filterMap id [
 some (220, 9, ⟨23, [.ints .u32 0 []], 1, none⟩),
  none]
end Sx
end
section
namespace Sx
def Globs (W : World) (F : Nat -> Prop) : Prop :=
 ∀ g cs, List.lookup g globs = some cs -> ¬ F g /\ ∃ (c : Array Value) (ty : TypeId) (fr : Nat × Nat), W.heap[g]? = some (.cells c ty fr) /\ c.toList = cellsL Num.zero cs
def Has (ρ : Num) (i : Nat) (r : Row) : Prop := r.ob = none /\ (r.sz = 0 ∨ (ρ i).2 ≠ 0)
def RowOK (ρ : Num) (w : World) (i : Nat) (r : Row) : Prop :=
 (Has ρ i r /\ ∃ (c : Array Value) (l rest : List Value), w.heap[(ρ i).1]? = some (.cells c r.ty (0, 0)) /\ c.toList = l ++ rest /\ CellsOK ρ r.cs l /\ (r.sz = 0 -> rest = []) /\ (r.sz ≠ 0 -> c.size = (ρ i).2 * r.sz)) ∨
 (¬ Has ρ i r /\ ∃ gs, CellsOK ρ r.cs gs /\ (r.ob = none -> gs = []))
theorem RowOK.map {ρ ρ' : Num} {w w' : World} {i i' : Nat} {r r' : Row} (h : RowOK ρ w i r) (hρ : ρ' i' = ρ i) (hty : r'.ty = r.ty) (hsz : r'.sz = r.sz) (hob : r'.ob = r.ob) (hb : Has ρ i r -> w'.heap[(ρ i).1]? = w.heap[(ρ i).1]?)
  (hc : ∀ vs, CellsOK ρ r.cs vs -> CellsOK ρ' r'.cs vs) : RowOK ρ' w' i' r' := by
 unfold RowOK Has at *
 rw [hρ, hty, hsz, hob]
 rcases h with ⟨h1, c, l, rest, h2, h3, h4, h5⟩ | ⟨h1, h2⟩
 ·exact .inl ⟨h1, c, l, rest, by rw [hb h1]; exact h2, h3, hc _ h4, h5⟩
 ·obtain ⟨gs, h2, h3⟩ := h2
  exact .inr ⟨h1, gs, hc _ h2, h3⟩
theorem Has.map {ρ ρ' : Num} {i i' : Nat} {r r' : Row} (h : Has ρ' i' r') (hρ : ρ' i' = ρ i) (hsz : r'.sz = r.sz) (hob : r'.ob = r.ob) : Has ρ i r := by
 unfold Has at *
 rw [hρ, hsz, hob] at h; exact h
structure BoxOK (ty pty : TypeId) (k : IntKind) (n tot : Nat) (ps : List (List Int)) (ks : List Nat) (w : World) (b : Nat × Nat) (S : Nat -> Prop) (gs : List Value) (c : Array Value) (pb : Nat -> Nat) : Prop where
 fill : ps.length <= tot
 room : tot <= b.2
 size : tot <= c.size
 list : w.heap[b.1]? = some (.cells c pty (0, 0))
 ptr : ∀ j, j < ps.length -> c[j]? = some (.pointer (some ⟨pb j, 0, none⟩))
 box : ∀ j, j < ps.length -> ¬ j ∈ ks -> w.heap[pb j]? = some (.cells (intCells k n (ps.getD j [])).toArray ty (0, 0))
 gone : gs = ks.map fun j => .pointer (some ⟨pb j, 0, none⟩)
 inj : ∀ i j, i < ps.length -> j < ps.length -> pb i = pb j -> i = j
 head : ∀ j, j < ps.length -> pb j ≠ b.1
 lt : ∀ j, j ∈ ks -> j < ps.length
 foot : ∀ y, S y ↔ y = b.1 ∨ ∃ j, j < ps.length /\ ¬ j ∈ ks /\ y = pb j
def FamOK (w : World) (b : Nat × Nat) (S : Nat -> Prop) (gs : List Value) : FamT -> Prop
 | .boxes ty pty k n tot ps ks => ∃ c pb, BoxOK ty pty k n tot ps ks w b S gs c pb
theorem Fam_loc {x : FamT} {w w' : World} {b : Nat × Nat} {S : Nat -> Prop} {gs : List Value} (h : FamOK w b S gs x) (k : ∀ y, S y -> w'.heap[y]? = w.heap[y]?) : FamOK w' b S gs x := by
 cases x with
 | boxes ty pty kk n tot ps ks =>
   obtain ⟨c, pb, h⟩ := h
   exact ⟨c, pb, h.fill, h.room, h.size, by rw [k b.1 ((h.foot b.1).2 (.inl rfl))]; exact h.list, h.ptr, fun j hj hk => by rw [k _ ((h.foot _).2 (.inr ⟨j, hj, hk, rfl⟩))]; exact h.box j hj hk, h.gone, h.inj, h.head, h.lt, h.foot⟩
structure OTP (x : OT) (w : World) (b : Nat) (S : Nat -> Prop) (ρ : Num) (φ : Nat -> Nat -> Prop) : Prop where
 at0 : (ρ 0).1 = b
 head : ∃ r, (OTrows x)[0]? = some (some r) /\ r.sz = 0 /\ r.ob = none
 row : ∀ i r, (OTrows x)[i]? = some (some r) -> RowOK ρ w i r /\ (r.ob = none ∨ ∃ f, r.ob = some (.fam f) /\ r.cs = [] /\ FamOK w (ρ i) (φ i) [] f)
 inj : ∀ i j r q, (OTrows x)[i]? = some (some r) -> (OTrows x)[j]? = some (some q) -> Has ρ i r -> Has ρ j q -> (ρ i).1 = (ρ j).1 -> i = j
 apart : ∀ i r f, (OTrows x)[i]? = some (some r) -> r.ob = some (.fam f) -> ∀ y, φ i y -> ∀ j q, (OTrows x)[j]? = some (some q) -> (Has ρ j q -> (ρ j).1 ≠ y) /\ (q.ob ≠ none -> j ≠ i -> ¬ φ j y)
 foot : ∀ y, S y ↔ (∃ i r, (OTrows x)[i]? = some (some r) /\ Has ρ i r /\ (ρ i).1 = y) ∨ ∃ i r f, (OTrows x)[i]? = some (some r) /\ r.ob = some (.fam f) /\ φ i y
def OTOK (x : OT) (w : World) (b : Nat) (S : Nat -> Prop) : Prop := ∃ ρ φ, OTP x w b S ρ φ
theorem OT_loc {x : OT} {w w' : World} {b : Nat} {S : Nat -> Prop} (h : OTOK x w b S) (k : ∀ y, S y -> w'.heap[y]? = w.heap[y]?) : OTOK x w' b S := by
 obtain ⟨ρ, φ, h⟩ := h
 refine ⟨ρ, φ, ⟨h.at0, h.head, fun i r hi => ?_, h.inj, h.apart, h.foot⟩⟩
 obtain ⟨g1, g2⟩ := h.row i r hi
 refine ⟨g1.map rfl rfl rfl rfl (fun hh => k _ ((h.foot _).2 (.inl ⟨i, r, hi, hh, rfl⟩))) (fun _ hv => hv), ?_⟩
 rcases g2 with g2 | ⟨f, g2, g3, g4⟩
 ·exact .inl g2
 ·exact .inr ⟨f, g2, g3, Fam_loc (b := ρ i) g4 fun y hy => k y ((h.foot y).2 (.inr ⟨i, r, f, hi, g2, hy⟩))⟩
def ObOK (w : World) (b : Nat × Nat) (S : Nat -> Prop) (gs : List Value) : Ob -> Prop
 | .iter s p => w.heap[b.1]? = some (.stringIter s p) /\ ∀ y, S y ↔ y = b.1
 | .own x => OTOK x w b.1 S
 | .fam x => FamOK w b S gs x
theorem Ob_loc0 {x : Ob} {w w' : World} {b : Nat × Nat} {S : Nat -> Prop} {gs : List Value} (h : ObOK w b S gs x) (k : ∀ y, S y -> w'.heap[y]? = w.heap[y]?) : ObOK w' b S gs x := by
 cases x with
 | iter s p => exact ⟨by rw [k b.1 ((h.2 b.1).2 rfl)]; exact h.1, h.2⟩
 | own x => exact OT_loc (b := b.1) h k
 | fam x => exact Fam_loc (b := b) h k
def ObC (ρ : Num) (cs : List SV) (w : World) (b : Nat × Nat) (S : Nat -> Prop) (x : Ob) : Prop := ∃ gs, CellsOK ρ cs gs /\ ObOK w b S gs x
theorem Ob_loc {ρ : Num} {cs : List SV} {x : Ob} {w w' : World} {b : Nat × Nat} {S : Nat -> Prop} (h : ObC ρ cs w b S x) (k : ∀ y, S y -> w'.heap[y]? = w.heap[y]?) : ObC ρ cs w' b S x := by
 obtain ⟨gs, h1, h2⟩ := h
 exact ⟨gs, h1, Ob_loc0 h2 k⟩
theorem ObC.map {ρ ρ' : Num} {cs cs' : List SV} {x : Ob} {w : World} {b : Nat × Nat} {S : Nat -> Prop} (h : ObC ρ cs w b S x) (k : ∀ gs, CellsOK ρ cs gs -> CellsOK ρ' cs' gs) : ObC ρ' cs' w b S x := by
 obtain ⟨gs, h1, h2⟩ := h
 exact ⟨gs, k gs h1, h2⟩
theorem ObC.mk {ρ : Num} {x : Ob} {w : World} {b : Nat × Nat} {S : Nat -> Prop} (h : ObOK w b S [] x) : ObC ρ [] w b S x := ⟨[], rfl, h⟩
def ObsOK (W : World) (F : Nat -> Prop) (ρ : Num) (φ : Nat -> Nat -> Prop) (rows : List (Option Row)) (w : World) : Prop :=
 ∀ i r x, rows[i]? = some (some r) -> r.ob = some x -> ObC ρ r.cs w (ρ i) (φ i) x /\ ∀ y, φ i y -> y < w.heap.size /\ (F y ∨ W.heap.size <= y) /\ ∀ j q, rows[j]? = some (some q) -> (Has ρ j q -> (ρ j).1 ≠ y) /\ (q.ob ≠ none -> j ≠ i -> ¬ φ j y)
theorem ObsOK.keep {W : World} {F : Nat -> Prop} {ρ ρ' : Num} {φ : Nat -> Nat -> Prop} {rows rows' : List (Option Row)} {w w' : World} (h : ObsOK W F ρ φ rows w)
  (h1 : ∀ i r, rows'[i]? = some (some r) -> r.ob ≠ none -> ∃ r', rows[i]? = some (some r') /\ r'.ob = r.ob /\ ρ' i = ρ i /\ ∀ gs, CellsOK ρ r'.cs gs -> CellsOK ρ' r.cs gs) (h2 : w.heap.size <= w'.heap.size)
  (h3 : ∀ y, y < w.heap.size -> (∀ j q, rows[j]? = some (some q) -> Has ρ j q -> (ρ j).1 ≠ y) -> w'.heap[y]? = w.heap[y]?)
  (h4 : ∀ j q, rows'[j]? = some (some q) -> Has ρ' j q -> w.heap.size <= (ρ' j).1 ∨ ∃ j' q', rows[j']? = some (some q') /\ Has ρ j' q' /\ (ρ j').1 = (ρ' j).1) : ObsOK W F ρ' φ rows' w' := by
 intro i r x hi hx
 obtain ⟨r0, g1, g2, g3, g4⟩ := h1 i r hi (by rw [hx]; simp)
 obtain ⟨k1, k2⟩ := h i r0 x g1 (g2.trans hx)
 refine ⟨by rw [g3]; exact (Ob_loc (k1.map g4)) fun y hy => h3 y (k2 y hy).1 fun j q hj hh => (((k2 y hy).2.2 j q hj).1 hh), fun y hy => ?_⟩
 obtain ⟨m1, m2, m3⟩ := k2 y hy
 refine ⟨Nat.lt_of_lt_of_le m1 h2, m2, fun j q hj => ⟨fun hh => ?_, fun hq hji => ?_⟩⟩
 ·rcases h4 j q hj hh with h5 | ⟨j', q', h5, h6, h7⟩
  ·omega
  ·rw [<- h7]; exact (m3 j' q' h5).1 h6
 ·obtain ⟨q0, n1, n2, _⟩ := h1 j q hj hq
  exact (m3 j q0 n1).2 (by rw [n2]; exact hq) hji
structure MemOK (W : World) (F : Nat -> Prop) (ρ : Num) (rows : List (Option Row)) (w : World) : Prop where
 frame : Frm F W w
 glob : Globs W F
 row : ∀ i r, rows[i]? = some (some r) -> RowOK ρ w i r /\ okdL W F rows.length r.cs
 inj : ∀ i j r q, rows[i]? = some (some r) -> rows[j]? = some (some q) -> Has ρ i r -> Has ρ j q -> (ρ i).1 = (ρ j).1 -> i = j
 mine : ∀ i r, rows[i]? = some (some r) -> Has ρ i r -> F (ρ i).1 ∨ W.heap.size <= (ρ i).1
 obs : ∃ φ, ObsOK W F ρ φ rows w
theorem RowOK.lt {ρ : Num} {w : World} {i : Nat} {r : Row} (h : RowOK ρ w i r) (hh : Has ρ i r) : (ρ i).1 < w.heap.size := by
 rcases h with ⟨_, c, l, rest, h1, _⟩ | ⟨h, _⟩
 ·exact (Array.getElem?_eq_some_iff.1 h1).1
 ·exact absurd hh h
theorem MemOK.lt {W : World} {F : Nat -> Prop} {ρ : Num} {rows : List (Option Row)} {w : World} (h : MemOK W F ρ rows w) {i : Nat} {r : Row} (hr : rows[i]? = some (some r)) (hh : Has ρ i r) : (ρ i).1 < w.heap.size :=
 (h.row i r hr).1.lt hh
structure SS where
 tm : List (Nat × SV)
 rows : List (Option Row)
structure Sat (W : World) (F : Nat -> Prop) (nt : Nat) (ρ : Num) (s : SS) (a : Act) (w : World) : Prop where
 size : a.tmps.size = nt
 defers : a.defers = []
 tm : ∀ d sv, s.tm.lookup d = some sv -> sv = .top ∨ (a.tmps[d]? = some (den ρ sv) /\ okd W F s.rows.length sv)
 mem : MemOK W F ρ s.rows w
def SemCall (P : Program) (f : FuncId) (args : List SV) (rows : List (Option Row)) (k : SV -> List (Option Row) -> Prop) : Prop :=
 ∀ (W : World) (F : Nat -> Prop) (ρ : Num) (w : World), MemOK W F ρ rows w -> okdL W F rows.length args ->
  Calls P f (denL ρ args).toArray w fun e w' => ∃ ρ' res rows', k res rows' /\ e = .returned (den ρ' res) /\ okd W F rows'.length res /\ MemOK W F ρ' rows' w' /\ rows.length <= rows'.length /\ ∀ i, i < rows.length -> ρ' i = ρ i
end Sx
end
section
namespace Sx
inductive TyD where
 | int (k : IntKind) | bool | str
 | st (fs : List (Nat × TypeId))
 | arr (n : Nat) (e : TypeId)
 | sl (e : TypeId)
 | ptr (e : TypeId)
 | other
structure TyI where
 size : Nat
 bytes : Nat
 agg : Bool
 zero : List SV
 d : TyD
 flat : Option (List (Option IntKind)) := none
abbrev Tab := List (TypeId × TyI)
def Tab.at (T : Tab) (t : TypeId) : Option TyI := List.lookup t T
def InK : IntKind -> Int -> Prop
 | .i8, n => -128 <= n /\ n < 128
 | .i16, n => -32768 <= n /\ n < 32768
 | .i32, n => -2147483648 <= n /\ n < 2147483648
 | .i64, n => -9223372036854775808 <= n /\ n < 9223372036854775808
 | .u8, n => 0 <= n /\ n < 256
 | .u16, n => 0 <= n /\ n < 65536
 | .u32, n => 0 <= n /\ n < 4294967296
 | .u64, n => 0 <= n /\ n < 18446744073709551616
def width : SV -> Nat
 | .ints _ n _ => n
 | .many sz n _ => n * sz
 | _ => 1
def widthL : List SV -> Nat
 | [] => 0
 | c :: cs => width c + widthL cs
def cellAt : List SV -> Nat -> Option SV
 | [], _ => none
 | .ints k n xs :: r, o => bif Nat.blt o n then some (.int k (xs.getD o 0)) else cellAt r (o - n)
 | .many _ _ _ :: _, _ => none
 | c :: r, o => bif Nat.beq o 0 then some c else cellAt r (o - 1)
def intsAt : List SV -> Nat -> Option (IntKind × Nat × List Int)
 | [], _ => none
 | .ints k n xs :: r, o => bif Nat.beq o 0 then some (k, n, xs) else bif Nat.ble n o then intsAt r (o - n) else none
 | .many _ _ _ :: _, _ => none
 | _ :: r, o => bif Nat.beq o 0 then none else intsAt r (o - 1)
def dropC : List SV -> Nat -> Option (List SV)
 | [], o => bif Nat.beq o 0 then some [] else none
 | .ints k n xs :: r, o => bif Nat.beq o 0 then some (.ints k n xs :: r) else bif Nat.ble n o then dropC r (o - n) else none
 | .many _ _ _ :: _, _ => none
 | c :: r, o => bif Nat.beq o 0 then some (c :: r) else dropC r (o - 1)
def takeC : List SV -> Nat -> Option (List SV)
 | [], m => bif Nat.beq m 0 then some [] else none
 | .ints k n xs :: r, m => bif Nat.beq m 0 then some [] else bif Nat.ble n m then (takeC r (m - n)).map (.ints k n xs :: ·) else none
 | .many _ _ _ :: _, _ => none
 | c :: r, m => bif Nat.beq m 0 then some [] else (takeC r (m - 1)).map (c :: ·)
def runI (k : IntKind) : List SV -> List Int
 | .int k' n :: r => bif decide (k' = k) then n :: runI k r else []
 | .lit k' n :: r => bif decide (k' = k) then n :: runI k r else []
 | _ => []
def runK : List SV -> Option IntKind
 | .int k _ :: _ => some k
 | .lit k _ :: _ => some k
 | _ => none
def runAt (cs : List SV) (o : Nat) : Option (IntKind × Nat × List Int) := (dropC cs o).bind fun l => (runK l).map fun k => (k, (runI k l).length, runI k l)
def intsAtX (cs : List SV) (o : Nat) : Option (IntKind × Nat × List Int) := match intsAt cs o with
 | some q => some q
 | none => runAt cs o
def manyOf : List SV -> Option (Nat × Nat × (Nat -> List SV))
 | [.many z n f] => some (z, n, f)
 | _ => none
def overC (l : List SV) (o m : Nat) (new : List SV) : Option (List SV) :=
 match takeC l o, dropC l (o + m) with
 | some a, some b => some (a ++ new ++ b)
 | _, _ => none
def setIn : List SV -> Nat -> IntKind -> Int -> Option (List Prop × List SV)
 | [], _, _, _ => none
 | .ints k n xs :: r, o, k', v =>
   bif Nat.blt o n then (bif decide (k = k') then some ([xs.length = n], .ints k n (xs.set o v) :: r) else none)
   else (setIn r (o - n) k' v).map fun (p, l) => (p, .ints k n xs :: l)
 | .many _ _ _ :: _, _, _, _ => none
 | c :: r, o, k', v => bif Nat.beq o 0 then none else (setIn r (o - 1) k' v).map fun (p, l) => (p, c :: l)
def setE : List SV -> Nat -> Int -> IntKind -> Int -> Option (List Prop × List SV)
 | [], _, _, _, _ => none
 | .ints k n xs :: r, o, e, k', v =>
   bif Nat.beq o 0 then (bif decide (k = k') then some ([xs.length = n], .ints k n (xs.set e.toNat v) :: r) else none)
   else bif Nat.ble n o then (setE r (o - n) e k' v).map fun (p, l) => (p, .ints k n xs :: l) else none
 | .many _ _ _ :: _, _, _, _, _ => none
 | c :: r, o, e, k', v => bif Nat.beq o 0 then none else (setE r (o - 1) e k' v).map fun (p, l) => (p, c :: l)
def ofConst : Value -> SV
 | .int k n => .lit k n
 | .bool b => .litb b
 | .string s => .str s
 | v => .val v
def ev (tm : List (Nat × SV)) : Operand -> Option SV
 | .tmp t => match tm.lookup t with
   | some .top => none
   | r => r
 | .const v => some (ofConst v)
 | .global g => some (.hnd g)
 | .func f => some (.fn (.func f) [] [])
def asI : SV -> Option (IntKind × Int × Bool)
 | .lit k n => some (k, n, true)
 | .int k n => some (k, n, false)
 | _ => none
def mkI (c : Bool) (k : IntKind) (n : Int) : SV := bif c then .lit k n else .int k n
def mkB (c : Bool) (b : Bool) : SV := bif c then .litb b else .bool b
def asB : SV -> Option (Bool × Bool)
 | .litb b => some (b, true)
 | .bool b => some (b, false)
 | _ => none
def arith (c : Bool) (k : IntKind) (n : Int) : List Prop × SV :=
 bif c then ([], .lit k (k.wrap n)) else
 match k with
 | .i64 => ([InK .i64 n], .int .i64 n)
 | k => ([], .int k (k.wrap n))
def binI (op : BinOp) (k : IntKind) (x y : Int) (cx cy : Bool) : Option (List Prop × SV) :=
 let c := cx && cy
 match op with
 | .add => some (arith c k (x + y))
 | .sub => some (arith c k (x - y))
 | .mul => some (arith c k (x * y))
 | .quo => bif c then (bif decide (y ≠ 0) then some ([], .lit k (k.wrap (x.tdiv y))) else none)
   else bif cy then (bif k.signed then (bif decide (y ≠ 0) then some ([InK k (x.tdiv y)], .int k (x.tdiv y)) else none) else (bif decide (0 < y) then some ([InK k x], .int k (x / y)) else none))
   else bif k.signed then some ([y ≠ 0, InK k (x.tdiv y)], .int k (x.tdiv y)) else some ([InK k x, 0 < y], .int k (x / y))
 | .rem => bif c then (bif decide (y ≠ 0) then some ([], .lit k (x.tmod y)) else none)
   else bif cy then (bif k.signed then (bif decide (y ≠ 0) then some ([], .int k (x.tmod y)) else none) else (bif decide (0 < y) then some ([0 <= x], .int k (x % y)) else none))
   else bif k.signed then some ([y ≠ 0], .int k (x.tmod y)) else some ([0 <= x, 0 < y], .int k (x % y))
 | .and | .or | .xor | .andNot => some ([], mkI c k (bits op k x y))
 | .eql => some ([], mkB c (x == y))
 | .neq => some ([], mkB c (x != y))
 | .lss => some ([], mkB c (decide (x < y)))
 | .leq => some ([], mkB c (decide (x <= y)))
 | .gtr => some ([], mkB c (decide (y < x)))
 | .geq => some ([], mkB c (decide (y <= x)))
 | _ => none
def shiftI (op : BinOp) (k : IntKind) (x y : Int) (cx cy : Bool) : Option (List Prop × SV) :=
 match op with
 | .shl => some (bif cy then (let r := arith cx k (x * 2 ^ (Nat.min y.toNat k.bits)); (bif decide (0 <= y) then r.1 else [False], r.2)) else (let r := arith false k (x * 2 ^ (Nat.min y.toNat k.bits)); ((0 <= y) :: r.1, r.2)))
 | .shr => some (bif cy then (bif decide (0 <= y) then [] else [False], mkI cx k (x / 2 ^ (Nat.min y.toNat k.bits))) else ([0 <= y], .int k (x / 2 ^ (Nat.min y.toNat k.bits))))
 | _ => none
def shapeV (a b : SV) : Bool := match asI a, asI b with
 | some p, some q => decide (p.1 = q.1)
 | _, _ => match asB a, asB b with
   | some _, some _ => true
   | _, _ => false
def shapeL : List SV -> List SV -> Bool
 | [], [] => true
 | a :: as, b :: bs => shapeV a b && shapeL as bs
 | _, _ => false
def zipV (c : Prop) [Decidable c] (a b : SV) : SV := match asI a, asI b with
 | some p, some q => .int p.1 (if c then p.2.1 else q.2.1)
 | _, _ => match asB a, asB b with
   | some p, some q => .bool (if c then p.1 else q.1)
   | _, _ => .top
def zipL (c : Prop) [Decidable c] : List SV -> List SV -> List SV
 | a :: as, b :: bs => zipV c a b :: zipL c as bs
 | _, _ => []
def eqCells : List SV -> List SV -> Option (List Prop × Bool)
 | [], [] => some ([], true)
 | .ints k n xs :: r, .ints k' n' ys :: r' =>
   bif decide (k = k') && Nat.beq n n' then
    match eqCells r r' with
    | some (p, b) => some ((xs.length = n) :: (ys.length = n) :: p, xs == ys && b)
    | none => none
   else none
 | c :: r, c' :: r' =>
   match asI c, asI c' with
   | some (k, x, _), some (k', y, _) =>
     bif decide (k = k') then
      match eqCells r r' with
      | some (p, b) => some (p, x == y && b)
      | none => none
     else none
   | _, _ =>
     match asB c, asB c' with
     | some (x, _), some (y, _) =>
       match eqCells r r' with
       | some (p, b) => some (p, x == y && b)
       | none => none
     | _, _ => none
 | _, _ => none
def kindsOf : List SV -> List (Option IntKind)
 | [] => []
 | .ints k n _ :: r => List.replicate n (some k) ++ kindsOf r
 | c :: r => (match asI c with
   | some (k, _, _) => some k
   | none => none) :: kindsOf r
def sameKinds : List (Option IntKind) -> List (Option IntKind) -> Bool
 | [], [] => true
 | x :: xs, y :: ys => bif decide (x = y) then sameKinds xs ys else false
 | _, _ => false
def eqAgg (i : TyI) (x y : SV) : Option (List Prop × Bool) :=
 match i.flat, x, y with
 | some ks, .agg a, .agg b => bif sameKinds (kindsOf a) ks then eqCells a b else none
 | _, _, _ => none
def isNil : SV -> Option Bool
 | .val (.pointer none) => some true
 | .hnd _ | .ptr _ _ | .pte _ _ _ | .ptm _ _ _ _ | .gp _ _ => some false
 | _ => none
def isShift : BinOp -> Bool
 | .shl | .shr => true
 | _ => false
def binBool (op : BinOp) (x y : SV) : Option (List Prop × SV) :=
 (asB x).bind fun p => (asB y).bind fun q => match op with
   | .eql => some ([], mkB (p.2 && q.2) (p.1 == q.1))
   | .neq => some ([], mkB (p.2 && q.2) (p.1 != q.1))
   | _ => none
def asS : SV -> Option ByteArray
 | .str s => some s
 | _ => none
def strEq (p q : ByteArray) : Bool := p.toList == q.toList
def binStr (op : BinOp) (x y : SV) : Option (List Prop × SV) :=
 (asS x).bind fun p => (asS y).bind fun q => match op with
   | .eql => some ([], .bool (strEq p q))
   | .neq => some ([], .bool (!strEq p q))
   | _ => none
def binAgg (i : TyI) (op : BinOp) (x y : SV) : Option (List Prop × SV) :=
 (eqAgg i x y).bind fun q => match op with
   | .eql => some (q.1, .bool q.2)
   | .neq => some (q.1, .bool (!q.2))
   | _ => none
def isNilP : SV -> Bool
 | .val (.pointer none) => true
 | _ => false
def binPtr (op : BinOp) (x y : SV) : Option (List Prop × SV) :=
 bif isNilP y then (isNil x).bind fun r => match op with
  | .eql => some ([], .litb r)
  | .neq => some ([], .litb (!r))
  | _ => none
 else none
def binV (i : TyI) (op : BinOp) (x y : SV) : Option (List Prop × SV) :=
 match i.d with
 | .bool => binBool op x y
 | .str => binStr op x y
 | .st _ => binAgg i op x y
 | .arr _ _ => binAgg i op x y
 | .ptr _ => binPtr op x y
 | _ => none
def bin (T : Tab) (op : BinOp) (t : TypeId) (x y : SV) : Option (List Prop × SV) :=
 match asI x, asI y with
 | some (k, a, c), some (k', b, d) => bif isShift op then shiftI op k a b c d else bif decide (k = k') then binI op k a b c d else none
 | none, none => (T.at t).bind fun i => binV i op x y
 | _, _ => none
def un (op : UnOp) (x : SV) : Option (List Prop × SV) :=
 match op with
 | .not => (asB x).map fun (b, c) => ([], mkB c (!b))
 | .neg => (asI x).map fun (k, n, c) => arith c k (0 - n)
 | .xor => (asI x).map fun (k, n, c) => ([], mkI c k (bits .xor k (if k.signed then -1 else k.max) n))
 | _ => none
def wider : IntKind -> IntKind -> Bool
 | .u8, .u16 | .u8, .u32 | .u8, .u64 | .u8, .i64 | .u8, .i32 | .u16, .u32 | .u16, .u64 | .u16, .i64 | .u32, .u64 | .u32, .i64 | .i32, .i64 => true
 | a, b => decide (a = b)
def intD (i : TyI) : Option IntKind := match i.d with
 | .int k => some k
 | _ => none
def arrD (i : TyI) : Option (Nat × TypeId) := match i.d with
 | .arr n e => some (n, e)
 | _ => none
def slD (i : TyI) : Option TypeId := match i.d with
 | .sl e => some e
 | _ => none
def stD (i : TyI) : Option (List (Nat × TypeId)) := match i.d with
 | .st fs => some fs
 | _ => none
def isStrD (i : TyI) : Bool := match i.d with
 | .str => true
 | _ => false
def conv (T : Tab) (dst : TypeId) (x : SV) : Option (List Prop × SV) :=
 (T.at dst).bind fun i => (intD i).bind fun k' => (asI x).bind fun q =>
   some (bif q.2.2 then ([], .lit k' (k'.wrap q.2.1)) else bif wider q.1 k' then ([InK q.1 q.2.1], .int k' q.2.1) else ([], .int k' (k'.wrap q.2.1)))
def noTop : List SV -> Bool
 | [] => true
 | .top :: _ => false
 | _ :: r => noTop r
def partC (i : TyI) (l : List SV) (off : Nat) : Option SV :=
 bif i.agg then ((dropC l off).bind fun r => takeC r i.size).bind fun c => bif noTop c then some (.agg c) else none else
 match cellAt l off with
 | some .top => none
 | r => r
def rowOf (rows : List (Option Row)) (i : Nat) : Option Row :=
 match rows[i]? with
 | some (some r) => bif r.ob.isSome then none else some r
 | _ => none
def globCells (g : Nat) : Option (List SV) := List.lookup g globs
def colC (cs : List SV) (off sz : Nat) : Nat -> Option (List SV)
 | 0 => some []
 | n + 1 => match colC cs off sz n, cellAt cs (off + n * sz) with
   | some l, some c => some (l ++ [c])
   | _, _ => none
def colI (k : IntKind) : List SV -> Option (List Int)
 | [] => some []
 | c :: r => match asI c, colI k r with
   | some q, some l => bif decide (q.1 = k) then some (q.2.1 :: l) else none
   | _, _ => none
def colS : List SV -> Option (List ByteArray)
 | [] => some []
 | .str s :: r => (colS r).map fun l => s :: l
 | _ :: _ => none
def pickC (cs : List SV) (e : Int) : Option SV :=
 match cs with
 | [] => none
 | c :: r => match asI c with
   | some q => (colI q.1 (c :: r)).map fun l => .int q.1 (l.getD e.toNat 0)
   | none => (colS (c :: r)).map fun l => .str (l.getD e.toNat ⟨#[]⟩)
def singlesS (k : IntKind) (xs : List Int) : Nat -> List SV
 | 0 => []
 | n + 1 => singlesS k xs n ++ [.int k (xs.getD n 0)]
def pieceS (k : IntKind) (n : Nat) (xs : List Int) : List SV := bif Nat.ble n 8 then singlesS k xs n else [.ints k n xs]
def loadS (T : Tab) (rows : List (Option Row)) (t : TypeId) (x : SV) : Option (List Prop × SV) :=
 (T.at t).bind fun i =>
   match x with
   | .ptr b off => (rowOf rows b).bind fun r => (partC i r.cs off).map fun v => ([], v)
   | .pte b off e => bif i.agg then (arrD i).bind fun d => bif Nat.beq i.size d.1 && Nat.blt 0 d.1 then (rowOf rows b).bind fun r => (intsAt r.cs off).map fun q => ([0 <= e, e + d.1 <= q.2.1, q.2.2.length = q.2.1], .agg (pieceS q.1 d.1 ((q.2.2.drop e.toNat).take d.1))) else none
      else (rowOf rows b).bind fun r => (intsAtX r.cs off).map fun q => ([0 <= e, e < q.2.1], .int q.1 (q.2.2.getD e.toNat 0))
   | .hnd g => (globCells g).bind fun cs => (partC i cs 0).map fun v => ([], v)
   | .gp g off => (globCells g).bind fun cs => (partC i cs off).map fun v => ([], v)
   | .gpe g off sz n e => bif i.agg then none else (globCells g).bind fun cs => (colC cs off sz n).bind fun l => (pickC l e).map fun v => ([], v)
   | .rda k v xs e => bif i.agg then (arrD i).bind fun q => bif Nat.beq i.size q.1 then some ([e + q.1 <= xs.length], .agg (pieceS k q.1 ((xs.drop e.toNat).take q.1))) else none
                      else some ([], .int k (xs.getD e.toNat 0))
   | .rsa sz v n f e off => (partC i (f e.toNat) off).map fun v => ([], v)
   | .ptm b sz e off => (rowOf rows b).bind fun r => (manyOf r.cs).bind fun q => bif Nat.beq q.1 sz then (partC i (q.2.2 e.toNat) off).map fun v => ([0 <= e, e < q.2.1], v) else none
   | _ => none
def place (c : Bool) (n : Int) (len : Nat) (b off size : Nat) : Option (List Prop × SV) :=
 bif c then (bif decide (0 <= n) && decide (n < len) then some ([], .ptr b (off + n.toNat * size)) else none)
 else bif Nat.beq size 1 then some ([0 <= n, n < len], .pte b off n) else none
def onLen (rows : List (Option Row)) (b : Nat) : Option (Row × Nat) :=
 (rowOf rows b).bind fun r => bif Nat.beq r.sz 0 then none else some (r, widthL r.cs)
def gplace (c : Bool) (n : Int) (len g off size : Nat) : Option (List Prop × SV) :=
 bif c then (bif decide (0 <= n) && decide (n < len) then some ([], .gp g (off + n.toNat * size)) else none)
 else some ([0 <= n, n < len], .gpe g off size len n)
def indexA (T : Tab) (rows : List (Option Row)) (t : TypeId) (x ix : SV) : Option (List Prop × SV) :=
 (T.at t).bind fun i => (asI ix).bind fun q =>
   match x with
   | .hnd g => (arrD i).bind fun d => (T.at d.2).bind fun ei => gplace q.2.2 q.2.1 d.1 g 0 ei.size
   | .gp g off => (arrD i).bind fun d => (T.at d.2).bind fun ei => gplace q.2.2 q.2.1 d.1 g off ei.size
   | .os b off len _ => (slD i).bind fun e => (T.at e).bind fun ei => bif Nat.beq ei.size 1 then some ([0 <= q.2.1, q.2.1 < len], .pte b 0 (off + q.2.1)) else none
   | .on b len _ => (slD i).bind fun e => (T.at e).bind fun ei => (onLen rows b).bind fun w =>
     match manyOf w.1.cs with
     | some y => bif Nat.beq y.1 ei.size && Nat.blt 0 y.1 then some ([0 <= q.2.1, q.2.1 < len, len <= y.2.1], .ptm b y.1 q.2.1 0) else none
     | none =>
     bif q.2.2 && !(Nat.beq ei.size 1) then some ([0 <= q.2.1, q.2.1 < len, q.2.1.toNat * ei.size < w.2], .ptr b (q.2.1.toNat * ei.size))
     else bif Nat.beq ei.size 1 then some ([0 <= q.2.1, q.2.1 < len, q.2.1.toNat < w.2], .pte b 0 q.2.1) else none
   | .ow b z p o n m => (slD i).bind fun e => (T.at e).bind fun ei => (onLen rows b).bind fun w => bif Nat.beq ei.size 1 && Nat.beq w.1.sz 1 then some ([0 <= q.2.1, q.2.1 < n, o + n <= w.2], .pte b 0 (o + q.2.1)) else none
   | .ptr b off => (arrD i).bind fun d => (T.at d.2).bind fun ei => place q.2.2 q.2.1 d.1 b off ei.size
   | .sl b off len _ => (slD i).bind fun e => (T.at e).bind fun ei => place q.2.2 q.2.1 len b off ei.size
   | .rd k v xs => (slD i).bind fun e => (T.at e).bind fun ei => bif Nat.beq ei.size 1 then some ([0 <= q.2.1, q.2.1 < xs.length], .rda k v xs q.2.1) else none
   | .rs sz v n f => (slD i).bind fun e => (T.at e).bind fun ei => bif Nat.beq ei.size sz && Nat.blt 0 sz then some ([0 <= q.2.1, q.2.1 < n], .rsa sz v n f q.2.1 0) else none
   | .rsa sz v n f e off => (arrD i).bind fun d => (T.at d.2).bind fun ei =>
     bif q.2.2 && decide (0 <= q.2.1) && decide (q.2.1 < d.1) && Nat.blt (off + q.2.1.toNat * ei.size) sz then some ([], .rsa sz v n f e (off + q.2.1.toNat * ei.size)) else none
   | _ => none
def indexV (T : Tab) (t : TypeId) (x ix : SV) : Option (List Prop × SV) := none
def fieldA (T : Tab) (st : TypeId) (x : SV) (f : Nat) : Option SV :=
 (T.at st).bind fun i => (stD i).bind fun fs => (fs[f]?).bind fun q => (T.at q.2).bind fun fi =>
   match x with
   | .ptr b off => bif Nat.beq fi.size 0 then none else some (.ptr b (off + q.1))
   | .hnd g => bif Nat.beq fi.size 0 then none else some (.gp g q.1)
   | .gp g off => bif Nat.beq fi.size 0 then none else some (.gp g (off + q.1))
   | .gpe g off sz n e => bif Nat.beq fi.size 0 then none else some (.gpe g (off + q.1) sz n e)
   | .rsa sz v n g e off => bif Nat.beq fi.size 0 then none else bif Nat.blt (off + q.1) sz then some (.rsa sz v n g e (off + q.1)) else none
   | .ptm b sz e off => bif Nat.beq fi.size 0 then none else some (.ptm b sz e (off + q.1))
   | _ => none
def fieldV (T : Tab) (st : TypeId) (x : SV) (f : Nat) : Option SV :=
 (T.at st).bind fun i => (stD i).bind fun fs => (fs[f]?).bind fun q => (T.at q.2).bind fun fi =>
   match x with
   | .agg cs => partC fi cs q.1
   | _ => none
def isNilSlice : Value -> Bool
 | .slice none 0 0 => true
 | _ => false
def lenS (x : SV) : Option SV :=
 match x with
 | .sl _ _ len _ => some (.lit .i64 len)
 | .os _ _ len _ => some (.int .i64 len)
 | .on _ len _ => some (.int .i64 len)
 | .ow _ _ _ _ n _ => some (.int .i64 n)
 | .rd _ _ xs => some (.int .i64 xs.length)
 | .rs _ _ n _ => some (.int .i64 n)
 | .str s => some (.int .i64 s.size)
 | .val v => bif isNilSlice v then some (.lit .i64 0) else none
 | _ => none
def toArr (T : Tab) (rows : List (Option Row)) (t : TypeId) (x : SV) : Option (List Prop × SV) := none
def evL (tm : List (Nat × SV)) : List Operand -> Option (List SV)
 | [] => some []
 | x :: xs => match ev tm x, evL tm xs with
   | some v, some vs => some (v :: vs)
   | _, _ => none
def pickS (c : Bool) (a b : SV) : Option SV :=
 match asB a, asB b with
 | some x, some y => some (.bool (bif c then x.1 else y.1))
 | _, _ => match asI a, asI b with
   | some x, some y => bif decide (x.1 = y.1) then some (.int x.1 (bif c then x.2.1 else y.2.1)) else none
   | _, _ => none
def notTop : SV -> Bool
 | .top => false
 | _ => true
def extractS (x : SV) (i : Nat) : Option SV :=
 match x with
 | .tup vs => (vs[i]?).bind fun v => bif notTop v then some v else none
 | _ => none
def isPtr : SV -> Bool
 | .ptr _ _ | .hnd _ | .gp _ _ | .pte _ _ _ | .ptm _ _ _ _ => true
 | _ => false
def isRsa : SV -> Bool
 | .rsa _ _ _ _ _ _ => true
 | _ => false
def cellB : SV -> Bool
 | .lit _ _ | .int _ _ | .litb _ | .bool _ | .str _ | .hnd _ | .ptr _ _ | .pte _ _ _ | .ptm _ _ _ _ | .sl _ _ _ _ | .os _ _ _ _ | .on _ _ _ | .ow _ _ _ _ _ _ | .gp _ _ | .rd _ _ _ | .rda _ _ _ _ | .rs _ _ _ _ | .rsa _ _ _ _ _ _ | .fn _ _ _ | .ints _ _ _ => true
 | .val v => v.oneCell'
 | _ => false
def cellsB : List SV -> Bool
 | [] => true
 | c :: cs => cellB c && cellsB cs
def valueCells (v : SV) : Option (List SV) :=
 match v with
 | .agg cs => bif cellsB cs then some cs else none
 | .ints _ _ _ => none
 | .many _ _ _ => none
 | v => bif cellB v then some [v] else none
def setD : List SV -> Nat -> IntKind -> Int -> Option (List SV)
 | [], _, _, _ => none
 | .ints k n xs :: r, o, k', v =>
   bif Nat.blt o n then (bif decide (k = k') && Nat.beq xs.length n then some (.ints k n (xs.set o v) :: r) else none)
   else (setD r (o - n) k' v).map fun l => .ints k n xs :: l
 | .many _ _ _ :: _, _, _, _ => none
 | c :: r, o, k', v => bif Nat.beq o 0 then none else (setD r (o - 1) k' v).map fun l => c :: l
def layC (cells : List SV) (off size : Nat) (new : List SV) : Option (List SV) :=
 match overC cells off size new with
 | some c => some c
 | none => match new with
   | [c] => (asI c).bind fun q => bif Nat.beq size 1 then setD cells off q.1 q.2.1 else none
   | _ => none
def fillC (place : Nat -> Option (Nat × Nat)) (cells : List SV) : List (Nat × SV) -> Option (List SV)
 | [] => some cells
 | (i, v) :: rest =>
   match place i with
   | none => none
   | some (off, size) =>
     (valueCells v).bind fun new => bif Nat.beq (widthL new) size then (layC cells off size new).bind fun c => fillC place c rest else none
def placesL (T : Tab) : List (Nat × TypeId) -> Option (List (Nat × Nat))
 | [] => some []
 | (o, t) :: r => match T.at t, placesL T r with
   | some i, some l => some ((o, i.size) :: l)
   | _, _ => none
def buildS (T : Tab) (t : TypeId) (ps : List (Nat × SV)) : Option SV :=
 (T.at t).bind fun i => bif i.agg then
   match i.d with
   | .st fs => (placesL T fs).bind fun pl => (fillC (fun j => pl[j]?) i.zero ps).map .agg
   | .arr _ e => (T.at e).bind fun ei => (fillC (fun j => some (j * ei.size, ei.size)) i.zero ps).map .agg
   | _ => none
 else none
def evP (tm : List (Nat × SV)) : List (Nat × Operand) -> Option (List (Nat × SV))
 | [] => some []
 | (i, x) :: xs => match ev tm x, evP tm xs with
   | some v, some vs => some ((i, v) :: vs)
   | _, _ => none
def lenFits (i : TyI) (x : SV) : Bool :=
 match i.d with
 | .str => match x with
   | .str _ => true
   | _ => false
 | .sl _ => match x with
   | .str _ => false
   | _ => true
 | _ => false
def lenCall (T : Tab) (s : SS) (c : Call) : Option (List Prop × SV) :=
 match c with
 | ⟨.builtin .len, ⟨[x]⟩, ⟨[t]⟩⟩ => (T.at t).bind fun i => (ev s.tm x).bind fun x => bif lenFits i x then (lenS x).map fun v => ([], v) else none
 | _ => none
def toInts (k : IntKind) : List SV -> Option (List Prop × Nat × List Int)
 | [] => some ([], 0, [])
 | .ints k' n xs :: r => bif decide (k' = k) then (match r with
   | [] => some ([xs.length = n], n, xs)
   | _ => (toInts k r).map fun q => ((xs.length = n) :: q.1, n + q.2.1, xs ++ q.2.2)) else none
 | c :: r => match asI c, toInts k r with
   | some q, some p => bif decide (q.1 = k) then some (p.1, p.2.1 + 1, q.2.1 :: p.2.2) else none
   | _, _ => none
def rowsOfV : SV -> List Nat
 | .sl i _ _ _ | .os i _ _ _ | .on i _ _ | .ow i _ _ _ _ _ | .ptr i _ | .pte i _ _ | .ptm i _ _ _ => [i]
 | _ => []
def onePiece : List SV -> Option (IntKind × Nat × List Int)
 | [.ints k n xs] => some (k, n, xs)
 | _ => none
def bytesI (s : ByteArray) : List Int := s.data.toList.map fun b => (b.toNat : Int)
def sliceInts (rows : List (Option Row)) (k : IntKind) (v : SV) : Option (List Prop × Nat × List Int) :=
 match v with
 | .rd k' _ xs => bif decide (k' = k) then some ([], xs.length, xs) else none
 | .os b off len _ => (rowOf rows b).bind fun r => (onePiece r.cs).bind fun q => bif decide (q.1 = k) then some ([off + len <= q.2.1, q.2.2.length = q.2.1], len, (q.2.2.drop off).take len) else none
 | .on b len _ => (onLen rows b).bind fun w => (onePiece w.1.cs).bind fun q => bif decide (q.1 = k) then some ([len = q.2.1, q.2.2.length = q.2.1], len, q.2.2) else none
 | .ow b z p o n m => (onLen rows b).bind fun w => (onePiece w.1.cs).bind fun q => bif decide (q.1 = k) && Nat.beq w.1.sz 1 then some ([o + n <= q.2.1, q.2.2.length = q.2.1], n, (q.2.2.drop o).take n) else none
 | .sl b off len _ => (rowOf rows b).bind fun r => (dropC r.cs off).bind fun d => (takeC d len).bind fun l => toInts k l
 | .str s => bif decide (k = .u8) then some ([], s.size, bytesI s) else none
 | .val v => bif isNilSlice v then some ([], 0, []) else none
 | _ => none
def convS (T : Tab) (rows : List (Option Row)) (src dst : TypeId) (x : SV) : Option (List Prop × SV) := none
def optI (tm : List (Nat × SV)) : Option Operand -> Option (Option (Int × Bool))
 | none => some none
 | some x => (ev tm x).bind fun v => (asI v).map fun q => some (q.2.1, q.2.2)
def sliceS (T : Tab) (rows : List (Option Row)) (t : TypeId) (x : SV) (lo hi mx : Option (Int × Bool)) : Option (List Prop × SV) := none
def pureOp (T : Tab) (s : SS) (op : Op) : Option (List Prop × SV) :=
 match op with
 | .move x | .assign x => (ev s.tm x).map fun v => ([], v)
 | .pick c a b => (ev s.tm c).bind fun c => (asB c).bind fun q =>
   bif q.2 then (ev s.tm (bif q.1 then a else b)).map fun v => ([], v)
   else (ev s.tm a).bind fun a => (ev s.tm b).bind fun b => (pickS q.1 a b).map fun v => ([], v)
 | .build t parts => (evP s.tm parts.toList).bind fun ps => (buildS T t ps).map fun v => ([], v)
 | .load t x => (ev s.tm x).bind fun x => loadS T s.rows t x
 | .binOp op t x y _ => (ev s.tm x).bind fun x => (ev s.tm y).bind fun y => bin T op t x y
 | .unOp op _ x => (ev s.tm x).bind fun x => un op x
 | .convert src dst x => bif (T.at src).isSome then (ev s.tm x).bind fun x => (match conv T dst x with
   | some r => some r
   | none => convS T s.rows src dst x) else none
 | .sliceToArrayPointer t x => (ev s.tm x).bind fun x => toArr T s.rows t x
 | .slice t x lo hi mx => (ev s.tm x).bind fun x => (optI s.tm lo).bind fun lo => (optI s.tm hi).bind fun hi => (optI s.tm mx).bind fun mx => sliceS T s.rows t x lo hi mx
 | .makeFunc f first cap => (evL s.tm first.toList).bind fun a => (evL s.tm cap.toList).map fun b => ([], .fn f a b)
 | .fieldAddr t x f => (ev s.tm x).bind fun x => (fieldA T t x f).map fun v => ([], v)
 | .field t x f => (ev s.tm x).bind fun x => (fieldV T t x f).map fun v => ([], v)
 | .indexAddr t x i => (ev s.tm x).bind fun x => (ev s.tm i).bind fun i => indexA T s.rows t x i
 | .index t x i => (ev s.tm x).bind fun x => (ev s.tm i).bind fun i => indexV T t x i
 | .extract x i => (ev s.tm x).bind fun x => (extractS x i).map fun v => ([], v)
 | .nilCheck x => (ev s.tm x).bind fun x => bif isPtr x || isRsa x then some ([], x) else none
 | .call c => lenCall T s c
 | _ => none
def storeS (T : Tab) (rows : List (Option Row)) (t : TypeId) (x v : SV) : Option (List Prop × Nat × Row) :=
 (T.at t).bind fun i =>
   match x with
   | .ptr b off => (rowOf rows b).bind fun r => (valueCells v).bind fun new => bif Nat.beq (widthL new) i.size && Nat.blt 0 i.size then
      match overC r.cs off i.size new with
      | some cs => some ([], b, ⟨r.ty, cs, r.sz, none⟩)
      | none => bif i.agg then none else (asI v).bind fun q => (setIn r.cs off q.1 q.2.1).map fun p => (p.1, b, ⟨r.ty, p.2, r.sz, none⟩)
     else none
   | .pte b off e => bif i.agg then none else bif Nat.beq i.size 1 then (rowOf rows b).bind fun r => (intsAt r.cs off).bind fun z => (asI v).bind fun q => (setE r.cs off e q.1 q.2.1).map fun p => (([0 <= e, e < z.2.1] : List Prop) ++ p.1, b, ⟨r.ty, p.2, r.sz, none⟩) else none
   | _ => none
def zerosL : Nat -> List SV -> List SV
 | 0, _ => []
 | n + 1, z => z ++ zerosL n z
def newOp (T : Tab) (s : SS) (op : Op) : Option ((Nat -> SV) × Row) :=
 match op with
 | .alloc t => (T.at t).map fun i => (fun b => .ptr b 0, ⟨t, i.zero, 0, none⟩)
 | .box t x => (ev s.tm x).bind fun v => (valueCells v).map fun l => (fun b => .ptr b 0, ⟨t, l, 0, none⟩)
 | .buildSlice t len parts => (T.at t).bind fun i => (slD i).bind fun e => (T.at e).bind fun ei => (evP s.tm parts.toList).bind fun ps =>
    bif Nat.blt (len * ei.size) 16777216 && Nat.beq (widthL ei.zero) ei.size && Nat.blt 0 ei.size && Nat.blt 0 len then
     (fillC (fun j => some (j * ei.size, ei.size)) (zerosL len ei.zero) ps).map fun l => (fun b => .sl b 0 len len, ⟨e, l, 0, none⟩)
    else none
 | _ => none
def storeOp (T : Tab) (s : SS) (op : Op) : Option (List Prop × Nat × Row) :=
 match op with
 | .store t x v => (ev s.tm x).bind fun x => (ev s.tm v).bind fun v => storeS T s.rows t x v
 | _ => none
structure Eff where
 ps : List Prop
 v : SV
 puts : List (Nat × Option Row)
 rds : List Nat
 alt : Option (Prop × SV) := none
def sides (e : Eff) : List Eff :=
 match e.alt with
 | none => [e]
 | some (q, v) => [⟨q :: e.ps, v, [], e.rds, none⟩, ⟨(¬ q) :: e.ps, e.v, e.puts, e.rds, none⟩]
def copyS (T : Tab) (rows : List (Option Row)) (t : TypeId) (dst src : SV) : Option Eff := none
def isZero1 (k : IntKind) : List SV -> Bool
 | [.lit k' n] => decide (k' = k) && decide (n = 0)
 | _ => false
def clearS (T : Tab) (rows : List (Option Row)) (t : TypeId) (dst : SV) : Option Eff := none
def most : Nat := 68719476736
def sliceCells (rows : List (Option Row)) (sz : Nat) (v : SV) : Option (Nat × List SV) :=
 match v with
 | .sl b off len _ => (rowOf rows b).bind fun r => (dropC r.cs off).bind fun d => (takeC d (len * sz)).bind fun l => bif noTop l then some (len, l) else none
 | .on b len _ => (onLen rows b).bind fun w => bif Nat.beq (len * sz) (widthL w.1.cs) && noTop w.1.cs then some (len, w.1.cs) else none
 | .val v => bif isNilSlice v then some (0, []) else none
 | _ => none
def hasOne : SV -> Bool
 | .sl _ _ l _ => Nat.blt 0 l
 | _ => false
def appendS0 (T : Tab) (rows : List (Option Row)) (b : Nat) (t : TypeId) (x y : SV) : Option Eff :=
 (T.at t).bind fun i => (slD i).bind fun e => (T.at e).bind fun ei => bif Nat.ble ei.bytes 1024 && Nat.blt 0 ei.size && Nat.beq (widthL ei.zero) ei.size then
   match intD ei with
   | some k => bif Nat.beq ei.size 1 then (sliceInts rows k y).bind fun q =>
     (match x with
     | .val v => bif isNilSlice v then some ⟨q.1 ++ [q.2.1 <= most], .on b q.2.1 true, [(b, some ⟨e, [.ints k q.2.1 q.2.2], 1, none⟩)], rowsOfV y, none⟩ else none
     | .on j len z => (rowOf rows j).bind fun r => (onePiece r.cs).bind fun p => bif decide (p.1 = k) && Nat.beq r.sz 1 && decide (r.ty = e) then
       some ⟨q.1 ++ [len = p.2.1, p.2.2.length = p.2.1, p.2.1 + q.2.1 <= most], .on b (p.2.1 + q.2.1) z, [(j, none), (b, some ⟨e, [.ints k (p.2.1 + q.2.1) (p.2.2 ++ q.2.2)], 1, none⟩)], j :: rowsOfV y, none⟩ else none
     | .ow j z 0 0 n true => (rowOf rows j).bind fun r => (onePiece r.cs).bind fun p => bif decide (p.1 = k) && Nat.beq r.sz 1 && decide (r.ty = e) then
       some ⟨q.1 ++ [n <= p.2.1, p.2.2.length = p.2.1, n + q.2.1 <= most], .on b (n + q.2.1) false, [(b, some ⟨e, [.ints k (n + q.2.1) (p.2.2.take n ++ q.2.2)], 1, none⟩)], j :: rowsOfV y, bif hasOne y then none else some (q.2.1 = 0, .ow j z 0 0 n true)⟩ else none
     | _ => none) else none
   | none => (sliceCells rows ei.size y).bind fun q =>
     (match x with
     | .val v => bif isNilSlice v && cellsB q.2 then some ⟨[q.1 <= most], .on b q.1 true, [(b, some ⟨e, q.2, ei.size, none⟩)], rowsOfV y, none⟩ else none
     | .on j len z => (rowOf rows j).bind fun r => bif cellsB q.2 && Nat.beq r.sz ei.size && decide (r.ty = e) && Nat.beq (len * ei.size) (widthL r.cs) then
       some ⟨[len + q.1 <= most], .on b (len + q.1) z, [(j, none), (b, some ⟨e, r.cs ++ q.2, ei.size, none⟩)], j :: rowsOfV y, none⟩ else none
     | .sl j off n cap => (sliceCells rows ei.size (.sl j off n cap)).bind fun p => bif cellsB p.2 && cellsB q.2 && Nat.blt cap (n + q.1) && Nat.beq p.1 n then
       some ⟨[n + q.1 <= most], .on b (n + q.1) false, [(b, some ⟨e, p.2 ++ q.2, ei.size, none⟩)], j :: rowsOfV y, none⟩ else none
     | _ => none)
 else none
def manySrc (rows : List (Option Row)) (sz : Nat) (y : SV) : Option (List Prop × Nat × (Nat -> List SV)) :=
 match y with
 | .rs z v m g => bif Nat.beq z sz then some ([∀ e, e < m -> scL (g e) = true], m, g) else none
 | .on b len z => (rowOf rows b).bind fun r => (manyOf r.cs).bind fun q => bif Nat.beq r.sz sz && Nat.beq q.1 sz then some ([len <= q.2.1], len, q.2.2) else none
 | .sl b off 1 cap => (rowOf rows b).bind fun r => (dropC r.cs off).bind fun d => (takeC d sz).bind fun l => bif scL l && Nat.beq l.length sz then some ([], 1, fun _ => l) else none
 | _ => none
def manyRow (rows : List (Option Row)) : SV -> Bool
 | .on j _ _ => match rowOf rows j with
   | some r => (manyOf r.cs).isSome
   | none => false
 | _ => false
def isRs : SV -> Bool
 | .rs _ _ _ _ => true
 | _ => false
def useM (rows : List (Option Row)) (x y : SV) : Bool := isRs y || manyRow rows y || manyRow rows x
def manyRowOf (sz : Nat) (cs : List SV) : Option (Nat × Nat × (Nat -> List SV)) := match manyOf cs with
 | some q => some q
 | none => bif scL cs && Nat.beq cs.length sz then some (sz, 1, fun _ => cs) else none
def appendM (T : Tab) (rows : List (Option Row)) (b : Nat) (t : TypeId) (x y : SV) : Option Eff :=
 (T.at t).bind fun i => (slD i).bind fun e => (T.at e).bind fun ei => bif Nat.ble ei.bytes 1024 && Nat.blt 0 ei.size && Nat.beq (widthL ei.zero) ei.size then
   (manySrc rows ei.size y).bind fun q =>
     match x with
     | .val v => bif isNilSlice v then some ⟨q.1 ++ [q.2.1 <= most], .on b q.2.1 true, [(b, some ⟨e, [.many ei.size q.2.1 q.2.2], ei.size, none⟩)], rowsOfV y, none⟩ else none
     | .on j len z => (rowOf rows j).bind fun r => (manyRowOf ei.size r.cs).bind fun p => bif Nat.beq r.sz ei.size && decide (r.ty = e) && Nat.beq p.1 ei.size then
       some ⟨q.1 ++ [len = p.2.1, p.2.1 + q.2.1 <= most, ∀ x, x < p.2.1 + q.2.1 -> shapeL (p.2.2 x) (q.2.2 (x - p.2.1)) = true], .on b (p.2.1 + q.2.1) z, [(j, none), (b, some ⟨e, [.many ei.size (p.2.1 + q.2.1) (fun x => zipL (x < p.2.1) (p.2.2 x) (q.2.2 (x - p.2.1)))], ei.size, none⟩)], j :: rowsOfV y, none⟩ else none
     | _ => none
 else none
def appendS (T : Tab) (rows : List (Option Row)) (b : Nat) (t : TypeId) (x y : SV) : Option Eff :=
 bif useM rows x y then appendM T rows b t x y else appendS0 T rows b t x y
def appTy (T : Tab) (t u : TypeId) : Bool := match T.at u with
 | some i => (slD i).isSome || isStrD i
 | none => false
def makeS (T : Tab) (b : Nat) (t : TypeId) (len cap : SV) : Option Eff :=
 (T.at t).bind fun i => (slD i).bind fun e => (T.at e).bind fun ei => (intD ei).bind fun k => (asI len).bind fun l => (asI cap).bind fun c =>
   bif Nat.beq ei.size 1 && Nat.ble ei.bytes 1024 && isZero1 k ei.zero then
    some ⟨[0 <= l.2.1, l.2.1 <= c.2.1, c.2.1 <= most], .on b l.2.1.toNat false, [(b, some ⟨e, [.ints k l.2.1.toNat (List.replicate l.2.1.toNat 0)], 1, none⟩)], [], none⟩
   else none
def listOp (T : Tab) (s : SS) (b : Nat) (op : Op) : Option Eff :=
 match op with
 | .makeSlice t len cap => (ev s.tm len).bind fun len => (ev s.tm cap).bind fun cap => makeS T b t len cap
 | .call ⟨.builtin .append, ⟨[x, y]⟩, ⟨[t, u]⟩⟩ => bif appTy T t u then (ev s.tm x).bind fun x => (ev s.tm y).bind fun y => appendS T s.rows b t x y else none
 | .call ⟨.builtin .copy, ⟨[x, y]⟩, ⟨t :: _⟩⟩ => (ev s.tm x).bind fun x => (ev s.tm y).bind fun y => copyS T s.rows t x y
 | .call ⟨.builtin .clear, ⟨[x]⟩, ⟨[t]⟩⟩ => (ev s.tm x).bind fun x => clearS T s.rows t x
 | _ => none
def effOp (T : Tab) (s : SS) (b : Nat) (op : Op) : Option Eff :=
 match newOp T s op with
 | some (mk, r) => some ⟨[], mk b, [(b, some r)], [], none⟩
 | none => match storeOp T s op with
   | some (ps, c, r) => some ⟨ps, .tup [], [(c, some r)], [c], none⟩
   | none => listOp T s b op
def isNew : Op -> Bool
 | .alloc _ | .box _ _ | .buildSlice _ _ _ | .makeSlice _ _ _ => true
 | .call ⟨.builtin .append, _, _⟩ => true
 | _ => false
def putsL : List (Nat × Option Row) -> List (Option Row) -> List (Option Row)
 | [], rows => rows
 | (b, r) :: l, rows => putsL l (rows.set b r)
end Sx
end
section
namespace Sx
variable {ρ : Num}
theorem intCells_length (k : IntKind) (n : Nat) (xs : List Int) : (intCells k n xs).length = n := by simp [intCells]
theorem recCells_length (sz n : Nat) (f : Nat -> List SV) : (recCells sz n f).length = n * sz := by
 unfold recCells
 induction n with
 | zero => simp
 | succ n ih => rw [List.range_succ, List.flatMap_append, List.length_append, ih]; simp [Nat.succ_mul]
theorem intCells_get (k : IntKind) (n : Nat) (xs : List Int) (j : Nat) (h : j < n) : (intCells k n xs)[j]? = some (.int k (xs.getD j 0)) := by
 simp [intCells, h]
theorem denL_eq (l : List SV) : denL ρ l = l.map (den ρ) := by
 induction l with
 | nil => rfl
 | cons c l ih => simp [denL, ih]
theorem CellsOK.ints {k n xs} {r : List SV} {vs : List Value} (h : CellsOK ρ (.ints k n xs :: r) vs) : ∃ t, vs = intCells k n xs ++ t /\ CellsOK ρ r t := h
theorem CellsOK.top {r : List SV} {vs : List Value} (h : CellsOK ρ (.top :: r) vs) : ∃ v t, vs = v :: t /\ CellsOK ρ r t := h
def single : SV -> Bool
 | .top => false
 | .ints _ _ _ => false
 | .many _ _ _ => false
 | _ => true
theorem CellsOK.one {c : SV} {r : List SV} {vs : List Value} (hc : single c = true) (h : CellsOK ρ (c :: r) vs) : ∃ t, vs = den ρ c :: t /\ CellsOK ρ r t := by
 cases c <;> first | exact h | simp [single] at hc
theorem CellsOK.mk_one {c : SV} {r : List SV} {t : List Value} (hc : single c = true) (h : CellsOK ρ r t) : CellsOK ρ (c :: r) (den ρ c :: t) := by
 cases c <;> first | exact ⟨_, rfl, h⟩ | simp [single] at hc
theorem cellsL_one {c : SV} {r : List SV} (hc : single c = true) : cellsL ρ (c :: r) = den ρ c :: cellsL ρ r := by
 cases c <;> first | rfl | simp [single] at hc
theorem CellsOK.length : ∀ {l : List SV} {vs : List Value}, CellsOK ρ l vs -> vs.length = widthL l
 | [], vs, h => by simp [CellsOK] at h; simp [h, widthL]
 | c :: r, vs, h => by
   cases hc : single c with
   | true =>
     obtain ⟨t, rfl, h2⟩ := h.one hc
     have := CellsOK.length h2
     cases c <;> simp [widthL, width, this] <;> first | omega | simp [single] at hc
   | false =>
     cases c <;> simp [single] at hc
     ·obtain ⟨v, t, rfl, h2⟩ := h
      have := CellsOK.length h2
      simp [widthL, width, this]; omega
     ·obtain ⟨t, rfl, h2⟩ := h
      have := CellsOK.length h2
      simp [widthL, width, this, intCells_length]
     ·obtain ⟨t, rfl, h2⟩ := h
      have := CellsOK.length h2
      simp [widthL, width, this, recCells_length]
theorem CellsOK.of_cellsL (ρ : Num) : ∀ (l : List SV), CellsOK ρ l (cellsL ρ l)
 | [] => rfl
 | c :: r => by
   have ih := CellsOK.of_cellsL ρ r
   cases hc : single c with
   | true => rw [cellsL_one hc]; exact .mk_one hc ih
   | false =>
     cases c <;> simp [single] at hc
     ·exact ⟨_, _, rfl, ih⟩
     ·exact ⟨_, rfl, ih⟩
     ·exact ⟨_, rfl, ih⟩
theorem CellsOK.noTop : ∀ {l : List SV} {vs : List Value}, CellsOK ρ l vs -> noTop l = true -> vs = cellsL ρ l
 | [], vs, h, _ => h
 | c :: r, vs, h, ht => by
   have ht2 : Sx.noTop r = true := by cases c <;> simp_all [Sx.noTop]
   cases hc : single c with
   | true =>
     obtain ⟨t, rfl, h2⟩ := h.one hc
     rw [cellsL_one hc, h2.noTop ht2]
   | false =>
     cases c <;> simp [single] at hc
     ·simp [Sx.noTop] at ht
     ·obtain ⟨t, rfl, h2⟩ := h
      simp [cellsL, h2.noTop ht2]
     ·obtain ⟨t, rfl, h2⟩ := h
      simp [cellsL, h2.noTop ht2]
theorem CellsOK.append : ∀ {a b : List SV} {vs us : List Value}, CellsOK ρ a vs -> CellsOK ρ b us -> CellsOK ρ (a ++ b) (vs ++ us)
 | [], b, vs, us, h, k => by simp [CellsOK] at h; simpa [h] using k
 | c :: r, b, vs, us, h, k => by
   cases hc : single c with
   | true =>
     obtain ⟨t, rfl, h2⟩ := h.one hc
     exact .mk_one hc (h2.append k)
   | false =>
     cases c <;> simp [single] at hc
     ·obtain ⟨v, t, rfl, h2⟩ := h
      exact ⟨v, _, rfl, h2.append k⟩
     ·obtain ⟨t, rfl, h2⟩ := h
      exact ⟨_, by rw [List.append_assoc], h2.append k⟩
     ·obtain ⟨t, rfl, h2⟩ := h
      exact ⟨_, by rw [List.append_assoc], h2.append k⟩
theorem cond_some {α : Type} {b : Bool} {x y : Option α} {z : α} (h : (bif b then x else y) = some z) : (b = true /\ x = some z) ∨ (b = false /\ y = some z) := by
 cases b <;> simp_all
theorem beq_some {α : Type} {a b : Nat} {x y : Option α} {z : α} (h : (bif Nat.beq a b then x else y) = some z) : (a = b /\ x = some z) ∨ (a ≠ b /\ y = some z) := by
 rcases cond_some h with ⟨e, h⟩ | ⟨e, h⟩
 ·exact .inl ⟨Nat.eq_of_beq_eq_true e, h⟩
 ·exact .inr ⟨Nat.ne_of_beq_eq_false e, h⟩
theorem ble_some {α : Type} {a b : Nat} {x y : Option α} {z : α} (h : (bif Nat.ble a b then x else y) = some z) : (a <= b /\ x = some z) ∨ (b < a /\ y = some z) := by
 rcases cond_some h with ⟨e, h⟩ | ⟨e, h⟩
 ·exact .inl ⟨Nat.le_of_ble_eq_true e, h⟩
 ·exact .inr ⟨Nat.lt_of_not_le (fun h2 => by rw [Nat.ble_eq_true_of_le h2] at e; exact absurd e (by decide)), h⟩
theorem blt_some {α : Type} {a b : Nat} {x y : Option α} {z : α} (h : (bif Nat.blt a b then x else y) = some z) : (a < b /\ x = some z) ∨ (b <= a /\ y = some z) := by
 rcases ble_some (a := a + 1) (b := b) h with ⟨e, h⟩ | ⟨e, h⟩
 ·exact .inl ⟨e, h⟩
 ·exact .inr ⟨by omega, h⟩
theorem cellAt_single {c : SV} {r : List SV} {o : Nat} (hc : single c = true ∨ c = .top) : cellAt (c :: r) o = bif Nat.beq o 0 then some c else cellAt r (o - 1) := by
 cases c <;> first | rfl | simp [single] at hc
theorem dropC_single {c : SV} {r : List SV} {o : Nat} (hc : single c = true ∨ c = .top) : dropC (c :: r) o = bif Nat.beq o 0 then some (c :: r) else dropC r (o - 1) := by
 cases c <;> first | rfl | simp [single] at hc
theorem takeC_single {c : SV} {r : List SV} {o : Nat} (hc : single c = true ∨ c = .top) : takeC (c :: r) o = bif Nat.beq o 0 then some [] else (takeC r (o - 1)).map (c :: ·) := by
 cases c <;> first | rfl | simp [single] at hc
theorem cellAt_ok : ∀ {l : List SV} {vs : List Value} {o : Nat} {v : SV}, CellsOK ρ l vs -> cellAt l o = some v -> v = .top ∨ vs[o]? = some (den ρ v)
 | [], vs, o, v, h, hv => by simp [cellAt] at hv
 | c :: r, vs, o, v, h, hv => by
   cases hc : single c with
   | true =>
     rw [cellAt_single (.inl hc)] at hv
     obtain ⟨t, rfl, h2⟩ := h.one hc
     rcases beq_some hv with ⟨e, hx⟩ | ⟨e, hx⟩ <;> clear hv
     ·cases hx; subst e; simp
     ·rcases cellAt_ok h2 hx with h3 | h3
      ·exact .inl h3
      ·right; rw [show o = (o - 1) + 1 by omega]; simpa using h3
   | false =>
     cases c <;> simp [single] at hc
     ·rw [cellAt_single (.inr rfl)] at hv
      obtain ⟨u, t, rfl, h2⟩ := h
      rcases beq_some hv with ⟨e, hx⟩ | ⟨e, hx⟩ <;> clear hv
      ·cases hx; exact .inl rfl
      ·rcases cellAt_ok h2 hx with h3 | h3
       ·exact .inl h3
       ·right; rw [show o = (o - 1) + 1 by omega]; simpa using h3
     ·rename_i k n xs
      obtain ⟨t, rfl, h2⟩ := h
      simp only [cellAt] at hv
      rcases blt_some hv with ⟨e, hx⟩ | ⟨e, hx⟩ <;> clear hv
      ·cases hx
       right
       rw [List.getElem?_append_left (by simp [intCells_length, e]), intCells_get _ _ _ _ e]; rfl
      ·rcases cellAt_ok h2 hx with h3 | h3
       ·exact .inl h3
       ·right; rw [List.getElem?_append_right (by simp [intCells_length, e]), intCells_length]; exact h3
     ·simp [cellAt] at hv
theorem dropC_ok : ∀ {l l' : List SV} {vs : List Value} {o : Nat}, CellsOK ρ l vs -> dropC l o = some l' -> CellsOK ρ l' (vs.drop o) /\ o <= vs.length
 | [], l', vs, o, h, hv => by
   simp only [dropC] at hv
   rcases beq_some hv with ⟨e, hx⟩ | ⟨e, hx⟩ <;> clear hv <;> cases hx
   subst e; simpa using h
 | c :: r, l', vs, o, h, hv => by
   cases hc : single c with
   | true =>
     rw [dropC_single (.inl hc)] at hv
     rcases beq_some hv with ⟨e, hx⟩ | ⟨e, hx⟩ <;> clear hv
     ·cases hx; subst e; simpa using h
     ·obtain ⟨t, rfl, h2⟩ := h.one hc
      obtain ⟨h3, h4⟩ := dropC_ok h2 hx
      rw [show o = (o - 1) + 1 by omega]
      exact ⟨by simpa using h3, by simp; omega⟩
   | false =>
     cases c <;> simp [single] at hc
     ·rw [dropC_single (.inr rfl)] at hv
      rcases beq_some hv with ⟨e, hx⟩ | ⟨e, hx⟩ <;> clear hv
      ·cases hx; subst e; simpa using h
      ·obtain ⟨u, t, rfl, h2⟩ := h
       obtain ⟨h3, h4⟩ := dropC_ok h2 hx
       rw [show o = (o - 1) + 1 by omega]
       exact ⟨by simpa using h3, by simp; omega⟩
     ·rename_i k n xs
      simp only [dropC] at hv
      rcases beq_some hv with ⟨e, hx⟩ | ⟨e, hx⟩ <;> clear hv
      ·cases hx; subst e; simpa using h
      ·rcases ble_some hx with ⟨e2, hy⟩ | ⟨e2, hy⟩ <;> clear hx
       ·obtain ⟨t, rfl, h2⟩ := h
        obtain ⟨h3, h4⟩ := dropC_ok h2 hy
        rw [List.drop_append, List.drop_eq_nil_of_le (by rw [intCells_length]; exact e2), intCells_length]
        exact ⟨by simpa using h3, by simp [intCells_length]; omega⟩
       ·cases hy
     ·simp [dropC] at hv
theorem takeC_ok : ∀ {l l' : List SV} {vs : List Value} {o : Nat}, CellsOK ρ l vs -> takeC l o = some l' -> CellsOK ρ l' (vs.take o) /\ o <= vs.length
 | [], l', vs, o, h, hv => by
   simp only [takeC] at hv
   rcases beq_some hv with ⟨e, hx⟩ | ⟨e, hx⟩ <;> clear hv <;> cases hx
   subst e; exact ⟨by simp [CellsOK], by omega⟩
 | c :: r, l', vs, o, h, hv => by
   cases hc : single c with
   | true =>
     rw [takeC_single (.inl hc)] at hv
     rcases beq_some hv with ⟨e, hx⟩ | ⟨e, hx⟩ <;> clear hv
     ·cases hx; subst e; exact ⟨by simp [CellsOK], by omega⟩
     ·obtain ⟨t, rfl, h2⟩ := h.one hc
      simp only [Option.map_eq_some_iff] at hx
      obtain ⟨l2, hx, rfl⟩ := hx
      obtain ⟨h3, h4⟩ := takeC_ok h2 hx
      rw [show o = (o - 1) + 1 by omega]
      exact ⟨by simpa using CellsOK.mk_one hc h3, by simp; omega⟩
   | false =>
     cases c <;> simp [single] at hc
     ·rw [takeC_single (.inr rfl)] at hv
      rcases beq_some hv with ⟨e, hx⟩ | ⟨e, hx⟩ <;> clear hv
      ·cases hx; subst e; exact ⟨by simp [CellsOK], by omega⟩
      ·obtain ⟨u, t, rfl, h2⟩ := h
       simp only [Option.map_eq_some_iff] at hx
       obtain ⟨l2, hx, rfl⟩ := hx
       obtain ⟨h3, h4⟩ := takeC_ok h2 hx
       rw [show o = (o - 1) + 1 by omega]
       exact ⟨⟨u, _, by simp, h3⟩, by simp; omega⟩
     ·rename_i k n xs
      simp only [takeC] at hv
      rcases beq_some hv with ⟨e, hx⟩ | ⟨e, hx⟩ <;> clear hv
      ·cases hx; subst e; exact ⟨by simp [CellsOK], by omega⟩
      ·rcases ble_some hx with ⟨e2, hy⟩ | ⟨e2, hy⟩ <;> clear hx
       ·obtain ⟨t, rfl, h2⟩ := h
        simp only [Option.map_eq_some_iff] at hy
        obtain ⟨l2, hx, rfl⟩ := hy
        obtain ⟨h3, h4⟩ := takeC_ok h2 hx
        rw [List.take_append, List.take_of_length_le (by rw [intCells_length]; exact e2), intCells_length]
        exact ⟨⟨_, rfl, h3⟩, by simp [intCells_length]; omega⟩
       ·cases hy
     ·simp [takeC] at hv
theorem okdL_dropC {W : World} {F : Nat -> Prop} {m : Nat} : ∀ {l l' : List SV} {o : Nat}, okdL W F m l -> dropC l o = some l' -> okdL W F m l'
 | [], l', o, h, hv => by
   simp only [dropC] at hv
   rcases cond_some hv with ⟨e, hv⟩ | ⟨e, hv⟩ <;> simp at hv
   subst hv; trivial
 | c :: r, l', o, h, hv => by
   cases c <;> simp only [dropC, reduceCtorEq] at hv <;> rcases cond_some hv with ⟨e, hv⟩ | ⟨e, hv⟩ <;> first
    | (simp at hv; subst hv; exact h)
    | exact okdL_dropC h.2 hv
    | (rcases cond_some hv with ⟨e2, hv⟩ | ⟨e2, hv⟩
       ·exact okdL_dropC h.2 hv
       ·simp at hv)
theorem okdL_takeC {W : World} {F : Nat -> Prop} {m : Nat} : ∀ {l l' : List SV} {o : Nat}, okdL W F m l -> takeC l o = some l' -> okdL W F m l'
 | [], l', o, h, hv => by
   simp only [takeC] at hv
   rcases cond_some hv with ⟨e, hv⟩ | ⟨e, hv⟩ <;> simp at hv
   subst hv; trivial
 | c :: r, l', o, h, hv => by
   cases c <;> simp only [takeC, reduceCtorEq] at hv <;> rcases cond_some hv with ⟨e, hv⟩ | ⟨e, hv⟩ <;> first
    | (simp at hv; subst hv; trivial)
    | (rcases cond_some hv with ⟨e2, hv⟩ | ⟨e2, hv⟩
       ·simp only [Option.map_eq_some_iff] at hv
        obtain ⟨l2, hx, rfl⟩ := hv
        exact ⟨h.1, okdL_takeC h.2 hx⟩
       ·simp at hv)
    | (simp only [Option.map_eq_some_iff] at hv
       obtain ⟨l2, hx, rfl⟩ := hv
       exact ⟨h.1, okdL_takeC h.2 hx⟩)
theorem okdL_cellAt {W : World} {F : Nat -> Prop} {m : Nat} : ∀ {l : List SV} {o : Nat} {v : SV}, okdL W F m l -> cellAt l o = some v -> okd W F m v
 | [], o, v, h, hv => by simp [cellAt] at hv
 | c :: r, o, v, h, hv => by
   cases c <;> simp only [cellAt, reduceCtorEq] at hv <;> rcases cond_some hv with ⟨e, hv⟩ | ⟨e, hv⟩ <;> first
    | (simp at hv; subst hv; exact h.1)
    | exact okdL_cellAt h.2 hv
theorem okdL_append {W : World} {F : Nat -> Prop} {m : Nat} : ∀ {a b : List SV}, okdL W F m a -> okdL W F m b -> okdL W F m (a ++ b)
 | [], b, h, k => k
 | c :: r, b, h, k => ⟨h.1, okdL_append h.2 k⟩
theorem recCells_succ (sz n : Nat) (f : Nat -> List SV) : recCells sz (n + 1) f = recCells sz n f ++ (List.range sz).map fun j => scC ((f n).getD j .top) := by
 unfold recCells
 rw [List.range_succ, List.flatMap_append]
 simp
theorem recCells_get (sz : Nat) (f : Nat -> List SV) : ∀ {n e k : Nat}, e < n -> k < sz -> (recCells sz n f)[e * sz + k]? = some (scC ((f e).getD k .top))
 | 0, e, k, h, _ => by omega
 | n + 1, e, k, h, hk => by
   have hl := recCells_length sz n f
   rw [recCells_succ]
   by_cases he : e = n
   ·subst he
    rw [List.getElem?_append_right (by omega), hl, show e * sz + k - e * sz = k by omega]
    simp [hk]
   ·have h1 : e * sz + k < n * sz := by
     have : (e + 1) * sz <= n * sz := Nat.mul_le_mul_right _ (by omega)
     rw [Nat.succ_mul] at this
     omega
    rw [List.getElem?_append_left (by omega)]
    exact recCells_get sz f (by omega) hk
theorem sc_one {c : SV} (h : scV c = true) : single c = true /\ den ρ c = scC c /\ (scC c).oneCell' = true := by
 cases c <;> simp [scV] at h <;> exact ⟨rfl, rfl, rfl⟩
theorem scL_cells : ∀ {l : List SV}, scL l = true -> cellsL ρ l = l.map scC
 | [], _ => rfl
 | c :: l, h => by
   simp only [scL, Bool.and_eq_true] at h
   rw [cellsL_one (sc_one (ρ := ρ) h.1).1, (sc_one (ρ := ρ) h.1).2.1, scL_cells h.2]
   rfl
theorem scL_one : ∀ {l : List SV}, scL l = true -> ∀ k, k < l.length -> (scC (l.getD k .top)).oneCell' = true
 | [], _, k, hk => by simp at hk
 | c :: l, h, k, hk => by
   simp only [scL, Bool.and_eq_true] at h
   cases k with
   | zero => simpa using (sc_one (ρ := Num.zero) h.1).2.2
   | succ k => simpa using scL_one h.2 k (by simpa using hk)
theorem scL_okd {W : World} {F : Nat -> Prop} {m : Nat} : ∀ {l : List SV}, scL l = true -> okdL W F m l
 | [], _ => trivial
 | c :: l, h => by
   simp only [scL, Bool.and_eq_true] at h
   refine ⟨?_, scL_okd h.2⟩
   have := h.1
   cases c <;> simp [scV] at this <;> trivial
theorem recCells_seg {sz n e : Nat} {f : Nat -> List SV} (he : e < n) (hs : scL (f e) = true) (hl : (f e).length = sz) (ρ : Num) : ∀ k, k < sz -> (recCells sz n f)[e * sz + k]? = (cellsL ρ (f e))[k]? := by
 intro k hk
 rw [recCells_get sz f he hk, scL_cells hs]
 have : k < (f e).length := by omega
 simp [List.getD, this]
theorem shapeV_sc {a b : SV} (h : shapeV a b = true) : scV a = true /\ scV b = true := by
 unfold shapeV at h
 cases a <;> cases b <;> simp [asI, asB] at h <;> exact ⟨rfl, rfl⟩
theorem shapeL_sc : ∀ {a b : List SV}, shapeL a b = true -> scL a = true /\ scL b = true /\ a.length = b.length
 | [], [], _ => ⟨rfl, rfl, rfl⟩
 | a :: as, b :: bs, h => by
   simp only [shapeL, Bool.and_eq_true] at h
   obtain ⟨h1, h2, h3⟩ := shapeL_sc h.2
   obtain ⟨g1, g2⟩ := shapeV_sc h.1
   exact ⟨by simp [scL, g1, h1], by simp [scL, g2, h2], by simp [h3]⟩
 | [], _ :: _, h => by simp [shapeL] at h
 | _ :: _, [], h => by simp [shapeL] at h
theorem zipV_ok (c : Prop) [Decidable c] {a b : SV} (h : shapeV a b = true) : scV (zipV c a b) = true /\ scC (zipV c a b) = if c then scC a else scC b := by
 unfold shapeV at h
 unfold zipV
 cases a <;> cases b <;> simp [asI, asB] at h <;> simp only [asI, asB] <;> refine ⟨rfl, ?_⟩ <;> by_cases hc : c <;> simp [hc, scC, h]
theorem zipL_ok (c : Prop) [Decidable c] : ∀ {a b : List SV}, shapeL a b = true -> scL (zipL c a b) = true /\ (zipL c a b).length = a.length /\ ∀ k, k < a.length -> scC ((zipL c a b).getD k .top) = if c then scC (a.getD k .top) else scC (b.getD k .top)
 | [], [], _ => ⟨rfl, rfl, fun k hk => by simp at hk⟩
 | a :: as, b :: bs, h => by
   simp only [shapeL, Bool.and_eq_true] at h
   obtain ⟨h1, h2, h3⟩ := zipL_ok c h.2
   obtain ⟨g1, g2⟩ := zipV_ok c h.1
   refine ⟨by simp [zipL, scL, g1, h1], by simp [zipL, h2], fun k hk => ?_⟩
   cases k with
   | zero => simpa [zipL] using g2
   | succ k => simpa [zipL] using h3 k (by simpa using hk)
 | [], _ :: _, h => by simp [shapeL] at h
 | _ :: _, [], h => by simp [shapeL] at h
theorem recCells_ext {sz n : Nat} {f g : Nat -> List SV} (h : ∀ e, e < n -> ∀ k, k < sz -> scC ((f e).getD k .top) = scC ((g e).getD k .top)) : recCells sz n f = recCells sz n g := by
 unfold recCells
 rw [List.flatMap_def, List.flatMap_def]
 congr 1
 refine List.map_congr_left fun e he => ?_
 refine List.map_congr_left fun k hk => ?_
 exact h e (by simpa using he) k (by simpa using hk)
theorem recCells_add (sz n : Nat) (f : Nat -> List SV) : ∀ m, recCells sz (n + m) f = recCells sz n f ++ recCells sz m (fun e => f (n + e))
 | 0 => by simp [recCells]
 | m + 1 => by
   rw [<- Nat.add_assoc, recCells_succ, recCells_add sz n f m, recCells_succ, List.append_assoc]
theorem recCells_zip {sz n m : Nat} {f g : Nat -> List SV} (hf : ∀ e, e < n -> (f e).length = sz) (hg : ∀ e, e < m -> (g e).length = sz) (h : ∀ x, x < n + m -> shapeL (f x) (g (x - n)) = true) :
  recCells sz (n + m) (fun x => zipL (x < n) (f x) (g (x - n))) = recCells sz n f ++ recCells sz m g /\ ∀ e, e < n + m -> scL (zipL (e < n) (f e) (g (e - n))) = true /\ (zipL (e < n) (f e) (g (e - n))).length = sz := by
 have len : ∀ x, x < n + m -> (f x).length = sz := fun x hx => by
  by_cases hn : x < n
  ·exact hf x hn
  ·rw [(shapeL_sc (h x hx)).2.2]; exact hg _ (by omega)
 refine ⟨?_, fun e he => ?_⟩
 ·rw [recCells_add]
  congr 1
  ·refine recCells_ext fun e he k hk => ?_
   obtain ⟨_, _, h3⟩ := zipL_ok (e < n) (h e (by omega))
   rw [h3 k (by rw [len e (by omega)]; exact hk), if_pos he]
  ·refine recCells_ext fun e he k hk => ?_
   obtain ⟨_, _, h3⟩ := zipL_ok (n + e < n) (h (n + e) (by omega))
   rw [h3 k (by rw [len (n + e) (by omega)]; exact hk), if_neg (by omega), show n + e - n = e by omega]
 ·obtain ⟨h1, h2, _⟩ := zipL_ok (e < n) (h e he)
  exact ⟨h1, by rw [h2]; exact len e he⟩
theorem manyOf_ok {l : List SV} {q : Nat × Nat × (Nat -> List SV)} (h : manyOf l = some q) : l = [.many q.1 q.2.1 q.2.2] := by
 unfold manyOf at h
 split at h
 ·cases h; rfl
 ·cases h
end Sx
end
section
open Go.RowKit Go.ChangeShapes
namespace Sx
abbrev FT := Option IntKind
def FT.fit : FT -> Value -> Prop
 | some k, v => ∃ n : Int, v = .int k n
 | none, v => ∃ x : Bool, v = .bool x
def Fits : List FT -> List Value -> Prop
 | [], [] => True
 | f :: fs, v :: vs => FT.fit f v /\ Fits fs vs
 | _, _ => False
def fieldsAt (P : Program) (g : TypeId -> Option (List FT)) : List Field -> Nat -> Option (List FT)
 | [], _ => some []
 | f :: fs, off =>
   match g f.type with
   | none => none
   | some l => if f.name ≠ "_" /\ f.offset = off /\ P.cellsOf f.type = l.length then (fieldsAt P g fs (off + l.length)).map (l ++ ·) else none
def flatAt (P : Program) : Nat -> TypeId -> Option (List FT)
 | 0, _ => none
 | n + 1, t =>
   match P.underlying t with
   | some .bool => if P.cellsOf t = 1 then some [none] else none
   | some (.int k) => if P.cellsOf t = 1 then some [some k] else none
   | some (.array m e) =>
     match flatAt P n e with
     | none => none
     | some l => if P.cellsOf e = l.length /\ P.cellsOf t = m * l.length then some (List.replicate m l).flatten else none
   | some (.struct fs) =>
     if P.stoodInHeld t = false then
      match fieldsAt P (flatAt P n) fs.toList 0 with
      | none => none
      | some l => if P.cellsOf t = l.length then some l else none
     else none
   | _ => none
theorem Fits.length : ∀ {ks : List FT} {cs : List Value}, Fits ks cs -> cs.length = ks.length
 | [], [], _ => rfl
 | _ :: _, _ :: _, h => by simp [Fits.length h.2]
 | [], _ :: _, h => h.elim
 | _ :: _, [], h => h.elim
theorem Fits.append : ∀ {ks ls : List FT} {cs ds : List Value}, Fits ks cs -> Fits ls ds -> Fits (ks ++ ls) (cs ++ ds)
 | [], _, [], _, _, h => h
 | _ :: _, _, _ :: _, _, h, k => ⟨h.1, Fits.append h.2 k⟩
 | [], _, _ :: _, _, h, _ => h.elim
 | _ :: _, _, [], _, h, _ => h.elim
theorem Fits.split : ∀ {ks ls : List FT} {cs : List Value}, Fits (ks ++ ls) cs -> Fits ks (cs.take ks.length) /\ Fits ls (cs.drop ks.length)
 | [], _, _, h => ⟨by simp [Fits], by simpa using h⟩
 | _ :: ks, ls, c :: cs, h => by
   obtain ⟨a, b⟩ := Fits.split (ks := ks) (ls := ls) h.2
   exact ⟨⟨h.1, a⟩, b⟩
 | _ :: _, _, [], h => h.elim
def packAt (P : Program) (t : TypeId) (cs : List Value) : Value :=
 match P.underlying t with
 | some (.array _ _) | some (.struct _) => .agg cs.toArray
 | _ => cs.headD undef
section
variable {P : Program} (w : World)
theorem flat_size {n : Nat} {t : TypeId} {ks : List FT} (h : flatAt P n t = some ks) : P.cellsOf t = ks.length := by
 cases n with
 | zero => simp [flatAt] at h
 | succ n =>
   unfold flatAt at h
   split at h
   ·split at h <;> simp_all; subst h; rfl
   ·split at h <;> simp_all; subst h; rfl
   ·split at h
    ·simp at h
    ·split at h
     ·rename_i hc; simp at h; subst h; simp [hc.2, List.length_flatten, List.map_replicate, List.sum_replicate_nat]
     ·simp at h
   ·split at h
    ·split at h
     ·simp at h
     ·split at h
      ·rename_i hc; simp at h; subst h; exact hc
      ·simp at h
    ·simp at h
   ·simp at h
theorem run_part_flat {n : Nat} {t : TypeId} {ks : List FT} (h : flatAt P n t = some ks) (xs : List Value) (off : Nat) (hf : Fits ks ((xs.drop off).take ks.length)) :
  (part t xs.toArray off).run P w = .ok (packAt P t ((xs.drop off).take ks.length)) w := by
 have hs := flat_size h
 cases n with
 | zero => simp [flatAt] at h
 | succ n =>
   cases hu : P.underlying t with
   | none => simp [flatAt, hu] at h
   | some d =>
     obtain ⟨i, hi⟩ := info_of_underlying hu
     have hsz := run_sizeOf w hi
     cases d with
     | bool =>
       simp [flatAt, hu] at h
       obtain ⟨_, rfl⟩ := h
       cases hx : xs[off]? with
       | none => have := Fits.length hf; simp at this; simp at hx; omega
       | some v =>
         have : (xs.drop off).take 1 = [v] := by
          obtain ⟨hlt, hv⟩ := List.getElem?_eq_some_iff.1 hx
          rw [List.drop_eq_getElem_cons hlt, hv]; rfl
         simp [part, isAgg, run_underlying hu, hx, packAt, hu, this]
     | int k =>
       simp [flatAt, hu] at h
       obtain ⟨_, rfl⟩ := h
       cases hx : xs[off]? with
       | none => have := Fits.length hf; simp at this; simp at hx; omega
       | some v =>
         have : (xs.drop off).take 1 = [v] := by
          obtain ⟨hlt, hv⟩ := List.getElem?_eq_some_iff.1 hx
          rw [List.drop_eq_getElem_cons hlt, hv]; rfl
         simp [part, isAgg, run_underlying hu, hx, packAt, hu, this]
     | array m e =>
       simp [part, isAgg, run_underlying hu, packAt, hu, hsz, hs]
     | struct fs =>
       simp [part, isAgg, run_underlying hu, packAt, hu, hsz, hs]
     | _ => simp [flatAt, hu] at h
theorem eqItems_flat {d L : Nat} {e : TypeId} {l : List FT} {n : Nat} (hl : flatAt P n e = some l) (hL : l.length = L)
  (IH : ∀ (xs ys : List Value), Fits l xs -> Fits l ys -> ∃ r : Bool, (Op.equalIn d e (packAt P e xs) (packAt P e ys)).run P w = .ok r w /\ (r = true ↔ xs = ys)) (xs ys : List Value) :
  ∀ (m j : Nat), Fits (List.replicate m l).flatten (xs.drop (j * L)) -> Fits (List.replicate m l).flatten (ys.drop (j * L)) ->
   ∃ r : Bool, (Op.eqItems d e L xs.toArray ys.toArray (List.range' j m)).run P w = .ok r w /\ (r = true ↔ xs.drop (j * L) = ys.drop (j * L))
 | 0, j, hx, hy => by
   have h1 : xs.drop (j * L) = [] := by have := Fits.length hx; simp at this ⊢; omega
   have h2 : ys.drop (j * L) = [] := by have := Fits.length hy; simp at this ⊢; omega
   exact ⟨true, by simp [Op.eqItems], by simp [h1, h2]⟩
 | m + 1, j, hx, hy => by
   simp only [List.replicate_succ, List.flatten_cons] at hx hy
   obtain ⟨a1, b1⟩ := Fits.split hx
   obtain ⟨a2, b2⟩ := Fits.split hy
   rw [List.drop_drop] at b1 b2
   obtain ⟨r, hr, hiff⟩ := IH _ _ a1 a2
   have e1 := run_part_flat w hl xs (j * L) a1
   have e2 := run_part_flat w hl ys (j * L) a2
   rw [hL] at hr hiff e1 e2 b1 b2
   have ej : j * L + L = (j + 1) * L := by rw [Nat.succ_mul]
   rw [ej] at b1 b2
   obtain ⟨r', hr', hiff'⟩ := eqItems_flat hl hL IH xs ys m (j + 1) b1 b2
   simp only [List.range'_succ, Op.eqItems, Sem.run_bind, e1, e2, hr, Result.andThen_ok]
   have hcat : (xs.drop (j * L) = ys.drop (j * L)) ↔ ((xs.drop (j * L)).take L = (ys.drop (j * L)).take L /\ xs.drop ((j + 1) * L) = ys.drop ((j + 1) * L)) := by
    rw [<- ej, <- List.drop_drop, <- List.drop_drop]
    constructor
    ·intro h; rw [h]; simp
    ·rintro ⟨h1, h2⟩
     rw [<- List.take_append_drop L (xs.drop (j * L)), h1, h2, List.take_append_drop]
   cases r
   ·refine ⟨false, by simp, ?_⟩
    simp only [Bool.false_eq_true, false_iff] at hiff ⊢
    exact fun h => hiff (hcat.1 h).1
   ·refine ⟨r', by simpa using hr', ?_⟩
    rw [hiff', hcat]
    simp at hiff
    simp [hiff]
theorem eqFields_flat {d n : Nat}
  (IH : ∀ (t : TypeId) (l : List FT) (xs ys : List Value), flatAt P n t = some l -> Fits l xs -> Fits l ys -> ∃ r : Bool, (Op.equalIn d t (packAt P t xs) (packAt P t ys)).run P w = .ok r w /\ (r = true ↔ xs = ys)) (xs ys : List Value) :
  ∀ (fs : List Field) (off : Nat) (ks : List FT), fieldsAt P (flatAt P n) fs off = some ks -> Fits ks (xs.drop off) -> Fits ks (ys.drop off) ->
   ∃ r : Bool, (Op.eqFields d xs.toArray ys.toArray fs).run P w = .ok r w /\ (r = true ↔ xs.drop off = ys.drop off)
 | [], off, ks, hk, hx, hy => by
   simp [fieldsAt] at hk
   subst hk
   have h1 : xs.drop off = [] := by have := Fits.length hx; simp at this ⊢; omega
   have h2 : ys.drop off = [] := by have := Fits.length hy; simp at this ⊢; omega
   exact ⟨true, by simp [Op.eqFields], by simp [h1, h2]⟩
 | f :: fs, off, ks, hk, hx, hy => by
   simp only [fieldsAt] at hk
   cases hgt : flatAt P n f.type with
   | none => simp [hgt] at hk
   | some l =>
     simp only [hgt] at hk
     split at hk
     ·rename_i hc
      obtain ⟨hn, ho, hcl⟩ := hc
      cases hr : fieldsAt P (flatAt P n) fs (off + l.length) with
      | none => simp [hr] at hk
      | some ks' =>
        simp [hr] at hk
        subst hk
        obtain ⟨a1, b1⟩ := Fits.split hx
        obtain ⟨a2, b2⟩ := Fits.split hy
        rw [List.drop_drop] at b1 b2
        obtain ⟨r, hrr, hiff⟩ := IH f.type l _ _ hgt a1 a2
        have e1 := run_part_flat w hgt xs off a1
        have e2 := run_part_flat w hgt ys off a2
        obtain ⟨r', hr', hiff'⟩ := eqFields_flat IH xs ys fs (off + l.length) ks' hr b1 b2
        simp only [Op.eqFields, hn, ne_eq, not_false_eq_true, if_true, ho, Sem.run_bind, e1, e2, hrr, Result.andThen_ok]
        have hcat : (xs.drop off = ys.drop off) ↔ ((xs.drop off).take l.length = (ys.drop off).take l.length /\ xs.drop (off + l.length) = ys.drop (off + l.length)) := by
         rw [<- List.drop_drop, <- List.drop_drop]
         constructor
         ·intro h; rw [h]; simp
         ·rintro ⟨h1, h2⟩
          rw [<- List.take_append_drop l.length (xs.drop off), h1, h2, List.take_append_drop]
        cases r
        ·refine ⟨false, by simp, ?_⟩
         simp only [Bool.false_eq_true, false_iff] at hiff ⊢
         exact fun h => hiff (hcat.1 h).1
        ·refine ⟨r', by simpa using hr', ?_⟩
         rw [hiff', hcat]
         simp at hiff
         simp [hiff]
     ·simp at hk
theorem equalIn_flat : ∀ (n d : Nat) (t : TypeId) (ks : List FT) (xs ys : List Value), n <= d -> flatAt P n t = some ks -> Fits ks xs -> Fits ks ys ->
  ∃ r : Bool, (Op.equalIn d t (packAt P t xs) (packAt P t ys)).run P w = .ok r w /\ (r = true ↔ xs = ys)
 | 0, _, _, _, _, _, _, h, _, _ => by simp [flatAt] at h
 | n + 1, 0, _, _, _, _, h, _, _, _ => by omega
 | n + 1, d + 1, t, ks, xs, ys, hd, h, hx, hy => by
   cases hu : P.underlying t with
   | none => simp [flatAt, hu] at h
   | some q =>
     obtain ⟨i, hi⟩ := info_of_underlying hu
     cases q with
     | bool =>
       simp [flatAt, hu] at h
       obtain ⟨_, rfl⟩ := h
       match xs, ys, hx, hy with
       | [x], [y], ⟨⟨a, ha⟩, _⟩, ⟨⟨b, hb⟩, _⟩ =>
         subst ha; subst hb
         exact ⟨a == b, by simp [packAt, hu, run_equalIn_bool' w d t a b hu], by simp⟩
     | int k =>
       simp [flatAt, hu] at h
       obtain ⟨_, rfl⟩ := h
       match xs, ys, hx, hy with
       | [x], [y], ⟨⟨a, ha⟩, _⟩, ⟨⟨b, hb⟩, _⟩ =>
         subst ha; subst hb
         exact ⟨a == b, by simp [packAt, hu, run_equalIn_int w d t k k a b hu], by simp⟩
     | array m e =>
       simp only [flatAt, hu] at h
       cases hl : flatAt P n e with
       | none => simp [hl] at h
       | some l =>
         simp only [hl] at h
         split at h
         ·rename_i hc
          obtain ⟨h1, h2⟩ := hc
          simp at h
          subst h
          obtain ⟨ie, hie⟩ : ∃ ie, P.info? e = some ie := by
           cases hq : P.info? e with
           | none =>
             cases n with
             | zero => simp [flatAt] at hl
             | succ n => simp [flatAt, Program.underlying, hq] at hl
           | some ie => exact ⟨ie, rfl⟩
          have hp : ∀ cs : List Value, packAt P t cs = .agg cs.toArray := fun cs => by simp [packAt, hu]
          rw [hp, hp, run_equalIn_array w d xs.toArray ys.toArray hu hie, h1]
          have := eqItems_flat w hl rfl (fun a b fa fb => equalIn_flat n d e l a b (by omega) hl fa fb) xs ys m 0 (by simpa using hx) (by simpa using hy)
          simpa [List.range_eq_range'] using this
         ·simp at h
     | struct fs =>
       simp only [flatAt, hu] at h
       split at h
       ·rename_i hst
        cases hf : fieldsAt P (flatAt P n) fs.toList 0 with
        | none => simp [hf] at h
        | some l =>
          simp only [hf] at h
          split at h
          ·simp at h
           subst h
           have hp : ∀ cs : List Value, packAt P t cs = .agg cs.toArray := fun cs => by simp [packAt, hu]
           have hfo : P.fieldsOf t = fs := by simp [Program.fieldsOf, hu]
           rw [hp, hp, run_equalIn_struct w d t xs.toArray ys.toArray (by rw [hfo]; exact hu) hst, hfo]
           have := eqFields_flat w (d := d) (n := n) (fun t l a b ht fa fb => equalIn_flat n d t l a b (by omega) ht fa fb) xs ys fs.toList 0 l hf (by simpa using hx) (by simpa using hy)
           simpa using this
          ·simp at h
       ·simp at h
     | _ => simp [flatAt, hu] at h
def isAggT (P : Program) (t : TypeId) : Bool :=
 match P.underlying t with
 | some (.array _ _) | some (.struct _) => true
 | _ => false
theorem packAt_agg {t : TypeId} (h : isAggT P t = true) (cs : List Value) : packAt P t cs = .agg cs.toArray := by
 unfold isAggT at h
 unfold packAt
 split at h <;> simp_all
theorem run_eql_flat {n : Nat} {t : TypeId} {ks : List FT} {xs ys : List Value} (ha : isAggT P t = true) (h : flatAt P n t = some ks) (hn : n <= Op.maxDepth) (hx : Fits ks xs) (hy : Fits ks ys) (r : Bool) (hr : r = true ↔ xs = ys) :
  (binOp .eql t (.agg xs.toArray) (.agg ys.toArray)).run P w = .ok (.bool r) w := by
 obtain ⟨r', h1, h2⟩ := equalIn_flat w n Op.maxDepth t ks xs ys hn h hx hy
 have : r' = r := by rw [Bool.eq_iff_iff, h2, hr]
 subst this
 rw [packAt_agg ha, packAt_agg ha] at h1
 simp only [binOp]
 simp [Op.equal, h1]
theorem run_neq_flat {n : Nat} {t : TypeId} {ks : List FT} {xs ys : List Value} (ha : isAggT P t = true) (h : flatAt P n t = some ks) (hn : n <= Op.maxDepth) (hx : Fits ks xs) (hy : Fits ks ys) (r : Bool) (hr : r = true ↔ xs = ys) :
  (binOp .neq t (.agg xs.toArray) (.agg ys.toArray)).run P w = .ok (.bool !r) w := by
 obtain ⟨r', h1, h2⟩ := equalIn_flat w n Op.maxDepth t ks xs ys hn h hx hy
 have : r' = r := by rw [Bool.eq_iff_iff, h2, hr]
 subst this
 rw [packAt_agg ha, packAt_agg ha] at h1
 simp only [binOp]
 simp [Op.equal, h1]
end
end Sx
end
section
namespace Sx
def plain : SV -> Bool
 | .lit _ _ | .int _ _ | .litb _ | .bool _ | .str _ | .val _ | .hnd _ | .gp _ _ | .ints _ _ _ => true
 | _ => false
def plainL : List SV -> Bool
 | [] => true
 | c :: cs => plain c && plainL cs
theorem plain_okd {c : SV} (h : plain c = true) (W : World) (F : Nat -> Prop) (n : Nat) : okd W F n c := by cases c <;> first | trivial | simp [plain] at h
theorem plainL_okd (W : World) (F : Nat -> Prop) (n : Nat) : ∀ {l : List SV}, plainL l = true -> okdL W F n l
 | [], _ => trivial
 | c :: cs, h => by simp [plainL] at h; exact ⟨plain_okd h.1 W F n, plainL_okd W F n h.2⟩
theorem plainL_cells (ρ ρ' : Num) : ∀ {l : List SV}, plainL l = true -> cellsL ρ l = cellsL ρ' l
 | [], _ => rfl
 | c :: cs, h => by
   simp [plainL] at h
   have ih := plainL_cells ρ ρ' h.2
   cases c <;> simp_all [cellsL, den, plain]
theorem plain_noTop : ∀ {l : List SV}, plainL l = true -> noTop l = true
 | [], _ => rfl
 | c :: cs, h => by
   simp [plainL] at h
   have ih := plain_noTop h.2
   cases c <;> simp_all [noTop, plain]
def isAggD : TypeDesc -> Bool
 | .struct _ | .array _ _ => true
 | _ => false
def DescOK : TypeDesc -> TyD -> Prop
 | .int k, .int k' => k = k'
 | .bool, .bool => True
 | .string, .str => True
 | .struct fs, .st l => fs.toList.map (fun f => (f.offset, f.type)) = l
 | .array n e, .arr n' e' => n = n' /\ e = e'
 | .slice e, .sl e' => e = e'
 | .pointer e, .ptr e' => e = e'
 | _, .other => True
 | _, _ => False
structure TyOK (P : Program) (t : TypeId) (i : TyI) : Prop where
 info : ∃ it z, P.info? t = some it /\ it.size = i.size /\ it.bytes = i.bytes /\ it.zero = some z /\ z.cells.toList = cellsL Num.zero i.zero /\ z = (if i.agg then .agg z.cells else z.cells.toList.headD undef)
 zero : plainL i.zero = true
 desc : ∃ d, P.underlying t = some d /\ isAggD d = i.agg /\ DescOK d i.d
 guard : i.flat ≠ none -> P.eqGuardType P.depth t = false
 flat : ∀ ks, i.flat = some ks -> isAggT P t = true /\ ∃ n, flatAt P n t = some ks /\ n <= Op.maxDepth
def TabOK (P : Program) (T : Tab) : Prop := ∀ t i, T.at t = some i -> TyOK P t i
section
variable {P : Program} {T : Tab}
theorem TyOK.run_size {t : TypeId} {i : TyI} (h : TyOK P t i) (w : World) : (sizeOf t).run P w = .ok i.size w := by
 obtain ⟨it, z, h1, h2, _⟩ := h.info
 simp [sizeOf, typeInfo, h1, h2]
theorem TyOK.run_agg {t : TypeId} {i : TyI} (h : TyOK P t i) (w : World) : (isAgg t).run P w = .ok i.agg w := by
 obtain ⟨d, h1, h2, _⟩ := h.desc
 cases d <;> simp_all [isAgg, run_underlying h1, isAggD]
theorem TyOK.run_zero {t : TypeId} {i : TyI} (h : TyOK P t i) (w : World) (ρ : Num) : ∃ z, (zeroValue t).run P w = .ok z w /\ z.cells.toList = cellsL ρ i.zero := by
 obtain ⟨it, z, h1, h2, _, h3, h4, _⟩ := h.info
 exact ⟨z, by simp [zeroValue, typeInfo, h1, h3], by rw [h4]; exact plainL_cells _ _ h.zero⟩
theorem cellB_one {W : World} {F : Nat -> Prop} {n : Nat} {ρ : Num} {c : SV} (h : cellB c = true) (hs : single c = true) (ho : okd W F n c) : (den ρ c).oneCell' = true := by
 cases c <;> first | rfl | (simp [cellB] at h; done) | (simp [single] at hs; done) | skip
 ·exact h
 ·simp only [den, listV]; split <;> rfl
 ·simp only [den, suffV]; split <;> rfl
 ·rename_i k v xs
  rcases ho with ⟨a, cap, rfl, _⟩ | ⟨b, off, cap, rfl, _⟩ <;> rfl
 ·rename_i k v xs e
  obtain ⟨ho, h0, h1⟩ := ho
  rcases ho with ⟨a, cap, rfl, rfl, _⟩ | ⟨b, off, cap, rfl, _⟩
  ·simp at h1; omega
  ·rfl
 ·rename_i sz v n f
  rcases ho.1.2 with ⟨a, cap, rfl, _⟩ | ⟨b, off, cap, rfl, _⟩ <;> rfl
 ·rename_i sz v n f e o
  obtain ⟨⟨ho, _⟩, h0, h1, h2⟩ := ho
  rcases ho.2 with ⟨a, cap, rfl, rfl, _⟩ | ⟨b, off, cap, rfl, _⟩
  ·simp at h1; omega
  ·rfl
theorem cellsB_one {W : World} {F : Nat -> Prop} {n : Nat} {ρ : Num} : ∀ {l : List SV}, cellsB l = true -> okdL W F n l -> ∀ x ∈ cellsL ρ l, x.oneCell' = true
 | [], _, _, x, hx => by cases hx
 | c :: cs, h, ho, x, hx => by
   simp [cellsB] at h
   cases hc : single c with
   | true =>
     rw [cellsL_one hc] at hx
     rcases List.mem_cons.1 hx with rfl | hx
     ·exact cellB_one h.1 hc ho.1
     ·exact cellsB_one h.2 ho.2 x hx
   | false =>
     cases c <;> simp [single] at hc <;> simp [cellB] at h
     simp only [cellsL, List.mem_append] at hx
     rcases hx with hx | hx
     ·simp only [intCells, List.mem_map] at hx
      obtain ⟨j, _, rfl⟩ := hx
      rfl
     ·exact cellsB_one h ho.2 x hx
theorem valueCells_ok {W : World} {F : Nat -> Prop} {n : Nat} {ρ : Num} {v : SV} {l : List SV} (h : valueCells v = some l) (ho : okd W F n v) :
  (den ρ v).cells.toList = cellsL ρ l /\ okdL W F n l /\ cellsB l = true := by
 have key : ∀ (c : SV), single c = true -> (∀ cs, c ≠ .agg cs) -> cellB c = true -> okd W F n c -> (den ρ c).cells.toList = cellsL ρ [c] /\ okdL W F n [c] /\ cellsB [c] = true := by
  intro c hs hna hb ho
  have h1 := cellB_one (ρ := ρ) hb hs ho
  refine ⟨?_, ⟨ho, trivial⟩, by simp [cellsB, hb]⟩
  rw [cellsL_one hs]
  cases hd : den ρ c <;> simp_all [Value.cells, Value.oneCell', cellsL]
 cases v with
 | agg cs =>
   simp only [valueCells] at h
   rcases cond_some h with ⟨e, h⟩ | ⟨e, h⟩ <;> cases h
   exact ⟨by simp [den, Value.cells], ho, e⟩
 | ints k m xs => simp [valueCells] at h
 | many z m f => simp [valueCells] at h
 | top => simp [valueCells, cellB] at h
 | tup cs => simp [valueCells, cellB] at h
 | _ =>
   simp only [valueCells] at h
   rcases cond_some h with ⟨e, h⟩ | ⟨e, h⟩ <;> cases h
   exact key _ rfl (fun cs hh => by cases hh) e ho
end
end Sx
end
section
namespace Sx
variable {P : Program} {T : Tab} {W : World} {F : Nat -> Prop} {nt : Nat} {ρ : Num} {s : SS} {a : Act} {w : World}
theorem ofConst_ok (ρ : Num) (v : Value) : den ρ (ofConst v) = v := by cases v <;> rfl
theorem ofConst_okd (n : Nat) (v : Value) : okd W F n (ofConst v) := by cases v <;> trivial
theorem ofConst_top (v : Value) : ofConst v ≠ .top := by cases v <;> exact fun h => by cases h
theorem ev_ok (st : Sat W F nt ρ s a w) {x : Operand} {v : SV} (h : ev s.tm x = some v) : a.eval x = den ρ v /\ okd W F s.rows.length v /\ v ≠ .top := by
 cases x with
 | tmp t =>
   simp only [ev] at h
   cases hl : s.tm.lookup t with
   | none => simp [hl] at h
   | some sv =>
     have hne : sv ≠ .top := by rintro rfl; simp [hl] at h
     have hv : sv = v := by
      rw [hl] at h
      cases sv <;> first | exact (Option.some.inj h) | exact absurd rfl hne
     subst hv
     rcases st.tm t sv hl with h1 | ⟨h1, h2⟩
     ·exact absurd h1 hne
     ·exact ⟨by simp [Act.eval, h1], h2, hne⟩
 | const u =>
   simp [ev] at h; subst h
   exact ⟨by simp [Act.eval, ofConst_ok], ofConst_okd _ _, ofConst_top _⟩
 | global g => simp [ev] at h; subst h; exact ⟨rfl, trivial, fun h => by cases h⟩
 | func f => simp [ev] at h; subst h; exact ⟨by simp [Act.eval, den, denL], ⟨trivial, trivial⟩, fun h => by cases h⟩
theorem evL_ok (st : Sat W F nt ρ s a w) : ∀ {xs : List Operand} {vs : List SV}, evL s.tm xs = some vs -> xs.map a.eval = denL ρ vs /\ okdL W F s.rows.length vs
 | [], vs, h => by simp [evL] at h; subst h; exact ⟨rfl, trivial⟩
 | x :: xs, vs, h => by
   simp only [evL] at h
   cases h1 : ev s.tm x with
   | none => simp [h1] at h
   | some v =>
     cases h2 : evL s.tm xs with
     | none => simp [h1, h2] at h
     | some us =>
       simp [h1, h2] at h; subst h
       obtain ⟨i1, i2, _⟩ := ev_ok st h1
       obtain ⟨j1, j2⟩ := evL_ok st h2
       exact ⟨by simp [denL, i1, j1], i2, j2⟩
theorem evP_ok (st : Sat W F nt ρ s a w) : ∀ {xs : List (Nat × Operand)} {vs : List (Nat × SV)}, evP s.tm xs = some vs -> xs.map (fun p => (p.1, a.eval p.2)) = vs.map (fun p => (p.1, den ρ p.2)) /\ ∀ p ∈ vs, okd W F s.rows.length p.2
 | [], vs, h => by simp [evP] at h; subst h; exact ⟨rfl, fun p hp => by cases hp⟩
 | (i, x) :: xs, vs, h => by
   simp only [evP] at h
   cases h1 : ev s.tm x with
   | none => simp [h1] at h
   | some v =>
     cases h2 : evP s.tm xs with
     | none => simp [h1, h2] at h
     | some us =>
       simp [h1, h2] at h; subst h
       obtain ⟨i1, i2, _⟩ := ev_ok st h1
       obtain ⟨j1, j2⟩ := evP_ok st h2
       refine ⟨by simp [i1, j1], fun p hp => ?_⟩
       rcases List.mem_cons.1 hp with rfl | hp
       ·exact i2
       ·exact j2 p hp
theorem asI_ok {x : SV} {k : IntKind} {n : Int} {c : Bool} (h : asI x = some (k, n, c)) (ρ : Num) : den ρ x = .int k n := by
 cases x <;> simp [asI] at h <;> obtain ⟨rfl, rfl, rfl⟩ := h <;> rfl
theorem asB_ok {x : SV} {b c : Bool} (h : asB x = some (b, c)) (ρ : Num) : den ρ x = .bool b := by
 cases x <;> simp [asB] at h <;> obtain ⟨rfl, rfl⟩ := h <;> rfl
theorem mkI_den (c : Bool) (k : IntKind) (n : Int) (ρ : Num) : den ρ (mkI c k n) = .int k n := by cases c <;> rfl
theorem mkB_den (c b : Bool) (ρ : Num) : den ρ (mkB c b) = .bool b := by cases c <;> rfl
theorem mkI_okd (c : Bool) (k : IntKind) (n : Int) (m : Nat) : okd W F m (mkI c k n) := by cases c <;> trivial
theorem mkB_okd (c b : Bool) (m : Nat) : okd W F m (mkB c b) := by cases c <;> trivial
theorem mkI_top (c : Bool) (k : IntKind) (n : Int) : mkI c k n ≠ .top := by cases c <;> exact fun h => by cases h
theorem mkB_top (c b : Bool) : mkB c b ≠ .top := by cases c <;> exact fun h => by cases h
theorem wrap_in {k : IntKind} {n : Int} (h : InK k n) : k.wrap n = n := by
 cases k <;> simp only [InK] at h <;> simp [IntKind.wrap, IntKind.bits, IntKind.signed] <;> (try split) <;> omega
def All (ps : List Prop) : Prop := ∀ p ∈ ps, p
def Good (W : World) (F : Nat -> Prop) (ρ : Num) (n : Nat) (v : SV) (x : Value) : Prop := x = den ρ v /\ okd W F n v /\ v ≠ .top
theorem arith_ok {c : Bool} {k : IntKind} {n : Int} {m : Nat} (hp : All (arith c k n).1) : Good W F ρ m (arith c k n).2 (.int k (k.wrap n)) := by
 cases c with
 | true => exact ⟨rfl, trivial, fun h => by cases h⟩
 | false =>
   cases k
   case i64 =>
    have : InK .i64 n := hp _ (by simp [arith])
    refine ⟨?_, trivial, fun h => by cases h⟩
    simp [arith, den, wrap_in this]
   all_goals exact ⟨rfl, trivial, fun h => by cases h⟩
theorem arith_ok' {c : Bool} {k : IntKind} {n : Int} {m : Nat} {ps : List Prop} {v : SV} (h : arith c k n = (ps, v)) (hp : All ps) : Good W F ρ m v (.int k (k.wrap n)) := by
 have h1 := congrArg Prod.fst h
 have h2 := congrArg Prod.snd h
 subst h1 h2
 exact arith_ok hp
def isBits : BinOp -> Bool
 | .and | .or | .xor | .andNot => true
 | _ => false
theorem bits_run {op : BinOp} {k : IntKind} {x y : Int} {t : TypeId} (h : isBits op = true) : (binOp op t (.int k x) (.int k y)).run P w = .ok (.int k (bits op k x y)) w := by
 have e : binOp op t (.int k x) (.int k y) = Op.intBits op k x y := by cases op <;> first | (simp [binOp]; done) | (simp [isBits] at h; done)
 rw [e]
 cases op <;> first | rfl | simp [isBits] at h
theorem binI_ok {op : BinOp} {k : IntKind} {x y : Int} {cx cy : Bool} {ps : List Prop} {v : SV} {m : Nat} {t : TypeId} (h : binI op k x y cx cy = some (ps, v)) (hp : All ps) :
  ∃ u, (binOp op t (.int k x) (.int k y)).run P w = .ok u w /\ Good W F ρ m v u := by
 cases op <;> simp only [binI, Option.some.injEq, reduceCtorEq] at h
 case add => exact ⟨.int k (k.wrap (x + y)), by simp [binOp, Op.intArith], arith_ok' h hp⟩
 case sub => exact ⟨.int k (k.wrap (x - y)), by simp [binOp, Op.intArith], arith_ok' h hp⟩
 case mul => exact ⟨.int k (k.wrap (x * y)), by simp [binOp, Op.intArith], arith_ok' h hp⟩
 case quo =>
  have uns : 0 < y -> InK k x -> k.signed = false -> ∃ u, (binOp .quo t (.int k x) (.int k y)).run P w = .ok u w /\ Good W F ρ m (.int k (x / y)) u := by
   intro h1 hk hs
   have h3 : y ≠ 0 := by omega
   have h0 : 0 <= x := by cases k <;> simp [IntKind.signed] at hs <;> exact hk.1
   have h4 : x / y <= x := Int.ediv_le_self y h0
   have h5 : 0 <= x / y := Int.ediv_nonneg h0 (by omega)
   have h2 : InK k (x / y) := by cases k <;> simp [IntKind.signed] at hs <;> simp only [InK] at hk ⊢ <;> omega
   exact ⟨.int k (k.wrap (x.tdiv y)), by simp [binOp, Op.intDiv, h3], by simp [den, Int.tdiv_eq_ediv_of_nonneg h0, wrap_in h2], trivial, fun h => by cases h⟩
  have sig : y ≠ 0 -> InK k (x.tdiv y) -> ∃ u, (binOp .quo t (.int k x) (.int k y)).run P w = .ok u w /\ Good W F ρ m (.int k (x.tdiv y)) u := fun h0 h1 =>
   ⟨.int k (k.wrap (x.tdiv y)), by simp [binOp, Op.intDiv, h0], by simp [den, wrap_in h1], trivial, fun h => by cases h⟩
  cases hc : (cx && cy) with
  | true =>
    simp only [hc, cond_true] at h
    rcases cond_some h with ⟨e, h⟩ | ⟨e, h⟩
    ·cases h
     have h0 : y ≠ 0 := by simpa using e
     exact ⟨.int k (k.wrap (x.tdiv y)), by simp [binOp, Op.intDiv, h0], by simp [den], trivial, fun h => by cases h⟩
    ·cases h
  | false =>
    simp only [hc, cond_false] at h
    cases hy : cy with
    | true =>
      simp only [hy, cond_true] at h
      cases hs : k.signed with
      | true =>
        simp only [hs, cond_true] at h
        rcases cond_some h with ⟨e, h⟩ | ⟨e, h⟩
        ·cases h; exact sig (by simpa using e) (hp _ (by simp))
        ·cases h
      | false =>
        simp only [hs, cond_false] at h
        rcases cond_some h with ⟨e, h⟩ | ⟨e, h⟩
        ·cases h; exact uns (by simpa using e) (hp (InK k x) (by simp)) hs
        ·cases h
    | false =>
      simp only [hy, cond_false] at h
      cases hs : k.signed with
      | true => simp only [hs, cond_true] at h; cases h; exact sig (hp _ (by simp)) (hp (InK k (x.tdiv y)) (by simp))
      | false => simp only [hs, cond_false] at h; cases h; exact uns (hp (0 < y) (by simp)) (hp (InK k x) (by simp)) hs
 case rem =>
  have uns : 0 < y -> 0 <= x -> ∃ u, (binOp .rem t (.int k x) (.int k y)).run P w = .ok u w /\ Good W F ρ m (.int k (x % y)) u := by
   intro h1 h0
   have h3 : y ≠ 0 := by omega
   exact ⟨.int k (x.tmod y), by simp [binOp, Op.intDiv, h3], by simp [den, Int.tmod_eq_emod_of_nonneg h0], trivial, fun h => by cases h⟩
  have sig : y ≠ 0 -> ∃ u, (binOp .rem t (.int k x) (.int k y)).run P w = .ok u w /\ Good W F ρ m (.int k (x.tmod y)) u := fun h0 =>
   ⟨.int k (x.tmod y), by simp [binOp, Op.intDiv, h0], by simp [den], trivial, fun h => by cases h⟩
  cases hc : (cx && cy) with
  | true =>
    simp only [hc, cond_true] at h
    rcases cond_some h with ⟨e, h⟩ | ⟨e, h⟩
    ·cases h
     have h0 : y ≠ 0 := by simpa using e
     exact ⟨.int k (x.tmod y), by simp [binOp, Op.intDiv, h0], by simp [den], trivial, fun h => by cases h⟩
    ·cases h
  | false =>
    simp only [hc, cond_false] at h
    cases hy : cy with
    | true =>
      simp only [hy, cond_true] at h
      cases hs : k.signed with
      | true =>
        simp only [hs, cond_true] at h
        rcases cond_some h with ⟨e, h⟩ | ⟨e, h⟩
        ·cases h; exact sig (by simpa using e)
        ·cases h
      | false =>
        simp only [hs, cond_false] at h
        rcases cond_some h with ⟨e, h⟩ | ⟨e, h⟩
        ·cases h; exact uns (by simpa using e) (hp (0 <= x) (by simp))
        ·cases h
    | false =>
      simp only [hy, cond_false] at h
      cases hs : k.signed with
      | true => simp only [hs, cond_true] at h; cases h; exact sig (hp _ (by simp))
      | false => simp only [hs, cond_false] at h; cases h; exact uns (hp (0 < y) (by simp)) (hp (0 <= x) (by simp))
 case and => obtain ⟨rfl, rfl⟩ := Prod.mk.inj h; exact ⟨_, bits_run rfl, by rw [mkI_den], mkI_okd .., mkI_top _ _ _⟩
 case or => obtain ⟨rfl, rfl⟩ := Prod.mk.inj h; exact ⟨_, bits_run rfl, by rw [mkI_den], mkI_okd .., mkI_top _ _ _⟩
 case xor => obtain ⟨rfl, rfl⟩ := Prod.mk.inj h; exact ⟨_, bits_run rfl, by rw [mkI_den], mkI_okd .., mkI_top _ _ _⟩
 case andNot => obtain ⟨rfl, rfl⟩ := Prod.mk.inj h; exact ⟨_, bits_run rfl, by rw [mkI_den], mkI_okd .., mkI_top _ _ _⟩
 case eql => obtain ⟨rfl, rfl⟩ := Prod.mk.inj h; exact ⟨_, by simp [binOp, Op.intCmp]; rfl, by rw [mkB_den], mkB_okd .., mkB_top _ _⟩
 case neq => obtain ⟨rfl, rfl⟩ := Prod.mk.inj h; exact ⟨_, by simp [binOp, Op.intCmp]; rfl, by rw [mkB_den], mkB_okd .., mkB_top _ _⟩
 case lss => obtain ⟨rfl, rfl⟩ := Prod.mk.inj h; exact ⟨_, by simp [binOp, Op.intCmp]; rfl, by rw [mkB_den], mkB_okd .., mkB_top _ _⟩
 case leq => obtain ⟨rfl, rfl⟩ := Prod.mk.inj h; exact ⟨_, by simp [binOp, Op.intCmp]; rfl, by rw [mkB_den], mkB_okd .., mkB_top _ _⟩
 case gtr => obtain ⟨rfl, rfl⟩ := Prod.mk.inj h; exact ⟨_, by simp [binOp, Op.intCmp]; rfl, by rw [mkB_den], mkB_okd .., mkB_top _ _⟩
 case geq => obtain ⟨rfl, rfl⟩ := Prod.mk.inj h; exact ⟨_, by simp [binOp, Op.intCmp]; rfl, by rw [mkB_den], mkB_okd .., mkB_top _ _⟩
theorem fdiv_pow (x : Int) (n : Nat) : x.fdiv (2 ^ n) = x / 2 ^ n := by
 rw [Int.fdiv_eq_ediv_of_nonneg]
 exact Int.le_of_lt (Int.pow_pos (by decide))
theorem shiftI_ok {op : BinOp} {k k' : IntKind} {x y : Int} {cx cy : Bool} {ps : List Prop} {v : SV} {m : Nat} {t : TypeId} (h : shiftI op k x y cx cy = some (ps, v)) (hp : All ps) :
  ∃ u, (binOp op t (.int k x) (.int k' y)).run P w = .ok u w /\ Good W F ρ m v u := by
 cases op <;> simp only [shiftI, Option.some.injEq, reduceCtorEq] at h
 case shl =>
  cases cy with
  | true =>
    simp only [cond_true] at h
    obtain ⟨h1, h2⟩ := Prod.mk.inj h
    by_cases h0 : 0 <= y
    ·have h3 : ¬ y < 0 := by omega
     simp [h0] at h1
     exact ⟨.int k (k.wrap (x * 2 ^ (Nat.min y.toNat k.bits))), by simp [binOp, Op.shift, h3], by rw [<- h2]; exact arith_ok (by rw [h1]; exact hp)⟩
    ·simp [h0] at h1
     subst h1
     exact absurd (hp _ (by simp)) id
  | false =>
    simp only [cond_false] at h
    obtain ⟨h1, h2⟩ := Prod.mk.inj h
    subst h1
    have h0 : 0 <= y := hp _ (by simp)
    have h3 : ¬ y < 0 := by omega
    exact ⟨.int k (k.wrap (x * 2 ^ (Nat.min y.toNat k.bits))), by simp [binOp, Op.shift, h3], by rw [<- h2]; exact arith_ok (fun p hq => hp p (by simp [hq]))⟩
 case shr =>
  cases cy with
  | true =>
    simp only [cond_true] at h
    obtain ⟨h1, h2⟩ := Prod.mk.inj h
    by_cases h0 : 0 <= y
    ·have h3 : ¬ y < 0 := by omega
     exact ⟨.int k (x / 2 ^ (Nat.min y.toNat k.bits)), by simp [binOp, Op.shift, h3, fdiv_pow], by rw [<- h2, mkI_den], by rw [<- h2]; exact mkI_okd .., by rw [<- h2]; exact mkI_top _ _ _⟩
    ·simp [h0] at h1
     subst h1
     exact absurd (hp _ (by simp)) id
  | false =>
    simp only [cond_false] at h
    obtain ⟨h1, h2⟩ := Prod.mk.inj h
    subst h1
    have h0 : 0 <= y := hp _ (by simp)
    have h3 : ¬ y < 0 := by omega
    exact ⟨.int k (x / 2 ^ (Nat.min y.toNat k.bits)), by simp [binOp, Op.shift, h3, fdiv_pow], by rw [<- h2]; rfl, by rw [<- h2]; trivial, by rw [<- h2]; exact fun h => by cases h⟩
end Sx
end
section
namespace Sx
variable {P : Program} {T : Tab} {W : World} {F : Nat -> Prop} {nt : Nat} {ρ : Num} {s : SS} {a : Act} {w : World}
theorem getD_eq {k : IntKind} {n : Nat} {xs ys : List Int} (h : xs.length = ys.length) : (intCells k n xs = intCells k n ys ↔ ∀ j, j < n -> xs.getD j 0 = ys.getD j 0) := by
 constructor
 ·intro he j hj
  have h1 := intCells_get k n xs j hj
  have h2 := intCells_get k n ys j hj
  rw [he, h2] at h1
  simpa using h1.symm
 ·intro hh
  apply List.ext_getElem?
  intro j
  by_cases hj : j < n
  ·rw [intCells_get k n xs j hj, intCells_get k n ys j hj, hh j hj]
  ·rw [List.getElem?_eq_none (by simp [intCells_length]; omega), List.getElem?_eq_none (by simp [intCells_length]; omega)]
theorem intCells_inj {k : IntKind} {n : Nat} {xs ys : List Int} (hx : xs.length = n) (hy : ys.length = n) : intCells k n xs = intCells k n ys ↔ xs = ys := by
 rw [getD_eq (by omega)]
 constructor
 ·intro h
  apply List.ext_getElem (by omega)
  intro j h1 h2
  have := h j (by omega)
  simpa [List.getD, h1, h2] using this
 ·rintro rfl _ _; rfl
theorem sameKinds_eq : ∀ {a b : List (Option IntKind)}, sameKinds a b = true -> a = b
 | [], [], _ => rfl
 | x :: xs, y :: ys, h => by
   simp only [sameKinds] at h
   cases hd : decide (x = y) with
   | false => simp [hd] at h
   | true => simp [hd] at h; simp at hd; rw [hd, sameKinds_eq h]
 | [], _ :: _, h => by simp [sameKinds] at h
 | _ :: _, [], h => by simp [sameKinds] at h
theorem fitsCells {W : Num} : ∀ {a b : List SV} {ps : List Prop} {r : Bool}, eqCells a b = some (ps, r) -> All ps ->
  Fits (kindsOf a) (cellsL W a) /\ Fits (kindsOf a) (cellsL W b) /\ (r = true ↔ cellsL W a = cellsL W b)
 | [], [], ps, r, h, hp => by simp [eqCells] at h; obtain ⟨rfl, rfl⟩ := h; exact ⟨trivial, trivial, by simp⟩
 | [], b :: bs, ps, r, h, hp => by simp [eqCells] at h
 | a :: as', [], ps, r, h, hp => by cases a <;> simp [eqCells] at h
 | c :: cs, d :: ds, ps, r, h, hp => by
   have step : ∀ (x y : Value) (f : FT) (q : Bool) (p2 : List Prop) (r2 : Bool), single c = true -> single d = true -> den W c = x -> den W d = y -> kindsOf (c :: cs) = f :: kindsOf cs -> f.fit x -> f.fit y -> (q = true ↔ x = y) ->
     eqCells cs ds = some (p2, r2) -> All p2 -> Fits (kindsOf (c :: cs)) (cellsL W (c :: cs)) /\ Fits (kindsOf (c :: cs)) (cellsL W (d :: ds)) /\ ((q && r2) = true ↔ cellsL W (c :: cs) = cellsL W (d :: ds)) := by
    intro x y f q p2 r2 hc hd hx hy hk fx fy hq he hp2
    obtain ⟨k1, k2, k3⟩ := fitsCells (W := W) he hp2
    rw [cellsL_one hc, cellsL_one hd, hx, hy, hk]
    exact ⟨⟨fx, k1⟩, ⟨fy, k2⟩, by simp [hq, k3]⟩
   by_cases hi : (∃ k n xs, c = .ints k n xs) /\ ∃ k n xs, d = .ints k n xs
   ·obtain ⟨⟨k, n, xs, rfl⟩, ⟨k', n', ys, rfl⟩⟩ := hi
    simp only [eqCells] at h
    rcases cond_some h with ⟨e, h⟩ | ⟨e, h⟩
    ·simp only [Bool.and_eq_true, decide_eq_true_eq] at e
     obtain ⟨rfl, e2⟩ := e
     have e2 := Nat.eq_of_beq_eq_true e2
     subst e2
     cases hr : eqCells cs ds with
     | none => simp [hr] at h
     | some q =>
       obtain ⟨p2, r2⟩ := q
       simp [hr] at h
       obtain ⟨rfl, rfl⟩ := h
       have l1 : xs.length = n := hp _ (by simp)
       have l2 : ys.length = n := hp _ (by simp)
       obtain ⟨k1, k2, k3⟩ := fitsCells (W := W) hr (fun p hq => hp p (by simp [hq]))
       have fi : ∀ zs, Fits (List.replicate n (some k)) (intCells k n zs) := by
        intro zs
        have : ∀ (l : List Nat), Fits (List.replicate l.length (some k)) (l.map fun j => Value.int k (zs.getD j 0)) := by
         intro l
         induction l with
         | nil => trivial
         | cons x l ih => exact ⟨⟨_, rfl⟩, ih⟩
        simpa [intCells] using this (List.range n)
       refine ⟨Fits.append (fi xs) k1, Fits.append (fi ys) k2, ?_⟩
       simp only [cellsL, Bool.and_eq_true, beq_iff_eq]
       constructor
       ·rintro ⟨rfl, e⟩; rw [k3.1 e]
       ·intro e
        obtain ⟨e1, e2⟩ := List.append_inj e (by simp [intCells_length])
        exact ⟨(intCells_inj l1 l2).1 e1, k3.2 e2⟩
    ·cases h
   ·have hcs : (single c = true /\ single d = true) /\ ((∃ k x u y v p2 r2, asI c = some (k, x, u) /\ asI d = some (k, y, v) /\ eqCells cs ds = some (p2, r2) /\ ps = p2 /\ r = (x == y && r2)) ∨
      (∃ x u y v p2 r2, asB c = some (x, u) /\ asB d = some (y, v) /\ eqCells cs ds = some (p2, r2) /\ ps = p2 /\ r = (x == y && r2))) := by
     have hform : eqCells (c :: cs) (d :: ds) = (match asI c, asI d with
      | some (k, x, _), some (k', y, _) =>
        bif decide (k = k') then
         match eqCells cs ds with
         | some (p, b) => some (p, x == y && b)
         | none => none
        else none
      | _, _ =>
        match asB c, asB d with
        | some (x, _), some (y, _) =>
          match eqCells cs ds with
          | some (p, b) => some (p, x == y && b)
          | none => none
        | _, _ => none) := by
      cases c <;> cases d <;> first | rfl | exact absurd ⟨⟨_, _, _, rfl⟩, ⟨_, _, _, rfl⟩⟩ hi
     rw [hform] at h
     cases hi1 : asI c with
     | some q =>
       obtain ⟨k, x, u⟩ := q
       cases hi2 : asI d with
       | some q2 =>
         obtain ⟨k', y, v⟩ := q2
         simp only [hi1, hi2] at h
         rcases cond_some h with ⟨e, h⟩ | ⟨e, h⟩
         ·simp at e; subst e
          cases hr : eqCells cs ds with
          | none => simp [hr] at h
          | some q =>
            simp [hr] at h
            refine ⟨⟨by cases c <;> simp [asI] at hi1 <;> rfl, by cases d <;> simp [asI] at hi2 <;> rfl⟩, .inl ⟨k, x, u, y, v, q.1, q.2, rfl, rfl, rfl, h.1.symm, h.2.symm⟩⟩
         ·cases h
       | none =>
         have : asB c = none := by cases c <;> simp_all [asI, asB]
         simp [hi1, hi2, this] at h
     | none =>
       cases hb1 : asB c with
       | none => simp [hi1, hb1] at h
       | some q =>
         obtain ⟨x, u⟩ := q
         cases hb2 : asB d with
         | none => simp [hi1, hb1, hb2] at h
         | some q2 =>
           obtain ⟨y, v⟩ := q2
           cases hr : eqCells cs ds with
           | none => simp [hi1, hb1, hb2, hr] at h
           | some q =>
             simp [hi1, hb1, hb2, hr] at h
             refine ⟨⟨by cases c <;> simp [asB] at hb1 <;> rfl, by cases d <;> simp [asB] at hb2 <;> rfl⟩, .inr ⟨x, u, y, v, q.1, q.2, rfl, rfl, rfl, h.1.symm, h.2.symm⟩⟩
    obtain ⟨⟨h1, h2⟩, h3 | h3⟩ := hcs
    ·obtain ⟨k, x, u, y, v, p2, r2, i1, i2, i3, rfl, rfl⟩ := h3
     exact step (.int k x) (.int k y) (some k) (x == y) ps r2 h1 h2 (asI_ok i1 W) (asI_ok i2 W) (by cases c <;> simp [asI] at i1 <;> simp [kindsOf, asI, i1]) ⟨_, rfl⟩ ⟨_, rfl⟩ (by simp) i3 hp
    ·obtain ⟨x, u, y, v, p2, r2, i1, i2, i3, rfl, rfl⟩ := h3
     exact step (.bool x) (.bool y) none (x == y) ps r2 h1 h2 (asB_ok i1 W) (asB_ok i2 W) (by cases c <;> simp [asB] at i1 <;> simp [kindsOf, asI]) ⟨_, rfl⟩ ⟨_, rfl⟩ (by simp) i3 hp
end Sx
end
section
namespace Sx
variable {P : Program} {T : Tab} {W : World} {F : Nat -> Prop} {nt : Nat} {ρ : Num} {s : SS} {a : Act} {w : World}
theorem run_eqGuard (op : BinOp) (t : TypeId) (x y : Operand) (u v : Value) (hn : u ≠ .nilIface ∨ v ≠ .nilIface) (ha : (∃ c d, u = .agg c /\ v = .agg d) -> P.eqGuardType P.depth t = false) :
  (eqGuard op t x y u v).run P w = .ok () w := by
 unfold eqGuard
 cases op <;> simp only [Bool.not_true, Bool.not_false, if_true, Bool.false_eq_true, if_false] <;> (try rfl)
 all_goals
  cases u <;> cases v <;> first
   | rfl
   | (simp at hn; done)
   | (have := ha ⟨_, _, rfl, rfl⟩; simp [this])
theorem run_bin_of (op : BinOp) (t : TypeId) (x y : Operand) (yt : TypeId) (o : Oper) (ho : o.op = .binOp op t x y yt) {u : Value} (hg : (eqGuard op t x y (a.eval x) (a.eval y)).run P w = .ok () w)
  (h : (binOp op t (a.eval x) (a.eval y)).run P w = .ok u w) : (execOp a.eval o).run P w = .ok (.value u) w := by
 simp [execOp, ho, hg, h]
theorem isNil_ok {v : SV} {r : Bool} (h : isNil v = some r) (ρ : Num) : ∃ q, den ρ v = .pointer q /\ q.isNone = r := by
 cases v <;> simp [isNil] at h
 ·split at h <;> rename_i e <;> first
   | (cases e; simp at h; subst h; exact ⟨none, rfl, rfl⟩)
   | cases e
   | cases h
 all_goals (subst h; exact ⟨_, rfl, rfl⟩)
theorem not_iface {x : SV} {k : IntKind} {n : Int} {c : Bool} (h : asI x = some (k, n, c)) : den ρ x ≠ .nilIface := by rw [asI_ok h ρ]; exact fun h => by cases h
theorem bin_ok (hT : TabOK P T) {op : BinOp} {t : TypeId} {x y : SV} {ps : List Prop} {v : SV} {m : Nat} (h : bin T op t x y = some (ps, v)) (hp : All ps) (xo yo : Operand) :
  ∃ u, (eqGuard op t xo yo (den ρ x) (den ρ y)).run P w = .ok () w /\ (binOp op t (den ρ x) (den ρ y)).run P w = .ok u w /\ Good W F ρ m v u := by
 unfold bin at h
 cases h1 : asI x with
 | some q1 =>
   obtain ⟨k, p, c⟩ := q1
   cases h2 : asI y with
   | none => simp [h1, h2] at h
   | some q2 =>
     obtain ⟨k', q, d⟩ := q2
     simp only [h1, h2] at h
     have hg : (eqGuard op t xo yo (den ρ x) (den ρ y)).run P w = .ok () w := run_eqGuard _ _ _ _ _ _ (.inl (not_iface h1)) (by rw [asI_ok h1 ρ]; rintro ⟨_, _, h, _⟩; cases h)
     rcases cond_some h with ⟨e, h⟩ | ⟨e, h⟩
     ·obtain ⟨u, hu, hgd⟩ := shiftI_ok (P := P) (w := w) (t := t) (k' := k') (W := W) (F := F) (ρ := ρ) (m := m) h hp
      exact ⟨u, hg, by rw [asI_ok h1 ρ, asI_ok h2 ρ]; exact hu, hgd⟩
     ·rcases cond_some h with ⟨e, hx⟩ | ⟨e, hx⟩ <;> clear h
      ·have e : k = k' := by simpa using e
       subst e
       obtain ⟨u, hu, hgd⟩ := binI_ok (P := P) (w := w) (t := t) (W := W) (F := F) (ρ := ρ) (m := m) hx hp
       exact ⟨u, hg, by rw [asI_ok h1 ρ, asI_ok h2 ρ]; exact hu, hgd⟩
      ·cases hx
 | none =>
   cases h2 : asI y with
   | some q2 => simp [h1, h2] at h
   | none =>
     simp only [h1, h2, Option.bind_eq_some_iff] at h
     obtain ⟨i, hi, h⟩ := h
     have ty := hT t i hi
     obtain ⟨td, hu, _, hd⟩ := ty.desc
     have aggs : binAgg i op x y = some (ps, v) -> ∃ u, (eqGuard op t xo yo (den ρ x) (den ρ y)).run P w = .ok () w /\ (binOp op t (den ρ x) (den ρ y)).run P w = .ok u w /\ Good W F ρ m v u := by
      intro h0
      simp only [binAgg, Option.bind_eq_some_iff] at h0
      obtain ⟨⟨qs, r⟩, he, h0⟩ := h0
      have hps : qs = ps := by cases op <;> simp at h0 <;> exact h0.1
      subst hps
      unfold eqAgg at he
      split at he
      ·rename_i ks ca cb hf
       rcases cond_some he with ⟨e, he⟩ | ⟨e, he⟩
       ·obtain ⟨f1, f2, f3⟩ := fitsCells (W := ρ) he hp
        rw [sameKinds_eq e] at f1 f2
        obtain ⟨g1, n, g2, g3⟩ := ty.flat ks hf
        have hgd := ty.guard (by rw [hf]; simp)
        simp only [den]
        cases op <;> simp at h0 <;> subst h0
        ·exact ⟨_, run_eqGuard _ _ _ _ _ _ (.inl (fun h => by cases h)) (fun _ => hgd), run_eql_flat w g1 g2 g3 f1 f2 r f3, rfl, trivial, fun h => by cases h⟩
        ·exact ⟨_, run_eqGuard _ _ _ _ _ _ (.inl (fun h => by cases h)) (fun _ => hgd), run_neq_flat w g1 g2 g3 f1 f2 r f3, rfl, trivial, fun h => by cases h⟩
       ·cases he
      ·cases he
     unfold binV at h
     split at h
     ·rename_i hdd
      simp only [binBool, Option.bind_eq_some_iff] at h
      obtain ⟨⟨p, c⟩, hb1, ⟨q, d⟩, hb2, h⟩ := h
      rw [hdd] at hd
      have hu' : P.underlying t = some .bool := by cases td <;> simp [DescOK] at hd; exact hu
      rw [asB_ok hb1 ρ, asB_ok hb2 ρ]
      have hg : (eqGuard op t xo yo (.bool p) (.bool q)).run P w = .ok () w := run_eqGuard _ _ _ _ _ _ (.inl (fun h => by cases h)) (by rintro ⟨_, _, h, _⟩; cases h)
      cases op <;> simp at h <;> obtain ⟨rfl, rfl⟩ := h
      ·exact ⟨.bool (p == q), hg, by simp only [binOp]; simp [Op.equal, Op.maxDepth, run_equalIn_bool' w 9999 t p q hu'], by rw [mkB_den], mkB_okd .., mkB_top _ _⟩
      ·exact ⟨.bool (p != q), hg, by simp only [binOp]; simp [Op.equal, Op.maxDepth, run_equalIn_bool' w 9999 t p q hu', bne], by rw [mkB_den], mkB_okd .., mkB_top _ _⟩
     ·simp only [binStr, Option.bind_eq_some_iff] at h
      obtain ⟨p, hb1, q, hb2, h⟩ := h
      have e1 : x = .str p := by cases x <;> simp [asS] at hb1; rw [hb1]
      have e2 : y = .str q := by cases y <;> simp [asS] at hb2; rw [hb2]
      subst e1 e2
      have hg : (eqGuard op t xo yo (.string p) (.string q)).run P w = .ok () w := run_eqGuard _ _ _ _ _ _ (.inl (fun h => by cases h)) (by rintro ⟨_, _, h, _⟩; cases h)
      cases op <;> simp at h <;> obtain ⟨rfl, rfl⟩ := h
      ·exact ⟨.bool (strEq p q), hg, rfl, rfl, trivial, fun h => by cases h⟩
      ·exact ⟨.bool (!strEq p q), hg, rfl, rfl, trivial, fun h => by cases h⟩
     ·exact aggs h
     ·exact aggs h
     ·rename_i e hdd
      simp only [binPtr] at h
      rcases cond_some h with ⟨hn, h⟩ | ⟨hn, h⟩
      ·simp only [Option.bind_eq_some_iff] at h
       obtain ⟨r, hr, h⟩ := h
       obtain ⟨p, hp1, hp2⟩ := isNil_ok hr ρ
       have ey : den ρ y = .pointer none := by
        unfold isNilP at hn
        split at hn
        ·rfl
        ·cases hn
       rw [hdd] at hd
       have hu' : P.underlying t = some (.pointer (P.pointee t)) := by cases td <;> simp [DescOK] at hd; rw [hu]; simp [Program.pointee, hu]
       rw [hp1, ey]
       have hg : (eqGuard op t xo yo (.pointer p) (.pointer none)).run P w = .ok () w := run_eqGuard _ _ _ _ _ _ (.inl (fun h => by cases h)) (by rintro ⟨_, _, h, _⟩; cases h)
       cases op <;> simp at h <;> obtain ⟨rfl, rfl⟩ := h
       ·exact ⟨.bool r, hg, by rw [run_eql_pointer_nil _ _ _ hu', hp2], rfl, trivial, fun h => by cases h⟩
       ·exact ⟨.bool !r, hg, by rw [run_neq_pointer_nil _ _ _ hu', hp2], rfl, trivial, fun h => by cases h⟩
      ·cases h
     ·cases h
end Sx
end
end Go.Proofs.YtimjnajdpccjdaaDoor
