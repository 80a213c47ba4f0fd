/- The symbolic executor's steps. No condition. -/
import Derived.Test.YtmmejomalfjcnaaSxDefs
namespace Go.Proofs.Ytmmejomalfjcnaa
open Go.RowKit
set_option linter.unusedVariables false
namespace Sx

inductive TyD where
  | int (k : IntKind) | bool | str
  | st (fs : List (Nat × TypeId))
  | arr (n : Nat) (e : TypeId)
  | sl (e : TypeId)
  | ptr (e : TypeId)
  | other

structure TyI where
  size : Nat
  agg : Bool
  zero : List SV
  d : TyD
  flat : Option (List (Option IntKind)) := none

abbrev Tab := List (TypeId × TyI)
def Tab.at (T : Tab) (t : TypeId) : Option TyI := List.lookup t T

/-- In an integer kind's range. -/
def InK : IntKind → Int → Prop
  | .i8, n => -128 ≤ n ∧ n < 128
  | .i16, n => -32768 ≤ n ∧ n < 32768
  | .i32, n => -2147483648 ≤ n ∧ n < 2147483648
  | .i64, n => -9223372036854775808 ≤ n ∧ n < 9223372036854775808
  | .u8, n => 0 ≤ n ∧ n < 256
  | .u16, n => 0 ≤ n ∧ n < 65536
  | .u32, n => 0 ≤ n ∧ n < 4294967296
  | .u64, n => 0 ≤ n ∧ n < 18446744073709551616

def width : SV → Nat
  | .ints _ n _ => n
  | _ => 1
def widthL : List SV → Nat
  | [] => 0
  | c :: cs => width c + widthL cs

/-- The cell at an offset (closed). -/
def cellAt : List SV → Nat → Option SV
  | [], _ => none
  | .ints k n xs :: r, o => bif Nat.blt o n then some (.int k (xs.getD o 0)) else cellAt r (o - n)
  | c :: r, o => bif Nat.beq o 0 then some c else cellAt r (o - 1)

/-- The piece of integers that begins at an offset. -/
def intsAt : List SV → Nat → Option (IntKind × Nat × List Int)
  | [], _ => none
  | .ints k n xs :: r, o => bif Nat.beq o 0 then some (k, n, xs) else bif Nat.ble n o then intsAt r (o - n) else none
  | _ :: r, o => bif Nat.beq o 0 then none else intsAt r (o - 1)

/-- The cells from an offset on, and the first n of them: where the pieces' bounds are. -/
def dropC : List SV → Nat → Option (List SV)
  | [], o => bif Nat.beq o 0 then some [] else none
  | .ints k n xs :: r, o => bif Nat.beq o 0 then some (.ints k n xs :: r) else bif Nat.ble n o then dropC r (o - n) else none
  | c :: r, o => bif Nat.beq o 0 then some (c :: r) else dropC r (o - 1)
def takeC : List SV → Nat → Option (List SV)
  | [], m => bif Nat.beq m 0 then some [] else none
  | .ints k n xs :: r, m => bif Nat.beq m 0 then some [] else bif Nat.ble n m then (takeC r (m - n)).map (.ints k n xs :: ·) else none
  | c :: r, m => bif Nat.beq m 0 then some [] else (takeC r (m - 1)).map (c :: ·)

/-- The cells with others written over them from an offset on (new: of width m). -/
def overC (l : List SV) (o m : Nat) (new : List SV) : Option (List SV) :=
  match takeC l o, dropC l (o + m) with
  | some a, some b => some (a ++ new ++ b)
  | _, _ => none

/-- One integer of a piece set (closed place). -/
def setIn : List SV → Nat → IntKind → Int → Option (List Prop × List SV)
  | [], _, _, _ => none
  | .ints k n xs :: r, o, k', v =>
    bif Nat.blt o n then (bif decide (k = k') then some ([xs.length = n], .ints k n (xs.set o v) :: r) else none)
    else (setIn r (o - n) k' v).map fun (p, l) => (p, .ints k n xs :: l)
  | c :: r, o, k', v => bif Nat.beq o 0 then none else (setIn r (o - 1) k' v).map fun (p, l) => (p, c :: l)

/-- One integer of the piece that begins at an offset set (open place). -/
def setE : List SV → Nat → Int → IntKind → Int → Option (List Prop × List SV)
  | [], _, _, _, _ => none
  | .ints k n xs :: r, o, e, k', v =>
    bif Nat.beq o 0 then (bif decide (k = k') then some ([xs.length = n], .ints k n (xs.set e.toNat v) :: r) else none)
    else bif Nat.ble n o then (setE r (o - n) e k' v).map fun (p, l) => (p, .ints k n xs :: l) else none
  | c :: r, o, e, k', v => bif Nat.beq o 0 then none else (setE r (o - 1) e k' v).map fun (p, l) => (p, c :: l)

def ofConst : Value → SV
  | .int k n => .lit k n
  | .bool b => .litb b
  | .string s => .str s
  | v => .val v

def ev (tm : List (Nat × SV)) : Operand → Option SV
  | .tmp t => match tm.lookup t with
    | some .top => none
    | r => r
  | .const v => some (ofConst v)
  | .global g => some (.hnd g)
  | .func f => some (.fn (.func f) [] [])

/-- An integer: its kind, its term, is it closed? -/
def asI : SV → Option (IntKind × Int × Bool)
  | .lit k n => some (k, n, true)
  | .int k n => some (k, n, false)
  | _ => none
def mkI (c : Bool) (k : IntKind) (n : Int) : SV := bif c then .lit k n else .int k n
def mkB (c : Bool) (b : Bool) : SV := bif c then .litb b else .bool b
def asB : SV → Option (Bool × Bool)
  | .litb b => some (b, true)
  | .bool b => some (b, false)
  | _ => none

/-- A sum: closed: reckoned; at i64: bare, and owed that it fits; else wrapped. -/
def arith (c : Bool) (k : IntKind) (n : Int) : List Prop × SV :=
  bif c then ([], .lit k (k.wrap n)) else
  match k with
  | .i64 => ([InK .i64 n], .int .i64 n)
  | k => ([], .int k (k.wrap n))

def binI (op : BinOp) (k : IntKind) (x y : Int) (cx cy : Bool) : Option (List Prop × SV) :=
  let c := cx && cy
  match op with
  | .add => some (arith c k (x + y))
  | .sub => some (arith c k (x - y))
  | .mul => some (arith c k (x * y))
  | .quo => bif c then (bif decide (y ≠ 0) then some ([], .lit k (k.wrap (x.tdiv y))) else none)
    else bif cy then (bif k.signed then (bif decide (y ≠ 0) then some ([InK k (x.tdiv y)], .int k (x.tdiv y)) else none) else (bif decide (0 < y) then some ([InK k x], .int k (x / y)) else none))
    else bif k.signed then some ([y ≠ 0, InK k (x.tdiv y)], .int k (x.tdiv y)) else some ([InK k x, 0 < y], .int k (x / y))
  | .rem => bif c then (bif decide (y ≠ 0) then some ([], .lit k (x.tmod y)) else none)
    else bif cy then (bif k.signed then (bif decide (y ≠ 0) then some ([], .int k (x.tmod y)) else none) else (bif decide (0 < y) then some ([0 ≤ x], .int k (x % y)) else none))
    else bif k.signed then some ([y ≠ 0], .int k (x.tmod y)) else some ([0 ≤ x, 0 < y], .int k (x % y))
  | .and | .or | .xor | .andNot => some ([], mkI c k (bits op k x y))
  | .eql => some ([], mkB c (x == y))
  | .neq => some ([], mkB c (x != y))
  | .lss => some ([], mkB c (decide (x < y)))
  | .leq => some ([], mkB c (decide (x ≤ y)))
  | .gtr => some ([], mkB c (decide (y < x)))
  | .geq => some ([], mkB c (decide (y ≤ x)))
  | _ => none

def shiftI (op : BinOp) (k : IntKind) (x y : Int) (cx cy : Bool) : Option (List Prop × SV) :=
  match op with
  | .shl => some (bif cy then (let r := arith cx k (x * 2 ^ (Nat.min y.toNat k.bits)); (bif decide (0 ≤ y) then r.1 else [False], r.2)) else (let r := arith false k (x * 2 ^ (Nat.min y.toNat k.bits)); ((0 ≤ y) :: r.1, r.2)))
  | .shr => some (bif cy then (bif decide (0 ≤ y) then [] else [False], mkI cx k (x / 2 ^ (Nat.min y.toNat k.bits))) else ([0 ≤ y], .int k (x / 2 ^ (Nat.min y.toNat k.bits))))
  | _ => none

/-- Are two lists of cells (integers, bools) alike? -/
def eqCells : List SV → List SV → Option (List Prop × Bool)
  | [], [] => some ([], true)
  | .ints k n xs :: r, .ints k' n' ys :: r' =>
    bif decide (k = k') && Nat.beq n n' then
      match eqCells r r' with
      | some (p, b) => some ((xs.length = n) :: (ys.length = n) :: p, xs == ys && b)
      | none => none
    else none
  | c :: r, c' :: r' =>
    match asI c, asI c' with
    | some (k, x, _), some (k', y, _) =>
      bif decide (k = k') then
        match eqCells r r' with
        | some (p, b) => some (p, x == y && b)
        | none => none
      else none
    | _, _ =>
      match asB c, asB c' with
      | some (x, _), some (y, _) =>
        match eqCells r r' with
        | some (p, b) => some (p, x == y && b)
        | none => none
      | _, _ => none
  | _, _ => none

def kindsOf : List SV → List (Option IntKind)
  | [] => []
  | .ints k n _ :: r => List.replicate n (some k) ++ kindsOf r
  | c :: r => (match asI c with
    | some (k, _, _) => some k
    | none => none) :: kindsOf r
def sameKinds : List (Option IntKind) → List (Option IntKind) → Bool
  | [], [] => true
  | x :: xs, y :: ys => bif decide (x = y) then sameKinds xs ys else false
  | _, _ => false
def eqAgg (i : TyI) (x y : SV) : Option (List Prop × Bool) :=
  match i.flat, x, y with
  | some ks, .agg a, .agg b => bif sameKinds (kindsOf a) ks then eqCells a b else none
  | _, _, _ => none

/-- Is it nil? (A pointer, a slice, a function.) -/
def isNil : SV → Option Bool
  | .val (.pointer none) => some true
  | .hnd _ | .ptr _ _ | .pte _ _ _ => some false
  | _ => none

def isShift : BinOp → Bool
  | .shl | .shr => true
  | _ => false
def binBool (op : BinOp) (x y : SV) : Option (List Prop × SV) :=
  (asB x).bind fun p => (asB y).bind fun q => match op with
    | .eql => some ([], mkB (p.2 && q.2) (p.1 == q.1))
    | .neq => some ([], mkB (p.2 && q.2) (p.1 != q.1))
    | _ => none
def asS : SV → Option ByteArray
  | .str s => some s
  | _ => none
def binStr (op : BinOp) (x y : SV) : Option (List Prop × SV) :=
  (asS x).bind fun p => (asS y).bind fun q => match op with
    | .eql => some ([], .bool (p.toList == q.toList))
    | .neq => some ([], .bool (!(p.toList == q.toList)))
    | _ => none
def binAgg (i : TyI) (op : BinOp) (x y : SV) : Option (List Prop × SV) :=
  (eqAgg i x y).bind fun q => match op with
    | .eql => some (q.1, .bool q.2)
    | .neq => some (q.1, .bool (!q.2))
    | _ => none
def isNilP : SV → Bool
  | .val (.pointer none) => true
  | _ => false
def binPtr (op : BinOp) (x y : SV) : Option (List Prop × SV) :=
  bif isNilP y then (isNil x).bind fun r => match op with
    | .eql => some ([], .litb r)
    | .neq => some ([], .litb (!r))
    | _ => none
  else none
def binV (i : TyI) (op : BinOp) (x y : SV) : Option (List Prop × SV) :=
  match i.d with
  | .bool => binBool op x y
  | .str => binStr op x y
  | .st _ => binAgg i op x y
  | .arr _ _ => binAgg i op x y
  | .ptr _ => binPtr op x y
  | _ => none
def bin (T : Tab) (op : BinOp) (t : TypeId) (x y : SV) : Option (List Prop × SV) :=
  match asI x, asI y with
  | some (k, a, c), some (k', b, d) => bif isShift op then shiftI op k a b c d else bif decide (k = k') then binI op k a b c d else none
  | none, none => (T.at t).bind fun i => binV i op x y
  | _, _ => none

def un (op : UnOp) (x : SV) : Option (List Prop × SV) :=
  match op with
  | .not => (asB x).map fun (b, c) => ([], mkB c (!b))
  | .neg => (asI x).map fun (k, n, c) => arith c k (0 - n)
  | .xor => (asI x).map fun (k, n, c) => ([], mkI c k (bits .xor k (if k.signed then -1 else k.max) n))
  | _ => none

def wider : IntKind → IntKind → Bool
  | .u8, .u16 | .u8, .u32 | .u8, .u64 | .u8, .i64 | .u8, .i32 | .u16, .u32 | .u16, .u64 | .u16, .i64 | .u32, .u64 | .u32, .i64 | .i32, .i64 => true
  | a, b => decide (a = b)

def intD (i : TyI) : Option IntKind := match i.d with
  | .int k => some k
  | _ => none
def arrD (i : TyI) : Option (Nat × TypeId) := match i.d with
  | .arr n e => some (n, e)
  | _ => none
def slD (i : TyI) : Option TypeId := match i.d with
  | .sl e => some e
  | _ => none
def stD (i : TyI) : Option (List (Nat × TypeId)) := match i.d with
  | .st fs => some fs
  | _ => none
def isStrD (i : TyI) : Bool := match i.d with
  | .str => true
  | _ => false

def conv (T : Tab) (dst : TypeId) (x : SV) : Option (List Prop × SV) :=
  (T.at dst).bind fun i => (intD i).bind fun k' => (asI x).bind fun q =>
    some (bif q.2.2 then ([], .lit k' (k'.wrap q.2.1)) else bif wider q.1 k' then ([InK q.1 q.2.1], .int k' q.2.1) else ([], .int k' (k'.wrap q.2.1)))

def noTop : List SV → Bool
  | [] => true
  | .top :: _ => false
  | _ :: r => noTop r

/-- The value of that type at an offset of cells. -/
def partC (i : TyI) (l : List SV) (off : Nat) : Option SV :=
  bif i.agg then ((dropC l off).bind fun r => takeC r i.size).bind fun c => bif noTop c then some (.agg c) else none else
  match cellAt l off with
  | some .top => none
  | r => r

def rowOf (rows : List (Option Row)) (i : Nat) : Option Row :=
  match rows[i]? with
  | some (some r) => some r
  | _ => none

/-- What a load of a type reads: at a closed place. -/
def loadS (T : Tab) (rows : List (Option Row)) (t : TypeId) (x : SV) : Option (List Prop × SV) :=
  (T.at t).bind fun i =>
    match x with
    | .ptr b off => (rowOf rows b).bind fun r => (partC i r.cs off).map fun v => ([], v)
    | .pte b off e => bif i.agg then none else (rowOf rows b).bind fun r => (intsAt r.cs off).map fun q => ([0 ≤ e, e < q.2.1], .int q.1 (q.2.2.getD e.toNat 0))
    | .rda k v xs e => bif i.agg then (arrD i).bind fun q => bif Nat.beq i.size q.1 then some ([e + q.1 ≤ xs.length], .agg [.ints k q.1 ((xs.drop e.toNat).take q.1)]) else none
                       else some ([], .int k (xs.getD e.toNat 0))
    | _ => none

/-- A closed place, or an open one among cells of one. -/
def place (c : Bool) (n : Int) (len : Nat) (b off size : Nat) : Option (List Prop × SV) :=
  bif c then (bif decide (0 ≤ n) && decide (n < len) then some ([], .ptr b (off + n.toNat * size)) else none)
  else bif Nat.beq size 1 then some ([0 ≤ n, n < len], .pte b off n) else none

def indexA (T : Tab) (t : TypeId) (x ix : SV) : Option (List Prop × SV) :=
  (T.at t).bind fun i => (asI ix).bind fun q =>
    match x with
    | .ptr b off => (arrD i).bind fun d => (T.at d.2).bind fun ei => place q.2.2 q.2.1 d.1 b off ei.size
    | .sl b off len _ => (slD i).bind fun e => (T.at e).bind fun ei => place q.2.2 q.2.1 len b off ei.size
    | .rd k v xs => (slD i).bind fun e => (T.at e).bind fun ei => bif Nat.beq ei.size 1 then some ([0 ≤ q.2.1, q.2.1 < xs.length], .rda k v xs q.2.1) else none
    | _ => none

def indexV (T : Tab) (t : TypeId) (x ix : SV) : Option (List Prop × SV) :=
  (T.at t).bind fun i => (asI ix).bind fun q =>
    match x with
    | .agg cs => (arrD i).bind fun d => (T.at d.2).bind fun ei =>
      bif q.2.2 then (bif decide (0 ≤ q.2.1) && decide (q.2.1 < d.1) then (partC ei cs (q.2.1.toNat * ei.size)).map fun v => ([], v) else none)
      else bif ei.agg then none else bif Nat.beq ei.size 1 then (intsAt cs 0).bind fun p => bif Nat.beq p.2.1 d.1 then some ([0 ≤ q.2.1, q.2.1 < d.1], .int p.1 (p.2.2.getD q.2.1.toNat 0)) else none else none
    | .str s => bif isStrD i then some ([0 ≤ q.2.1, q.2.1 < s.size], .int .u8 ((s.data.getD q.2.1.toNat 0).toNat)) else none
    | _ => none

def fieldA (T : Tab) (st : TypeId) (x : SV) (f : Nat) : Option SV :=
  (T.at st).bind fun i => (stD i).bind fun fs => (fs[f]?).bind fun q => (T.at q.2).bind fun fi =>
    match x with
    | .ptr b off => bif Nat.beq fi.size 0 then none else some (.ptr b (off + q.1))
    | _ => none

def fieldV (T : Tab) (st : TypeId) (x : SV) (f : Nat) : Option SV :=
  (T.at st).bind fun i => (stD i).bind fun fs => (fs[f]?).bind fun q => (T.at q.2).bind fun fi =>
    match x with
    | .agg cs => partC fi cs q.1
    | _ => none

def isNilSlice : Value → Bool
  | .slice none 0 0 => true
  | _ => false
def lenS (x : SV) : Option SV :=
  match x with
  | .sl _ _ len _ => some (.lit .i64 len)
  | .rd _ _ xs => some (.int .i64 xs.length)
  | .str s => some (.int .i64 s.size)
  | .val v => bif isNilSlice v then some (.lit .i64 0) else none
  | _ => none

def toArr (T : Tab) (t : TypeId) (x : SV) : Option (List Prop × SV) :=
  (T.at t).bind fun i => (arrD i).bind fun d =>
    match x with
    | .sl b off len cap => bif Nat.ble d.1 len then some ([], .ptr b off) else none
    | .rd k v xs => bif Nat.beq d.1 0 then none else some ([(d.1 : Int) ≤ xs.length], .rda k v xs 0)
    | _ => none

def evL (tm : List (Nat × SV)) : List Operand → Option (List SV)
  | [] => some []
  | x :: xs => match ev tm x, evL tm xs with
    | some v, some vs => some (v :: vs)
    | _, _ => none

def pickS (c : Bool) (a b : SV) : Option SV :=
  match asB a, asB b with
  | some x, some y => some (.bool (bif c then x.1 else y.1))
  | _, _ => match asI a, asI b with
    | some x, some y => bif decide (x.1 = y.1) then some (.int x.1 (bif c then x.2.1 else y.2.1)) else none
    | _, _ => none
def notTop : SV → Bool
  | .top => false
  | _ => true
def extractS (x : SV) (i : Nat) : Option SV :=
  match x with
  | .tup vs => (vs[i]?).bind fun v => bif notTop v then some v else none
  | _ => none
def isPtr : SV → Bool
  | .ptr _ _ | .hnd _ => true
  | _ => false

/-- A cell that may be stored as it is. -/
def cellB : SV → Bool
  | .lit _ _ | .int _ _ | .litb _ | .bool _ | .str _ | .hnd _ | .ptr _ _ | .pte _ _ _ | .sl _ _ _ _ | .rd _ _ _ | .rda _ _ _ _ | .fn _ _ _ | .ints _ _ _ => true
  | .val v => v.oneCell'
  | _ => false
def cellsB : List SV → Bool
  | [] => true
  | c :: cs => cellB c && cellsB cs
/-- The cells of a value as they are laid into a variable. -/
def valueCells (v : SV) : Option (List SV) :=
  match v with
  | .agg cs => bif cellsB cs then some cs else none
  | .ints _ _ _ => none
  | v => bif cellB v then some [v] else none

/-- Fill a struct or an array: the parts at their places. -/
def fillC (place : Nat → Option (Nat × Nat)) (cells : List SV) : List (Nat × SV) → Option (List SV)
  | [] => some cells
  | (i, v) :: rest =>
    match place i with
    | none => none
    | some (off, size) =>
      (valueCells v).bind fun new => bif Nat.beq (widthL new) size then (overC cells off size new).bind fun c => fillC place c rest else none

def placesL (T : Tab) : List (Nat × TypeId) → Option (List (Nat × Nat))
  | [] => some []
  | (o, t) :: r => match T.at t, placesL T r with
    | some i, some l => some ((o, i.size) :: l)
    | _, _ => none
def buildS (T : Tab) (t : TypeId) (ps : List (Nat × SV)) : Option SV :=
  (T.at t).bind fun i => bif i.agg then
    match i.d with
    | .st fs => (placesL T fs).bind fun pl => (fillC (fun j => pl[j]?) i.zero ps).map .agg
    | .arr _ e => (T.at e).bind fun ei => (fillC (fun j => some (j * ei.size, ei.size)) i.zero ps).map .agg
    | _ => none
  else none

def evP (tm : List (Nat × SV)) : List (Nat × Operand) → Option (List (Nat × SV))
  | [] => some []
  | (i, x) :: xs => match ev tm x, evP tm xs with
    | some v, some vs => some ((i, v) :: vs)
    | _, _ => none

def lenFits (i : TyI) (x : SV) : Bool :=
  match i.d with
  | .str => match x with
    | .str _ => true
    | _ => false
  | .sl _ => match x with
    | .str _ => false
    | _ => true
  | _ => false

def lenCall (T : Tab) (s : SS) (c : Call) : Option (List Prop × SV) :=
  match c with
  | ⟨.builtin .len, ⟨[x]⟩, ⟨[t]⟩⟩ => (T.at t).bind fun i => (ev s.tm x).bind fun x => bif lenFits i x then (lenS x).map fun v => ([], v) else none
  | _ => none

/-- The operations that leave the memory alone: what is owed, what they yield. -/
def pureOp (T : Tab) (s : SS) (op : Op) : Option (List Prop × SV) :=
  match op with
  | .move x | .assign x => (ev s.tm x).map fun v => ([], v)
  | .pick c a b => (ev s.tm c).bind fun c => (asB c).bind fun q =>
    bif q.2 then (ev s.tm (bif q.1 then a else b)).map fun v => ([], v)
    else (ev s.tm a).bind fun a => (ev s.tm b).bind fun b => (pickS q.1 a b).map fun v => ([], v)
  | .build t parts => (evP s.tm parts.toList).bind fun ps => (buildS T t ps).map fun v => ([], v)
  | .load t x => (ev s.tm x).bind fun x => loadS T s.rows t x
  | .binOp op t x y _ => (ev s.tm x).bind fun x => (ev s.tm y).bind fun y => bin T op t x y
  | .unOp op _ x => (ev s.tm x).bind fun x => un op x
  | .convert src dst x => bif (T.at src).isSome then (ev s.tm x).bind fun x => conv T dst x else none
  | .sliceToArrayPointer t x => (ev s.tm x).bind fun x => toArr T t x
  | .makeFunc f first cap => (evL s.tm first.toList).bind fun a => (evL s.tm cap.toList).map fun b => ([], .fn f a b)
  | .fieldAddr t x f => (ev s.tm x).bind fun x => (fieldA T t x f).map fun v => ([], v)
  | .field t x f => (ev s.tm x).bind fun x => (fieldV T t x f).map fun v => ([], v)
  | .indexAddr t x i => (ev s.tm x).bind fun x => (ev s.tm i).bind fun i => indexA T t x i
  | .index t x i => (ev s.tm x).bind fun x => (ev s.tm i).bind fun i => indexV T t x i
  | .extract x i => (ev s.tm x).bind fun x => (extractS x i).map fun v => ([], v)
  | .nilCheck x => (ev s.tm x).bind fun x => bif isPtr x then some ([], x) else none
  | .call c => lenCall T s c
  | _ => none

/-- A store: what is owed, the row, its cells behind it. -/
def storeS (T : Tab) (rows : List (Option Row)) (t : TypeId) (x v : SV) : Option (List Prop × Nat × Row) :=
  (T.at t).bind fun i =>
    match x with
    | .ptr b off => (rowOf rows b).bind fun r => (valueCells v).bind fun new => bif Nat.beq (widthL new) i.size then
        match overC r.cs off i.size new with
        | some cs => some ([], b, ⟨r.ty, cs⟩)
        | none => bif i.agg then none else (asI v).bind fun q => (setIn r.cs off q.1 q.2.1).map fun p => (p.1, b, ⟨r.ty, p.2⟩)
      else none
    | .pte b off e => bif i.agg then none else bif Nat.beq i.size 1 then (rowOf rows b).bind fun r => (intsAt r.cs off).bind fun z => (asI v).bind fun q => (setE r.cs off e q.1 q.2.1).map fun p => (([0 ≤ e, e < z.2.1] : List Prop) ++ p.1, b, ⟨r.ty, p.2⟩) else none
    | _ => none

def zerosL : Nat → List SV → List SV
  | 0, _ => []
  | n + 1, z => z ++ zerosL n z

/-- The operations that make a row: their value by the row's number, the row. -/
def newOp (T : Tab) (s : SS) (op : Op) : Option ((Nat → SV) × Row) :=
  match op with
  | .alloc t => (T.at t).map fun i => (fun b => .ptr b 0, ⟨t, i.zero⟩)
  | .box t x => (ev s.tm x).bind fun v => (valueCells v).map fun l => (fun b => .ptr b 0, ⟨t, l⟩)
  | .buildSlice t len parts => (T.at t).bind fun i => (slD i).bind fun e => (T.at e).bind fun ei => (evP s.tm parts.toList).bind fun ps =>
      bif Nat.blt (len * ei.size) 16777216 && Nat.beq (widthL ei.zero) ei.size && Nat.blt 0 ei.size && Nat.blt 0 len then
        (fillC (fun j => some (j * ei.size, ei.size)) (zerosL len ei.zero) ps).map fun l => (fun b => .sl b 0 len len, ⟨e, l⟩)
      else none
  | _ => none
def storeOp (T : Tab) (s : SS) (op : Op) : Option (List Prop × Nat × Row) :=
  match op with
  | .store t x v => (ev s.tm x).bind fun x => (ev s.tm v).bind fun v => storeS T s.rows t x v
  | _ => none
end Sx
end Go.Proofs.Ytmmejomalfjcnaa
