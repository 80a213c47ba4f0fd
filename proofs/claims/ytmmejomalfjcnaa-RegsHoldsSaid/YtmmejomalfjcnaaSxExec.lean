/- The symbolic executor's steps. No condition. -/
import Derived.Test.YtmmejomalfjcnaaSxDefs
namespace Go.Proofs.Ytmmejomalfjcnaa
open Go.RowKit
set_option linter.unusedVariables false
namespace Sx

inductive TyD where
  | int (k : IntKind) | bool | str
  | st (fs : List (Nat × TypeId))
  | arr (n : Nat) (e : TypeId)
  | sl (e : TypeId)
  | ptr (e : TypeId)
  | other

structure TyI where
  size : Nat
  bytes : Nat
  agg : Bool
  zero : List SV
  d : TyD
  flat : Option (List (Option IntKind)) := none

abbrev Tab := List (TypeId × TyI)
def Tab.at (T : Tab) (t : TypeId) : Option TyI := List.lookup t T

/-- In an integer kind's range. -/
def InK : IntKind → Int → Prop
  | .i8, n => -128 ≤ n ∧ n < 128
  | .i16, n => -32768 ≤ n ∧ n < 32768
  | .i32, n => -2147483648 ≤ n ∧ n < 2147483648
  | .i64, n => -9223372036854775808 ≤ n ∧ n < 9223372036854775808
  | .u8, n => 0 ≤ n ∧ n < 256
  | .u16, n => 0 ≤ n ∧ n < 65536
  | .u32, n => 0 ≤ n ∧ n < 4294967296
  | .u64, n => 0 ≤ n ∧ n < 18446744073709551616

def width : SV → Nat
  | .ints _ n _ => n
  | _ => 1
def widthL : List SV → Nat
  | [] => 0
  | c :: cs => width c + widthL cs

/-- The cell at an offset (closed). -/
def cellAt : List SV → Nat → Option SV
  | [], _ => none
  | .ints k n xs :: r, o => bif Nat.blt o n then some (.int k (xs.getD o 0)) else cellAt r (o - n)
  | c :: r, o => bif Nat.beq o 0 then some c else cellAt r (o - 1)

/-- The piece of integers that begins at an offset. -/
def intsAt : List SV → Nat → Option (IntKind × Nat × List Int)
  | [], _ => none
  | .ints k n xs :: r, o => bif Nat.beq o 0 then some (k, n, xs) else bif Nat.ble n o then intsAt r (o - n) else none
  | _ :: r, o => bif Nat.beq o 0 then none else intsAt r (o - 1)

/-- The cells from an offset on, and the first n of them: where the pieces' bounds are. -/
def dropC : List SV → Nat → Option (List SV)
  | [], o => bif Nat.beq o 0 then some [] else none
  | .ints k n xs :: r, o => bif Nat.beq o 0 then some (.ints k n xs :: r) else bif Nat.ble n o then dropC r (o - n) else none
  | c :: r, o => bif Nat.beq o 0 then some (c :: r) else dropC r (o - 1)
def takeC : List SV → Nat → Option (List SV)
  | [], m => bif Nat.beq m 0 then some [] else none
  | .ints k n xs :: r, m => bif Nat.beq m 0 then some [] else bif Nat.ble n m then (takeC r (m - n)).map (.ints k n xs :: ·) else none
  | c :: r, m => bif Nat.beq m 0 then some [] else (takeC r (m - 1)).map (c :: ·)

/-- The cells with others written over them from an offset on (new: of width m). -/
def overC (l : List SV) (o m : Nat) (new : List SV) : Option (List SV) :=
  match takeC l o, dropC l (o + m) with
  | some a, some b => some (a ++ new ++ b)
  | _, _ => none

/-- One integer of a piece set (closed place). -/
def setIn : List SV → Nat → IntKind → Int → Option (List Prop × List SV)
  | [], _, _, _ => none
  | .ints k n xs :: r, o, k', v =>
    bif Nat.blt o n then (bif decide (k = k') then some ([xs.length = n], .ints k n (xs.set o v) :: r) else none)
    else (setIn r (o - n) k' v).map fun (p, l) => (p, .ints k n xs :: l)
  | c :: r, o, k', v => bif Nat.beq o 0 then none else (setIn r (o - 1) k' v).map fun (p, l) => (p, c :: l)

/-- One integer of the piece that begins at an offset set (open place). -/
def setE : List SV → Nat → Int → IntKind → Int → Option (List Prop × List SV)
  | [], _, _, _, _ => none
  | .ints k n xs :: r, o, e, k', v =>
    bif Nat.beq o 0 then (bif decide (k = k') then some ([xs.length = n], .ints k n (xs.set e.toNat v) :: r) else none)
    else bif Nat.ble n o then (setE r (o - n) e k' v).map fun (p, l) => (p, .ints k n xs :: l) else none
  | c :: r, o, e, k', v => bif Nat.beq o 0 then none else (setE r (o - 1) e k' v).map fun (p, l) => (p, c :: l)

def ofConst : Value → SV
  | .int k n => .lit k n
  | .bool b => .litb b
  | .string s => .str s
  | v => .val v

def ev (tm : List (Nat × SV)) : Operand → Option SV
  | .tmp t => match tm.lookup t with
    | some .top => none
    | r => r
  | .const v => some (ofConst v)
  | .global g => some (.hnd g)
  | .func f => some (.fn (.func f) [] [])

/-- An integer: its kind, its term, is it closed? -/
def asI : SV → Option (IntKind × Int × Bool)
  | .lit k n => some (k, n, true)
  | .int k n => some (k, n, false)
  | _ => none
def mkI (c : Bool) (k : IntKind) (n : Int) : SV := bif c then .lit k n else .int k n
def mkB (c : Bool) (b : Bool) : SV := bif c then .litb b else .bool b
def asB : SV → Option (Bool × Bool)
  | .litb b => some (b, true)
  | .bool b => some (b, false)
  | _ => none

/-- A sum: closed: reckoned; at i64: bare, and owed that it fits; else wrapped. -/
def arith (c : Bool) (k : IntKind) (n : Int) : List Prop × SV :=
  bif c then ([], .lit k (k.wrap n)) else
  match k with
  | .i64 => ([InK .i64 n], .int .i64 n)
  | k => ([], .int k (k.wrap n))

def binI (op : BinOp) (k : IntKind) (x y : Int) (cx cy : Bool) : Option (List Prop × SV) :=
  let c := cx && cy
  match op with
  | .add => some (arith c k (x + y))
  | .sub => some (arith c k (x - y))
  | .mul => some (arith c k (x * y))
  | .quo => bif c then (bif decide (y ≠ 0) then some ([], .lit k (k.wrap (x.tdiv y))) else none)
    else bif cy then (bif k.signed then (bif decide (y ≠ 0) then some ([InK k (x.tdiv y)], .int k (x.tdiv y)) else none) else (bif decide (0 < y) then some ([InK k x], .int k (x / y)) else none))
    else bif k.signed then some ([y ≠ 0, InK k (x.tdiv y)], .int k (x.tdiv y)) else some ([InK k x, 0 < y], .int k (x / y))
  | .rem => bif c then (bif decide (y ≠ 0) then some ([], .lit k (x.tmod y)) else none)
    else bif cy then (bif k.signed then (bif decide (y ≠ 0) then some ([], .int k (x.tmod y)) else none) else (bif decide (0 < y) then some ([0 ≤ x], .int k (x % y)) else none))
    else bif k.signed then some ([y ≠ 0], .int k (x.tmod y)) else some ([0 ≤ x, 0 < y], .int k (x % y))
  | .and | .or | .xor | .andNot => some ([], mkI c k (bits op k x y))
  | .eql => some ([], mkB c (x == y))
  | .neq => some ([], mkB c (x != y))
  | .lss => some ([], mkB c (decide (x < y)))
  | .leq => some ([], mkB c (decide (x ≤ y)))
  | .gtr => some ([], mkB c (decide (y < x)))
  | .geq => some ([], mkB c (decide (y ≤ x)))
  | _ => none

def shiftI (op : BinOp) (k : IntKind) (x y : Int) (cx cy : Bool) : Option (List Prop × SV) :=
  match op with
  | .shl => some (bif cy then (let r := arith cx k (x * 2 ^ (Nat.min y.toNat k.bits)); (bif decide (0 ≤ y) then r.1 else [False], r.2)) else (let r := arith false k (x * 2 ^ (Nat.min y.toNat k.bits)); ((0 ≤ y) :: r.1, r.2)))
  | .shr => some (bif cy then (bif decide (0 ≤ y) then [] else [False], mkI cx k (x / 2 ^ (Nat.min y.toNat k.bits))) else ([0 ≤ y], .int k (x / 2 ^ (Nat.min y.toNat k.bits))))
  | _ => none

/-- Are two lists of cells (integers, bools) alike? -/
def eqCells : List SV → List SV → Option (List Prop × Bool)
  | [], [] => some ([], true)
  | .ints k n xs :: r, .ints k' n' ys :: r' =>
    bif decide (k = k') && Nat.beq n n' then
      match eqCells r r' with
      | some (p, b) => some ((xs.length = n) :: (ys.length = n) :: p, xs == ys && b)
      | none => none
    else none
  | c :: r, c' :: r' =>
    match asI c, asI c' with
    | some (k, x, _), some (k', y, _) =>
      bif decide (k = k') then
        match eqCells r r' with
        | some (p, b) => some (p, x == y && b)
        | none => none
      else none
    | _, _ =>
      match asB c, asB c' with
      | some (x, _), some (y, _) =>
        match eqCells r r' with
        | some (p, b) => some (p, x == y && b)
        | none => none
      | _, _ => none
  | _, _ => none

def kindsOf : List SV → List (Option IntKind)
  | [] => []
  | .ints k n _ :: r => List.replicate n (some k) ++ kindsOf r
  | c :: r => (match asI c with
    | some (k, _, _) => some k
    | none => none) :: kindsOf r
def sameKinds : List (Option IntKind) → List (Option IntKind) → Bool
  | [], [] => true
  | x :: xs, y :: ys => bif decide (x = y) then sameKinds xs ys else false
  | _, _ => false
def eqAgg (i : TyI) (x y : SV) : Option (List Prop × Bool) :=
  match i.flat, x, y with
  | some ks, .agg a, .agg b => bif sameKinds (kindsOf a) ks then eqCells a b else none
  | _, _, _ => none

/-- Is it nil? (A pointer, a slice, a function.) -/
def isNil : SV → Option Bool
  | .val (.pointer none) => some true
  | .hnd _ | .ptr _ _ | .pte _ _ _ | .gp _ _ => some false
  | _ => none

def isShift : BinOp → Bool
  | .shl | .shr => true
  | _ => false
def binBool (op : BinOp) (x y : SV) : Option (List Prop × SV) :=
  (asB x).bind fun p => (asB y).bind fun q => match op with
    | .eql => some ([], mkB (p.2 && q.2) (p.1 == q.1))
    | .neq => some ([], mkB (p.2 && q.2) (p.1 != q.1))
    | _ => none
def asS : SV → Option ByteArray
  | .str s => some s
  | _ => none
def binStr (op : BinOp) (x y : SV) : Option (List Prop × SV) :=
  (asS x).bind fun p => (asS y).bind fun q => match op with
    | .eql => some ([], .bool (p.toList == q.toList))
    | .neq => some ([], .bool (!(p.toList == q.toList)))
    | _ => none
def binAgg (i : TyI) (op : BinOp) (x y : SV) : Option (List Prop × SV) :=
  (eqAgg i x y).bind fun q => match op with
    | .eql => some (q.1, .bool q.2)
    | .neq => some (q.1, .bool (!q.2))
    | _ => none
def isNilP : SV → Bool
  | .val (.pointer none) => true
  | _ => false
def binPtr (op : BinOp) (x y : SV) : Option (List Prop × SV) :=
  bif isNilP y then (isNil x).bind fun r => match op with
    | .eql => some ([], .litb r)
    | .neq => some ([], .litb (!r))
    | _ => none
  else none
def binV (i : TyI) (op : BinOp) (x y : SV) : Option (List Prop × SV) :=
  match i.d with
  | .bool => binBool op x y
  | .str => binStr op x y
  | .st _ => binAgg i op x y
  | .arr _ _ => binAgg i op x y
  | .ptr _ => binPtr op x y
  | _ => none
def bin (T : Tab) (op : BinOp) (t : TypeId) (x y : SV) : Option (List Prop × SV) :=
  match asI x, asI y with
  | some (k, a, c), some (k', b, d) => bif isShift op then shiftI op k a b c d else bif decide (k = k') then binI op k a b c d else none
  | none, none => (T.at t).bind fun i => binV i op x y
  | _, _ => none

def un (op : UnOp) (x : SV) : Option (List Prop × SV) :=
  match op with
  | .not => (asB x).map fun (b, c) => ([], mkB c (!b))
  | .neg => (asI x).map fun (k, n, c) => arith c k (0 - n)
  | .xor => (asI x).map fun (k, n, c) => ([], mkI c k (bits .xor k (if k.signed then -1 else k.max) n))
  | _ => none

def wider : IntKind → IntKind → Bool
  | .u8, .u16 | .u8, .u32 | .u8, .u64 | .u8, .i64 | .u8, .i32 | .u16, .u32 | .u16, .u64 | .u16, .i64 | .u32, .u64 | .u32, .i64 | .i32, .i64 => true
  | a, b => decide (a = b)

def intD (i : TyI) : Option IntKind := match i.d with
  | .int k => some k
  | _ => none
def arrD (i : TyI) : Option (Nat × TypeId) := match i.d with
  | .arr n e => some (n, e)
  | _ => none
def slD (i : TyI) : Option TypeId := match i.d with
  | .sl e => some e
  | _ => none
def stD (i : TyI) : Option (List (Nat × TypeId)) := match i.d with
  | .st fs => some fs
  | _ => none
def isStrD (i : TyI) : Bool := match i.d with
  | .str => true
  | _ => false

def conv (T : Tab) (dst : TypeId) (x : SV) : Option (List Prop × SV) :=
  (T.at dst).bind fun i => (intD i).bind fun k' => (asI x).bind fun q =>
    some (bif q.2.2 then ([], .lit k' (k'.wrap q.2.1)) else bif wider q.1 k' then ([InK q.1 q.2.1], .int k' q.2.1) else ([], .int k' (k'.wrap q.2.1)))

def noTop : List SV → Bool
  | [] => true
  | .top :: _ => false
  | _ :: r => noTop r

/-- The value of that type at an offset of cells. -/
def partC (i : TyI) (l : List SV) (off : Nat) : Option SV :=
  bif i.agg then ((dropC l off).bind fun r => takeC r i.size).bind fun c => bif noTop c then some (.agg c) else none else
  match cellAt l off with
  | some .top => none
  | r => r

def rowOf (rows : List (Option Row)) (i : Nat) : Option Row :=
  match rows[i]? with
  | some (some r) => some r
  | _ => none

def globCells (g : Nat) : Option (List SV) := List.lookup g globs
/-- The cells at every so-many-th place: integers, or texts. -/
def colC (cs : List SV) (off sz : Nat) : Nat → Option (List SV)
  | 0 => some []
  | n + 1 => match colC cs off sz n, cellAt cs (off + n * sz) with
    | some l, some c => some (l ++ [c])
    | _, _ => none
def colI (k : IntKind) : List SV → Option (List Int)
  | [] => some []
  | c :: r => match asI c, colI k r with
    | some q, some l => bif decide (q.1 = k) then some (q.2.1 :: l) else none
    | _, _ => none
def colS : List SV → Option (List ByteArray)
  | [] => some []
  | .str s :: r => (colS r).map fun l => s :: l
  | _ :: _ => none
def pickC (cs : List SV) (e : Int) : Option SV :=
  match cs with
  | [] => none
  | c :: r => match asI c with
    | some q => (colI q.1 (c :: r)).map fun l => .int q.1 (l.getD e.toNat 0)
    | none => (colS (c :: r)).map fun l => .str (l.getD e.toNat ⟨#[]⟩)

/-- What a load of a type reads: at a closed place. -/
def loadS (T : Tab) (rows : List (Option Row)) (t : TypeId) (x : SV) : Option (List Prop × SV) :=
  (T.at t).bind fun i =>
    match x with
    | .ptr b off => (rowOf rows b).bind fun r => (partC i r.cs off).map fun v => ([], v)
    | .pte b off e => bif i.agg then (arrD i).bind fun d => bif Nat.beq i.size d.1 && Nat.blt 0 d.1 then (rowOf rows b).bind fun r => (intsAt r.cs off).map fun q => ([0 ≤ e, e + d.1 ≤ q.2.1, q.2.2.length = q.2.1], .agg [.ints q.1 d.1 ((q.2.2.drop e.toNat).take d.1)]) else none
        else (rowOf rows b).bind fun r => (intsAt r.cs off).map fun q => ([0 ≤ e, e < q.2.1], .int q.1 (q.2.2.getD e.toNat 0))
    | .hnd g => (globCells g).bind fun cs => (partC i cs 0).map fun v => ([], v)
    | .gp g off => (globCells g).bind fun cs => (partC i cs off).map fun v => ([], v)
    | .gpe g off sz n e => bif i.agg then none else (globCells g).bind fun cs => (colC cs off sz n).bind fun l => (pickC l e).map fun v => ([], v)
    | .rda k v xs e => bif i.agg then (arrD i).bind fun q => bif Nat.beq i.size q.1 then some ([e + q.1 ≤ xs.length], .agg [.ints k q.1 ((xs.drop e.toNat).take q.1)]) else none
                       else some ([], .int k (xs.getD e.toNat 0))
    | .rsa sz v n f e off => (partC i (f e.toNat) off).map fun v => ([], v)
    | _ => none

/-- A closed place, or an open one among cells of one. -/
def place (c : Bool) (n : Int) (len : Nat) (b off size : Nat) : Option (List Prop × SV) :=
  bif c then (bif decide (0 ≤ n) && decide (n < len) then some ([], .ptr b (off + n.toNat * size)) else none)
  else bif Nat.beq size 1 then some ([0 ≤ n, n < len], .pte b off n) else none

/-- How many cells of its row a list's first elements are at least. -/
def onLen (rows : List (Option Row)) (b : Nat) : Option (Row × Nat) :=
  (rowOf rows b).bind fun r => bif Nat.beq r.sz 0 then none else some (r, widthL r.cs)
def gplace (c : Bool) (n : Int) (len g off size : Nat) : Option (List Prop × SV) :=
  bif c then (bif decide (0 ≤ n) && decide (n < len) then some ([], .gp g (off + n.toNat * size)) else none)
  else some ([0 ≤ n, n < len], .gpe g off size len n)
def indexA (T : Tab) (rows : List (Option Row)) (t : TypeId) (x ix : SV) : Option (List Prop × SV) :=
  (T.at t).bind fun i => (asI ix).bind fun q =>
    match x with
    | .hnd g => (arrD i).bind fun d => (T.at d.2).bind fun ei => gplace q.2.2 q.2.1 d.1 g 0 ei.size
    | .gp g off => (arrD i).bind fun d => (T.at d.2).bind fun ei => gplace q.2.2 q.2.1 d.1 g off ei.size
    | .os b off len _ => (slD i).bind fun e => (T.at e).bind fun ei => bif Nat.beq ei.size 1 then some ([0 ≤ q.2.1, q.2.1 < len], .pte b 0 (off + q.2.1)) else none
    | .on b len _ => (slD i).bind fun e => (T.at e).bind fun ei => (onLen rows b).bind fun w =>
      bif q.2.2 && !(Nat.beq ei.size 1) then some ([0 ≤ q.2.1, q.2.1 < len, q.2.1.toNat * ei.size < w.2], .ptr b (q.2.1.toNat * ei.size))
      else bif Nat.beq ei.size 1 then some ([0 ≤ q.2.1, q.2.1 < len, q.2.1.toNat < w.2], .pte b 0 q.2.1) else none
    | .ptr b off => (arrD i).bind fun d => (T.at d.2).bind fun ei => place q.2.2 q.2.1 d.1 b off ei.size
    | .sl b off len _ => (slD i).bind fun e => (T.at e).bind fun ei => place q.2.2 q.2.1 len b off ei.size
    | .rd k v xs => (slD i).bind fun e => (T.at e).bind fun ei => bif Nat.beq ei.size 1 then some ([0 ≤ q.2.1, q.2.1 < xs.length], .rda k v xs q.2.1) else none
    | .rs sz v n f => (slD i).bind fun e => (T.at e).bind fun ei => bif Nat.beq ei.size sz && Nat.blt 0 sz then some ([0 ≤ q.2.1, q.2.1 < n], .rsa sz v n f q.2.1 0) else none
    | .rsa sz v n f e off => (arrD i).bind fun d => (T.at d.2).bind fun ei =>
      bif q.2.2 && decide (0 ≤ q.2.1) && decide (q.2.1 < d.1) && Nat.blt (off + q.2.1.toNat * ei.size) sz then some ([], .rsa sz v n f e (off + q.2.1.toNat * ei.size)) else none
    | _ => none

def indexV (T : Tab) (t : TypeId) (x ix : SV) : Option (List Prop × SV) :=
  (T.at t).bind fun i => (asI ix).bind fun q =>
    match x with
    | .agg cs => (arrD i).bind fun d => (T.at d.2).bind fun ei =>
      bif q.2.2 then (bif decide (0 ≤ q.2.1) && decide (q.2.1 < d.1) then (partC ei cs (q.2.1.toNat * ei.size)).map fun v => ([], v) else none)
      else bif ei.agg then none else bif Nat.beq ei.size 1 then (intsAt cs 0).bind fun p => bif Nat.beq p.2.1 d.1 then some ([0 ≤ q.2.1, q.2.1 < d.1], .int p.1 (p.2.2.getD q.2.1.toNat 0)) else none else none
    | .str s => bif isStrD i then some ([0 ≤ q.2.1, q.2.1 < s.size], .int .u8 ((s.data.getD q.2.1.toNat 0).toNat)) else none
    | _ => none

def fieldA (T : Tab) (st : TypeId) (x : SV) (f : Nat) : Option SV :=
  (T.at st).bind fun i => (stD i).bind fun fs => (fs[f]?).bind fun q => (T.at q.2).bind fun fi =>
    match x with
    | .ptr b off => bif Nat.beq fi.size 0 then none else some (.ptr b (off + q.1))
    | .hnd g => bif Nat.beq fi.size 0 then none else some (.gp g q.1)
    | .gp g off => bif Nat.beq fi.size 0 then none else some (.gp g (off + q.1))
    | .gpe g off sz n e => bif Nat.beq fi.size 0 then none else some (.gpe g (off + q.1) sz n e)
    | .rsa sz v n g e off => bif Nat.beq fi.size 0 then none else bif Nat.blt (off + q.1) sz then some (.rsa sz v n g e (off + q.1)) else none
    | _ => none

def fieldV (T : Tab) (st : TypeId) (x : SV) (f : Nat) : Option SV :=
  (T.at st).bind fun i => (stD i).bind fun fs => (fs[f]?).bind fun q => (T.at q.2).bind fun fi =>
    match x with
    | .agg cs => partC fi cs q.1
    | _ => none

def isNilSlice : Value → Bool
  | .slice none 0 0 => true
  | _ => false
def lenS (x : SV) : Option SV :=
  match x with
  | .sl _ _ len _ => some (.lit .i64 len)
  | .os _ _ len _ => some (.int .i64 len)
  | .on _ len _ => some (.int .i64 len)
  | .rd _ _ xs => some (.int .i64 xs.length)
  | .rs _ _ n _ => some (.int .i64 n)
  | .str s => some (.int .i64 s.size)
  | .val v => bif isNilSlice v then some (.lit .i64 0) else none
  | _ => none

def toArr (T : Tab) (rows : List (Option Row)) (t : TypeId) (x : SV) : Option (List Prop × SV) :=
  (T.at t).bind fun i => (arrD i).bind fun d =>
    match x with
    | .os b off len _ => some ([d.1 ≤ len], .pte b 0 (off : Int))
    | .on b len _ => (onLen rows b).bind fun w => bif Nat.beq d.1 0 then none else some ([d.1 ≤ len, 0 < w.2], .pte b 0 0)
    | .sl b off len cap => bif Nat.ble d.1 len then some ([], .ptr b off) else none
    | .rd k v xs => bif Nat.beq d.1 0 then none else some ([(d.1 : Int) ≤ xs.length], .rda k v xs 0)
    | _ => none

def evL (tm : List (Nat × SV)) : List Operand → Option (List SV)
  | [] => some []
  | x :: xs => match ev tm x, evL tm xs with
    | some v, some vs => some (v :: vs)
    | _, _ => none

def pickS (c : Bool) (a b : SV) : Option SV :=
  match asB a, asB b with
  | some x, some y => some (.bool (bif c then x.1 else y.1))
  | _, _ => match asI a, asI b with
    | some x, some y => bif decide (x.1 = y.1) then some (.int x.1 (bif c then x.2.1 else y.2.1)) else none
    | _, _ => none
def notTop : SV → Bool
  | .top => false
  | _ => true
def extractS (x : SV) (i : Nat) : Option SV :=
  match x with
  | .tup vs => (vs[i]?).bind fun v => bif notTop v then some v else none
  | _ => none
def isPtr : SV → Bool
  | .ptr _ _ | .hnd _ | .gp _ _ | .pte _ _ _ => true
  | _ => false

/-- A cell that may be stored as it is. -/
def cellB : SV → Bool
  | .lit _ _ | .int _ _ | .litb _ | .bool _ | .str _ | .hnd _ | .ptr _ _ | .pte _ _ _ | .sl _ _ _ _ | .os _ _ _ _ | .on _ _ _ | .gp _ _ | .rd _ _ _ | .rda _ _ _ _ | .rs _ _ _ _ | .rsa _ _ _ _ _ _ | .fn _ _ _ | .ints _ _ _ => true
  | .val v => v.oneCell'
  | _ => false
def cellsB : List SV → Bool
  | [] => true
  | c :: cs => cellB c && cellsB cs
/-- The cells of a value as they are laid into a variable. -/
def valueCells (v : SV) : Option (List SV) :=
  match v with
  | .agg cs => bif cellsB cs then some cs else none
  | .ints _ _ _ => none
  | v => bif cellB v then some [v] else none

/-- One integer of a piece set, whose length is closed. -/
def setD : List SV → Nat → IntKind → Int → Option (List SV)
  | [], _, _, _ => none
  | .ints k n xs :: r, o, k', v =>
    bif Nat.blt o n then (bif decide (k = k') && Nat.beq xs.length n then some (.ints k n (xs.set o v) :: r) else none)
    else (setD r (o - n) k' v).map fun l => .ints k n xs :: l
  | c :: r, o, k', v => bif Nat.beq o 0 then none else (setD r (o - 1) k' v).map fun l => c :: l
/-- A part laid at its place: whole cells, or one integer of a piece. -/
def layC (cells : List SV) (off size : Nat) (new : List SV) : Option (List SV) :=
  match overC cells off size new with
  | some c => some c
  | none => match new with
    | [c] => (asI c).bind fun q => bif Nat.beq size 1 then setD cells off q.1 q.2.1 else none
    | _ => none
/-- Fill a struct or an array: the parts at their places. -/
def fillC (place : Nat → Option (Nat × Nat)) (cells : List SV) : List (Nat × SV) → Option (List SV)
  | [] => some cells
  | (i, v) :: rest =>
    match place i with
    | none => none
    | some (off, size) =>
      (valueCells v).bind fun new => bif Nat.beq (widthL new) size then (layC cells off size new).bind fun c => fillC place c rest else none

def placesL (T : Tab) : List (Nat × TypeId) → Option (List (Nat × Nat))
  | [] => some []
  | (o, t) :: r => match T.at t, placesL T r with
    | some i, some l => some ((o, i.size) :: l)
    | _, _ => none
def buildS (T : Tab) (t : TypeId) (ps : List (Nat × SV)) : Option SV :=
  (T.at t).bind fun i => bif i.agg then
    match i.d with
    | .st fs => (placesL T fs).bind fun pl => (fillC (fun j => pl[j]?) i.zero ps).map .agg
    | .arr _ e => (T.at e).bind fun ei => (fillC (fun j => some (j * ei.size, ei.size)) i.zero ps).map .agg
    | _ => none
  else none

def evP (tm : List (Nat × SV)) : List (Nat × Operand) → Option (List (Nat × SV))
  | [] => some []
  | (i, x) :: xs => match ev tm x, evP tm xs with
    | some v, some vs => some ((i, v) :: vs)
    | _, _ => none

def lenFits (i : TyI) (x : SV) : Bool :=
  match i.d with
  | .str => match x with
    | .str _ => true
    | _ => false
  | .sl _ => match x with
    | .str _ => false
    | _ => true
  | _ => false

def lenCall (T : Tab) (s : SS) (c : Call) : Option (List Prop × SV) :=
  match c with
  | ⟨.builtin .len, ⟨[x]⟩, ⟨[t]⟩⟩ => (T.at t).bind fun i => (ev s.tm x).bind fun x => bif lenFits i x then (lenS x).map fun v => ([], v) else none
  | _ => none

/-- The integers of a slice's elements: what is owed, the kind, how many, the integers. -/
def toInts (k : IntKind) : List SV → Option (List Prop × Nat × List Int)
  | [] => some ([], 0, [])
  | .ints k' n xs :: r => bif decide (k' = k) then (match r with
    | [] => some ([xs.length = n], n, xs)
    | _ => (toInts k r).map fun q => ((xs.length = n) :: q.1, n + q.2.1, xs ++ q.2.2)) else none
  | c :: r => match asI c, toInts k r with
    | some q, some p => bif decide (q.1 = k) then some (p.1, p.2.1 + 1, q.2.1 :: p.2.2) else none
    | _, _ => none
def rowsOfV : SV → List Nat
  | .sl i _ _ _ | .os i _ _ _ | .on i _ _ | .ptr i _ | .pte i _ _ => [i]
  | _ => []
/-- A piece of integers that is all of a row. -/
def onePiece : List SV → Option (IntKind × Nat × List Int)
  | [.ints k n xs] => some (k, n, xs)
  | _ => none
def bytesI (s : ByteArray) : List Int := s.data.toList.map fun b => (b.toNat : Int)
def sliceInts (rows : List (Option Row)) (k : IntKind) (v : SV) : Option (List Prop × Nat × List Int) :=
  match v with
  | .rd k' _ xs => bif decide (k' = k) then some ([], xs.length, xs) else none
  | .os b off len _ => (rowOf rows b).bind fun r => (onePiece r.cs).bind fun q => bif decide (q.1 = k) then some ([off + len ≤ q.2.1, q.2.2.length = q.2.1], len, (q.2.2.drop off).take len) else none
  | .on b len _ => (onLen rows b).bind fun w => (onePiece w.1.cs).bind fun q => bif decide (q.1 = k) then some ([len = q.2.1, q.2.2.length = q.2.1], len, q.2.2) else none
  | .sl b off len _ => (rowOf rows b).bind fun r => (dropC r.cs off).bind fun d => (takeC d len).bind fun l => toInts k l
  | .str s => bif decide (k = .u8) then some ([], s.size, bytesI s) else none
  | .val v => bif isNilSlice v then some ([], 0, []) else none
  | _ => none
def strOf (xs : List Int) : ByteArray := xs.foldl (fun r n => r.push (UInt8.ofNat n.toNat)) ByteArray.empty
/-- A conversion of bytes to a text. -/
def convS (T : Tab) (rows : List (Option Row)) (src dst : TypeId) (x : SV) : Option (List Prop × SV) :=
  (T.at src).bind fun si => (T.at dst).bind fun di => bif isStrD di then
    (bif isStrD si then (asS x).map fun s => ([], .str s) else
    (slD si).bind fun e => (T.at e).bind fun ei => (intD ei).bind fun k => bif decide (k = .u8) then (sliceInts rows .u8 x).bind fun q => bif (asS x).isSome then none else some (q.1, .str (strOf q.2.2)) else none)
  else none
def optI (tm : List (Nat × SV)) : Option Operand → Option (Option (Int × Bool))
  | none => some none
  | some x => (ev tm x).bind fun v => (asI v).map fun q => some (q.2.1, q.2.2)
def allClosed : List (Option (Int × Bool)) → Bool
  | [] => true
  | none :: r => allClosed r
  | some q :: r => q.2 && allClosed r
/-- The bounds of a slice: low, high, max; what is owed. -/
def lowB : Option (Int × Bool) → Int
  | some q => q.1
  | none => 0
def highB (len : Nat) : Option (Int × Bool) → Int
  | some q => q.1
  | none => len
/-- A slice value cut. -/
def cutV (v : Value) (lo hi : Nat) (mx : Option Nat) : Value :=
  match v with
  | .slice a len cap => .slice (if mx.getD cap = lo then a else a.map (·.add lo)) (hi - lo) (mx.getD cap - lo)
  | _ => undef
def sliceS (T : Tab) (rows : List (Option Row)) (t : TypeId) (x : SV) (lo hi mx : Option (Int × Bool)) : Option (List Prop × SV) :=
  bif mx.isSome && !hi.isSome then none else
  (T.at t).bind fun i =>
    let l := lowB lo
    match x with
    | .ptr b off => (arrD i).bind fun d => (T.at d.2).bind fun ei =>
      let h := highB d.1 hi; let m := highB d.1 mx
      bif allClosed [lo, hi, mx] then
        bif decide (0 ≤ l) && decide (l ≤ h) && decide (h ≤ m) && decide (m ≤ d.1) then some ([], .sl b (bif decide (m = l) then off else off + l.toNat * ei.size) (h - l).toNat (m - l).toNat) else none
      else bif Nat.beq off 0 && Nat.beq ei.size 1 then some ([0 ≤ l, l ≤ h, h ≤ m, m ≤ d.1], .os b (if m = l then 0 else l.toNat) (h - l).toNat (m - l).toNat) else none
    | .sl b off len cap => (slD i).bind fun e => (T.at e).bind fun ei =>
      let h := highB len hi; let m := highB cap mx
      bif allClosed [lo, hi, mx] then
        bif decide (0 ≤ l) && decide (l ≤ h) && decide (h ≤ m) && decide (m ≤ cap) then some ([], .sl b (bif decide (m = l) then off else off + l.toNat * ei.size) (h - l).toNat (m - l).toNat) else none
      else bif Nat.beq ei.size 1 then some ([0 ≤ l, l ≤ h, h ≤ m, m ≤ cap], .os b (if m = l then off else off + l.toNat) (h - l).toNat (m - l).toNat) else none
    | .os b off len cap => (slD i).bind fun e => (T.at e).bind fun ei => bif Nat.beq ei.size 1 then
      let h := highB len hi; let m := highB cap mx
      some ([0 ≤ l, l ≤ h, h ≤ m, m ≤ cap], .os b (if m = l then off else off + l.toNat) (h - l).toNat (m - l).toNat) else none
    | .on b len z => (slD i).bind fun e => match lo, mx with
      | none, none => (onLen rows b).bind fun w => (T.at e).bind fun ei => bif Nat.beq w.1.sz ei.size then some ([0 ≤ highB len hi, (highB len hi).toNat * ei.size ≤ w.2], .on b (highB len hi).toNat z) else none
      | _, _ => none
    | .rd k v xs => (slD i).bind fun e => (T.at e).bind fun ei => bif Nat.beq ei.size 1 then
      let h := highB xs.length hi
      match mx with
      | none => some ([0 ≤ l, l ≤ h, h ≤ xs.length], .rd k (cutV v l.toNat h.toNat none) ((xs.drop l.toNat).take (h - l).toNat))
      | some m => some ([0 ≤ l, l ≤ h, h ≤ m.1, m.1 ≤ xs.length], .rd k (cutV v l.toNat h.toNat (some m.1.toNat)) ((xs.drop l.toNat).take (h - l).toNat))
      else none
    | .str s => bif isStrD i then (match mx with
      | none => some ([0 ≤ l, l ≤ highB s.size hi, highB s.size hi ≤ s.size], .str (s.extract l.toNat (highB s.size hi).toNat))
      | some _ => none) else none
    | _ => none

/-- The operations that leave the memory alone: what is owed, what they yield. -/
def pureOp (T : Tab) (s : SS) (op : Op) : Option (List Prop × SV) :=
  match op with
  | .move x | .assign x => (ev s.tm x).map fun v => ([], v)
  | .pick c a b => (ev s.tm c).bind fun c => (asB c).bind fun q =>
    bif q.2 then (ev s.tm (bif q.1 then a else b)).map fun v => ([], v)
    else (ev s.tm a).bind fun a => (ev s.tm b).bind fun b => (pickS q.1 a b).map fun v => ([], v)
  | .build t parts => (evP s.tm parts.toList).bind fun ps => (buildS T t ps).map fun v => ([], v)
  | .load t x => (ev s.tm x).bind fun x => loadS T s.rows t x
  | .binOp op t x y _ => (ev s.tm x).bind fun x => (ev s.tm y).bind fun y => bin T op t x y
  | .unOp op _ x => (ev s.tm x).bind fun x => un op x
  | .convert src dst x => bif (T.at src).isSome then (ev s.tm x).bind fun x => (match conv T dst x with
    | some r => some r
    | none => convS T s.rows src dst x) else none
  | .sliceToArrayPointer t x => (ev s.tm x).bind fun x => toArr T s.rows t x
  | .slice t x lo hi mx => (ev s.tm x).bind fun x => (optI s.tm lo).bind fun lo => (optI s.tm hi).bind fun hi => (optI s.tm mx).bind fun mx => sliceS T s.rows t x lo hi mx
  | .makeFunc f first cap => (evL s.tm first.toList).bind fun a => (evL s.tm cap.toList).map fun b => ([], .fn f a b)
  | .fieldAddr t x f => (ev s.tm x).bind fun x => (fieldA T t x f).map fun v => ([], v)
  | .field t x f => (ev s.tm x).bind fun x => (fieldV T t x f).map fun v => ([], v)
  | .indexAddr t x i => (ev s.tm x).bind fun x => (ev s.tm i).bind fun i => indexA T s.rows t x i
  | .index t x i => (ev s.tm x).bind fun x => (ev s.tm i).bind fun i => indexV T t x i
  | .extract x i => (ev s.tm x).bind fun x => (extractS x i).map fun v => ([], v)
  | .nilCheck x => (ev s.tm x).bind fun x => bif isPtr x then some ([], x) else none
  | .call c => lenCall T s c
  | _ => none

/-- A store: what is owed, the row, its cells behind it. -/
def storeS (T : Tab) (rows : List (Option Row)) (t : TypeId) (x v : SV) : Option (List Prop × Nat × Row) :=
  (T.at t).bind fun i =>
    match x with
    | .ptr b off => (rowOf rows b).bind fun r => (valueCells v).bind fun new => bif Nat.beq (widthL new) i.size && Nat.blt 0 i.size then
        match overC r.cs off i.size new with
        | some cs => some ([], b, ⟨r.ty, cs, r.sz⟩)
        | none => bif i.agg then none else (asI v).bind fun q => (setIn r.cs off q.1 q.2.1).map fun p => (p.1, b, ⟨r.ty, p.2, r.sz⟩)
      else none
    | .pte b off e => bif i.agg then none else bif Nat.beq i.size 1 then (rowOf rows b).bind fun r => (intsAt r.cs off).bind fun z => (asI v).bind fun q => (setE r.cs off e q.1 q.2.1).map fun p => (([0 ≤ e, e < z.2.1] : List Prop) ++ p.1, b, ⟨r.ty, p.2, r.sz⟩) else none
    | _ => none

def zerosL : Nat → List SV → List SV
  | 0, _ => []
  | n + 1, z => z ++ zerosL n z

/-- The operations that make a row: their value by the row's number, the row. -/
def newOp (T : Tab) (s : SS) (op : Op) : Option ((Nat → SV) × Row) :=
  match op with
  | .alloc t => (T.at t).map fun i => (fun b => .ptr b 0, ⟨t, i.zero, 0⟩)
  | .box t x => (ev s.tm x).bind fun v => (valueCells v).map fun l => (fun b => .ptr b 0, ⟨t, l, 0⟩)
  | .buildSlice t len parts => (T.at t).bind fun i => (slD i).bind fun e => (T.at e).bind fun ei => (evP s.tm parts.toList).bind fun ps =>
      bif Nat.blt (len * ei.size) 16777216 && Nat.beq (widthL ei.zero) ei.size && Nat.blt 0 ei.size && Nat.blt 0 len then
        (fillC (fun j => some (j * ei.size, ei.size)) (zerosL len ei.zero) ps).map fun l => (fun b => .sl b 0 len len, ⟨e, l, 0⟩)
      else none
  | _ => none
def storeOp (T : Tab) (s : SS) (op : Op) : Option (List Prop × Nat × Row) :=
  match op with
  | .store t x v => (ev s.tm x).bind fun x => (ev s.tm v).bind fun v => storeS T s.rows t x v
  | _ => none

/-- What an operation does to the rows: what is owed, what it yields, the rows it lays, the rows it reads. -/
structure Eff where
  ps : List Prop
  v : SV
  puts : List (Nat × Option Row)
  rds : List Nat

/-- Integers laid into the piece that holds an offset (closed), so many at most. -/
def spliceC : List SV → Nat → IntKind → Nat → List Int → Option (List Prop × List SV)
  | [], _, _, _, _ => none
  | .ints k n xs :: r, o, k', m, ys =>
    bif Nat.blt o n then (bif decide (k = k') && Nat.ble (o + m) n then some ([xs.length = n, ys.length ≤ m], .ints k n (xs.take o ++ ys ++ xs.drop (o + ys.length)) :: r) else none)
    else (spliceC r (o - n) k' m ys).map fun q => (q.1, .ints k n xs :: q.2)
  | c :: r, o, k', m, ys => bif Nat.beq o 0 then none else (spliceC r (o - 1) k' m ys).map fun q => (q.1, c :: q.2)
def spliceE : List SV → Nat → IntKind → List Int → Option (List Prop × List SV)
  | [.ints k n xs], o, k', ys => bif decide (k = k') then some ([xs.length = n, o + ys.length ≤ n], [.ints k n (xs.take o ++ ys ++ xs.drop (o + ys.length))]) else none
  | _, _, _, _ => none
/-- Integers laid over the first elements of a slice. -/
def layInts (rows : List (Option Row)) (k : IntKind) (dst : SV) (ys : List Int) : Option (List Prop × Nat × Row) :=
  match dst with
  | .sl b off len _ => (rowOf rows b).bind fun r => (spliceC r.cs off k len ys).map fun q => ((ys.length ≤ len) :: q.1, b, ⟨r.ty, q.2, r.sz⟩)
  | .os b off len _ => (rowOf rows b).bind fun r => (spliceE r.cs off k ys).map fun q => ((ys.length ≤ len) :: q.1, b, ⟨r.ty, q.2, r.sz⟩)
  | .on b len _ => (rowOf rows b).bind fun r => bif Nat.beq r.sz 0 then none else (spliceE r.cs 0 k ys).map fun q => ((ys.length ≤ len) :: q.1, b, ⟨r.ty, q.2, r.sz⟩)
  | _ => none
def lenN : SV → Option Nat
  | .sl _ _ len _ | .os _ _ len _ | .on _ len _ => some len
  | _ => none
def copyS (T : Tab) (rows : List (Option Row)) (t : TypeId) (dst src : SV) : Option Eff :=
  (T.at t).bind fun i => (slD i).bind fun e => (T.at e).bind fun ei => (intD ei).bind fun k => bif Nat.beq ei.size 1 then
    (sliceInts rows k src).bind fun q => (lenN dst).bind fun len => (layInts rows k dst (q.2.2.take len)).map fun z =>
      ⟨q.1 ++ z.1, .int .i64 (min q.2.1 len : Nat), [(z.2.1, some z.2.2)], z.2.1 :: rowsOfV src⟩
  else none
/-- Is it one zero? -/
def isZero1 (k : IntKind) : List SV → Bool
  | [.lit k' n] => decide (k' = k) && decide (n = 0)
  | _ => false
def clearS (T : Tab) (rows : List (Option Row)) (t : TypeId) (dst : SV) : Option Eff :=
  (T.at t).bind fun i => (slD i).bind fun e => (T.at e).bind fun ei => (intD ei).bind fun k => bif Nat.beq ei.size 1 && isZero1 k ei.zero then
    (lenN dst).bind fun len => (layInts rows k dst (List.replicate len 0)).map fun z => ⟨z.1, .tup [], [(z.2.1, some z.2.2)], [z.2.1]⟩
  else none
/-- A bound that every list keeps. -/
def most : Nat := 68719476736
/-- The cells of a slice's elements, so many (closed). -/
def sliceCells (rows : List (Option Row)) (sz : Nat) (v : SV) : Option (Nat × List SV) :=
  match v with
  | .sl b off len _ => (rowOf rows b).bind fun r => (dropC r.cs off).bind fun d => (takeC d (len * sz)).bind fun l => bif noTop l then some (len, l) else none
  | .on b len _ => (onLen rows b).bind fun w => bif Nat.beq (len * sz) (widthL w.1.cs) && noTop w.1.cs then some (len, w.1.cs) else none
  | .val v => bif isNilSlice v then some (0, []) else none
  | _ => none
def appendS (T : Tab) (rows : List (Option Row)) (b : Nat) (t : TypeId) (x y : SV) : Option Eff :=
  (T.at t).bind fun i => (slD i).bind fun e => (T.at e).bind fun ei => bif Nat.ble ei.bytes 1024 && Nat.blt 0 ei.size && Nat.beq (widthL ei.zero) ei.size then
    match intD ei with
    | some k => bif Nat.beq ei.size 1 then (sliceInts rows k y).bind fun q =>
      (match x with
      | .val v => bif isNilSlice v then some ⟨q.1 ++ [q.2.1 ≤ most], .on b q.2.1 true, [(b, some ⟨e, [.ints k q.2.1 q.2.2], 1⟩)], rowsOfV y⟩ else none
      | .on j len z => (rowOf rows j).bind fun r => (onePiece r.cs).bind fun p => bif decide (p.1 = k) && Nat.beq r.sz 1 && decide (r.ty = e) then
        some ⟨q.1 ++ [len = p.2.1, p.2.2.length = p.2.1, p.2.1 + q.2.1 ≤ most], .on b (p.2.1 + q.2.1) z, [(j, none), (b, some ⟨e, [.ints k (p.2.1 + q.2.1) (p.2.2 ++ q.2.2)], 1⟩)], j :: rowsOfV y⟩ else none
      | _ => none) else none
    | none => (sliceCells rows ei.size y).bind fun q =>
      (match x with
      | .val v => bif isNilSlice v && cellsB q.2 then some ⟨[q.1 ≤ most], .on b q.1 true, [(b, some ⟨e, q.2, ei.size⟩)], rowsOfV y⟩ else none
      | .on j len z => (rowOf rows j).bind fun r => bif cellsB q.2 && Nat.beq r.sz ei.size && decide (r.ty = e) && Nat.beq (len * ei.size) (widthL r.cs) then
        some ⟨[len + q.1 ≤ most], .on b (len + q.1) z, [(j, none), (b, some ⟨e, r.cs ++ q.2, ei.size⟩)], j :: rowsOfV y⟩ else none
      | _ => none)
  else none
/-- An append of a slice's elements (not of zeros). -/
def appTy (T : Tab) (t u : TypeId) : Bool := match T.at u with
  | some i => (slD i).isSome || isStrD i
  | none => false
def makeS (T : Tab) (b : Nat) (t : TypeId) (len cap : SV) : Option Eff :=
  (T.at t).bind fun i => (slD i).bind fun e => (T.at e).bind fun ei => (intD ei).bind fun k => (asI len).bind fun l => (asI cap).bind fun c =>
    bif Nat.beq ei.size 1 && Nat.ble ei.bytes 1024 && isZero1 k ei.zero then
      some ⟨[0 ≤ l.2.1, l.2.1 ≤ c.2.1, c.2.1 ≤ most], .on b l.2.1.toNat false, [(b, some ⟨e, [.ints k l.2.1.toNat (List.replicate l.2.1.toNat 0)], 1⟩)], []⟩
    else none
/-- New bytes out of a text. -/
def bytesS (T : Tab) (b : Nat) (src dst : TypeId) (x : SV) : Option Eff :=
  (T.at src).bind fun si => (T.at dst).bind fun di => (slD di).bind fun e => (T.at e).bind fun ei => (intD ei).bind fun k => (asS x).bind fun s =>
    bif isStrD si && decide (k = .u8) && Nat.beq ei.size 1 then
      some ⟨[s.size ≤ most], .on b s.size false, [(b, some ⟨e, [.ints k s.size (bytesI s)], 1⟩)], []⟩
    else none
def listOp (T : Tab) (s : SS) (b : Nat) (op : Op) : Option Eff :=
  match op with
  | .makeSlice t len cap => (ev s.tm len).bind fun len => (ev s.tm cap).bind fun cap => makeS T b t len cap
  | .call ⟨.builtin .append, ⟨[x, y]⟩, ⟨[t, u]⟩⟩ => bif appTy T t u then (ev s.tm x).bind fun x => (ev s.tm y).bind fun y => appendS T s.rows b t x y else none
  | .call ⟨.builtin .copy, ⟨[x, y]⟩, ⟨t :: _⟩⟩ => (ev s.tm x).bind fun x => (ev s.tm y).bind fun y => copyS T s.rows t x y
  | .call ⟨.builtin .clear, ⟨[x]⟩, ⟨[t]⟩⟩ => (ev s.tm x).bind fun x => clearS T s.rows t x
  | _ => none
def effOp (T : Tab) (s : SS) (b : Nat) (op : Op) : Option Eff :=
  match newOp T s op with
  | some (mk, r) => some ⟨[], mk b, [(b, some r)], []⟩
  | none => match storeOp T s op with
    | some (ps, c, r) => some ⟨ps, .tup [], [(c, some r)], [c]⟩
    | none => listOp T s b op
/-- Does it make a row? -/
def isNew : Op → Bool
  | .alloc _ | .box _ _ | .buildSlice _ _ _ | .makeSlice _ _ _ => true
  | .call ⟨.builtin .append, _, _⟩ => true
  | _ => false
def putsL : List (Nat × Option Row) → List (Option Row) → List (Option Row)
  | [], rows => rows
  | (b, r) :: l, rows => putsL l (rows.set b r)
end Sx
end Go.Proofs.Ytmmejomalfjcnaa
