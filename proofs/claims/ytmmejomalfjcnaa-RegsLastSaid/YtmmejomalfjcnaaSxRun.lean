/- The symbolic executor over code, and that it is right. No condition. -/
import Derived.Test.YtmmejomalfjcnaaSxEff
namespace Go.Proofs.Ytmmejomalfjcnaa
open Go.RowKit
set_option linter.unusedVariables false
set_option linter.unusedSimpArgs false
namespace Sx

def andL : List Prop → Prop → Prop
  | [], k => k
  | p :: ps, k => p ∧ andL ps k
theorem andL_out : ∀ {ps : List Prop} {k : Prop}, andL ps k → All ps ∧ k
  | [], k, h => ⟨(fun p hp => by cases hp), h⟩
  | p :: ps, k, h => by
    obtain ⟨h1, h2⟩ := h
    obtain ⟨h3, h4⟩ := andL_out h2
    refine ⟨fun q hq => ?_, h4⟩
    rcases List.mem_cons.1 hq with rfl | hq
    · exact h1
    · exact h3 q hq

abbrev Rows := List (Option Row)
/-- How a call of a function is dealt with: from its arguments and the rows, with what comes behind it. -/
abbrev Handler := List SV → Rows → (SV → Rows → Prop) → Prop

/-- A loop by an invariant: the states at its head, as a function of parameters. -/
structure LoopSpec where
  X : Type
  T : X → SS
  I : X → Prop
  μ : X → Nat

structure Ctx where
  T : Tab
  tbl : FuncId → Option Handler
  pure : FuncId → Option (List SV → Option (List Prop × SV))
  must : Nat → Option Bool
  loop : Nat → Option LoopSpec
  nt : Nat
  n0 : Nat

mutual
/-- The value reckoned out, and handed on. -/
def forceSV : SV → (SV → Prop) → Prop
  | .top, K => K .top
  | .lit k n, K => K (.lit k n)
  | .int k n, K => K (.int k n)
  | .litb b, K => bif b then K (.litb true) else K (.litb false)
  | .bool b, K => K (.bool b)
  | .str s, K => K (.str s)
  | .val v, K => K (.val v)
  | .hnd b, K => K (.hnd b)
  | .ptr i o, K => K (.ptr i o)
  | .pte i o e, K => K (.pte i o e)
  | .sl i o l c, K => K (.sl i o l c)
  | .os i o l c, K => K (.os i o l c)
  | .on i l z, K => K (.on i l z)
  | .gp g o, K => K (.gp g o)
  | .gpe g o s n e, K => K (.gpe g o s n e)
  | .rd k v xs, K => K (.rd k v xs)
  | .rda k v xs e, K => K (.rda k v xs e)
  | .rs sz v n f, K => K (.rs sz v n f)
  | .rsa sz v n f e o, K => K (.rsa sz v n f e o)
  | .ints k n xs, K => K (.ints k n xs)
  | .agg cs, K => forceL cs fun cs => K (.agg cs)
  | .tup cs, K => forceL cs fun cs => K (.tup cs)
  | .fn f a b, K => forceL a fun a => forceL b fun b => K (.fn f a b)
def forceL : List SV → (List SV → Prop) → Prop
  | [], K => K []
  | c :: cs, K => forceSV c fun c => forceL cs fun cs => K (c :: cs)
end
def forceRows : Rows → (Rows → Prop) → Prop
  | [], K => K []
  | none :: r, K => forceRows r fun r => K (none :: r)
  | some x :: r, K => forceL x.cs fun cs => forceRows r fun r => K (some ⟨x.ty, cs, x.sz⟩ :: r)
mutual
theorem forceSV_out : ∀ {v : SV} {K : SV → Prop}, forceSV v K → K v
  | .agg cs, K, h => forceL_out (l := cs) (K := fun cs => K (.agg cs)) h
  | .tup cs, K, h => forceL_out (l := cs) (K := fun cs => K (.tup cs)) h
  | .fn f a b, K, h => forceL_out (l := b) (K := fun b => K (.fn f a b)) (forceL_out (l := a) (K := fun a => forceL b fun b => K (.fn f a b)) h)
  | .litb b, K, h => by cases b <;> exact h
  | .top, K, h | .lit _ _, K, h | .int _ _, K, h | .bool _, K, h | .str _, K, h | .val _, K, h | .hnd _, K, h | .ptr _ _, K, h | .pte _ _ _, K, h | .sl _ _ _ _, K, h | .os _ _ _ _, K, h | .on _ _ _, K, h | .gp _ _, K, h | .gpe _ _ _ _ _, K, h | .rd _ _ _, K, h | .rda _ _ _ _, K, h | .rs _ _ _ _, K, h | .rsa _ _ _ _ _ _, K, h | .ints _ _ _, K, h => h
theorem forceL_out : ∀ {l : List SV} {K : List SV → Prop}, forceL l K → K l
  | [], K, h => h
  | c :: cs, K, h => forceL_out (l := cs) (K := fun cs => K (c :: cs)) (forceSV_out (v := c) (K := fun c => forceL cs fun cs => K (c :: cs)) h)
end
theorem forceRows_out : ∀ {r : Rows} {K : Rows → Prop}, forceRows r K → K r
  | [], K, h => h
  | none :: r, K, h => forceRows_out (r := r) (K := fun r => K (none :: r)) h
  | some x :: r, K, h => forceRows_out (r := r) (K := fun r => K (some x :: r)) (forceL_out (l := x.cs) (K := fun cs => forceRows r fun r => K (some ⟨x.ty, cs, x.sz⟩ :: r)) h)

def putS (cx : Ctx) (tm : List (Nat × SV)) (dst : Option Tmp) (v : SV) (k : List (Nat × SV) → Prop) : Prop :=
  match dst with
  | none => k tm
  | some d => bif Nat.blt d cx.nt then forceSV v fun v => k ((d, v) :: tm) else False

def callOf (s : SS) (op : Op) : Option (FuncId × List SV) :=
  match op with
  | .call ⟨.value f, args, _⟩ => (ev s.tm f).bind fun f => match f with
    | .fn (.func g) first cap => (evL s.tm args.toList).map fun a => (g, first ++ a ++ cap)
    | _ => none
  | _ => none

mutual
/-- Closed integers and bools taken as open ones: as contracts have them. -/
def soft : SV → SV
  | .lit k n => .int k n
  | .litb b => .bool b
  | .agg cs => .agg (softL cs)
  | .tup cs => .tup (softL cs)
  | v => v
def softL : List SV → List SV
  | [] => []
  | c :: cs => soft c :: softL cs
end
def pureCall (cx : Ctx) (s : SS) (op : Op) : Option (List Prop × SV) :=
  (callOf s op).bind fun q => (cx.pure q.1).bind fun h => h (softL q.2)

/-- What leaves the rows alone: an operation, a call of a function that only makes new memory. -/
def quietOp (cx : Ctx) (s : SS) (op : Op) : Option (List Prop × SV) :=
  match pureOp cx.T s op with
  | some r => some r
  | none => pureCall cx s op

def padRows (op : Op) (rows : Rows) : Rows := bif isNew op then rows ++ [none] else rows
def stepO (cx : Ctx) (o : Oper) (s : SS) (k : SS → Prop) : Prop :=
  match quietOp cx s o.op with
  | some (ps, v) => andL ps (putS cx s.tm o.dst v fun tm => k ⟨tm, s.rows⟩)
  | none =>
    match effOp cx.T ⟨s.tm, padRows o.op s.rows⟩ s.rows.length o.op with
    | some e => andL e.ps (forceRows (putsL e.puts (padRows o.op s.rows)) fun rows => putS cx s.tm o.dst e.v fun tm => k ⟨tm, rows⟩)
    | none =>
      match callOf s o.op with
      | some (f, args) =>
        match cx.tbl f with
        | some h => h args s.rows fun res rows => forceRows rows fun rows => putS cx s.tm o.dst res fun tm => k ⟨tm, rows⟩
        | none => False
      | none => False

/-- A test: closed; or by the plan; or both ways. The slot bears its value from there on. -/
def branch (cx : Ctx) (d : Nat) (b c : Bool) (s : SS) (k : Bool → SS → Prop) : Prop :=
  bif c then k b s else
  match cx.must d with
  | some true => b = true ∧ k true ⟨(d, .litb true) :: s.tm, s.rows⟩
  | some false => b = false ∧ k false ⟨(d, .litb false) :: s.tm, s.rows⟩
  | none => (b = true → k true ⟨(d, .litb true) :: s.tm, s.rows⟩) ∧ (b = false → k false ⟨(d, .litb false) :: s.tm, s.rows⟩)

/-- What an operation that was passed over has left in its slot. -/
def isSkip : SV → Bool
  | .tup [] => true
  | _ => false

def execOps (cx : Ctx) (all : Array Oper) : List Oper → SS → (SS → Prop) → Prop
  | [], s, k => k s
  | o :: r, s, k =>
    match o.guard with
    | none => stepO cx o s fun s => execOps cx all r s k
    | some (j, want) =>
      match (all[j]?).bind (·.dst) with
      | some d =>
        match s.tm.lookup d with
        | some v =>
          bif isSkip v then putS cx s.tm o.dst (.tup []) fun tm => execOps cx all r ⟨tm, s.rows⟩ k else
          match asB v with
          | some (b, c) => branch cx d b c s fun b s => bif b == want then stepO cx o s fun s => execOps cx all r s k else putS cx s.tm o.dst (.tup []) fun tm => execOps cx all r ⟨tm, s.rows⟩ k
          | none => False
        | none => False
      | none => False

/-- What an operation of a region that draws its order does: its slot, its value, the rows that it makes or writes, the place of the row that it makes, the rows that it reads. -/
structure Rec where
  dst : Option Tmp
  v : SV
  puts : List (Nat × Option Row)
  new : Option Nat
  rds : List Nat

def applyRec (s : SS) (r : Rec) : SS :=
  ⟨match r.dst with
    | some d => (d, r.v) :: s.tm
    | none => s.tm, putsL r.puts s.rows⟩

def listRow : SV → List Nat
  | .on i _ _ => [i]
  | _ => []
def evRows (f : SV → List Nat) (tm : List (Nat × SV)) (x : Operand) : List Nat := match ev tm x with
  | some v => f v
  | none => []
def readRow (s : SS) : Op → List Nat
  | .load _ x => evRows rowsOfV s.tm x
  | .convert _ _ x => evRows rowsOfV s.tm x
  | .indexAddr _ x _ => evRows listRow s.tm x
  | .slice _ x _ _ _ => evRows listRow s.tm x
  | .sliceToArrayPointer _ x => evRows listRow s.tm x
  | _ => []

/-- A choice whose test is known. -/
def knownPick (kn : List (Nat × Bool)) : Op → Option Operand
  | .pick (.tmp c) a b => (kn.lookup c).map fun q => bif q then a else b
  | _ => none

/-- One operation of such a region: b: the row that it would make. -/
def drawStep (cx : Ctx) (kn : List (Nat × Bool)) (b : Nat) (s : SS) (o : Oper) : Option (List Prop × Rec) :=
  match knownPick kn o.op with
  | some x => (ev s.tm x).map fun v => ([], ⟨o.dst, v, [], none, []⟩)
  | none =>
    match quietOp cx s o.op with
    | some (ps, v) => some (ps, ⟨o.dst, v, [], none, readRow s o.op⟩)
    | none => (effOp cx.T s b o.op).map fun e => (e.ps, ⟨o.dst, e.v, e.puts, bif isNew o.op then some b else none, e.rds⟩)

def forcePuts : List (Nat × Option Row) → (List (Nat × Option Row) → Prop) → Prop
  | [], K => K []
  | (b, none) :: l, K => forcePuts l fun l => K ((b, none) :: l)
  | (b, some x) :: l, K => forceL x.cs fun cs => forcePuts l fun l => K ((b, some ⟨x.ty, cs, x.sz⟩) :: l)
def forceRec (r : Rec) (K : Rec → Prop) : Prop :=
  forceSV r.v fun v => forcePuts r.puts fun p => K ⟨r.dst, v, p, r.new, r.rds⟩

def dstB (cx : Ctx) : Option Tmp → Bool
  | none => true
  | some d => Nat.blt d cx.nt

def dropK (d : Option Tmp) : List (Nat × Bool) → List (Nat × Bool)
  | [] => []
  | (e, q) :: r => bif d == some e then dropK d r else (e, q) :: dropK d r

/-- The operations in the text's order: the state, what each did, what tests are known. -/
def drawOps (cx : Ctx) (all : Array Oper) : List Oper → Nat → SS → List Rec → List (Nat × Bool) → (SS → List Rec → List (Nat × Bool) → Prop) → Prop
  | [], _, s, recs, kn, K => K s recs kn
  | o :: r, b, s, recs, kn, K =>
    bif dstB cx o.dst then
    let b' := bif isNew o.op then b + 1 else b
    let go (kn : List (Nat × Bool)) : Prop := match drawStep cx kn b s o with
      | some (ps, rc) => andL ps (forceRec rc fun rc => drawOps cx all r b' (applyRec s rc) (recs ++ [rc]) (dropK o.dst kn) K)
      | none => False
    let skip (kn : List (Nat × Bool)) : Prop := drawOps cx all r b' (applyRec s ⟨o.dst, .tup [], [], none, []⟩) (recs ++ [⟨o.dst, .tup [], [], none, []⟩]) (dropK o.dst kn) K
    match o.guard with
    | none => go kn
    | some (j, want) =>
      match (all[j]?).bind (·.dst) with
      | some d =>
        match kn.lookup d with
        | some q => bif q == want then go kn else skip kn
        | none =>
          match s.tm.lookup d with
          | some v =>
            bif isSkip v then skip kn else
            match asB v with
            | some (x, c) =>
              bif c then (bif x == want then go kn else skip kn) else
              match cx.must d with
              | some q => x = q ∧ (bif q == want then go ((d, q) :: kn) else skip ((d, q) :: kn))
              | none => (x = want → go ((d, want) :: kn)) ∧ (x = (!want) → skip ((d, !want) :: kn))
            | none => False
          | none => False
      | none => False
    else False

def bindsOn (o : Oper) : List Nat := (o.after.toList.filter (Region.binds .any)).map (·.on)
def maskOf (acc : List Nat) : List Nat → Nat
  | [] => 0
  | e :: es => (2 ^ e ||| acc.getD e 0) ||| maskOf acc es
/-- Of each operation: which are before it, as bits. -/
def befs : List Oper → List Nat → List Nat
  | [], acc => acc
  | o :: r, acc => befs r (acc ++ [maskOf acc (bindsOn o)])
def edgesB : Nat → List Oper → Bool
  | _, [] => true
  | i, o :: r => (bindsOn o).all (fun e => Nat.blt e i) && edgesB (i + 1) r

def noMPuts (b : Nat) : List (Nat × Option Row) → Bool
  | [] => true
  | (_, none) :: l => noMPuts b l
  | (_, some x) :: l => noML b x.cs && noMPuts b l
def noMRec (b : Nat) (r : Rec) : Bool := noM b r.v && noMPuts b r.puts

def touch (x : List (Nat × Option Row)) (b : Nat) : Bool := x.any fun p => Nat.beq p.1 b
def apartRows (x y : Rec) : Bool :=
  x.puts.all (fun p => !(touch y.puts p.1) && !(y.rds.any fun c => Nat.beq p.1 c)) && y.puts.all (fun p => !(x.rds.any fun c => Nat.beq p.1 c))

/-- Each two operations: one before the other, or apart; and nobody that isn't behind one that makes a row names that row. -/
def pairB (all : Array Oper) (os : List (Oper × Rec × Nat)) : Nat → Oper × Rec × Nat → Nat → Bool := fun i x j =>
  match os[j]? with
  | none => true
  | some y =>
    bif Nat.beq i j then true else
    bif Nat.testBit y.2.2 i || Nat.testBit x.2.2 j then true else
    Oper.apart all x.1 y.1 && apartRows x.2.1 y.2.1
def newB (os : List (Oper × Rec × Nat)) (i : Nat) (x : Oper × Rec × Nat) (j : Nat) : Bool :=
  match x.2.1.new with
  | some b => noMPuts b x.2.1.puts && (match os[j]? with
      | some y => bif Nat.beq i j || Nat.testBit y.2.2 i then true else noMRec b y.2.1 && !(touch y.2.1.puts b)
      | none => true)
  | none => true
def zip3 : List Oper → List Rec → List Nat → List (Oper × Rec × Nat)
  | o :: os, r :: rs, m :: ms => (o, r, m) :: zip3 os rs ms
  | _, _, _ => []
def allPairs (all : Array Oper) (os : List (Oper × Rec × Nat)) (n : Nat) : Nat → List (Oper × Rec × Nat) → Bool
  | _, [] => true
  | i, x :: r => (List.range n).all (fun j => pairB all os i x j && newB os i x j) && allPairs all os n (i + 1) r
def drawOK (all : Array Oper) (recs : List Rec) : Bool :=
  let os := zip3 all.toList recs (befs all.toList [])
  Nat.beq recs.length all.size && edgesB 0 all.toList && Region.noSelect all && allPairs all os all.size 0 os

def countNew : List Oper → Nat
  | [] => 0
  | o :: r => bif isNew o.op then countNew r + 1 else countNew r
/-- A region that draws its order. -/
def drawRun (cx : Ctx) (all : Array Oper) (s : SS) (k : SS → Prop) : Prop :=
  drawOps cx all all.toList s.rows.length ⟨s.tm, s.rows ++ List.replicate (countNew all.toList) none⟩ [] [] fun s' recs kn =>
    bif drawOK all recs then forceRows s'.rows fun rows => k ⟨s'.tm, rows⟩ else False

structure Ks where
  n : SS → Prop
  r : SS → Prop
  e : List (Nat × (SS → Prop))

def firstReg : Code → Nat
  | .region id _ _ => id
  | .seq a _ => firstReg a
  | .block _ c => firstReg c
  | .loop c => firstReg c
  | .scope c => firstReg c
  | .cond _ a _ => firstReg a
  | _ => 0

mutual
/-- Is a value the other? (As a proposition: integers by their terms.) -/
def eqv (a : SV) : SV → Prop
  | .top => match a with
    | .ints _ _ _ => False
    | _ => True
  | .int k n => match asI a with
    | some (k', m, _) => bif decide (k' = k) then m = n else False
    | none => False
  | .bool b => match asB a with
    | some (c, _) => c = b
    | none => False
  | .ints k n xs => match a with
    | .ints k' n' ys => bif decide (k' = k) && Nat.beq n' n then ys = xs else False
    | _ => False
  | .agg bs => match a with
    | .agg cs => bif noTop bs then eqvL cs bs else False
    | _ => False
  | .tup bs => match a with
    | .tup cs => bif noTop bs then eqvL cs bs else False
    | _ => False
  | .lit k n => a = .lit k n
  | .litb b => a = .litb b
  | .str s => a = .str s
  | .val v => a = .val v
  | .hnd b => a = .hnd b
  | .ptr i o => a = .ptr i o
  | .pte i o e => match a with
    | .pte i' o' e' => bif Nat.beq i' i && Nat.beq o' o then e' = e else False
    | _ => False
  | .sl i o l c => a = .sl i o l c
  | .os i o l c => match a with
    | .os i' o' l' c' => bif Nat.beq i' i then o' = o ∧ l' = l ∧ c' = c else False
    | .sl i' o' l' c' => bif Nat.beq i' i then o' = o ∧ l' = l ∧ c' = c else False
    | _ => False
  | .on i l z => match a with
    | .on i' l' z' => bif Nat.beq i' i then l' = l ∧ z' = z else False
    | _ => False
  | .gp g o => a = .gp g o
  | .gpe g o s n e => a = .gpe g o s n e
  | .rd k v xs => match a with
    | .rd k' v' ys => bif decide (k' = k) then v' = v ∧ ys = xs else False
    | _ => False
  | .rda k v xs e => a = .rda k v xs e
  | .rs sz v n f => a = .rs sz v n f
  | .rsa sz v n f e o => a = .rsa sz v n f e o
  | .fn f x y => a = .fn f x y
def eqvL (a : List SV) : List SV → Prop
  | [] => match a with
    | [] => True
    | _ => False
  | b :: bs => match a with
    | [] => False
    | c :: cs => eqv c b ∧ eqvL cs bs
end

/-- Does a state fit another one (whose slots it has, whose rows its first rows are)? -/
def fitsTm (tm : List (Nat × SV)) : List (Nat × SV) → Prop
  | [] => True
  | (d, v) :: r => (match tm.lookup d with
    | some u => eqv u v
    | none => False) ∧ fitsTm tm r
def fitsRows : Rows → Rows → Prop
  | _, [] => True
  | [], _ :: _ => False
  | _ :: r, none :: t => fitsRows r t
  | some a :: r, some b :: t => (a.ty = b.ty ∧ a.sz = b.sz ∧ eqvL a.cs b.cs) ∧ fitsRows r t
  | none :: _, some _ :: _ => False
def fits (s t : SS) : Prop := fitsTm s.tm t.tm ∧ fitsRows s.rows t.rows

mutual
def okB (n : Nat) : SV → Bool
  | .ptr i _ => Nat.blt i n
  | .pte i _ _ => Nat.blt i n
  | .sl i _ _ _ => Nat.blt i n
  | .os i _ _ _ => Nat.blt i n
  | .on i _ _ => Nat.blt i n
  | .agg cs => okBL n cs
  | .tup cs => okBL n cs
  | .fn _ a b => okBL n a && okBL n b
  | _ => true
def okBL (n : Nat) : List SV → Bool
  | [] => true
  | c :: cs => okB n c && okBL n cs
end
def okTm (n : Nat) : List (Nat × SV) → Bool
  | [] => true
  | (_, v) :: r => okB n v && okTm n r
def okRows (n : Nat) : Rows → Bool
  | [] => true
  | none :: r => okRows n r
  | some x :: r => okBL n x.cs && okRows n r
/-- Is a state well formed: its blocks among its rows, at least n0 of these? -/
def wellB (n0 : Nat) (s : SS) : Bool := Nat.ble n0 s.rows.length && okTm s.rows.length s.tm && okRows s.rows.length s.rows

def execF (cx : Ctx) (ih : Code → SS → Ks → Prop) (c : Code) (s : SS) (ks : Ks) : Prop :=
  match c with
  | .skip => ks.n s
  | .label _ => ks.n s
  | .region _ ops false => execOps cx ops ops.toList s ks.n
  | .region _ ops true => drawRun cx ops s ks.n
  | .seq a b => ih a s ⟨fun s => ih b s ks, ks.r, ks.e⟩
  | .cond x a b =>
    match ev s.tm x with
    | some v =>
      match asB v, x with
      | some (b', c'), .tmp d => branch cx d b' c' s fun b' s => bif b' then ih a s ks else ih b s ks
      | some (b', c'), _ => bif c' then (bif b' then ih a s ks else ih b s ks) else False
      | none, _ => False
    | none => False
  | .block id c => ih c s ⟨ks.n, ks.r, (id, ks.n) :: ks.e⟩
  | .exit id => match ks.e.lookup id with
    | some k => k s
    | none => False
  | .loop c =>
    match cx.loop (firstReg c) with
    | some L => ∃ x, fits s (L.T x) ∧ L.I x ∧ ∀ x, L.I x → bif wellB cx.n0 (L.T x) then ih c (L.T x) ⟨fun s => ∃ y, fits s (L.T y) ∧ L.I y ∧ L.μ y < L.μ x, ks.r, ks.e⟩ else False
    | none => ih c s ⟨fun s => ih (.loop c) s ks, ks.r, ks.e⟩
  | .ret => ks.r s
  | _ => False

def exec (cx : Ctx) : Nat → Code → SS → Ks → Prop
  | 0 => fun _ _ _ => False
  | n + 1 => execF cx (exec cx n)
end Sx
end Go.Proofs.Ytmmejomalfjcnaa
