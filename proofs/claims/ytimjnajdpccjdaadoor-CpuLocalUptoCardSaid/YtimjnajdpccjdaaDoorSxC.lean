/- The executor, laid together. No condition. -/
import Derived.Test.YtimjnajdpccjdaaDoorSxB
import Derived.LoopN
import Derived.Deep.LoopGhost
import Derived.Orders
namespace Go.Proofs.YtimjnajdpccjdaaDoor
open Go.RowKit
set_option linter.unusedVariables false
set_option linter.unusedSectionVars false
set_option linter.unusedSimpArgs false
section
namespace Sx
def andL : List Prop -> Prop -> Prop
 | [], k => k
 | p :: ps, k => p /\ andL ps k
theorem andL_out : ∀ {ps : List Prop} {k : Prop}, andL ps k -> All ps /\ k
 | [], k, h => ⟨(fun p hp => by cases hp), h⟩
 | p :: ps, k, h => by
   obtain ⟨h1, h2⟩ := h
   obtain ⟨h3, h4⟩ := andL_out h2
   refine ⟨fun q hq => ?_, h4⟩
   rcases List.mem_cons.1 hq with rfl | hq
   ·exact h1
   ·exact h3 q hq
abbrev Rows := List (Option Row)
abbrev Handler := List SV -> Rows -> (SV -> Rows -> Prop) -> Prop
mutual
def soft : SV -> SV
 | .lit k n => .int k n
 | .litb b => .bool b
 | .agg cs => .agg (softL cs)
 | .tup cs => .tup (softL cs)
 | v => v
def softL : List SV -> List SV
 | [] => []
 | c :: cs => soft c :: softL cs
end
def rowOfV : SV -> Option Nat
 | .ptr i _ | .pte i _ _ | .ptm i _ _ _ | .sl i _ _ _ | .os i _ _ _ | .on i _ _ | .ow i _ _ _ _ _ => some i
 | _ => none
def srcOf : List (Nat × Nat) -> Nat -> Option Nat
 | [], _ => none
 | (j, i) :: r, x => bif Nat.beq i x then some j else srcOf r x
def keyOf : List (Nat × Nat) -> Nat -> Option Nat
 | [], _ => none
 | (j, i) :: r, x => bif Nat.beq j x then some i else keyOf r x
def addP (j i : Nat) (m : List (Nat × Nat)) : List (Nat × Nat) :=
 bif (keyOf m j).isSome || (srcOf m i).isSome then m else m ++ [(j, i)]
def idsTo : Nat -> List (Nat × Nat)
 | 0 => []
 | n + 1 => idsTo n ++ [(n, n)]
mutual
def rnV (m : List (Nat × Nat)) : SV -> Option SV
 | .ptr i o => (srcOf m i).map fun j => .ptr j o
 | .pte i o e => (srcOf m i).map fun j => .pte j o e
 | .ptm i z e o => (srcOf m i).map fun j => .ptm j z e o
 | .sl i o l c => (srcOf m i).map fun j => .sl j o l c
 | .os i o l c => (srcOf m i).map fun j => .os j o l c
 | .on i l z => (srcOf m i).map fun j => .on j l z
 | .ow i z p o n c => (srcOf m i).map fun j => .ow j z p o n c
 | .agg cs => (rnL m cs).map .agg
 | .tup cs => (rnL m cs).map .tup
 | .fn f a b => (rnL m a).bind fun a => (rnL m b).map fun b => .fn f a b
 | v => some v
def rnL (m : List (Nat × Nat)) : List SV -> Option (List SV)
 | [] => some []
 | c :: cs => (rnV m c).bind fun c => (rnL m cs).map fun cs => c :: cs
end
def rnT (m : List (Nat × Nat)) (v : SV) : SV := match rnV m v with
 | some u => u
 | none => .top
def rnTL (m : List (Nat × Nat)) : List SV -> List SV
 | [] => []
 | c :: cs => rnT m c :: rnTL m cs
def rnTm (m : List (Nat × Nat)) : List (Nat × SV) -> List (Nat × SV)
 | [] => []
 | (d, v) :: r => (d, rnT m v) :: rnTm m r
def rnRow (m : List (Nat × Nat)) (rows : Rows) (j : Nat) : Option Row := match keyOf m j with
 | some i => match rows[i]? with
   | some (some r) => some ⟨r.ty, rnTL m r.cs, r.sz, r.ob⟩
   | _ => none
 | none => none
def rnRows (m : List (Nat × Nat)) (rows : Rows) : Nat -> Rows
 | 0 => []
 | n + 1 => rnRows m rows n ++ [rnRow m rows n]
def rnOK (n0 n : Nat) (m : List (Nat × Nat)) : Bool :=
 m.all (fun p => decide (keyOf m p.1 = some p.2) && decide (srcOf m p.2 = some p.1) && Nat.blt p.1 n) && (idsTo n0).all (fun p => decide (keyOf m p.1 = some p.2))
structure Alt where
 p : Option Prop
 res : SV
 rows : Rows
def Alt.holds (x : Alt) : Prop := match x.p with
 | none => True
 | some p => p
abbrev ECon := List SV -> Rows -> Option (List Prop × List Alt)
def AltK (alts : List Alt) (res : SV) (rows : Rows) : Prop := ∃ x, x ∈ alts /\ x.holds /\ res = x.res /\ rows = x.rows
mutual
def reachV (m : List Nat) : SV -> List Nat
 | .agg cs => reachL m cs
 | .tup cs => reachL m cs
 | .fn _ a b => reachL (reachL m a) b
 | v => match rowOfV v with
   | some i => bif m.any (Nat.beq i) then m else m ++ [i]
   | none => m
def reachL (m : List Nat) : List SV -> List Nat
 | [] => m
 | c :: cs => reachL (reachV m c) cs
end
def reachRows (rows : Rows) : List Nat -> List Nat -> List Nat
 | [], m => m
 | i :: r, m => reachRows rows r (match rows[i]? with
   | some (some x) => reachL m x.cs
   | _ => m)
def reach (args : List SV) (rows : Rows) : List Nat :=
 let m := reachL [] args
 let m := reachRows rows m m
 let m := reachRows rows m m
 reachRows rows m m
def numL : Nat -> List Nat -> List (Nat × Nat)
 | _, [] => []
 | j, i :: r => (j, i) :: numL (j + 1) r
def swapL : List (Nat × Nat) -> List (Nat × Nat)
 | [] => []
 | (j, i) :: r => (i, j) :: swapL r
mutual
def noRd : SV -> Bool
 | .rd _ _ _ | .rda _ _ _ _ | .rs _ _ _ _ | .rsa _ _ _ _ _ _ => false
 | .agg cs => noRdL cs
 | .tup cs => noRdL cs
 | .fn _ a b => noRdL a && noRdL b
 | _ => true
def noRdL : List SV -> Bool
 | [] => true
 | c :: cs => noRd c && noRdL cs
end
def noRdR : Rows -> Bool
 | [] => true
 | none :: r => noRdR r
 | some x :: r => noRdL x.cs && noRdR r
def softRows : Rows -> Rows
 | [] => []
 | none :: r => none :: softRows r
 | some x :: r => some ⟨x.ty, softL x.cs, x.sz, x.ob⟩ :: softRows r
def callD (c : ECon) (R : Rows) (args : List SV) : Option (List Nat × List Prop × List Alt) :=
 (rnL (numL 0 (reach args R)) args).bind fun a0 => (c (softL a0) (softRows (rnRows (numL 0 (reach args R)) R (reach args R).length))).map fun z => (reach args R, z.1, z.2)
def ownF : List SV -> List Bool
 | [] => []
 | c :: cs => (isOwn c).isSome :: ownF cs
def putV (v : Nat -> Value) : Nat -> List Bool -> List SV -> List SV
 | n, true :: fl, .rd k _ xs :: cs => .rd k (v n) xs :: putV v (n + 1) fl cs
 | n, _ :: fl, c :: cs => c :: putV v (n + 1) fl cs
 | _, _, cs => cs
structure OwnSameE (c : ECon) (fl : List Bool) (a0 : List SV) (R0 : Rows) : Prop where
 out : ∀ v : Nat -> Value, c (softL (putV v 0 fl a0)) R0 = c (softL a0) R0
def drawC (l g : List (Nat × Nat)) (m n b : Nat) (bo : Bool) : Bool :=
 rnOK 0 m l && rnOK 0 n g && l.all (fun p => decide (keyOf g p.2 = some p.1) && Nat.blt p.2 n) && g.all (fun p => decide (keyOf l p.2 = some p.1) || (bo && Nat.beq p.1 b))
def finE (R : Rows) (b : Nat) (ps : List Prop) (im own more : List Nat) (alts : List Alt) : Option (Eff × Bool) :=
 match alts with
 | [⟨none, res, rows⟩] =>
   let l := numL 0 im; let bo := Nat.beq (rows.length - im.length) 1; let g := swapL l ++ (bif bo then [(b, im.length)] else [])
   match rnV g res with
   | some v => bif drawC l g im.length R.length b bo && Nat.ble (rows.length - im.length) 1 && own.all (fun i => (srcOf l i).isNone) && noRd res && noRdR rows && notTop v then
      some (⟨ps, v, g.map (fun p => (p.1, rnRow g rows p.1)), im ++ own ++ more, none⟩, bo) else none
   | none => none
 | _ => none
structure LoopSpec where
 X : Type
 T : X -> SS
 I : X -> Prop
 μ : X -> Nat
structure Ctx where
 T : Tab
 tbl : FuncId -> Option Handler
 pure : FuncId -> Option (List SV -> Option (List Prop × SV))
 must : Nat -> Option Bool
 loop : Nat -> SS -> Option LoopSpec
 nt : Nat
 n0 : Nat
 con : FuncId -> Option ECon
 fz : Nat -> SS -> List Nat
 on : Bool
def forceNat (n : Nat) (K : Nat -> Prop) : Prop := match n with
 | 0 => K 0
 | m + 1 => K (m + 1)
theorem forceNat_out {n : Nat} {K : Nat -> Prop} (h : forceNat n K) : K n := by cases n <;> exact h
mutual
def forceSV : SV -> (SV -> Prop) -> Prop
 | .top, K => K .top
 | .lit k n, K => K (.lit k n)
 | .int k n, K => K (.int k n)
 | .litb b, K => bif b then K (.litb true) else K (.litb false)
 | .bool b, K => K (.bool b)
 | .str s, K => K (.str s)
 | .val v, K => K (.val v)
 | .hnd b, K => K (.hnd b)
 | .ptr i o, K => forceNat i fun i => forceNat o fun o => K (.ptr i o)
 | .pte i o e, K => forceNat i fun i => K (.pte i o e)
 | .ptm i z e o, K => forceNat i fun i => forceNat o fun o => K (.ptm i z e o)
 | .many z n f, K => K (.many z n f)
 | .sl i o l c, K => forceNat i fun i => K (.sl i o l c)
 | .os i o l c, K => forceNat i fun i => K (.os i o l c)
 | .on i l z, K => forceNat i fun i => K (.on i l z)
 | .ow i z p o n m, K => forceNat i fun i => K (.ow i z p o n m)
 | .gp g o, K => K (.gp g o)
 | .gpe g o s n e, K => K (.gpe g o s n e)
 | .rd k v xs, K => K (.rd k v xs)
 | .rda k v xs e, K => K (.rda k v xs e)
 | .rs sz v n f, K => K (.rs sz v n f)
 | .rsa sz v n f e o, K => K (.rsa sz v n f e o)
 | .ints k n xs, K => K (.ints k n xs)
 | .agg cs, K => forceL cs fun cs => K (.agg cs)
 | .tup cs, K => forceL cs fun cs => K (.tup cs)
 | .fn f a b, K => forceL a fun a => forceL b fun b => K (.fn f a b)
def forceL : List SV -> (List SV -> Prop) -> Prop
 | [], K => K []
 | c :: cs, K => forceSV c fun c => forceL cs fun cs => K (c :: cs)
end
def forceOb : Option Ob -> (Option Ob -> Prop) -> Prop
 | none, K => K none
 | some (.iter s p), K => K (some (.iter s p))
 | some (.own (.dig st n ws)), K => K (some (.own (.dig st n ws)))
 | some (.own (.mem ps qs m)), K => K (some (.own (.mem ps qs m)))
 | some (.fam (.boxes ty pty k n tot ps ks)), K => K (some (.fam (.boxes ty pty k n tot ps ks)))
def forceRow (x : Row) (K : Row -> Prop) : Prop := forceNat x.ty fun ty => forceNat x.sz fun sz => forceOb x.ob fun ob => forceL x.cs fun cs => K ⟨ty, cs, sz, ob⟩
def forceRows : Rows -> (Rows -> Prop) -> Prop
 | [], K => K []
 | none :: r, K => forceRows r fun r => K (none :: r)
 | some x :: r, K => forceRow x fun x => forceRows r fun r => K (some x :: r)
mutual
theorem forceSV_out : ∀ {v : SV} {K : SV -> Prop}, forceSV v K -> K v
 | .agg cs, K, h => forceL_out (l := cs) (K := fun cs => K (.agg cs)) h
 | .tup cs, K, h => forceL_out (l := cs) (K := fun cs => K (.tup cs)) h
 | .fn f a b, K, h => forceL_out (l := b) (K := fun b => K (.fn f a b)) (forceL_out (l := a) (K := fun a => forceL b fun b => K (.fn f a b)) h)
 | .litb b, K, h => by cases b <;> exact h
 | .ptr i o, K, h => forceNat_out (K := fun o => K (.ptr i o)) (forceNat_out (K := fun i => forceNat o fun o => K (.ptr i o)) h)
 | .pte i o e, K, h => forceNat_out (K := fun i => K (.pte i o e)) h
 | .ptm i z e o, K, h => forceNat_out (K := fun o => K (.ptm i z e o)) (forceNat_out (K := fun i => forceNat o fun o => K (.ptm i z e o)) h)
 | .sl i o l c, K, h => forceNat_out (K := fun i => K (.sl i o l c)) h
 | .os i o l c, K, h => forceNat_out (K := fun i => K (.os i o l c)) h
 | .on i l z, K, h => forceNat_out (K := fun i => K (.on i l z)) h
 | .ow i z p o n m, K, h => forceNat_out (K := fun i => K (.ow i z p o n m)) h
 | .top, K, h | .lit _ _, K, h | .int _ _, K, h | .bool _, K, h | .str _, K, h | .val _, K, h | .hnd _, K, h | .gp _ _, K, h | .gpe _ _ _ _ _, K, h | .rd _ _ _, K, h | .rda _ _ _ _, K, h | .rs _ _ _ _, K, h | .rsa _ _ _ _ _ _, K, h | .ints _ _ _, K, h | .many _ _ _, K, h => h
theorem forceL_out : ∀ {l : List SV} {K : List SV -> Prop}, forceL l K -> K l
 | [], K, h => h
 | c :: cs, K, h => forceL_out (l := cs) (K := fun cs => K (c :: cs)) (forceSV_out (v := c) (K := fun c => forceL cs fun cs => K (c :: cs)) h)
end
theorem forceOb_out {x : Option Ob} {K : Option Ob -> Prop} (h : forceOb x K) : K x := by
 rcases x with _ | (_ | (_ | _ | _) | (_ | _)) <;> exact h
theorem forceRow_out {x : Row} {K : Row -> Prop} (h : forceRow x K) : K x := by
 have h := forceNat_out h
 have h := forceNat_out h
 have h := forceOb_out h
 exact forceL_out (K := fun cs => K ⟨x.ty, cs, x.sz, x.ob⟩) h
theorem forceRows_out : ∀ {r : Rows} {K : Rows -> Prop}, forceRows r K -> K r
 | [], K, h => h
 | none :: r, K, h => forceRows_out (r := r) (K := fun r => K (none :: r)) h
 | some x :: r, K, h => forceRows_out (r := r) (K := fun r => K (some x :: r)) (forceRow_out (K := fun x => forceRows r fun r => K (some x :: r)) h)
def putS (cx : Ctx) (tm : List (Nat × SV)) (dst : Option Tmp) (v : SV) (k : List (Nat × SV) -> Prop) : Prop :=
 match dst with
 | none => k tm
 | some d => bif Nat.blt d cx.nt then forceSV v fun v => k ((d, v) :: tm) else False
def callOf (s : SS) (op : Op) : Option (FuncId × List SV) :=
 match op with
 | .call ⟨.value f, args, _⟩ => (ev s.tm f).bind fun f => match f with
   | .fn (.func g) first cap => (evL s.tm args.toList).map fun a => (g, first ++ a ++ cap)
   | _ => none
 | _ => none
def pureCall (cx : Ctx) (s : SS) (op : Op) : Option (List Prop × SV) :=
 (callOf s op).bind fun q => (cx.pure q.1).bind fun h => h (softL q.2)
mutual
def closedV : SV -> Bool
 | .lit _ _ | .int _ _ | .litb _ | .bool _ | .str _ | .val _ | .hnd _ | .gp _ _ | .ints _ _ _ => true
 | .agg cs => closedL cs
 | .tup cs => closedL cs
 | .fn _ a b => closedL a && closedL b
 | _ => false
def closedL : List SV -> Bool
 | [] => true
 | c :: cs => closedV c && closedL cs
end
mutual
def noRow : SV -> Bool
 | .ptr _ _ => false
 | .pte _ _ _ => false
 | .ptm _ _ _ _ => false
 | .sl _ _ _ _ => false
 | .os _ _ _ _ => false
 | .on _ _ _ => false
 | .ow _ _ _ _ _ _ => false
 | .agg cs => noRowL cs
 | .tup cs => noRowL cs
 | .fn _ a b => noRowL a && noRowL b
 | _ => true
def noRowL : List SV -> Bool
 | [] => true
 | c :: cs => noRow c && noRowL cs
end
structure OwnSame (h : List SV -> Option (List Prop × SV)) (fl : List Bool) (p : List SV) : Prop where
 out : ∀ v : Nat -> Value, h (softL (putV v 0 fl p)) = h (softL p)
def ownCall (cx : Ctx) (s : SS) (op : Op) : Option (List Prop × SV) :=
 (callOf s op).bind fun q => (cx.pure q.1).bind fun h => bif (ownL q.2).isEmpty then none else (readArgs s.rows (fun _ => undef) 0 q.2).bind fun p => (h (softL p.2)).bind fun r =>
   bif noRowL p.2 && closedV r.2 then some (OwnSame h (ownF q.2) p.2 :: (p.1 ++ r.1), r.2) else none
def quietOp (cx : Ctx) (s : SS) (op : Op) : Option (List Prop × SV) :=
 match pureOp cx.T s op with
 | some r => some r
 | none => match pureCall cx s op with
   | some r => some r
   | none => ownCall cx s op
structure FamR where
 t0 : TypeId
 cs : List SV
 ty : TypeId
 pty : TypeId
 k : IntKind
 n : Nat
 tot : Nat
 ps : List (List Int)
 ks : List Nat
def famOf (rows : List (Option Row)) (j : Nat) : Option FamR := match rows[j]? with
 | some (some ⟨t0, cs, 0, some (.fam (.boxes ty pty k n tot ps ks))⟩) => some ⟨t0, cs, ty, pty, k, n, tot, ps, ks⟩
 | _ => none
def boxOf (rows : List (Option Row)) (b : Nat) : Option (TypeId × IntKind × Nat × List Int) := match rows[b]? with
 | some (some ⟨ty, [.ints k n xs], 0, none⟩) => some (ty, k, n, xs)
 | _ => none
def ptrD (i : TyI) : Option TypeId := match i.d with
 | .ptr e => some e
 | _ => none
def famOp (T : Tab) (s : SS) (op : Op) : Option ((SV -> Rows -> Prop) -> Prop) :=
 match op with
 | .indexAddr t x ix => (ev s.tm x).bind fun x => (ev s.tm ix).bind fun ix => (asI ix).bind fun q => match x with
   | .on j n false => (famOf s.rows j).bind fun f => (T.at t).bind fun i => (slD i).bind fun e => (T.at e).bind fun ei => bif Nat.beq ei.size 1 then
      some fun K => 0 <= q.2.1 /\ q.2.1 < n /\ K (.pte j 0 q.2.1) s.rows else none
   | _ => none
 | .load t x => (ev s.tm x).bind fun x => match x with
   | .pte j 0 e => (famOf s.rows j).bind fun f => (T.at t).bind fun i => bif !i.agg && Nat.beq i.size 1 && f.ks.isEmpty && f.cs.isEmpty then
      some fun K => 0 <= e /\ e < f.ps.length /\ K (.ptr s.rows.length 0) (s.rows.set j (some ⟨f.t0, [.ptr s.rows.length 0], 0, some (.fam (.boxes f.ty f.pty f.k f.n f.tot f.ps [e.toNat]))⟩) ++ [some ⟨f.ty, [.ints f.k f.n (f.ps.getD e.toNat [])], 0, none⟩]) else none
   | _ => none
 | .store t x v => (ev s.tm x).bind fun x => (ev s.tm v).bind fun v => match x, v with
   | .pte j 0 e, .ptr b 0 => (famOf s.rows j).bind fun f => (boxOf s.rows b).bind fun g => (T.at t).bind fun i => bif !i.agg && Nat.beq i.size 1 && f.ks.isEmpty && f.cs.isEmpty && decide (g.1 = f.ty) && decide (g.2.1 = f.k) && Nat.beq g.2.2.1 f.n then
      some fun K => 0 <= e /\ e.toNat = f.ps.length /\ f.ps.length < f.tot /\ K .top ((s.rows.set j (some ⟨f.t0, [], 0, some (.fam (.boxes f.ty f.pty f.k f.n f.tot (f.ps ++ [g.2.2.2]) []))⟩)).set b none) else none
   | _, _ => none
 | .makeSlice t len cap => (ev s.tm len).bind fun len => (ev s.tm cap).bind fun cap => (asI len).bind fun l => (asI cap).bind fun c =>
   (T.at t).bind fun i => (slD i).bind fun e => (T.at e).bind fun ei => (ptrD ei).bind fun p => (T.at p).bind fun pi => (arrD pi).bind fun d => (T.at d.2).bind fun di => (intD di).bind fun k => bif Nat.beq ei.size 1 && Nat.ble ei.bytes 1024 then
     some fun K => 0 <= l.2.1 /\ l.2.1 = c.2.1 /\ l.2.1 <= most /\ K (.on s.rows.length l.2.1.toNat false) (s.rows ++ [some ⟨0, [], 0, some (.fam (.boxes p e k d.1 l.2.1.toNat [] []))⟩]) else none
 | _ => none
def blkRow (rows : Rows) (i : Nat) : Bool := match rows[i]? with
 | some (some r) => match r.ob with
   | none => Nat.beq r.sz 0
   | some (.own _) => true
   | _ => false
 | _ => false
def ptrEqS (T : Tab) (s : SS) (op : BinOp) (t : TypeId) (x y : SV) : Option ((SV -> Rows -> Prop) -> Prop) := match x, y with
 | .ptr i o, .ptr j o' => (T.at t).bind fun ti => (ptrD ti).bind fun e => (T.at e).bind fun ei => bif Nat.beq ei.size 0 || !(Nat.beq i j || (blkRow s.rows i && blkRow s.rows j)) then none else
    match op with
    | .eql => some fun k => k (.litb (Nat.beq i j && Nat.beq o o')) s.rows
    | .neq => some fun k => k (.litb (!(Nat.beq i j && Nat.beq o o'))) s.rows
    | _ => none
 | _, _ => none
def slowOp (T : Tab) (s : SS) (op : Op) : Option ((SV -> Rows -> Prop) -> Prop) :=
 match op with
 | .range t x => (ev s.tm x).bind fun x => (T.at t).bind fun i => (asS x).bind fun c => bif isStrD i then some fun k => k (.ptr s.rows.length 0) (s.rows ++ [some ⟨0, [], 0, some (.iter c 0)⟩]) else none
 | .next it true => (ev s.tm it).bind fun v => match v with
   | .ptr i 0 => match s.rows[i]? with
     | some (some r) => match r.ob with
       | some (.iter c p) => some fun k => bif Nat.blt p c.size then k (.tup [.litb true, .lit .i64 p, .lit .i32 (Utf8.decode c p).1]) (s.rows.set i (some ⟨r.ty, [], 0, some (.iter c (p + (Utf8.decode c p).2))⟩)) else k (.tup [.litb false]) s.rows
       | _ => none
     | _ => none
   | _ => none
 | .binOp op t x y _ => (ev s.tm x).bind fun x => (ev s.tm y).bind fun y => ptrEqS T s op t x y
 | op => famOp T s op
def padRows (op : Op) (rows : Rows) : Rows := bif isNew op then rows ++ [none] else rows
def stepO (cx : Ctx) (o : Oper) (s : SS) (k : SS -> Prop) : Prop :=
 match quietOp cx s o.op with
 | some (ps, v) => andL ps (putS cx s.tm o.dst v fun tm => k ⟨tm, s.rows⟩)
 | none =>
   match effOp cx.T ⟨s.tm, padRows o.op s.rows⟩ s.rows.length o.op with
   | some e => andL e.ps (match e.alt with
     | none => forceRows (putsL e.puts (padRows o.op s.rows)) fun rows => putS cx s.tm o.dst e.v fun tm => k ⟨tm, rows⟩
     | some (q, v) => (q -> putS cx s.tm o.dst v fun tm => k ⟨tm, padRows o.op s.rows⟩) /\ (¬ q -> forceRows (putsL e.puts (padRows o.op s.rows)) fun rows => putS cx s.tm o.dst e.v fun tm => k ⟨tm, rows⟩))
   | none =>
     match slowOp cx.T s o.op with
     | some h => h fun v rows => forceRows rows fun rows => putS cx s.tm o.dst v fun tm => k ⟨tm, rows⟩
     | none =>
     match callOf s o.op with
     | some (f, args) =>
       match cx.tbl f with
       | some h => h args s.rows fun res rows => forceRows rows fun rows => putS cx s.tm o.dst res fun tm => k ⟨tm, rows⟩
       | none => False
     | none => False
def branch (cx : Ctx) (d : Nat) (b c : Bool) (s : SS) (k : Bool -> SS -> Prop) : Prop :=
 bif c then k b s else
 match cx.must d with
 | some true => b = true /\ k true ⟨(d, .litb true) :: s.tm, s.rows⟩
 | some false => b = false /\ k false ⟨(d, .litb false) :: s.tm, s.rows⟩
 | none => (b = true -> k true ⟨(d, .litb true) :: s.tm, s.rows⟩) /\ (b = false -> k false ⟨(d, .litb false) :: s.tm, s.rows⟩)
def isSkip : SV -> Bool
 | .tup [] => true
 | _ => false
def listS (ops : List Oper) (s : SS) : SS := s
def execOps (cx : Ctx) (all : Array Oper) : List Oper -> SS -> (SS -> Prop) -> Prop
 | [], s, k => k s
 | o :: r, s, k =>
   match o.guard with
   | none => stepO cx o s fun s => execOps cx all r s k
   | some (j, want) =>
     match (all[j]?).bind (·.dst) with
     | some d =>
       match s.tm.lookup d with
       | some v =>
         bif isSkip v then putS cx s.tm o.dst (.tup []) fun tm => execOps cx all r ⟨tm, s.rows⟩ k else
         match asB v with
         | some (b, c) => branch cx d b c s fun b s => bif b == want then stepO cx o s fun s => execOps cx all r s k else putS cx s.tm o.dst (.tup []) fun tm => execOps cx all r ⟨tm, s.rows⟩ k
         | none => False
       | none => False
     | none => False
structure Rec where
 dst : Option Tmp
 v : SV
 puts : List (Nat × Option Row)
 new : Option Nat
 rds : List Nat
def applyRec (s : SS) (r : Rec) : SS :=
 ⟨match r.dst with
   | some d => (d, r.v) :: s.tm
   | none => s.tm, putsL r.puts s.rows⟩
def listRow : SV -> List Nat
 | .on i _ _ => [i]
 | .ow i _ _ _ _ _ => [i]
 | _ => []
def evRows (f : SV -> List Nat) (tm : List (Nat × SV)) (x : Operand) : List Nat := match ev tm x with
 | some v => f v
 | none => []
def readRow (s : SS) : Op -> List Nat
 | .load _ x => evRows rowsOfV s.tm x
 | .convert _ _ x => evRows rowsOfV s.tm x
 | .indexAddr _ x _ => evRows listRow s.tm x
 | .slice _ x _ _ _ => evRows listRow s.tm x
 | .sliceToArrayPointer _ x => evRows listRow s.tm x
 | .call c => match callOf s (.call c) with
   | some q => ownL q.2
   | none => []
 | _ => []
def knownPick (kn : List (Nat × Bool)) : Op -> Option Operand
 | .pick (.tmp c) a b => (kn.lookup c).map fun q => bif q then a else b
 | _ => none
def effCall (cx : Ctx) (s : SS) (b : Nat) (op : Op) : Option (Eff × Bool) :=
 (callOf s op).bind fun q => (cx.con q.1).bind fun c => match callD c s.rows q.2 with
   | some z => finE s.rows b z.2.1 z.1 [] [] z.2.2
   | none => bif (ownL q.2).isEmpty then none else (readArgs s.rows (fun _ => undef) 0 q.2).bind fun p => (rnL (numL 0 (reach p.2 s.rows)) p.2).bind fun a0 => (c (softL a0) (softRows (rnRows (numL 0 (reach p.2 s.rows)) s.rows (reach p.2 s.rows).length))).bind fun z =>
     finE s.rows b ((forceRows (softRows (rnRows (numL 0 (reach p.2 s.rows)) s.rows (reach p.2 s.rows).length)) fun R => forceL a0 fun a => OwnSameE c (ownF q.2) a R) :: (p.1 ++ z.1)) (reach p.2 s.rows) (ownL q.2) (reach q.2 s.rows) z.2
def isNewD : Op -> Bool
 | .call ⟨.value _, _, _⟩ => true
 | op => isNew op
def drawStep (cx : Ctx) (kn : List (Nat × Bool)) (b : Nat) (s : SS) (o : Oper) : Option (List Prop × Rec × Option (Prop × Rec)) :=
 match knownPick kn o.op with
 | some x => (ev s.tm x).map fun v => ([], ⟨o.dst, v, [], none, []⟩, none)
 | none =>
   match quietOp cx s o.op with
   | some (ps, v) => some (ps, ⟨o.dst, v, [], none, readRow s o.op⟩, none)
   | none => match effOp cx.T s b o.op with
     | some e => some (e.ps, ⟨o.dst, e.v, e.puts, bif isNew o.op then some b else none, e.rds⟩, match e.alt with
       | none => none
       | some (q, v) => some (q, ⟨o.dst, v, [], bif isNew o.op then some b else none, e.rds⟩))
     | none => (effCall cx s b o.op).map fun z => (z.1.ps, ⟨o.dst, z.1.v, z.1.puts, bif z.2 then some b else none, z.1.rds⟩, none)
def forcePuts : List (Nat × Option Row) -> (List (Nat × Option Row) -> Prop) -> Prop
 | [], K => K []
 | (b, none) :: l, K => forcePuts l fun l => K ((b, none) :: l)
 | (b, some x) :: l, K => forceNat b fun b => forceRow x fun x => forcePuts l fun l => K ((b, some x) :: l)
def forceRec (r : Rec) (K : Rec -> Prop) : Prop :=
 forceSV r.v fun v => forcePuts r.puts fun p => K ⟨r.dst, v, p, r.new, r.rds⟩
def dstB (cx : Ctx) : Option Tmp -> Bool
 | none => true
 | some d => Nat.blt d cx.nt
def dropK (d : Option Tmp) : List (Nat × Bool) -> List (Nat × Bool)
 | [] => []
 | (e, q) :: r => bif d == some e then dropK d r else (e, q) :: dropK d r
def drawOps (cx : Ctx) (all : Array Oper) : List Oper -> Nat -> SS -> List Rec -> List (Nat × Bool) -> (SS -> List Rec -> List (Nat × Bool) -> Prop) -> Prop
 | [], _, s, recs, kn, K => K s recs kn
 | o :: r, b, s, recs, kn, K =>
   bif dstB cx o.dst then
   let b' := bif isNewD o.op then b + 1 else b
   let go (kn : List (Nat × Bool)) : Prop := match drawStep cx kn b s o with
    | some (ps, rc, none) => andL ps (forceRec rc fun rc => drawOps cx all r b' (applyRec s rc) (recs ++ [rc]) (dropK o.dst kn) K)
    | some (ps, rc, some (q, rc')) => andL ps ((q -> forceRec rc' fun rc => drawOps cx all r b' (applyRec s rc) (recs ++ [rc]) (dropK o.dst kn) K) /\ (¬ q -> forceRec rc fun rc => drawOps cx all r b' (applyRec s rc) (recs ++ [rc]) (dropK o.dst kn) K))
    | none => False
   let skip (kn : List (Nat × Bool)) : Prop := drawOps cx all r b' (applyRec s ⟨o.dst, .tup [], [], none, []⟩) (recs ++ [⟨o.dst, .tup [], [], none, []⟩]) (dropK o.dst kn) K
   match o.guard with
   | none => go kn
   | some (j, want) =>
     match (all[j]?).bind (·.dst) with
     | some d =>
       match kn.lookup d with
       | some q => bif q == want then go kn else skip kn
       | none =>
         match s.tm.lookup d with
         | some v =>
           bif isSkip v then skip kn else
           match asB v with
           | some (x, c) =>
             bif c then (bif x == want then go kn else skip kn) else
             match cx.must d with
             | some q => x = q /\ (bif q == want then go ((d, q) :: kn) else skip ((d, q) :: kn))
             | none => (x = want -> go ((d, want) :: kn)) /\ (x = (!want) -> skip ((d, !want) :: kn))
           | none => False
         | none => False
     | none => False
   else False
def bindsOn (o : Oper) : List Nat := (o.after.toList.filter (Region.binds .any)).map (·.on)
def maskOf (acc : List Nat) : List Nat -> Nat
 | [] => 0
 | e :: es => (2 ^ e ||| acc.getD e 0) ||| maskOf acc es
def befs : List Oper -> List Nat -> List Nat
 | [], acc => acc
 | o :: r, acc => befs r (acc ++ [maskOf acc (bindsOn o)])
def edgesB : Nat -> List Oper -> Bool
 | _, [] => true
 | i, o :: r => (bindsOn o).all (fun e => Nat.blt e i) && edgesB (i + 1) r
def noMPuts (b : Nat) : List (Nat × Option Row) -> Bool
 | [] => true
 | (_, none) :: l => noMPuts b l
 | (_, some x) :: l => noML b x.cs && noMPuts b l
def noMRec (b : Nat) (r : Rec) : Bool := noM b r.v && noMPuts b r.puts
def touch (x : List (Nat × Option Row)) (b : Nat) : Bool := x.any fun p => Nat.beq p.1 b
def apartRows (x y : Rec) : Bool :=
 x.puts.all (fun p => !(touch y.puts p.1) && !(y.rds.any fun c => Nat.beq p.1 c)) && y.puts.all (fun p => !(x.rds.any fun c => Nat.beq p.1 c))
def pairB (all : Array Oper) (os : List (Oper × Rec × Nat)) : Nat -> Oper × Rec × Nat -> Nat -> Bool := fun i x j =>
 match os[j]? with
 | none => true
 | some y =>
   bif Nat.beq i j then true else
   bif Nat.testBit y.2.2 i || Nat.testBit x.2.2 j then true else
   Oper.apart all x.1 y.1 && apartRows x.2.1 y.2.1
def newB (os : List (Oper × Rec × Nat)) (i : Nat) (x : Oper × Rec × Nat) (j : Nat) : Bool :=
 match x.2.1.new with
 | some b => (match os[j]? with
    | some y => bif Nat.beq i j || Nat.testBit y.2.2 i then true else noMRec b y.2.1 && !(touch y.2.1.puts b)
    | none => true)
 | none => true
def zip3 : List Oper -> List Rec -> List Nat -> List (Oper × Rec × Nat)
 | o :: os, r :: rs, m :: ms => (o, r, m) :: zip3 os rs ms
 | _, _, _ => []
def allPairs (all : Array Oper) (os : List (Oper × Rec × Nat)) (n : Nat) : Nat -> List (Oper × Rec × Nat) -> Bool
 | _, [] => true
 | i, x :: r => (List.range n).all (fun j => pairB all os i x j && newB os i x j) && allPairs all os n (i + 1) r
def drawOK (all : Array Oper) (recs : List Rec) : Bool :=
 let os := zip3 all.toList recs (befs all.toList [])
 Nat.beq recs.length all.size && edgesB 0 all.toList && Region.noSelect all && allPairs all os all.size 0 os
def countNew : List Oper -> Nat
 | [] => 0
 | o :: r => bif isNewD o.op then countNew r + 1 else countNew r
def drawRun (cx : Ctx) (all : Array Oper) (s : SS) (k : SS -> Prop) : Prop :=
 drawOps cx all all.toList s.rows.length ⟨s.tm, s.rows ++ List.replicate (countNew all.toList) none⟩ [] [] fun s' recs kn =>
  bif drawOK all recs then forceRows s'.rows fun rows => k ⟨s'.tm, rows⟩ else False
structure Ks where
 n : SS -> Prop
 r : SS -> Prop
 e : List (Nat × (SS -> Prop))
def firstReg : Code -> Nat
 | .region id _ _ => id
 | .seq a _ => firstReg a
 | .block _ c => firstReg c
 | .loop c => firstReg c
 | .scope c => firstReg c
 | .cond _ a _ => firstReg a
 | _ => 0
mutual
def eqv (a : SV) : SV -> Prop
 | .top => match a with
   | .ints _ _ _ => False
   | .many _ _ _ => False
   | _ => True
 | .int k n => match asI a with
   | some (k', m, _) => bif decide (k' = k) then m = n else False
   | none => False
 | .bool b => match asB a with
   | some (c, _) => c = b
   | none => False
 | .ints k n xs => match a with
   | .ints k' n' ys => bif decide (k' = k) && Nat.beq n' n then ys = xs else False
   | _ => False
 | .agg bs => match a with
   | .agg cs => bif noTop bs then eqvL cs bs else False
   | _ => False
 | .tup bs => match a with
   | .tup cs => bif noTop bs then eqvL cs bs else False
   | _ => False
 | .lit k n => a = .lit k n
 | .litb b => a = .litb b
 | .str s => a = .str s
 | .val v => a = .val v
 | .hnd b => a = .hnd b
 | .ptr i o => a = .ptr i o
 | .pte i o e => match a with
   | .pte i' o' e' => bif Nat.beq i' i && Nat.beq o' o then e' = e else False
   | _ => False
 | .sl i o l c => a = .sl i o l c
 | .os i o l c => match a with
   | .os i' o' l' c' => bif Nat.beq i' i then o' = o /\ l' = l /\ c' = c else False
   | .sl i' o' l' c' => bif Nat.beq i' i then o' = o /\ l' = l /\ c' = c else False
   | _ => False
 | .on i l z => match a with
   | .on i' l' z' => bif Nat.beq i' i then l' = l /\ z' = z else False
   | _ => False
 | .ow i z p o n m => match a with
   | .ow i' z' p' o' n' m' => bif Nat.beq i' i then z' = z /\ p' = p /\ o' = o /\ n' = n /\ m' = m else False
   | .on i' n' z' => bif Nat.beq i' i then z' = z /\ p = 0 /\ o = 0 /\ n' = n /\ m = false else False
   | _ => False
 | .gp g o => a = .gp g o
 | .gpe g o s n e => a = .gpe g o s n e
 | .rd k v xs => match a with
   | .rd k' v' ys => bif decide (k' = k) then v' = v /\ ys = xs else False
   | _ => False
 | .rda k v xs e => a = .rda k v xs e
 | .rs sz v n f => a = .rs sz v n f
 | .rsa sz v n f e o => a = .rsa sz v n f e o
 | .ptm i z e o => match a with
   | .ptm i' z' e' o' => bif Nat.beq i' i && Nat.beq z' z && Nat.beq o' o then e' = e else False
   | _ => False
 | .many z n f => match a with
   | .many z' n' f' => bif Nat.beq z' z then n' = n /\ ∀ e, e < n -> f' e = f e else False
   | _ => False
 | .fn f x y => a = .fn f x y
def eqvL (a : List SV) : List SV -> Prop
 | [] => match a with
   | [] => True
   | _ => False
 | b :: bs => match a with
   | [] => False
   | c :: cs => eqv c b /\ eqvL cs bs
end
def fitsTm (tm : List (Nat × SV)) : List (Nat × SV) -> Prop
 | [] => True
 | (d, v) :: r => (match tm.lookup d with
   | some u => eqv u v
   | none => False) /\ fitsTm tm r
def obFits : Option Ob -> Option Ob -> Prop -> Prop
 | none, none, k => k
 | some x, some y, k => x = y /\ k
 | _, _, _ => False
def fitsRows : Rows -> Rows -> Prop
 | _, [] => True
 | [], _ :: _ => False
 | _ :: r, none :: t => fitsRows r t
 | some a :: r, some b :: t => obFits a.ob b.ob (a.ty = b.ty /\ a.sz = b.sz /\ eqvL a.cs b.cs) /\ fitsRows r t
 | none :: _, some _ :: _ => False
def fits (s t : SS) : Prop := fitsTm s.tm t.tm /\ fitsRows s.rows t.rows
mutual
def okB (n : Nat) : SV -> Bool
 | .ptr i _ => Nat.blt i n
 | .pte i _ _ => Nat.blt i n
 | .ptm i _ _ _ => Nat.blt i n
 | .sl i _ _ _ => Nat.blt i n
 | .os i _ _ _ => Nat.blt i n
 | .on i _ _ => Nat.blt i n
 | .ow i _ _ _ _ _ => Nat.blt i n
 | .agg cs => okBL n cs
 | .tup cs => okBL n cs
 | .fn _ a b => okBL n a && okBL n b
 | _ => true
def okBL (n : Nat) : List SV -> Bool
 | [] => true
 | c :: cs => okB n c && okBL n cs
end
def okTm (n : Nat) : List (Nat × SV) -> Bool
 | [] => true
 | (_, v) :: r => okB n v && okTm n r
def okRows (n : Nat) : Rows -> Bool
 | [] => true
 | none :: r => okRows n r
 | some x :: r => okBL n x.cs && okRows n r
def wellB (n0 : Nat) (s : SS) : Bool := Nat.ble n0 s.rows.length && okTm s.rows.length s.tm && okRows s.rows.length s.rows
mutual
def pairV (a : SV) : SV -> List (Nat × Nat) -> List (Nat × Nat)
 | .agg bs, m => match a with
   | .agg cs => pairL cs bs m
   | _ => m
 | .tup bs, m => match a with
   | .tup cs => pairL cs bs m
   | _ => m
 | b, m => match rowOfV a, rowOfV b with
   | some i, some j => addP j i m
   | _, _ => m
def pairL (a : List SV) : List SV -> List (Nat × Nat) -> List (Nat × Nat)
 | [], m => m
 | b :: bs, m => match a with
   | [] => m
   | c :: cs => pairL cs bs (pairV c b m)
end
def pairTm (tm : List (Nat × SV)) : List (Nat × SV) -> List (Nat × Nat) -> List (Nat × Nat)
 | [], m => m
 | (d, v) :: r, m => pairTm tm r (match tm.lookup d with
   | some u => pairV u v m
   | none => m)
def pairRows (rs rt : Rows) : List (Nat × Nat) -> List (Nat × Nat) -> List (Nat × Nat)
 | [], m => m
 | (j, i) :: r, m => pairRows rs rt r (match rs[i]?, rt[j]? with
   | some (some x), some (some y) => pairL x.cs y.cs m
   | _, _ => m)
def pairRest : Nat -> Rows -> List (Nat × Nat) -> List (Nat × Nat)
 | _, [], m => m
 | j, none :: r, m => pairRest (j + 1) r m
 | j, some _ :: r, m => pairRest (j + 1) r (addP j j m)
def pairs (n0 : Nat) (s t : SS) : List (Nat × Nat) :=
 let m := pairTm s.tm t.tm (idsTo n0)
 let m := pairRows s.rows t.rows m m
 let m := pairRows s.rows t.rows m m
 let m := pairRows s.rows t.rows m m
 pairRest 0 t.rows m
def renum (n0 : Nat) (s t : SS) : SS :=
 let m := pairs n0 s t
 bif m.all (fun p => Nat.beq p.1 p.2) then s else
 bif rnOK n0 t.rows.length m then ⟨rnTm m s.tm, rnRows m s.rows t.rows.length⟩ else s
def frzAt (s : SS) (d : Nat) : Option (List Prop × (Value -> SS)) := none
def frzL : List Nat -> SS -> (SS -> Prop) -> Prop
 | [], s, K => K s
 | d :: l, s, K => match frzAt s d with
   | some q => andL q.1 (∀ v : Value, frzL l (q.2 v) K)
   | none => frzL l s K
def frz (cx : Ctx) (id : Nat) (s : SS) (K : SS -> Prop) : Prop := bif cx.on then frzL (cx.fz id s) s K else K s
def chainE (ih : Code -> SS -> Ks -> Prop) (isQ : Nat -> Bool) (cut : SS -> Prop) : Code -> SS -> Ks -> Prop
 | .seq x y, s, ks => bif isQ (firstReg y) then ih x s ⟨cut, ks.r, ks.e⟩ else ih x s ⟨fun s => chainE ih isQ cut y s ks, ks.r, ks.e⟩
 | _, _, _ => False
def restE (isQ : Nat -> Bool) : Code -> Option Code
 | .seq _ y => bif isQ (firstReg y) then some y else restE isQ y
 | _ => none
def execF (cx : Ctx) (ih : Code -> SS -> Ks -> Prop) (c : Code) (s : SS) (ks : Ks) : Prop :=
 match c with
 | .skip => ks.n s
 | .label _ => ks.n s
 | .region id ops false => frz cx id s fun s => execOps cx ops ops.toList (listS ops.toList s) ks.n
 | .region id ops true => frz cx id s fun s => drawRun cx ops s ks.n
 | .seq a b =>
   match cx.loop (1000000 + firstReg a) ⟨s.tm, s.rows⟩ with
   | some L => match restE (fun q => (cx.loop (2000000 + q) ⟨s.tm, s.rows⟩).isSome) (.seq a b) with
     | some y => (∀ x, L.I x -> bif wellB cx.n0 (L.T x) then ih y (L.T x) ks else False) /\ chainE ih (fun q => (cx.loop (2000000 + q) ⟨s.tm, s.rows⟩).isSome) (fun s => ∃ x, fits (renum cx.n0 (prepS (L.T x) s) (L.T x)) (L.T x) /\ L.I x) (.seq a b) s ks
     | none => ih a s ⟨fun s => ih b s ks, ks.r, ks.e⟩
   | none => ih a s ⟨fun s => ih b s ks, ks.r, ks.e⟩
 | .cond x a b =>
   match ev s.tm x with
   | some v =>
     match asB v, x with
     | some (b', c'), .tmp d => branch cx d b' c' s fun b' s => bif b' then ih a s ks else ih b s ks
     | some (b', c'), _ => bif c' then (bif b' then ih a s ks else ih b s ks) else False
     | none, _ => False
   | none => False
 | .block id c => ih c s ⟨ks.n, ks.r, (id, ks.n) :: ks.e⟩
 | .exit id => match ks.e.lookup id with
   | some k => k s
   | none => False
 | .loop c =>
   match cx.loop (firstReg c) ⟨s.tm, nz s.rows⟩ with
   | some L => ∃ x, fits (renum cx.n0 (prepS (L.T x) s) (L.T x)) (L.T x) /\ L.I x /\ ∀ x, L.I x -> bif wellB cx.n0 (L.T x) then ih c (L.T x) ⟨fun s => ∃ y, fits (renum cx.n0 (prepS (L.T y) s) (L.T y)) (L.T y) /\ L.I y /\ L.μ y < L.μ x, ks.r, ks.e⟩ else False
   | none => ih c s ⟨fun s => ih (.loop c) s ks, ks.r, ks.e⟩
 | .ret => ks.r s
 | _ => False
def exec (cx : Ctx) : Nat -> Code -> SS -> Ks -> Prop
 | 0 => fun _ _ _ => False
 | n + 1 => execF cx (exec cx n)
end Sx
end
section
namespace Sx
variable {P : Program} {W : World} {F : Nat -> Prop} {ρ ρ' ρ0 : Num} {w : World}
variable {ty pty t0 : TypeId} {k : IntKind} {n tot : Nat} {ps : List (List Int)} {ks : List Nat} {cs : List SV} {rows : Rows}
theorem MemOK.famAt (hm : MemOK W F ρ rows w) {i : Nat} (hi : rows[i]? = some (some ⟨t0, cs, 0, some (.fam (.boxes ty pty k n tot ps ks))⟩)) :
  ∃ S gs c pb, CellsOK ρ cs gs /\ BoxOK ty pty k n tot ps ks w (ρ i) S gs c pb := by
 obtain ⟨φ, hφ⟩ := hm.obs
 obtain ⟨⟨gs, h1, c, pb, h2⟩, _⟩ := hφ i _ _ hi rfl
 exact ⟨_, gs, c, pb, h1, h2⟩
theorem MemOK.openBox (hm : MemOK W F ρ rows w) {i e : Nat} (hi : rows[i]? = some (some ⟨t0, cs, 0, some (.fam (.boxes ty pty k n tot ps ks))⟩)) (he : e < ps.length) (hne : ¬ e ∈ ks) :
  ∃ ρ' : Num, (∀ j, j < rows.length -> ρ' j = ρ j) /\ (∃ (c : Array Value), w.heap[(ρ i).1]? = some (.cells c pty (0, 0)) /\ c[e]? = some (.pointer (some ⟨(ρ' rows.length).1, 0, none⟩))) /\
   MemOK W F ρ' (rows.set i (some ⟨t0, .ptr rows.length 0 :: cs, 0, some (.fam (.boxes ty pty k n tot ps (e :: ks)))⟩) ++ [some ⟨ty, [.ints k n (ps.getD e [])], 0, none⟩]) w := by
 obtain ⟨φ, hφ⟩ := hm.obs
 obtain ⟨⟨gs, hg, c, pb, hb⟩, hf⟩ := hφ i _ _ hi rfl
 have hil := (List.getElem?_eq_some_iff.1 hi).1
 have hS : φ i (pb e) := (hb.foot _).2 (.inr ⟨e, he, hne, rfl⟩)
 obtain ⟨f1, f2, f3⟩ := hf _ hS
 let b := rows.length
 have hoff := ext_off ρ b (pb e, 0)
 have cong : ∀ j, j < rows.length -> ext ρ b (pb e, 0) j = ρ j := fun j hj => hoff j (by omega)
 let q : Row := ⟨t0, .ptr b 0 :: cs, 0, some (.fam (.boxes ty pty k n tot ps (e :: ks)))⟩
 let p : Row := ⟨ty, [.ints k n (ps.getD e [])], 0, none⟩
 have get : ∀ {j : Nat} {r : Row}, (rows.set i (some q) ++ [some p])[j]? = some (some r) -> (j ≠ i /\ j < rows.length /\ rows[j]? = some (some r)) ∨ (j = i /\ r = q) ∨ (j = b /\ r = p) := by
  intro j r h
  by_cases hj : j < rows.length
  ·rw [List.getElem?_append_left (by rw [List.length_set]; exact hj)] at h
   by_cases hji : j = i
   ·subst hji; rw [List.getElem?_set_self hj] at h; cases h; exact .inr (.inl ⟨rfl, rfl⟩)
   ·rw [List.getElem?_set_ne (fun e => hji e.symm)] at h; exact .inl ⟨hji, hj, h⟩
  ·rw [List.getElem?_append_right (by rw [List.length_set]; omega), List.length_set] at h
   by_cases h0 : j - rows.length = 0
   ·rw [h0] at h; simp at h; exact .inr (.inr ⟨by show j = rows.length; omega, h.symm⟩)
   ·rw [List.getElem?_eq_none (by simp; omega)] at h; cases h
 have hbi : b ≠ i := by show rows.length ≠ i; omega
 have noq : ∀ {ρ : Num}, ¬ Has ρ i q := by rintro ρ ⟨h, _⟩; cases h
 have old : ∀ {j : Nat} {r : Row}, j < rows.length -> Has (ext ρ b (pb e, 0)) j r -> Has ρ j r := fun hj h => h.map (cong _ hj) rfl rfl
 have ocs : okdL W F rows.length cs := (hm.row i _ hi).2
 refine ⟨ext ρ b (pb e, 0), cong, ⟨c, hb.list, by rw [ext_new]; exact hb.ptr e he⟩, hm.frame, hm.glob, fun j r hj => ?_, fun j l r u hj hl h1 h2 hq => ?_, fun j r hj hh => ?_, ⟨fun j => if j = i then fun y => φ i y /\ y ≠ pb e else φ j, fun j r x hj hx => ?_⟩⟩
 ·rw [List.length_append, List.length_set]
  rcases get hj with ⟨h1, h2, h3⟩ | ⟨rfl, rfl⟩ | ⟨rfl, rfl⟩
  ·obtain ⟨c1, c2⟩ := hm.row j r h3
   exact ⟨c1.map (cong j h2) rfl rfl rfl (fun _ => rfl) (fun vs hv => CellsOK.congr cong c2 hv), okdL_mono (by simp) c2⟩
  ·refine ⟨.inr ⟨noq, den (ext ρ b (pb e, 0)) (.ptr b 0) :: gs, ⟨gs, rfl, CellsOK.congr cong ocs hg⟩, fun h => by cases h⟩, ?_, okdL_mono (by simp) ocs⟩
   show rows.length < rows.length + 1; omega
  ·refine ⟨.inl ⟨⟨rfl, .inl rfl⟩, (intCells k n (ps.getD e [])).toArray, intCells k n (ps.getD e []), [], ?_, by simp, ⟨[], by simp, rfl⟩, fun _ => rfl, fun h => absurd rfl h⟩, trivial, trivial⟩
   rw [ext_new]; exact hb.box e he hne
 ·rcases get hj with ⟨g1, g2, g3⟩ | ⟨rfl, rfl⟩ | ⟨rfl, rfl⟩
  ·rcases get hl with ⟨m1, m2, m3⟩ | ⟨rfl, rfl⟩ | ⟨rfl, rfl⟩
   ·rw [cong j g2, cong l m2] at hq
    exact hm.inj j l r u g3 m3 (old g2 h1) (old m2 h2) hq
   ·exact absurd h2 noq
   ·rw [cong j g2, ext_new] at hq
    exact absurd hq ((f3 j r g3).1 (old g2 h1))
  ·exact absurd h1 noq
  ·rcases get hl with ⟨m1, m2, m3⟩ | ⟨rfl, rfl⟩ | ⟨rfl, rfl⟩
   ·rw [cong l m2, ext_new] at hq
    exact absurd hq.symm ((f3 l u m3).1 (old m2 h2))
   ·exact absurd h2 noq
   ·rfl
 ·rcases get hj with ⟨g1, g2, g3⟩ | ⟨rfl, rfl⟩ | ⟨rfl, rfl⟩
  ·rw [cong j g2]; exact hm.mine j r g3 (old g2 hh)
  ·exact absurd hh noq
  ·rw [ext_new]; exact f2
 ·rcases get hj with ⟨g1, g2, g3⟩ | ⟨rfl, rfl⟩ | ⟨rfl, rfl⟩
  ·obtain ⟨n1, n2⟩ := hφ j r x g3 hx
   rw [cong j g2]
   simp only [if_neg g1]
   refine ⟨n1.map fun vs hv => CellsOK.congr cong (hm.row j r g3).2 hv, fun y hy => ?_⟩
   obtain ⟨o1, o2, o3⟩ := n2 y hy
   refine ⟨o1, o2, fun l u hl => ?_⟩
   rcases get hl with ⟨m1, m2, m3⟩ | ⟨rfl, rfl⟩ | ⟨rfl, rfl⟩
   ·rw [cong l m2]
    exact ⟨fun hh => (o3 l u m3).1 (old m2 hh), fun hu hne => by rw [if_neg m1]; exact (o3 l u m3).2 hu hne⟩
   ·exact ⟨fun hh => absurd hh noq, fun _ hne => by rw [if_pos rfl]; exact fun h => (o3 l _ hi).2 (by simp) hne h.1⟩
   ·refine ⟨fun _ => ?_, fun hu => absurd rfl hu⟩
    rw [ext_new]
    rintro rfl
    exact (f3 j r g3).2 (by rw [hx]; simp) g1 hy
  ·cases hx
   rw [cong j hil]
   simp only [if_true]
   refine ⟨⟨den (ext ρ b (pb e, 0)) (.ptr b 0) :: gs, ⟨gs, rfl, CellsOK.congr cong ocs hg⟩, c, pb, hb.fill, hb.room, hb.size, hb.list, hb.ptr, fun l hl hk => hb.box l hl (fun h => hk (List.mem_cons_of_mem _ h)), ?_, hb.inj, hb.head, fun l hl => ?_, fun y => ?_⟩, fun y hy => ?_⟩
   ·simp only [den, ext_new, List.map_cons, hb.gone]
   ·rcases List.mem_cons.1 hl with rfl | hl
    ·exact he
    ·exact hb.lt l hl
   ·constructor
    ·rintro ⟨h1, h2⟩
     rcases (hb.foot y).1 h1 with rfl | ⟨l, g1, g2, rfl⟩
     ·exact .inl rfl
     ·refine .inr ⟨l, g1, fun h => ?_, rfl⟩
      rcases List.mem_cons.1 h with rfl | h
      ·exact h2 rfl
      ·exact g2 h
    ·rintro (rfl | ⟨l, g1, g2, rfl⟩)
     ·exact ⟨(hb.foot _).2 (.inl rfl), fun h => hb.head e he h.symm⟩
     ·exact ⟨(hb.foot _).2 (.inr ⟨l, g1, fun h => g2 (List.mem_cons_of_mem _ h), rfl⟩), fun h => g2 (by rw [hb.inj l e g1 he h]; simp)⟩
   ·obtain ⟨o1, o2, o3⟩ := hf y hy.1
    refine ⟨o1, o2, fun l u hl => ?_⟩
    rcases get hl with ⟨m1, m2, m3⟩ | ⟨rfl, rfl⟩ | ⟨rfl, rfl⟩
    ·rw [cong l m2]
     exact ⟨fun hh => (o3 l u m3).1 (old m2 hh), fun hu hne => by rw [if_neg m1]; exact (o3 l u m3).2 hu hne⟩
    ·exact ⟨fun hh => absurd hh noq, fun _ hne => absurd rfl hne⟩
    ·refine ⟨fun _ => ?_, fun hu => absurd rfl hu⟩
     rw [ext_new]
     exact fun h => hy.2 h.symm
  ·cases hx
theorem MemOK.closeBox (hm : MemOK W F ρ rows w) {i b e : Nat} {xs : List Int} (hi : rows[i]? = some (some ⟨t0, .ptr b 0 :: cs, 0, some (.fam (.boxes ty pty k n tot ps (e :: ks)))⟩)) (hb : rows[b]? = some (some ⟨ty, [.ints k n xs], 0, none⟩)) (hne : ¬ e ∈ ks) :
  MemOK W F ρ ((rows.set i (some ⟨t0, cs, 0, some (.fam (.boxes ty pty k n tot (ps.set e xs) ks))⟩)).set b none) w := by
 obtain ⟨φ, hφ⟩ := hm.obs
 obtain ⟨⟨gs, ⟨gt, hgs, hg⟩, c, pb, hx⟩, hf⟩ := hφ i _ _ hi rfl
 have hil := (List.getElem?_eq_some_iff.1 hi).1
 have hbl := (List.getElem?_eq_some_iff.1 hb).1
 have hbi : b ≠ i := by rintro rfl; rw [hb] at hi; cases hi
 have hhb : Has ρ b ⟨ty, [.ints k n xs], 0, none⟩ := ⟨rfl, .inl rfl⟩
 have hpe : pb e = (ρ b).1 /\ gt = ks.map fun j => .pointer (some ⟨pb j, 0, none⟩) := by
  have h1 := hx.gone
  rw [hgs] at h1
  simp only [List.map_cons, den, List.cons.injEq, Value.pointer.injEq, Option.some.injEq, Addr.mk.injEq, and_true] at h1
  exact ⟨h1.1.symm, h1.2⟩
 have hel := hx.lt e (by simp)
 have hcell : w.heap[pb e]? = some (.cells (intCells k n xs).toArray ty (0, 0)) := by
  rcases (hm.row b _ hb).1 with ⟨_, c, l, rest, g1, g2, g3, g4, _⟩ | ⟨h, _⟩
  ·obtain ⟨t, rfl, ht⟩ := g3
   obtain rfl : t = [] := ht
   have hr : rest = [] := g4 rfl
   subst hr
   rw [hpe.1, g1]
   congr 2
   cases c
   simp at g2
   simp [g2]
  ·exact absurd hhb h
 let q : Row := ⟨t0, cs, 0, some (.fam (.boxes ty pty k n tot (ps.set e xs) ks))⟩
 have get : ∀ {j : Nat} {r : Row}, ((rows.set i (some q)).set b none)[j]? = some (some r) -> j ≠ b /\ ((j ≠ i /\ rows[j]? = some (some r)) ∨ (j = i /\ r = q)) := by
  intro j r h
  by_cases hjb : j = b
  ·subst hjb; rw [List.getElem?_set_self (by rw [List.length_set]; exact hbl)] at h; cases h
  ·rw [List.getElem?_set_ne (fun e => hjb e.symm)] at h
   refine ⟨hjb, ?_⟩
   by_cases hji : j = i
   ·subst hji; rw [List.getElem?_set_self hil] at h; cases h; exact .inr ⟨rfl, rfl⟩
   ·rw [List.getElem?_set_ne (fun e => hji e.symm)] at h; exact .inl ⟨hji, h⟩
 have noq : ∀ {ρ : Num}, ¬ Has ρ i q := by rintro ρ ⟨h, _⟩; cases h
 have len : ((rows.set i (some q)).set b none).length = rows.length := by simp
 have f3 : ∀ (j : Nat) (r : Row) (x : Ob), rows[j]? = some (some r) -> r.ob = some x -> ¬ φ j (ρ b).1 := fun j r x hj hr hy => (((hφ j r x hj hr).2 _ hy).2.2 b _ hb).1 hhb rfl
 refine ⟨hm.frame, hm.glob, fun j r hj => ?_, fun j l r u hj hl h1 h2 hq => ?_, fun j r hj hh => ?_, ⟨fun j => if j = i then fun y => φ i y ∨ y = (ρ b).1 else φ j, fun j r x hj hz => ?_⟩⟩
 ·rw [len]
  rcases get hj with ⟨h0, ⟨h1, h3⟩ | ⟨rfl, rfl⟩⟩
  ·exact hm.row j r h3
  ·exact ⟨.inr ⟨noq, gt, hg, fun h => by cases h⟩, (hm.row j _ hi).2.2⟩
 ·rcases get hj with ⟨h0, ⟨g1, g3⟩ | ⟨rfl, rfl⟩⟩
  ·rcases get hl with ⟨m0, ⟨m1, m3⟩ | ⟨rfl, rfl⟩⟩
   ·exact hm.inj j l r u g3 m3 h1 h2 hq
   ·exact absurd h2 noq
  ·exact absurd h1 noq
 ·rcases get hj with ⟨h0, ⟨g1, g3⟩ | ⟨rfl, rfl⟩⟩
  ·exact hm.mine j r g3 hh
  ·exact absurd hh noq
 ·rcases get hj with ⟨h0, ⟨g1, g3⟩ | ⟨rfl, rfl⟩⟩
  ·obtain ⟨n1, n2⟩ := hφ j r x g3 hz
   simp only [if_neg g1]
   refine ⟨n1, fun y hy => ?_⟩
   obtain ⟨o1, o2, o3⟩ := n2 y hy
   refine ⟨o1, o2, fun l u hl => ?_⟩
   rcases get hl with ⟨m0, ⟨m1, m3⟩ | ⟨rfl, rfl⟩⟩
   ·exact ⟨(o3 l u m3).1, fun hu hne => by rw [if_neg m1]; exact (o3 l u m3).2 hu hne⟩
   ·refine ⟨fun hh => absurd hh noq, fun _ hne => ?_⟩
    rw [if_pos rfl]
    rintro (h | rfl)
    ·exact (o3 l _ hi).2 (by simp) hne h
    ·exact f3 j r x g3 hz hy
  ·cases hz
   simp only [if_true]
   refine ⟨⟨gt, hg, c, pb, by simpa using hx.fill, hx.room, hx.size, hx.list, fun l hl => hx.ptr l (by simpa using hl), fun l hl hk => ?_, hpe.2, fun a d ha hd => hx.inj a d (by simpa using ha) (by simpa using hd), fun l hl => hx.head l (by simpa using hl), fun l hl => by simpa using hx.lt l (List.mem_cons_of_mem _ hl), fun y => ?_⟩, fun y hy => ?_⟩
   ·rw [List.length_set] at hl
    by_cases hle : l = e
    ·subst hle
     rw [hcell, List.getD_eq_getElem?_getD, List.getElem?_set_self hl]; rfl
    ·rw [hx.box l hl (by simp [hle, hk]), List.getD_eq_getElem?_getD, List.getD_eq_getElem?_getD, List.getElem?_set_ne (fun e => hle e.symm)]
   ·rw [List.length_set]
    constructor
    ·rintro (h | rfl)
     ·rcases (hx.foot y).1 h with rfl | ⟨l, g1, g2, rfl⟩
      ·exact .inl rfl
      ·exact .inr ⟨l, g1, fun h => g2 (List.mem_cons_of_mem _ h), rfl⟩
     ·exact .inr ⟨e, hel, hne, hpe.1.symm⟩
    ·rintro (rfl | ⟨l, g1, g2, rfl⟩)
     ·exact .inl ((hx.foot _).2 (.inl rfl))
     ·by_cases hle : l = e
      ·subst hle; exact .inr hpe.1
      ·exact .inl ((hx.foot _).2 (.inr ⟨l, g1, by simp [hle, g2], rfl⟩))
   ·rcases hy with hy | rfl
    ·obtain ⟨o1, o2, o3⟩ := hf y hy
     refine ⟨o1, o2, fun l u hl => ?_⟩
     rcases get hl with ⟨m0, ⟨m1, m3⟩ | ⟨rfl, rfl⟩⟩
     ·exact ⟨(o3 l u m3).1, fun hu hne => by rw [if_neg m1]; exact (o3 l u m3).2 hu hne⟩
     ·exact ⟨fun hh => absurd hh noq, fun _ hne => absurd rfl hne⟩
    ·refine ⟨hm.lt hb hhb, hm.mine b _ hb hhb, fun l u hl => ?_⟩
     rcases get hl with ⟨m0, ⟨m1, m3⟩ | ⟨rfl, rfl⟩⟩
     ·refine ⟨fun hh he => m0 (hm.inj l b u _ m3 hb hh hhb he), fun hu hne => ?_⟩
      rw [if_neg m1]
      cases hu' : u.ob with
      | none => exact absurd hu' hu
      | some z => exact f3 l u z m3 hu'
     ·exact ⟨fun hh => absurd hh noq, fun _ hne => absurd rfl hne⟩
theorem MemOK.absorbBox (hm : MemOK W F ρ rows w) {i b : Nat} {xs : List Int} (hi : rows[i]? = some (some ⟨t0, [], 0, some (.fam (.boxes ty pty k n tot ps []))⟩)) (hb : rows[b]? = some (some ⟨ty, [.ints k n xs], 0, none⟩)) (hl : ps.length < tot)
  (hp : ∀ c : Array Value, w.heap[(ρ i).1]? = some (.cells c pty (0, 0)) -> c[ps.length]? = some (.pointer (some ⟨(ρ b).1, 0, none⟩))) :
  MemOK W F ρ ((rows.set i (some ⟨t0, [], 0, some (.fam (.boxes ty pty k n tot (ps ++ [xs]) []))⟩)).set b none) w := by
 obtain ⟨φ, hφ⟩ := hm.obs
 obtain ⟨⟨gs, hgs, c, pb, hx⟩, hf⟩ := hφ i _ _ hi rfl
 obtain rfl : gs = [] := hgs
 have hil := (List.getElem?_eq_some_iff.1 hi).1
 have hbl := (List.getElem?_eq_some_iff.1 hb).1
 have hbi : b ≠ i := by rintro rfl; rw [hb] at hi; cases hi
 have hhb : Has ρ b ⟨ty, [.ints k n xs], 0, none⟩ := ⟨rfl, .inl rfl⟩
 have hcp := hp c hx.list
 have hcell : w.heap[(ρ b).1]? = some (.cells (intCells k n xs).toArray ty (0, 0)) := by
  rcases (hm.row b _ hb).1 with ⟨_, c, l, rest, g1, g2, g3, g4, _⟩ | ⟨h, _⟩
  ·obtain ⟨t, rfl, ht⟩ := g3
   obtain rfl : t = [] := ht
   have hr : rest = [] := g4 rfl
   subst hr
   rw [g1]
   congr 2
   cases c
   simp at g2
   simp [g2]
  ·exact absurd hhb h
 let q : Row := ⟨t0, [], 0, some (.fam (.boxes ty pty k n tot (ps ++ [xs]) []))⟩
 have get : ∀ {j : Nat} {r : Row}, ((rows.set i (some q)).set b none)[j]? = some (some r) -> j ≠ b /\ ((j ≠ i /\ rows[j]? = some (some r)) ∨ (j = i /\ r = q)) := by
  intro j r h
  by_cases hjb : j = b
  ·subst hjb; rw [List.getElem?_set_self (by rw [List.length_set]; exact hbl)] at h; cases h
  ·rw [List.getElem?_set_ne (fun e => hjb e.symm)] at h
   refine ⟨hjb, ?_⟩
   by_cases hji : j = i
   ·subst hji; rw [List.getElem?_set_self hil] at h; cases h; exact .inr ⟨rfl, rfl⟩
   ·rw [List.getElem?_set_ne (fun e => hji e.symm)] at h; exact .inl ⟨hji, h⟩
 have noq : ∀ {ρ : Num}, ¬ Has ρ i q := by rintro ρ ⟨h, _⟩; cases h
 have len : ((rows.set i (some q)).set b none).length = rows.length := by simp
 have f3 : ∀ (j : Nat) (r : Row) (x : Ob), rows[j]? = some (some r) -> r.ob = some x -> ¬ φ j (ρ b).1 := fun j r x hj hr hy => (((hφ j r x hj hr).2 _ hy).2.2 b _ hb).1 hhb rfl
 have hpn : ∀ j, j < ps.length -> pb j ≠ (ρ b).1 := fun j hj he => f3 i _ _ hi rfl (by rw [<- he]; exact (hx.foot _).2 (.inr ⟨j, hj, by simp, rfl⟩))
 let pb' : Nat -> Nat := fun j => if j = ps.length then (ρ b).1 else pb j
 have p0 : ∀ j, j < ps.length -> pb' j = pb j := fun j hj => by simp only [pb']; rw [if_neg (by omega)]
 have p1 : pb' ps.length = (ρ b).1 := by simp [pb']
 refine ⟨hm.frame, hm.glob, fun j r hj => ?_, fun j l r u hj hl h1 h2 hq => ?_, fun j r hj hh => ?_, ⟨fun j => if j = i then fun y => φ i y ∨ y = (ρ b).1 else φ j, fun j r x hj hz => ?_⟩⟩
 ·rw [len]
  rcases get hj with ⟨h0, ⟨h1, h3⟩ | ⟨rfl, rfl⟩⟩
  ·exact hm.row j r h3
  ·exact ⟨.inr ⟨noq, [], rfl, fun h => by cases h⟩, trivial⟩
 ·rcases get hj with ⟨h0, ⟨g1, g3⟩ | ⟨rfl, rfl⟩⟩
  ·rcases get hl with ⟨m0, ⟨m1, m3⟩ | ⟨rfl, rfl⟩⟩
   ·exact hm.inj j l r u g3 m3 h1 h2 hq
   ·exact absurd h2 noq
  ·exact absurd h1 noq
 ·rcases get hj with ⟨h0, ⟨g1, g3⟩ | ⟨rfl, rfl⟩⟩
  ·exact hm.mine j r g3 hh
  ·exact absurd hh noq
 ·rcases get hj with ⟨h0, ⟨g1, g3⟩ | ⟨rfl, rfl⟩⟩
  ·obtain ⟨n1, n2⟩ := hφ j r x g3 hz
   simp only [if_neg g1]
   refine ⟨n1, fun y hy => ?_⟩
   obtain ⟨o1, o2, o3⟩ := n2 y hy
   refine ⟨o1, o2, fun l u hl => ?_⟩
   rcases get hl with ⟨m0, ⟨m1, m3⟩ | ⟨rfl, rfl⟩⟩
   ·exact ⟨(o3 l u m3).1, fun hu hne => by rw [if_neg m1]; exact (o3 l u m3).2 hu hne⟩
   ·refine ⟨fun hh => absurd hh noq, fun _ hne => ?_⟩
    rw [if_pos rfl]
    rintro (h | rfl)
    ·exact (o3 l _ hi).2 (by simp) hne h
    ·exact f3 j r x g3 hz hy
  ·cases hz
   simp only [if_true]
   refine ⟨⟨[], rfl, c, pb', by simp; omega, hx.room, hx.size, hx.list, fun l hl => ?_, fun l hl hk => ?_, rfl, fun a d ha hd he => ?_, fun l hl => ?_, fun l hl => by simp at hl, fun y => ?_⟩, fun y hy => ?_⟩
   ·simp at hl
    by_cases hle : l = ps.length
    ·subst hle; rw [hcp, p1]
    ·rw [p0 l (by omega), hx.ptr l (by omega)]
   ·simp at hl
    by_cases hle : l = ps.length
    ·subst hle; rw [p1, hcell]; simp
    ·rw [p0 l (by omega), hx.box l (by omega) (by simp), List.getD_eq_getElem?_getD, List.getD_eq_getElem?_getD, List.getElem?_append_left (by omega)]
   ·simp at ha hd
    by_cases e1 : a = ps.length <;> by_cases e2 : d = ps.length
    ·omega
    ·subst e1; rw [p1, p0 d (by omega)] at he; exact absurd he.symm (hpn d (by omega))
    ·subst e2; rw [p1, p0 a (by omega)] at he; exact absurd he (hpn a (by omega))
    ·rw [p0 a (by omega), p0 d (by omega)] at he; exact hx.inj a d (by omega) (by omega) he
   ·simp at hl
    by_cases hle : l = ps.length
    ·subst hle; rw [p1]; exact fun he => f3 _ _ _ hi rfl ((hx.foot _).2 (.inl he))
    ·rw [p0 l (by omega)]; exact hx.head l (by omega)
   ·constructor
    ·rintro (h | rfl)
     ·rcases (hx.foot y).1 h with rfl | ⟨l, g1, g2, rfl⟩
      ·exact .inl rfl
      ·exact .inr ⟨l, by simp; omega, by simp, (p0 l g1).symm⟩
     ·exact .inr ⟨ps.length, by simp, by simp, p1.symm⟩
    ·rintro (rfl | ⟨l, g1, g2, rfl⟩)
     ·exact .inl ((hx.foot _).2 (.inl rfl))
     ·simp at g1
      by_cases hle : l = ps.length
      ·subst hle; exact .inr p1
      ·exact .inl ((hx.foot _).2 (.inr ⟨l, by omega, by simp, p0 l (by omega)⟩))
   ·rcases hy with hy | rfl
    ·obtain ⟨o1, o2, o3⟩ := hf y hy
     refine ⟨o1, o2, fun l u hl => ?_⟩
     rcases get hl with ⟨m0, ⟨m1, m3⟩ | ⟨rfl, rfl⟩⟩
     ·exact ⟨(o3 l u m3).1, fun hu hne => by rw [if_neg m1]; exact (o3 l u m3).2 hu hne⟩
     ·exact ⟨fun hh => absurd hh noq, fun _ hne => absurd rfl hne⟩
    ·refine ⟨hm.lt hb hhb, hm.mine b _ hb hhb, fun l u hl => ?_⟩
     rcases get hl with ⟨m0, ⟨m1, m3⟩ | ⟨rfl, rfl⟩⟩
     ·refine ⟨fun hh he => m0 (hm.inj l b u _ m3 hb hh hhb he), fun hu hne => ?_⟩
      rw [if_neg m1]
      cases hu' : u.ob with
      | none => exact absurd hu' hu
      | some z => exact f3 l u z m3 hu'
     ·exact ⟨fun hh => absurd hh noq, fun _ hne => absurd rfl hne⟩
end Sx
end
section
namespace Sx
variable {P : Program} {T : Tab} {W : World} {F : Nat -> Prop} {nt : Nat} {ρ ρ' : Num} {s : SS} {a : Act} {w : World}
theorem MemOK.newOb {rows : List (Option Row)} (hm : MemOK W F ρ rows w) {w' : World} (hf : Frm (fun _ => False) w w') {x : Ob} {b0 : Nat × Nat} {S : Nat -> Prop} (hx : ObOK w' b0 S [] x) (hS : ∀ y, S y -> w.heap.size <= y /\ y < w'.heap.size) (ty : TypeId) :
  MemOK W F (ext ρ rows.length b0) (rows ++ [some ⟨ty, [], 0, some x⟩]) w' := by
 have hm' := hm.step hf
 have hoff := ext_off ρ rows.length b0
 have old : ∀ (i : Nat) (r : Row), (rows ++ [some ⟨ty, [], 0, some x⟩])[i]? = some (some r) -> (rows[i]? = some (some r) /\ i < rows.length) ∨ (i = rows.length /\ r.ob = some x /\ r.cs = []) := by
  intro i r hi
  rcases get_push hi with ⟨h1, h2⟩ | ⟨h1, h2⟩
  ·exact .inl ⟨h1, h2⟩
  ·subst h2; exact .inr ⟨h1, rfl, rfl⟩
 have has : ∀ (i : Nat) (r : Row), (rows ++ [some ⟨ty, [], 0, some x⟩])[i]? = some (some r) -> Has (ext ρ rows.length b0) i r -> rows[i]? = some (some r) /\ Has ρ i r /\ ext ρ rows.length b0 i = ρ i := by
  intro i r hi hh
  rcases old i r hi with ⟨h1, h2⟩ | ⟨h1, h2, _⟩
  ·exact ⟨h1, by have := hh; unfold Has at *; rw [hoff i (by omega)] at this; exact this, hoff i (by omega)⟩
  ·have := hh.1; rw [h2] at this; cases this
 refine ⟨hm'.frame, hm'.glob, fun i r hi => ?_, fun i j r q hi hj h1 h2 he => ?_, fun i r hi h1 => ?_, ?_⟩
 ·rcases old i r hi with ⟨h1, h2⟩ | ⟨h1, h2, h3⟩
  ·obtain ⟨g1, g2⟩ := hm'.row i r h1
   exact ⟨g1.map (hoff i (by omega)) rfl rfl rfl (fun _ => rfl) (fun vs hv => hv.off hoff (okdL_noM (Nat.le_refl _) g2)), okdL_mono (by simp) g2⟩
  ·exact ⟨.inr ⟨fun h => by { have h9 := h.1; rw [h2] at h9; cases h9 }, [], by rw [h3]; rfl, fun _ => rfl⟩, by rw [h3]; trivial⟩
 ·obtain ⟨g1, g2, g3⟩ := has i r hi h1
  obtain ⟨k1, k2, k3⟩ := has j q hj h2
  rw [g3, k3] at he
  exact hm'.inj i j r q g1 k1 g2 k2 he
 ·obtain ⟨g1, g2, g3⟩ := has i r hi h1
  rw [g3]; exact hm'.mine i r g1 g2
 ·obtain ⟨φ, hφ⟩ := hm.obs
  refine ⟨fun i => if i = rows.length then S else φ i, fun i r z hi hz => ?_⟩
  rcases old i r hi with ⟨h1, h2⟩ | ⟨h1, h2, h3⟩
  ·have hne : i ≠ rows.length := by omega
   obtain ⟨g1, g2⟩ := hφ i r z h1 hz
   simp only [if_neg hne, hoff i hne]
   refine ⟨Ob_loc (g1.map fun vs hv => hv.off hoff (okdL_noM (Nat.le_refl _) (hm.row i r h1).2)) fun y hy => hf.block y (g2 y hy).1 id, fun y hy => ?_⟩
   obtain ⟨k1, k2, k3⟩ := g2 y hy
   refine ⟨Nat.lt_of_lt_of_le k1 hf.size, k2, fun j q hj => ⟨fun hh => ?_, fun hq hji => ?_⟩⟩
   ·obtain ⟨m1, m2, m3⟩ := has j q hj hh
    rw [m3]; exact (k3 j q m1).1 m2
   ·rcases old j q hj with ⟨m1, m2⟩ | ⟨m1, m2, m3⟩
    ·rw [if_neg (by omega)]; exact (k3 j q m1).2 hq hji
    ·rw [if_pos m1]; intro h; have := hS y h; omega
  ·subst h1
   rw [h2] at hz; cases hz
   simp only [if_true, ext_new]
   refine ⟨by rw [h3]; exact .mk hx, fun y hy => ?_⟩
   obtain ⟨k1, k2⟩ := hS y hy
   refine ⟨k2, .inr (Nat.le_trans hm.frame.size k1), fun j q hj => ⟨fun hh => ?_, fun hq hji => ?_⟩⟩
   ·obtain ⟨m1, m2, m3⟩ := has j q hj hh
    rw [m3]; have := hm.lt m1 m2; omega
   ·rcases old j q hj with ⟨m1, m2⟩ | ⟨m1, m2, m3⟩
    ·rw [if_neg (by omega)]
     intro h
     cases hqo : q.ob with
     | none => exact hq hqo
     | some z => have := ((hφ j q z m1 hqo).2 y h).1; omega
    ·exact absurd m1 hji
theorem MemOK.setOb {rows : List (Option Row)} (hm : MemOK W F ρ rows w) {i : Nat} {r : Row} {x x' : Ob} (hi : rows[i]? = some (some r)) (hr : r.ob = some x) {Q : World -> Prop}
  (h : ∀ S gs, ObOK w (ρ i) S gs x -> (∀ y, S y -> y < w.heap.size) -> ∃ w' S', Q w' /\ Frm S w w' /\ ObOK w' (ρ i) S' [] x' /\ ∀ y, S' y -> S y ∨ (w.heap.size <= y /\ y < w'.heap.size)) :
  ∃ w', Q w' /\ MemOK W F ρ (rows.set i (some ⟨r.ty, [], 0, some x'⟩)) w' := by
 obtain ⟨φ, hφ⟩ := hm.obs
 obtain ⟨g1, g2⟩ := hφ i r x hi hr
 obtain ⟨gs, g0, g1⟩ := g1
 obtain ⟨w', S', q, hf, hx, hS⟩ := h (φ i) gs g1 fun y hy => (g2 y hy).1
 have hil := (List.getElem?_eq_some_iff.1 hi).1
 have old : ∀ (j : Nat) (q : Row), (rows.set i (some ⟨r.ty, [], 0, some x'⟩))[j]? = some (some q) -> (j = i /\ q.ob = some x' /\ q.cs = []) ∨ (j ≠ i /\ rows[j]? = some (some q)) := by
  intro j q hj
  rcases get_set hj with ⟨rfl, h2⟩ | ⟨h1, h2⟩
  ·subst h2; exact .inl ⟨rfl, rfl, rfl⟩
  ·exact .inr ⟨h1, h2⟩
 have has : ∀ (j : Nat) (q : Row), (rows.set i (some ⟨r.ty, [], 0, some x'⟩))[j]? = some (some q) -> Has ρ j q -> rows[j]? = some (some q) := by
  intro j q hj hh
  rcases old j q hj with ⟨_, h2, _⟩ | ⟨_, h2⟩
  ·have := hh.1; rw [h2] at this; cases this
  ·exact h2
 have keep : ∀ y, y < w.heap.size -> ¬ φ i y -> w'.heap[y]? = w.heap[y]? := fun y hy hn => hf.block y hy hn
 refine ⟨w', q, ⟨hf.os.trans hm.frame.os, hf.tape.trans hm.frame.tape, hf.output.trans hm.frame.output, Nat.le_trans hm.frame.size hf.size, fun b hb hn => ?_⟩, hm.glob, fun j q hj => ?_, fun j k q1 q2 hj hk h1 h2 he => ?_, fun j q hj h1 => ?_, ?_⟩
 ·rw [keep b (Nat.lt_of_lt_of_le hb hm.frame.size) (fun hy => ?_), hm.frame.block b hb hn]
  rcases (g2 b hy).2.1 with h | h
  ·exact hn h
  ·omega
 ·rcases old j q hj with ⟨h1, h2, h3⟩ | ⟨h1, h2⟩
  ·exact ⟨.inr ⟨fun h => by { have h9 := h.1; rw [h2] at h9; cases h9 }, [], by rw [h3]; rfl, fun _ => rfl⟩, by rw [h3]; trivial⟩
  ·obtain ⟨k1, k2⟩ := hm.row j q h2
   exact ⟨k1.map rfl rfl rfl rfl (fun hh => keep _ (hm.lt h2 hh) (fun hy => (((g2 _ hy).2.2 j q h2).1 hh) rfl)) (fun _ h => h), by simpa using k2⟩
 ·exact hm.inj j k q1 q2 (has j q1 hj h1) (has k q2 hk h2) h1 h2 he
 ·exact hm.mine j q (has j q hj h1) h1
 ·refine ⟨fun j => if j = i then S' else φ j, fun j q z hj hz => ?_⟩
  rcases old j q hj with ⟨h1, h2, h3⟩ | ⟨h1, h2⟩
  ·subst h1
   rw [h2] at hz; cases hz
   simp only [if_true]
   refine ⟨by rw [h3]; exact .mk hx, fun y hy => ?_⟩
   rcases hS y hy with hy | ⟨hy, hy'⟩
   ·obtain ⟨m1, m2, m3⟩ := g2 y hy
    refine ⟨Nat.lt_of_lt_of_le m1 hf.size, m2, fun k p hk => ⟨fun hh => (m3 k p (has k p hk hh)).1 hh, fun hp hkj => ?_⟩⟩
    rw [if_neg hkj]
    rcases old k p hk with ⟨h4, _⟩ | ⟨_, h4⟩
    ·exact absurd h4 hkj
    ·exact (m3 k p h4).2 hp hkj
   ·refine ⟨hy', .inr (Nat.le_trans hm.frame.size hy), fun k p hk => ⟨fun hh => ?_, fun hp hkj => ?_⟩⟩
    ·have := hm.lt (has k p hk hh) hh; omega
    ·rw [if_neg hkj]
     intro h
     rcases old k p hk with ⟨h4, _⟩ | ⟨_, h4⟩
     ·exact hkj h4
     ·cases hpo : p.ob with
      | none => exact hp hpo
      | some z => have := ((hφ k p z h4 hpo).2 y h).1; omega
  ·obtain ⟨m1, m2⟩ := hφ j q z h2 hz
   simp only [if_neg h1]
   have dis : ∀ y, φ j y -> ¬ φ i y := fun y hy hy2 => ((g2 y hy2).2.2 j q h2).2 (by rw [hz]; simp) h1 hy
   refine ⟨Ob_loc m1 fun y hy => keep y (m2 y hy).1 (dis y hy), fun y hy => ?_⟩
   obtain ⟨n1, n2, n3⟩ := m2 y hy
   refine ⟨Nat.lt_of_lt_of_le n1 hf.size, n2, fun k p hk => ⟨fun hh => (n3 k p (has k p hk hh)).1 hh, fun hp hkj => ?_⟩⟩
   by_cases hki : k = i
   ·rw [if_pos hki]
    intro h
    rcases hS y h with h | ⟨h, _⟩
    ·exact dis y hy h
    ·omega
   ·rw [if_neg hki]
    rcases old k p hk with ⟨h4, _⟩ | ⟨_, h4⟩
    ·exact absurd h4 hki
    ·exact (n3 k p h4).2 hp hkj
theorem famOf_ok {rows : List (Option Row)} {j : Nat} {f : FamR} (h : famOf rows j = some f) : rows[j]? = some (some ⟨f.t0, f.cs, 0, some (.fam (.boxes f.ty f.pty f.k f.n f.tot f.ps f.ks))⟩) := by
 unfold famOf at h
 split at h
 ·rename_i hr; cases h; exact hr
 ·cases h
theorem boxOf_ok {rows : List (Option Row)} {b : Nat} {g : TypeId × IntKind × Nat × List Int} (h : boxOf rows b = some g) : rows[b]? = some (some ⟨g.1, [.ints g.2.1 g.2.2.1 g.2.2.2], 0, none⟩) := by
 unfold boxOf at h
 split at h
 ·rename_i hr; cases h; exact hr
 ·cases h
theorem famOp_ok (hT : TabOK P T) (st : Sat W F nt ρ s a w) {o : Oper} {h : (SV -> Rows -> Prop) -> Prop} (hs : famOp T s o.op = some h) {k : SV -> Rows -> Prop} (hk : h k) {K : Act -> World -> Prop} {Q : Exit -> Act -> World -> Prop}
  (hK : ∀ (rows : Rows) (ρ' : Num) (w' : World) (u : SV), k u rows -> MemOK W F ρ' rows w' -> (∀ i, i < s.rows.length -> ρ' i = ρ i) -> s.rows.length <= rows.length -> okd W F rows.length u -> K (a.put o.dst (den ρ' u)) w') : o.wp P a w K Q := by
 have fin : ∀ {rows : Rows} {ρ' : Num} {w' : World} {u : SV} {v : Value}, (execOp a.eval o).run P w = .ok (.value v) w' -> v = den ρ' u -> k u rows -> MemOK W F ρ' rows w' -> (∀ i, i < s.rows.length -> ρ' i = ρ i) -> s.rows.length <= rows.length -> okd W F rows.length u -> o.wp P a w K Q := by
  intro rows ρ' w' u v h1 h2 h3 h4 h5 h6 h7
  have := hK rows ρ' w' u h3 h4 h5 h6 h7
  unfold Oper.wp
  rw [h1]
  subst h2
  simpa [Oper.upon] using this
 cases hop : o.op <;> simp only [hop, famOp, reduceCtorEq] at hs
 case indexAddr t x ix =>
  simp only [Option.bind_eq_some_iff] at hs
  obtain ⟨v, hv, vi, hvi, q, hq, hs⟩ := hs
  split at hs
  ·rename_i j n
   simp only [Option.bind_eq_some_iff] at hs
   obtain ⟨f, hf, i, hi, e, he, ei, hei, hs⟩ := hs
   rcases beq_some hs with ⟨es, hs⟩ | ⟨es, hs⟩
   ·cases hs
    obtain ⟨e1, ox, _⟩ := ev_ok st hv
    obtain ⟨f1, _, _⟩ := ev_ok st hvi
    obtain ⟨k0, k1, k2⟩ := hk
    have hu := slD_ok (hT t i hi) he
    rw [asI_ok hq ρ] at f1
    refine fin (ρ' := ρ) (w' := w) (u := .pte j 0 q.2.1) (v := .pointer (some ⟨(ρ j).1, 0 + q.2.1.toNat, none⟩)) ?_ rfl k2 st.mem (fun _ _ => rfl) (Nat.le_refl _) ox
    simp [execOp, hop, e1, f1, Instr.indexAt, asIntOf, run_underlying hu, Instr.sureAddr, den, listV, k0, k1, (hT e ei hei).run_size w, addr_add, es]
   ·cases hs
  ·cases hs
 case load t x =>
  simp only [Option.bind_eq_some_iff] at hs
  obtain ⟨v, hv, hs⟩ := hs
  split at hs
  ·rename_i j e
   simp only [Option.bind_eq_some_iff] at hs
   obtain ⟨f, hf, i, hi, hs⟩ := hs
   rcases cond_some hs with ⟨ec, hs⟩ | ⟨ec, hs⟩
   ·cases hs
    simp only [Bool.and_eq_true, List.isEmpty_iff, Bool.not_eq_true'] at ec
    obtain ⟨⟨⟨c1, c2⟩, c3⟩, c4⟩ := ec
    obtain ⟨e1, ox, _⟩ := ev_ok st hv
    obtain ⟨k0, k1, k2⟩ := hk
    have hr := famOf_ok hf
    rw [c3, c4] at hr
    obtain ⟨ρ', r1, ⟨c, r2, r3⟩, r4⟩ := st.mem.openBox (e := e.toNat) hr (by omega) (by simp)
    refine fin (ρ' := ρ') (w' := w) (u := .ptr s.rows.length 0) (v := .pointer (some ⟨(ρ' s.rows.length).1, 0, none⟩)) ?_ rfl k2 r4 r1 (by simp) (by show s.rows.length < _; simp)
    have hld := run_loadVar_cell (P := P) (w := w) (hT t i hi) c1 (b := (ρ j).1) (o := 0 + e.toNat) (u := .pointer (some ⟨(ρ' s.rows.length).1, 0, none⟩)) (by
     simp only [World.cell?, r2, Nat.zero_add]
     simpa using r3)
    rw [Nat.zero_add] at hld
    simp [execOp, hop, e1, den, Instr.loadAt, Instr.sureAddr, hld]
   ·cases hs
  ·cases hs
 case store t x v =>
  simp only [Option.bind_eq_some_iff] at hs
  obtain ⟨vx, hvx, vv, hvv, hs⟩ := hs
  split at hs
  ·rename_i j e b
   simp only [Option.bind_eq_some_iff] at hs
   obtain ⟨f, hf, g, hg, i, hi, hs⟩ := hs
   rcases cond_some hs with ⟨ec, hs⟩ | ⟨ec, hs⟩
   ·cases hs
    simp only [Bool.and_eq_true, List.isEmpty_iff, Bool.not_eq_true', decide_eq_true_eq] at ec
    obtain ⟨⟨⟨⟨⟨⟨c1, c2⟩, c3⟩, c4⟩, c5⟩, c6⟩, c7⟩ := ec
    have c2 := Nat.eq_of_beq_eq_true c2
    have c7 := Nat.eq_of_beq_eq_true c7
    obtain ⟨e1, ox, _⟩ := ev_ok st hvx
    obtain ⟨f1, oy, _⟩ := ev_ok st hvv
    obtain ⟨k0, k1, kt, k2⟩ := hk
    have hr := famOf_ok hf
    rw [c3, c4] at hr
    have hb := boxOf_ok hg
    rw [c5, c6, c7] at hb
    have hjl := (List.getElem?_eq_some_iff.1 hr).1
    have hbj : b ≠ j := by
     rintro rfl
     rw [hb] at hr
     have := congrArg Row.ob (Option.some.inj (Option.some.inj hr))
     simp at this
    obtain ⟨w', ⟨q1, q2⟩, q3⟩ := st.mem.setOb (x' := .fam (.boxes f.ty f.pty f.k f.n f.tot f.ps [])) hr rfl (Q := fun w' => (execOp a.eval o).run P w = .ok .skip w' /\ ∀ c : Array Value, w'.heap[(ρ j).1]? = some (.cells c f.pty (0, 0)) -> c[f.ps.length]? = some (.pointer (some ⟨(ρ b).1, 0, none⟩))) (fun S gs hx hS => by
     obtain ⟨c, pb, hx⟩ := hx
     have hg0 : gs = [] := hx.gone
     subst hg0
     have hsz : f.ps.length < c.size := Nat.lt_of_lt_of_le kt hx.size
     have hrun := run_storeVar_of (P := P) (w := w) (hT t i hi) hx.list (o := f.ps.length) (v := .pointer (some ⟨(ρ b).1, 0, none⟩)) (vs := [.pointer (some ⟨(ρ b).1, 0, none⟩)]) (by simp [Value.cells]) (by simp [c2]) (by simp; omega) (by simp [Value.oneCell'])
     let c' : Array Value := (c.toList.take f.ps.length ++ [Value.pointer (some ⟨(ρ b).1, 0, none⟩)] ++ c.toList.drop (f.ps.length + 1)).toArray
     have hrow : (w.setRow (ρ j).1 c').heap[(ρ j).1]? = some (.cells c' f.pty (0, 0)) := setRow_heap _ _ _ _ _ _ hx.list
     have hget : ∀ l, l < f.ps.length -> c'[l]? = c[l]? := fun l hl => by
      simp only [c', List.getElem?_toArray, List.append_assoc]
      rw [List.getElem?_append_left (by simp; omega), List.getElem?_take_of_lt hl]
      simp
     have hnew : c'[f.ps.length]? = some (.pointer (some ⟨(ρ b).1, 0, none⟩)) := by
      simp only [c', List.getElem?_toArray, List.append_assoc]
      rw [List.getElem?_append_right (by simp; omega)]
      have : f.ps.length - (List.take f.ps.length c.toList).length = 0 := by simp; omega
      rw [this]; rfl
     have hne : ∀ y, S y -> y ≠ (ρ j).1 -> (w.setRow (ρ j).1 c').heap[y]? = w.heap[y]? := fun y _ hy => setRow_other _ _ _ _ hy
     refine ⟨w.setRow (ρ j).1 c', S, ⟨?_, fun c2 h2 => ?_⟩, ⟨rfl, rfl, rfl, by simp, fun y hy hn => setRow_other _ _ _ _ (fun e => hn (by subst e; exact (hx.foot _).2 (.inl rfl)))⟩, ⟨c', pb, hx.fill, hx.room, ?_, hrow, fun l hl => by rw [hget l hl]; exact hx.ptr l hl, fun l hl hk => ?_, rfl, hx.inj, hx.head, fun l hl => by simp at hl, hx.foot⟩, fun y hy => .inl hy⟩
     ·have hrun' : (storeVar t ⟨(ρ j).1, f.ps.length, none⟩ (.pointer (some ⟨(ρ b).1, 0, none⟩))).run P w = .ok () (w.setRow (ρ j).1 c') := by rw [hrun]; simp [c']
      simp [execOp, hop, e1, f1, den, Instr.storeAt, Instr.sureAddr, k1, hrun']
     ·rw [hrow] at h2
      obtain rfl : c' = c2 := by simpa using h2
      exact hnew
     ·have := hx.size
      simp [c']
      omega
     ·rw [hne _ ((hx.foot _).2 (.inr ⟨l, hl, by simp, rfl⟩)) (hx.head l hl)]
      exact hx.box l hl hk)
    have hb2 : (s.rows.set j (some ⟨f.t0, [], 0, some (.fam (.boxes f.ty f.pty f.k f.n f.tot f.ps []))⟩))[b]? = some (some ⟨f.ty, [.ints f.k f.n g.2.2.2], 0, none⟩) := by
     rw [List.getElem?_set_ne (fun e => hbj e.symm)]; exact hb
    have hm2 := q3.absorbBox (List.getElem?_set_self hjl) hb2 kt q2
    rw [List.set_set] at hm2
    have := hK _ ρ w' .top k2 hm2 (fun _ _ => rfl) (by simp) trivial
    unfold Oper.wp
    rw [q1]
    simpa [Oper.upon, den] using this
   ·cases hs
  ·cases hs
 case makeSlice t len cap =>
  simp only [Option.bind_eq_some_iff] at hs
  obtain ⟨vl, hvl, vc, hvc, ⟨kl, l, cl⟩, hl, ⟨kc, c, cc⟩, hc, i, hi, e, he, ei, hei, p, hp, pi, hpi, d, hd, di, hdi, kk, hkk, hs⟩ := hs
  rcases cond_some hs with ⟨ec, hs⟩ | ⟨ec, hs⟩
  ·cases hs
   simp only [Bool.and_eq_true] at ec
   have c1 := Nat.eq_of_beq_eq_true ec.1
   have c2 := Nat.le_of_ble_eq_true ec.2
   obtain ⟨e1, _, _⟩ := ev_ok st hvl
   obtain ⟨f1, _, _⟩ := ev_ok st hvc
   obtain ⟨k0, k1, k2, k3⟩ := hk
   have k1 : l = c := k1
   subst k1
   have k0 : 0 <= l := k0
   have k2 : l <= (most : Nat) := k2
   have hu := slD_ok (hT t i hi) he
   obtain ⟨it, z, i1, i2, i3, i4, i5, _⟩ := (hT e ei hei).info
   rw [asI_ok hl ρ] at e1
   rw [asI_ok hc ρ] at f1
   have hby : (it.bytes : Int) * l <= 281474976710656 := by
    have h1 : (it.bytes : Int) * l <= 1024 * l := Int.mul_le_mul_of_nonneg_right (by omega) (by omega)
    unfold most at k2
    omega
   have hr := run_make (P := P) w t e it z hu i1 i4 kl kc l l k0 (Int.le_refl _) hby (by unfold most at k2; omega)
   have hsz : (madeCells z.cells (l.toNat * it.size)).size = l.toNat := by simp [madeCells, i2, c1]
   refine fin (ρ' := ext ρ s.rows.length (w.heap.size, l.toNat)) (w' := w.alloc (.cells (madeCells z.cells (l.toNat * it.size)) e)) (u := .on s.rows.length l.toNat false) (v := .slice (some ⟨w.heap.size, 0, none⟩) l.toNat l.toNat) ?_ (by simp [den, listV, ext_new]) k3
    (st.mem.newOb (w' := w.alloc (.cells (madeCells z.cells (l.toNat * it.size)) e)) (x := .fam (.boxes p e kk d.1 l.toNat [] [])) (b0 := (w.heap.size, l.toNat)) ⟨rfl, rfl, rfl, by simp, fun b hb _ => Below.heap_alloc _ _ _ hb⟩ (S := fun y => y = w.heap.size) ⟨madeCells z.cells (l.toNat * it.size), fun _ => 0, ⟨Nat.zero_le _, Nat.le_refl _, by rw [hsz]; exact Nat.le_refl _, heap_alloc_new w _, fun j hj => by simp at hj, fun j hj => by simp at hj, rfl, fun _ _ hj => by simp at hj, fun j hj => by simp at hj, fun j hj => by simp at hj, fun y => ⟨fun h => .inl h, fun h => by rcases h with h | ⟨j, hj, _⟩; exact h; simp at hj⟩⟩⟩ (fun y hy => by subst hy; simp) 0)
    (fun i hi => ext_off _ _ _ i (by omega)) (by simp) (by simp [okd])
   simp only [execOp, hop, e1, f1, Sem.run_bind, hr, Result.andThen_ok]
   simp
  ·cases hs
theorem ptrD_ok2 {t : TypeId} {i : TyI} (h : TyOK P t i) {e : TypeId} (hd : ptrD i = some e) : P.underlying t = some (.pointer e) := by
 obtain ⟨d, h1, _, h3⟩ := h.desc
 unfold ptrD at hd
 split at hd
 ·rename_i e' hd'
  cases hd
  rw [hd'] at h3
  cases d <;> simp [DescOK] at h3
  subst h3
  exact h1
 ·cases hd
theorem run_ptr_eql {t e : TypeId} {n : Nat} (w : World) (hp : P.underlying t = some (.pointer e)) (hs : (sizeOf e).run P w = .ok n w) (hn : n ≠ 0) {a b : Addr} {r : Bool} (h : (sameAddr a b).run P w = .ok r w) :
  (binOp .eql t (.pointer (some a)) (.pointer (some b))).run P w = .ok (.bool r) w /\ (binOp .neq t (.pointer (some a)) (.pointer (some b))).run P w = .ok (.bool !r) w := by
 have key : ∀ d : Nat, (Op.equalIn (d + 1) t (.pointer (some a)) (.pointer (some b))).run P w = .ok r w := fun d => by
  simp [Op.equalIn, run_underlying hp, hs, hn, h]
 constructor
 ·simp only [binOp]
  simp [Op.equal, Op.maxDepth, key 9999]
 ·simp only [binOp]
  simp [Op.equal, Op.maxDepth, key 9999, bne]
theorem blk_cells {rows : List (Option Row)} (hm : MemOK W F ρ rows w) {i : Nat} (h : blkRow rows i = true) : ∃ c ty, w.heap[(ρ i).1]? = some (.cells c ty (0, 0)) := by
 unfold blkRow at h
 split at h
 ·rename_i r hr
  split at h
  ·rename_i ho
   have hz := Nat.eq_of_beq_eq_true h
   rcases (hm.row i r hr).1 with ⟨_, c, l, rest, g1, _⟩ | ⟨hn, _⟩
   ·exact ⟨c, _, g1⟩
   ·exact absurd ⟨ho, .inl hz⟩ hn
  ·rename_i x ho
   obtain ⟨φ, hφ⟩ := hm.obs
   obtain ⟨⟨gs, _, hx⟩, _⟩ := hφ i r _ hr ho
   obtain ⟨ρ1, φ1, hp⟩ := hx
   obtain ⟨r1, k1, k2, k3⟩ := hp.head
   rcases (hp.row 0 r1 k1).1 with ⟨_, c, l, rest, g1, _⟩ | ⟨hn, _⟩
   ·rw [hp.at0] at g1
    exact ⟨c, _, g1⟩
   ·exact absurd ⟨k3, .inl k2⟩ hn
  ·cases h
 ·cases h
theorem blk_foot {rows : List (Option Row)} {φ : Nat -> Nat -> Prop} (hφ : ObsOK W F ρ φ rows w) {i : Nat} {r : Row} {x : OT} (hr : rows[i]? = some (some r)) (ho : r.ob = some (.own x)) : φ i (ρ i).1 := by
 obtain ⟨⟨gs, _, hx⟩, _⟩ := hφ i r _ hr ho
 obtain ⟨ρ1, φ1, hp⟩ := hx
 obtain ⟨r1, k1, k2, k3⟩ := hp.head
 exact (hp.foot _).2 (.inl ⟨0, r1, k1, ⟨k3, .inl k2⟩, hp.at0⟩)
theorem blk_ne {rows : List (Option Row)} (hm : MemOK W F ρ rows w) {i j : Nat} (hi : blkRow rows i = true) (hj : blkRow rows j = true) (hne : i ≠ j) : (ρ i).1 ≠ (ρ j).1 := by
 obtain ⟨φ, hφ⟩ := hm.obs
 have kind : ∀ k, blkRow rows k = true -> ∃ r, rows[k]? = some (some r) /\ (Has ρ k r ∨ ∃ x, r.ob = some (.own x)) := fun k h => by
  unfold blkRow at h
  split at h
  ·rename_i r hr
   split at h
   ·rename_i ho
    exact ⟨r, hr, .inl ⟨ho, .inl (Nat.eq_of_beq_eq_true h)⟩⟩
   ·rename_i x ho
    exact ⟨r, hr, .inr ⟨x, ho⟩⟩
   ·cases h
  ·cases h
 obtain ⟨r, hr, h1⟩ := kind i hi
 obtain ⟨q, hq, h2⟩ := kind j hj
 intro he
 rcases h1 with h1 | ⟨x, h1⟩
 ·rcases h2 with h2 | ⟨y, h2⟩
  ·exact hne (hm.inj i j r q hr hq h1 h2 he)
  ·have f := blk_foot hφ hq h2
   exact (((hφ j q _ hq h2).2 _ f).2.2 i r hr).1 h1 he
 ·have f := blk_foot hφ hr h1
  rcases h2 with h2 | ⟨y, h2⟩
  ·exact (((hφ i r _ hr h1).2 _ f).2.2 j q hq).1 h2 he.symm
  ·have f2 := blk_foot hφ hq h2
   rw [<- he] at f2
   exact (((hφ i r _ hr h1).2 _ f).2.2 j q hq).2 (by rw [h2]; simp) (fun e => hne e.symm) f2
theorem slowOp_ok (hT : TabOK P T) (st : Sat W F nt ρ s a w) {o : Oper} {h : (SV -> Rows -> Prop) -> Prop} (hs : slowOp T s o.op = some h) {k : SV -> Rows -> Prop} (hk : h k) {K : Act -> World -> Prop} {Q : Exit -> Act -> World -> Prop}
  (hK : ∀ (rows : Rows) (ρ' : Num) (w' : World) (u : SV), k u rows -> MemOK W F ρ' rows w' -> (∀ i, i < s.rows.length -> ρ' i = ρ i) -> s.rows.length <= rows.length -> okd W F rows.length u -> K (a.put o.dst (den ρ' u)) w') : o.wp P a w K Q := by
 have hfam : famOp T s o.op = some h -> o.wp P a w K Q := fun hs => famOp_ok hT st hs hk hK
 cases hop : o.op <;> (try (rw [hop] at hfam)) <;> simp only [hop, slowOp, reduceCtorEq] at hs <;> (try exact hfam hs)
 case binOp op t x y yt =>
  simp only [Option.bind_eq_some_iff] at hs
  obtain ⟨u, hu, v, hv, hs⟩ := hs
  have e1 := (ev_ok st hu).1
  have f1 := (ev_ok st hv).1
  unfold ptrEqS at hs
  split at hs
  ·rename_i i o1 j o2
   simp only [Option.bind_eq_some_iff] at hs
   obtain ⟨ti, hti, e, he, ei, hei, hs⟩ := hs
   rcases cond_some hs with ⟨hb, hs⟩ | ⟨hb, hs⟩
   ·cases hs
   ·simp only [Bool.or_eq_false_iff, Bool.not_eq_false'] at hb
    obtain ⟨hb1, hb2⟩ := hb
    have hp := ptrD_ok2 (hT t ti hti) he
    have hsz := (hT e ei hei).run_size w
    have hn : ei.size ≠ 0 := fun h => by rw [h] at hb1; cases hb1
    have hsame : (sameAddr ⟨(ρ i).1, o1, none⟩ ⟨(ρ j).1, o2, none⟩).run P w = .ok (Nat.beq i j && Nat.beq o1 o2) w := by
     by_cases hij : i = j
     ·subst hij
      have e3 : Nat.beq i i = true := Nat.beq_refl i
      rw [e3, Bool.true_and]
      by_cases ho : o1 = o2
      ·subst ho
       rw [Nat.beq_refl]
       simp [sameAddr]
      ·have e4 : Nat.beq o1 o2 = false := by
        cases h : Nat.beq o1 o2
        ·rfl
        ·exact absurd (Nat.eq_of_beq_eq_true h) ho
       rw [e4]
       simp [sameAddr, ho]
     ·have e3 : Nat.beq i j = false := by
       cases h : Nat.beq i j
       ·rfl
       ·exact absurd (Nat.eq_of_beq_eq_true h) hij
      rw [e3, Bool.false_and]
      rw [e3, Bool.false_or, Bool.and_eq_true] at hb2
      obtain ⟨c1, t1, g1⟩ := blk_cells st.mem hb2.1
      obtain ⟨c2, t2, g2⟩ := blk_cells st.mem hb2.2
      have hne := blk_ne st.mem hb2.1 hb2.2 hij
      simp [sameAddr, hne, World.frozen?, g1, g2, noView, viewAt, World.shape?, mayBeOne, stringish]
    obtain ⟨r1, r2⟩ := run_ptr_eql w hp hsz hn hsame
    have hg : ∀ (o0 : BinOp) (a b : Option Addr), (eqGuard o0 t x y (.pointer a) (.pointer b)).run P w = .ok () w := fun o0 a b => run_eqGuard _ _ _ _ _ _ (.inl (fun h => by cases h)) (by rintro ⟨_, _, h, _⟩; cases h)
    have d1 : den ρ (.ptr i o1) = .pointer (some ⟨(ρ i).1, o1, none⟩) := rfl
    have d2 : den ρ (.ptr j o2) = .pointer (some ⟨(ρ j).1, o2, none⟩) := rfl
    rw [d1] at e1
    rw [d2] at f1
    split at hs
    ·cases hs
     have g1 := run_bin_of .eql t x y yt o hop (by rw [e1, f1]; exact hg _ _ _) (by rw [e1, f1]; exact r1)
     have := hK _ ρ w _ hk st.mem (fun _ _ => rfl) (Nat.le_refl _) trivial
     unfold Oper.wp
     rw [g1]
     simpa [Oper.upon, den] using this
    ·cases hs
     have g1 := run_bin_of .neq t x y yt o hop (by rw [e1, f1]; exact hg _ _ _) (by rw [e1, f1]; exact r2)
     have := hK _ ρ w _ hk st.mem (fun _ _ => rfl) (Nat.le_refl _) trivial
     unfold Oper.wp
     rw [g1]
     simpa [Oper.upon, den] using this
    ·cases hs
  ·cases hs
 case range t x =>
  simp only [Option.bind_eq_some_iff] at hs
  obtain ⟨v, hv, i, hi, t0, ht, hs⟩ := hs
  rcases cond_some hs with ⟨e, hs⟩ | ⟨e, hs⟩
  ·cases hs
   obtain ⟨e1, _, _⟩ := ev_ok st hv
   have hd : v = .str t0 := by cases v <;> simp [asS] at ht; rw [ht]
   subst hd
   have hstr : P.underlying t = some .string := isStrD_ok (hT t i hi) e
   have hrun : (execOp a.eval o).run P w = .ok (.value (.pointer (some ⟨w.heap.size, 0, none⟩))) (w.alloc (.stringIter t0 0)) := by
    simp [execOp, hop, e1, den, Instr.range, run_underlying hstr]
   have hnew := hK (s.rows ++ [some ⟨0, [], 0, some (.iter t0 0)⟩]) (ext ρ s.rows.length (w.heap.size, 0)) (w.alloc (.stringIter t0 0)) (.ptr s.rows.length 0) hk
    (st.mem.newOb (w' := w.alloc (.stringIter t0 0)) (x := .iter t0 0) (b0 := (w.heap.size, 0)) ⟨rfl, rfl, rfl, by simp, fun b hb _ => Below.heap_alloc _ _ _ hb⟩ (S := fun y => y = w.heap.size) ⟨heap_alloc_new w _, fun y => Iff.rfl⟩ (fun y hy => by subst hy; simp) 0)
    (fun i hi => ext_off _ _ _ i (by omega)) (by simp) (by simp [okd])
   unfold Oper.wp
   rw [hrun]
   simpa [Oper.upon, den, ext_new] using hnew
  ·cases hs
 case next it b =>
  cases b with
  | false => exact hfam hs
  | true =>
  simp only [Option.bind_eq_some_iff] at hs
  obtain ⟨v, hv, hs⟩ := hs
  split at hs
  ·rename_i i
   split at hs
   ·rename_i r hr
    split at hs
    ·rename_i t0 p hob
     cases hs
     obtain ⟨e1, o1, _⟩ := ev_ok st hv
     cases hb : Nat.blt p t0.size with
     | true =>
       rw [hb] at hk
       simp only [cond_true] at hk
       have hlt : p < t0.size := Nat.le_of_ble_eq_true (show Nat.ble (p + 1) t0.size = true from hb)
       obtain ⟨w', g1, g2⟩ := st.mem.setOb (x' := .iter t0 (p + (Utf8.decode t0 p).2)) hr hob (Q := fun w' => (execOp a.eval o).run P w = .ok (.value (.tuple #[.bool true, .int .i64 p, .int .i32 (Utf8.decode t0 p).1])) w') (fun S _ hx hS => by
        refine ⟨{ w with heap := w.heap.setIfInBounds (ρ i).1 (.stringIter t0 (p + (Utf8.decode t0 p).2)) }, S, ?_, ⟨rfl, rfl, rfl, by simp, fun b hb hn => ?_⟩, ⟨?_, hx.2⟩, fun y hy => .inl hy⟩
        ·simp [execOp, hop, e1, den, Instr.next, getObj, setObj, Sem.run, hx.1, hlt, goInt]
        ·have hne : (ρ i).1 ≠ b := fun h => hn ((hx.2 b).2 h.symm)
         simp [hne]
        ·have := hS _ ((hx.2 _).2 rfl)
         simp [this])
       have := hK _ ρ w' (.tup [.litb true, .lit .i64 p, .lit .i32 (Utf8.decode t0 p).1]) hk g2 (fun _ _ => rfl) (by simp) ⟨trivial, trivial, trivial, trivial⟩
       unfold Oper.wp
       rw [g1]
       simpa [Oper.upon, den, denL] using this
     | false =>
       rw [hb] at hk
       simp only [cond_false] at hk
       have hge : ¬ p < t0.size := fun h => by
        have : Nat.ble (p + 1) t0.size = true := Nat.ble_eq_true_of_le h
        rw [show Nat.blt p t0.size = Nat.ble (p + 1) t0.size from rfl, this] at hb
        cases hb
       obtain ⟨φ, hφ⟩ := st.mem.obs
       obtain ⟨⟨_, _, hx⟩, _⟩ := hφ i r _ hr hob
       have g1 : (execOp a.eval o).run P w = .ok (.value (.tuple #[.bool false])) w := by
        simp [execOp, hop, e1, den, Instr.next, getObj, Sem.run, hx.1, hge]
       have := hK _ ρ w (.tup [.litb false]) hk st.mem (fun _ _ => rfl) (Nat.le_refl _) ⟨trivial, trivial⟩
       unfold Oper.wp
       rw [g1]
       simpa [Oper.upon, den, denL] using this
    ·cases hs
   ·cases hs
  ·cases hs
end Sx
end
section
namespace Sx
variable {P : Program} {W : World} {F : Nat -> Prop} {ρ ρ0 : Num} {s : SS} {a : Act} {w : World} {cx : Ctx}
def PureSem (P : Program) (f : FuncId) (args : List SV) (v : SV) : Prop :=
 ∀ (W : World) (F : Nat -> Prop) (ρ : Num) (rows : List (Option Row)) (w : World), MemOK W F ρ rows w -> okdL W F rows.length args ->
  okd W F rows.length v /\ v ≠ .top /\ Calls P f (denL ρ args).toArray w fun e w' => e = .returned (den ρ v) /\ Frm (fun _ => False) w w'
def EEntry (P : Program) (f : FuncId) (c : ECon) : Prop :=
 (∀ args w, (callFunc f args).run P w = .ok (.enter f args) w) /\ ∀ args rows ps alts, c args rows = some (ps, alts) -> All ps -> SemCall P f args rows (AltK alts)
structure CxOK (P : Program) (cx : Ctx) : Prop where
 tab : TabOK P cx.T
 pure : ∀ f h, cx.pure f = some h -> (∀ args w, (callFunc f args).run P w = .ok (.enter f args) w) /\ ∀ args ps v, h args = some (ps, v) -> All ps -> PureSem P f args v
 call : ∀ f h, cx.tbl f = some h -> (∀ args w, (callFunc f args).run P w = .ok (.enter f args) w) /\ ∀ args rows k, h args rows k -> SemCall P f args rows k
 con : ∀ f c, cx.con f = some c -> EEntry P f c
def At (W : World) (F : Nat -> Prop) (ρ0 : Num) (cx : Ctx) (s : SS) (a : Act) (w : World) : Prop :=
 ∃ ρ, Sat W F cx.nt ρ s a w /\ (∀ i, i < cx.n0 -> ρ i = ρ0 i) /\ cx.n0 <= s.rows.length
theorem lookup_cons {α : Type} {d e : Nat} {v : α} {l : List (Nat × α)} : List.lookup e ((d, v) :: l) = if e = d then some v else List.lookup e l := by
 simp only [List.lookup]
 by_cases h : e = d
 ·simp [h]
 ·simp [h, beq_false_of_ne h]
theorem Sat.put (st : Sat W F cx.nt ρ s a w) {d : Nat} {v : SV} {x : Value} (hd : d < cx.nt) (hg : x = den ρ v) (ho : okd W F s.rows.length v) : Sat W F cx.nt ρ ⟨(d, v) :: s.tm, s.rows⟩ (a.put (some d) x) w := by
 refine ⟨by simp [Act.put, st.size], st.defers, fun e sv he => ?_, st.mem⟩
 rw [lookup_cons] at he
 by_cases hed : e = d
 ·subst hed
  simp at he; subst he
  right
  refine ⟨?_, ho⟩
  simp only [Act.put]
  rw [Array.getElem?_setIfInBounds_self, hg]
  simp [st.size, hd]
 ·simp [hed] at he
  rcases st.tm e sv he with h | ⟨h1, h2⟩
  ·exact .inl h
  ·right
   refine ⟨?_, h2⟩
   simp only [Act.put]
   rw [Array.getElem?_setIfInBounds_ne (by omega)]
   exact h1
theorem Sat.rows (st : Sat W F cx.nt ρ s a w) {ρ' : Num} {rows' : Rows} {w' : World} (hm : MemOK W F ρ' rows' w') (hρ : ∀ i, i < s.rows.length -> ρ' i = ρ i) (hl : s.rows.length <= rows'.length) : Sat W F cx.nt ρ' ⟨s.tm, rows'⟩ a w' := by
 refine ⟨st.size, st.defers, fun e sv he => ?_, hm⟩
 rcases st.tm e sv he with h | ⟨h1, h2⟩
 ·exact .inl h
 ·right
  exact ⟨by rw [h1, den_congr hρ h2], okd_mono hl h2⟩
theorem At.put (h : At W F ρ0 cx s a w) {d : Option Tmp} {v : SV} {k : SS -> Prop} {x : Value} (hg : ∀ ρ, Sat W F cx.nt ρ s a w -> (∀ i, i < cx.n0 -> ρ i = ρ0 i) -> x = den ρ v /\ okd W F s.rows.length v) (hk : putS cx s.tm d v fun tm => k ⟨tm, s.rows⟩) :
  ∃ s', k s' /\ At W F ρ0 cx s' (a.put d x) w := by
 obtain ⟨ρ, st, h1, h2⟩ := h
 obtain ⟨g1, g2⟩ := hg ρ st h1
 cases d with
 | none => exact ⟨_, hk, ρ, st, h1, h2⟩
 | some d =>
   simp only [putS] at hk
   cases hd : Nat.blt d cx.nt with
   | false => simp [hd] at hk
   | true =>
     simp only [hd, cond_true] at hk
     have hk := forceSV_out (K := fun v => k ⟨(d, v) :: s.tm, s.rows⟩) hk
     exact ⟨_, hk, ρ, st.put (Nat.le_of_ble_eq_true (show Nat.ble (d + 1) cx.nt = true from hd)) g1 g2, h1, h2⟩
theorem denL_append (ρ : Num) (x y : List SV) : denL ρ (x ++ y) = denL ρ x ++ denL ρ y := by simp [denL_eq]
theorem denL_toArray_append (ρ : Num) (x y : List SV) : (denL ρ x).toArray ++ (denL ρ y).toArray = (denL ρ (x ++ y)).toArray := by simp [denL_append]
theorem callOf_ok (st : Sat W F cx.nt ρ s a w) {o : Oper} {f : FuncId} {args : List SV} (h : callOf s o.op = some (f, args)) (hc : ∀ args w, (callFunc f args).run P w = .ok (.enter f args) w) :
  (execOp a.eval o).run P w = .ok (.enter f (denL ρ args).toArray) w /\ okdL W F s.rows.length args := by
 unfold callOf at h
 split at h
 ·rename_i fo args0 tys hop
  simp only [Option.bind_eq_some_iff] at h
  obtain ⟨fv, hf, h⟩ := h
  split at h
  ·rename_i g first cap
   simp only [Option.map_eq_some_iff] at h
   obtain ⟨as', has, h⟩ := h
   cases h
   obtain ⟨e1, e2, _⟩ := ev_ok st hf
   obtain ⟨a1, a2⟩ := evL_ok st has
   have hargs : args0.map a.eval = (denL ρ as').toArray := by apply Array.ext'; rw [Array.toList_map, a1]
   refine ⟨?_, okdL_append (okdL_append e2.1 a2) e2.2⟩
   simp only [den] at e1
   simp only [execOp, hop, resolve, e1, Deferred.ofValue, hargs]
   simp only [bind_pure_comp, map_pure, pure_bind, invoke, denL_toArray_append, Sem.run_pure, hc, Sem.run_bind, Result.andThen_ok]
  ·cases h
 ·cases h
mutual
theorem soft_den (ρ : Num) : ∀ (c : SV), den ρ (soft c) = den ρ c
 | .agg cs => by simp only [soft, den]; rw [softL_cells ρ cs]
 | .tup cs => by simp only [soft, den]; rw [softL_den ρ cs]
 | .lit _ _ | .litb _ | .top | .int _ _ | .bool _ | .str _ | .val _ | .hnd _ | .ptr _ _ | .pte _ _ _ | .ptm _ _ _ _ | .many _ _ _ | .sl _ _ _ _ | .os _ _ _ _ | .on _ _ _ | .ow _ _ _ _ _ _ | .gp _ _ | .gpe _ _ _ _ _ | .rd _ _ _ | .rda _ _ _ _ | .rs _ _ _ _ | .rsa _ _ _ _ _ _ | .ints _ _ _ | .fn _ _ _ => rfl
theorem softL_den (ρ : Num) : ∀ (l : List SV), denL ρ (softL l) = denL ρ l
 | [] => rfl
 | c :: l => by simp only [softL, denL]; rw [soft_den ρ c, softL_den ρ l]
theorem softL_cells (ρ : Num) : ∀ (l : List SV), cellsL ρ (softL l) = cellsL ρ l
 | [] => rfl
 | c :: l => by
   have h1 := soft_den ρ c
   have h2 := softL_cells ρ l
   cases c <;> simp_all [softL, soft, cellsL, den]
end
mutual
theorem soft_okd {n : Nat} : ∀ {c : SV}, okd W F n c -> okd W F n (soft c)
 | .agg cs, h => softL_okd (l := cs) h
 | .tup cs, h => softL_okd (l := cs) h
 | .lit _ _, _ | .litb _, _ => trivial
 | .top, h | .int _ _, h | .bool _, h | .str _, h | .val _, h | .hnd _, h | .ptr _ _, h | .pte _ _ _, h | .ptm _ _ _ _, h | .many _ _ _, h | .sl _ _ _ _, h | .os _ _ _ _, h | .on _ _ _, h | .ow _ _ _ _ _ _, h | .gp _ _, h | .gpe _ _ _ _ _, h | .rd _ _ _, h | .rda _ _ _ _, h | .rs _ _ _ _, h | .rsa _ _ _ _ _ _, h | .ints _ _ _, h | .fn _ _ _, h => h
theorem softL_okd {n : Nat} : ∀ {l : List SV}, okdL W F n l -> okdL W F n (softL l)
 | [], _ => trivial
 | c :: l, h => ⟨soft_okd h.1, softL_okd h.2⟩
end
mutual
theorem closed_okd (W : World) (F : Nat -> Prop) (n : Nat) : ∀ {c : SV}, closedV c = true -> okd W F n c
 | .agg cs, h => closedL_okd W F n (l := cs) (by simpa [closedV] using h)
 | .tup cs, h => closedL_okd W F n (l := cs) (by simpa [closedV] using h)
 | .fn _ x y, h => by simp only [closedV, Bool.and_eq_true] at h; exact ⟨closedL_okd W F n (l := x) h.1, closedL_okd W F n (l := y) h.2⟩
 | .lit _ _, _ | .litb _, _ | .int _ _, _ | .bool _, _ | .str _, _ | .val _, _ | .hnd _, _ | .gp _ _, _ | .ints _ _ _, _ => trivial
theorem closedL_okd (W : World) (F : Nat -> Prop) (n : Nat) : ∀ {l : List SV}, closedL l = true -> okdL W F n l
 | [], _ => trivial
 | c :: l, h => by simp only [closedL, Bool.and_eq_true] at h; exact ⟨closed_okd W F n h.1, closedL_okd W F n h.2⟩
end
mutual
theorem okd_self {n : Nat} (hf : Frm F W w) : ∀ {c : SV}, okd W F n c -> noRow c = true -> okd w (fun _ => False) 0 c
 | .ptr i _, _, h => by simp [noRow] at h
 | .pte i _ _, _, h => by simp [noRow] at h
 | .ptm i _ _ _, _, h => by simp [noRow] at h
 | .many _ _ _, h, _ => h
 | .sl i _ _ _, _, h => by simp [noRow] at h
 | .os i _ _ _, _, h => by simp [noRow] at h
 | .on i _ _, _, h => by simp [noRow] at h
 | .ow i _ _ _ _ _, _, h => by simp [noRow] at h
 | .gpe _ _ _ _ _, h, _ => h
 | .gp _ _, _, _ => trivial
 | .rd _ _ _, h, _ => Reads.at hf (fun _ h => h.elim) h
 | .rda _ _ _ _, h, _ => ⟨Reads.at hf (fun _ h => h.elim) h.1, h.2⟩
 | .rs _ _ _ f, h, _ => ⟨ReadsS.at hf (fun _ h => h.elim) h.1, fun e he => okdL_self0 hf (l := f e) (h.2 e he)⟩
 | .rsa _ _ _ f _ _, h, _ => ⟨⟨ReadsS.at hf (fun _ h => h.elim) h.1.1, fun e he => okdL_self0 hf (l := f e) (h.1.2 e he)⟩, h.2⟩
 | .agg cs, h, hb => okdL_self hf (l := cs) h (by simpa [noRow] using hb)
 | .tup cs, h, hb => okdL_self hf (l := cs) h (by simpa [noRow] using hb)
 | .fn _ x y, h, hb => by simp only [noRow, Bool.and_eq_true] at hb; exact ⟨okdL_self hf (l := x) h.1 hb.1, okdL_self hf (l := y) h.2 hb.2⟩
 | .lit _ _, _, _ | .litb _, _, _ | .top, _, _ | .int _ _, _, _ | .bool _, _, _ | .str _, _, _ | .val _, _, _ | .hnd _, _, _ | .ints _ _ _, _, _ => trivial
theorem okdL_self {n : Nat} (hf : Frm F W w) : ∀ {l : List SV}, okdL W F n l -> noRowL l = true -> okdL w (fun _ => False) 0 l
 | [], _, _ => trivial
 | c :: l, h, hb => by simp only [noRowL, Bool.and_eq_true] at hb; exact ⟨okd_self hf h.1 hb.1, okdL_self hf h.2 hb.2⟩
theorem okd_self0 (hf : Frm F W w) : ∀ {c : SV}, okd W F 0 c -> okd w (fun _ => False) 0 c
 | .ptr i _, h => h
 | .pte i _ _, h => h
 | .ptm i _ _ _, h => h
 | .many _ _ _, h => h
 | .sl i _ _ _, h => h
 | .os i _ _ _, h => h
 | .on i _ _, h => h
 | .ow i _ _ _ _ _, h => h
 | .gpe _ _ _ _ _, h => h
 | .gp _ _, _ => trivial
 | .rd _ _ _, h => Reads.at hf (fun _ h => h.elim) h
 | .rda _ _ _ _, h => ⟨Reads.at hf (fun _ h => h.elim) h.1, h.2⟩
 | .rs _ _ _ f, h => ⟨ReadsS.at hf (fun _ h => h.elim) h.1, fun e he => okdL_self0 hf (l := f e) (h.2 e he)⟩
 | .rsa _ _ _ f _ _, h => ⟨⟨ReadsS.at hf (fun _ h => h.elim) h.1.1, fun e he => okdL_self0 hf (l := f e) (h.1.2 e he)⟩, h.2⟩
 | .agg cs, h => okdL_self0 hf (l := cs) h
 | .tup cs, h => okdL_self0 hf (l := cs) h
 | .fn _ x y, h => ⟨okdL_self0 hf (l := x) h.1, okdL_self0 hf (l := y) h.2⟩
 | .lit _ _, _ | .litb _, _ | .top, _ | .int _ _, _ | .bool _, _ | .str _, _ | .val _, _ | .hnd _, _ | .ints _ _ _, _ => trivial
theorem okdL_self0 (hf : Frm F W w) : ∀ {l : List SV}, okdL W F 0 l -> okdL w (fun _ => False) 0 l
 | [], _ => trivial
 | c :: l, h => ⟨okd_self0 hf h.1, okdL_self0 hf h.2⟩
end
theorem readArgs_put {R : Rows} {v u : Nat -> Value} : ∀ {args p : List SV} {n : Nat} {ps : List Prop}, readArgs R u n args = some (ps, p) -> readArgs R v n args = some (ps, putV v n (ownF args) p) /\ noRowL (putV v n (ownF args) p) = noRowL p
 | [], p, n, ps, h => by simp only [readArgs, Option.some.injEq, Prod.mk.injEq] at h; obtain ⟨rfl, rfl⟩ := h; exact ⟨rfl, rfl⟩
 | c :: cs, p, n, ps, h => by
   simp only [readArgs] at h ⊢
   cases hi : isOwn c with
   | none =>
     simp only [hi, Option.map_eq_some_iff] at h
     obtain ⟨⟨p2, l2⟩, hx, h⟩ := h
     cases h
     obtain ⟨g1, g2⟩ := readArgs_put (v := v) hx
     have e : putV v n (ownF (c :: cs)) (c :: l2) = c :: putV v (n + 1) (ownF cs) l2 := by
      simp only [ownF, hi, Option.isSome_none]
      rfl
     rw [e]
     exact ⟨by rw [g1]; rfl, by simp only [noRowL, g2]⟩
   | some i =>
     simp only [hi] at h ⊢
     cases ho1 : own1 R c with
     | false => rw [ho1] at h; cases h
     | true =>
       rw [ho1] at h
       simp only [cond_true, Option.bind_eq_some_iff, Option.map_eq_some_iff] at h ⊢
       obtain ⟨k, hk, ⟨q1, q2, q3⟩, hq, ⟨p2, l2⟩, hx, h⟩ := h
       cases h
       obtain ⟨g1, g2⟩ := readArgs_put (v := v) hx
       have e : putV v n (ownF (c :: cs)) (.rd k (u n) q3 :: l2) = .rd k (v n) q3 :: putV v (n + 1) (ownF cs) l2 := by
        simp only [ownF, hi, Option.isSome_some]
        rfl
       rw [e]
       exact ⟨⟨k, hk, (q1, q2, q3), hq, (p2, putV v (n + 1) (ownF cs) l2), g1, rfl⟩, by simp only [noRowL, noRow, g2]⟩
theorem ownArgs_ok {R : Rows} (hm : MemOK W F ρ R w) {v : Nat -> Value} : ∀ {args args' : List SV} {n : Nat} {ps : List Prop}, readArgs R v n args = some (ps, args') -> All ps -> okdL W F R.length args -> noRowL args' = true -> (∀ i c, args[i]? = some c -> v (n + i) = den ρ c) -> okdL w (fun _ => False) 0 args'
 | [], args', n, ps, h, hp, ho, hb, hv => by simp only [readArgs, Option.some.injEq, Prod.mk.injEq] at h; obtain ⟨_, rfl⟩ := h; trivial
 | c :: cs, args', n, ps, h, hp, ho, hb, hv => by
   simp only [readArgs] at h
   have hv' : ∀ i c', cs[i]? = some c' -> v (n + 1 + i) = den ρ c' := fun i c' hc => by have := hv (i + 1) c' (by simpa using hc); rw [<- this]; congr 1; omega
   cases hi : isOwn c with
   | none =>
     simp only [hi, Option.map_eq_some_iff] at h
     obtain ⟨⟨p2, l2⟩, hx, h⟩ := h
     cases h
     simp only [noRowL, Bool.and_eq_true] at hb
     exact ⟨okd_self hm.frame ho.1 hb.1, ownArgs_ok hm hx hp ho.2 hb.2 hv'⟩
   | some i =>
     simp only [hi] at h
     cases ho1 : own1 R c with
     | false => rw [ho1] at h; cases h
     | true =>
       rw [ho1] at h
       simp only [cond_true, Option.bind_eq_some_iff, Option.map_eq_some_iff] at h
       obtain ⟨k, hk, ⟨q1, q2, q3⟩, hq, ⟨p2, l2⟩, hx, h⟩ := h
       cases h
       simp only [noRowL, Bool.and_eq_true] at hb
       have hv0 := hv 0 c (by simp)
       simp only [Nat.add_zero] at hv0
       refine ⟨?_, ownArgs_ok hm hx (fun p hh => hp p (by simp [hh])) ho.2 hb.2 hv'⟩
       show Reads w (fun _ => False) k (v n) q3
       rw [hv0, <- pickO_den (R := R) (k := k) c]
       exact own_reads hm (by rw [pickO_own]; exact hi) hq (fun p hh => hp p (by simp [hh])) (fun p hh => hp p (by simp [pickO_cap hh])) (by rw [pickO_own1]; exact ho1) (pickO_okd ho.1) (fun _ _ _ h => h)
theorem quietOp_ok (hx : CxOK P cx) (st : Sat W F cx.nt ρ s a w) {o : Oper} {ps : List Prop} {v : SV} (h : quietOp cx s o.op = some (ps, v)) (hp : All ps) {K : Act -> World -> Prop} {Q : Exit -> Act -> World -> Prop}
  (hK : ∀ w', MemOK W F ρ s.rows w' -> K (a.put o.dst (den ρ v)) w') : o.wp P a w K Q /\ okd W F s.rows.length v /\ v ≠ .top := by
 unfold quietOp at h
 unfold Oper.wp
 split at h
 ·rename_i r hop
  cases h
  obtain ⟨u, hu, g1, g2, g3⟩ := pureOp_ok hx.tab st hop hp
  refine ⟨?_, g2, g3⟩
  rw [hu]
  simp only [Oper.upon]
  rw [g1]
  exact hK w st.mem
 ·split at h
  ·rename_i r hop
   cases h
   simp only [pureCall, Option.bind_eq_some_iff] at hop
   obtain ⟨⟨f, args⟩, hc, hh, htb, hv⟩ := hop
   obtain ⟨c1, c2⟩ := hx.pure f hh htb
   obtain ⟨e1, e2⟩ := callOf_ok st hc c1
   obtain ⟨p1, p2, p3⟩ := c2 (softL args) ps v hv hp W F ρ s.rows w st.mem (softL_okd e2)
   rw [softL_den] at p3
   refine ⟨?_, p1, p2⟩
   rw [e1]
   simp only [Oper.upon]
   refine p3.mono ?_
   rintro e w' ⟨rfl, hf⟩
   exact hK w' (st.mem.step hf)
  ·simp only [ownCall, Option.bind_eq_some_iff] at h
   obtain ⟨⟨f, args⟩, hc, hh, htb, h⟩ := h
   rcases cond_some h with ⟨_, h⟩ | ⟨_, h⟩
   ·cases h
   simp only [Option.bind_eq_some_iff] at h
   obtain ⟨⟨p1, p2⟩, hr, ⟨r1, r2⟩, hv, h⟩ := h
   rcases cond_some h with ⟨hb, h⟩ | ⟨_, h⟩
   ·cases h
    simp only [Bool.and_eq_true] at hb
    obtain ⟨c1, c2⟩ := hx.pure f hh htb
    obtain ⟨e1, e2⟩ := callOf_ok st hc c1
    have hq := readArgs_put (v := fun i => match args[i]? with
     | some c => den ρ c
     | none => undef) hr
    obtain ⟨hq, hno⟩ := hq
    have hq2 := (hp (OwnSame hh (ownF args) p2) (by simp)).out fun i => match args[i]? with
     | some c => den ρ c
     | none => undef
    rw [hv] at hq2
    generalize putV (fun i => match args[i]? with
     | some c => den ρ c
     | none => undef) 0 (ownF args) p2 = q2 at hq hno hq2
    have hvv : ∀ i c, args[i]? = some c -> (fun i => match args[i]? with
     | some c => den ρ c
     | none => undef) (0 + i) = den ρ c := fun i c hc => by simp only [Nat.zero_add, hc]
    have hok := ownArgs_ok st.mem hq (fun p hh => hp p (by simp [hh])) e2 (by rw [hno]; exact hb.1) hvv
    have hm0 : MemOK w (fun _ => False) ρ [] w := ⟨Frm.refl _ _, (fun g cs hg => by
     obtain ⟨h1, c, ty, fr, h2, h3⟩ := st.mem.glob g cs hg
     exact ⟨id, c, ty, fr, by rw [st.mem.frame.block g (Array.getElem?_eq_some_iff.1 h2).1 h1]; exact h2, h3⟩), fun i r h => by simp at h, fun i j r q h => by simp at h, fun i r h => by simp at h, ⟨fun _ _ => False, fun i r x h => by simp at h⟩⟩
    obtain ⟨_, _, p3⟩ := c2 (softL q2) r1 r2 hq2 (fun p hh => hp p (by simp [hh])) w (fun _ => False) ρ [] w hm0 (softL_okd hok)
    rw [softL_den, readArgs_den hq hvv] at p3
    refine ⟨?_, closed_okd W F _ hb.2, fun e => by subst e; simp [closedV] at hb⟩
    rw [e1]
    simp only [Oper.upon]
    refine p3.mono ?_
    rintro e w' ⟨rfl, hf⟩
    exact hK w' (st.mem.step hf)
   ·cases h
theorem pad_len (op : Op) (rows : Rows) : (padRows op rows).length = rows.length + (if isNew op then 1 else 0) := by
 unfold padRows; cases isNew op <;> simp
theorem pad_get (op : Op) (rows : Rows) {i : Nat} {x : Row} (h : (padRows op rows)[i]? = some (some x)) : rows[i]? = some (some x) := by
 unfold padRows at h
 cases hn : isNew op with
 | false => rw [hn] at h; exact h
 | true =>
   rw [hn] at h
   simp only [cond_true] at h
   by_cases hl : i < rows.length
   ·rwa [List.getElem?_append_left hl] at h
   ·rw [List.getElem?_append_right (by omega)] at h
    by_cases h0 : i - rows.length = 0
    ·rw [h0] at h; simp at h
    ·rw [List.getElem?_eq_none (by simp; omega)] at h; cases h
theorem Sat.pad {nt : Nat} (st : Sat W F nt ρ s a w) (op : Op) : Sat W F nt ρ ⟨s.tm, padRows op s.rows⟩ a w := by
 have hle : s.rows.length <= (padRows op s.rows).length := by rw [pad_len]; omega
 refine ⟨st.size, st.defers, fun d sv hd => ?_, ⟨st.mem.frame, st.mem.glob, fun i x hi => ?_, fun i j x y hi hj => st.mem.inj i j x y (pad_get _ _ hi) (pad_get _ _ hj), fun i x hi => st.mem.mine i x (pad_get _ _ hi), ?_⟩⟩
 ·rcases st.tm d sv hd with h | ⟨g1, g2⟩
  ·exact .inl h
  ·exact .inr ⟨g1, okd_mono hle g2⟩
 ·obtain ⟨h1, h2⟩ := st.mem.row i x (pad_get _ _ hi)
  exact ⟨h1, okdL_mono hle h2⟩
 ·obtain ⟨φ, hφ⟩ := st.mem.obs
  exact ⟨φ, hφ.keep (fun i r hi _ => ⟨r, pad_get _ _ hi, rfl, rfl, fun _ h => h⟩) (Nat.le_refl _) (fun _ _ _ => rfl) (fun j q hj hq => .inr ⟨j, q, pad_get _ _ hj, hq, rfl⟩)⟩
theorem Sat.free {nt : Nat} (st : Sat W F nt ρ s a w) {op : Op} (h : isNew op = true) : Free (padRows op s.rows) s.rows.length /\ ∀ d sv, s.tm.lookup d = some sv -> sv = .top ∨ noM s.rows.length sv = true := by
 refine ⟨⟨by rw [pad_len, h]; simp, by unfold padRows; rw [h]; simp, fun i x hi => ?_⟩, fun d sv hd => ?_⟩
 ·exact okdL_noM (Nat.le_refl _) (st.mem.row i x (pad_get _ _ hi)).2
 ·rcases st.tm d sv hd with h | ⟨_, h⟩
  ·exact .inl h
  ·exact .inr (okd_noM (Nat.le_refl _) h)
theorem putsL_len : ∀ (l : List (Nat × Option Row)) (rows : Rows), (putsL l rows).length = rows.length
 | [], rows => rfl
 | (b, r) :: l, rows => by rw [putsL, putsL_len l]; simp
theorem stepO_ok (hx : CxOK P cx) {o : Oper} {k : SS -> Prop} {Q : Exit -> Act -> World -> Prop} (h : stepO cx o s k) (hat : At W F ρ0 cx s a w) :
  o.wp P a w (fun a w => ∃ s, k s /\ At W F ρ0 cx s a w) Q := by
 unfold stepO at h
 obtain ⟨ρ, st, h1, h2⟩ := hat
 have fin : ∀ (rows : List (Option Row)) (ρ' : Num) (w' : World) (u : SV) (x : Value), MemOK W F ρ' rows w' -> (∀ i, i < s.rows.length -> ρ' i = ρ i) -> s.rows.length <= rows.length -> x = den ρ' u -> okd W F rows.length u ->
   (putS cx s.tm o.dst u fun tm => k ⟨tm, rows⟩) -> ∃ s', k s' /\ At W F ρ0 cx s' (a.put o.dst x) w' := by
  intro rows ρ' w' u x m1 m2 m3 e1 e2 hk
  have st' := st.rows m1 m2 m3
  have h1' : ∀ i, i < cx.n0 -> ρ' i = ρ0 i := fun i hi => (m2 i (by omega)).trans (h1 i hi)
  cases hd : o.dst with
  | none => rw [hd] at hk; exact ⟨_, hk, ρ', st', h1', Nat.le_trans h2 m3⟩
  | some d =>
    rw [hd] at hk
    simp only [putS] at hk
    cases hb : Nat.blt d cx.nt with
    | false => simp [hb] at hk
    | true =>
      simp only [hb, cond_true] at hk
      have hk := forceSV_out (K := fun v => k ⟨(d, v) :: s.tm, rows⟩) hk
      exact ⟨_, hk, ρ', st'.put (Nat.le_of_ble_eq_true (show Nat.ble (d + 1) cx.nt = true from hb)) e1 e2, h1', Nat.le_trans h2 m3⟩
 split at h
 ·rename_i ps v hop
  obtain ⟨hp, hk⟩ := andL_out h
  exact (quietOp_ok hx st hop hp (K := fun a w => ∃ s, k s /\ At W F ρ0 cx s a w) (Q := Q) fun w' hm =>
   fin s.rows ρ w' v _ hm (fun _ _ => rfl) (Nat.le_refl _) rfl (quietOp_ok hx st hop hp (K := fun _ _ => True) (Q := Q) fun _ _ => trivial).2.1 hk).1
 ·split at h
  ·rename_i e hop
   obtain ⟨hp, hk⟩ := andL_out h
   have hfr := fun hn => st.free (op := o.op) hn
   have way : ∀ e', e' ∈ sides e -> All e'.ps -> (putS cx s.tm o.dst e'.v fun tm => k ⟨tm, putsL e'.puts (padRows o.op s.rows)⟩) -> o.wp P a w (fun a w => ∃ s, k s /\ At W F ρ0 cx s a w) Q := by
    intro e' he hp hk
    obtain ⟨ρ', w', g1, g2, g3, g4, g5⟩ := effOp_ok hx.tab (st.pad o.op) hop he hp (fun hn => (hfr hn).1) (fun hn => (hfr hn).2)
    exact g1 _ _ (fin _ ρ' w' e'.v _ g2 (fun i hi => g3 i (.inl (by omega))) (by rw [putsL_len, pad_len]; omega) rfl (by rw [putsL_len]; exact g4) hk)
   split at hk
   ·rename_i ha
    have hk := forceRows_out (K := fun rows => putS cx s.tm o.dst e.v fun tm => k ⟨tm, rows⟩) hk
    exact way e (by unfold sides; rw [ha]; simp) hp hk
   ·rename_i q v ha
    by_cases hq : q
    ·exact way ⟨q :: e.ps, v, [], e.rds, none⟩ (by unfold sides; rw [ha]; simp) (fun p h => by rcases List.mem_cons.1 h with rfl | h; exact hq; exact hp p h) (hk.1 hq)
    ·have hk := forceRows_out (K := fun rows => putS cx s.tm o.dst e.v fun tm => k ⟨tm, rows⟩) (hk.2 hq)
     exact way ⟨(¬ q) :: e.ps, e.v, e.puts, e.rds, none⟩ (by unfold sides; rw [ha]; simp) (fun p h => by rcases List.mem_cons.1 h with rfl | h; exact hq; exact hp p h) hk
  ·split at h
   ·rename_i hh hop
    exact slowOp_ok hx.tab st hop h fun rows ρ' w' u hk m1 m2 m3 ou => fin rows ρ' w' u _ m1 m2 m3 rfl ou (forceRows_out (K := fun rows => putS cx s.tm o.dst u fun tm => k ⟨tm, rows⟩) hk)
   split at h
   ·rename_i f args hop
    split at h
    ·rename_i hh htb
     obtain ⟨c1, c2⟩ := hx.call f hh htb
     obtain ⟨e1, e2⟩ := callOf_ok st hop c1
     unfold Oper.wp
     rw [e1]
     simp only [Oper.upon]
     refine (c2 args s.rows _ h W F ρ w st.mem e2).mono ?_
     rintro e w' ⟨ρ', res, rows', hk, rfl, g1, g2, g3, g4⟩
     simp only
     have hk := forceRows_out (K := fun rows => putS cx s.tm o.dst res fun tm => k ⟨tm, rows⟩) hk
     exact fin _ _ _ _ _ g2 g4 g3 rfl g1 hk
    ·exact h.elim
   ·exact h.elim
theorem At.know (h : At W F ρ0 cx s a w) {d : Nat} {v : SV} {b c : Bool} (hl : s.tm.lookup d = some v) (hb : asB v = some (b, c)) : At W F ρ0 cx ⟨(d, .litb b) :: s.tm, s.rows⟩ a w := by
 obtain ⟨ρ, st, h1, h2⟩ := h
 refine ⟨ρ, ⟨st.size, st.defers, fun e sv he => ?_, st.mem⟩, h1, h2⟩
 rw [lookup_cons] at he
 by_cases hed : e = d
 ·subst hed
  simp at he; subst he
  rcases st.tm e v hl with h | ⟨g1, g2⟩
  ·subst h; simp [asB] at hb
  ·rw [asB_ok hb ρ] at g1
   exact .inr ⟨g1, trivial⟩
 ·simp [hed] at he
  exact st.tm e sv he
theorem At.slot (h : At W F ρ0 cx s a w) {d : Nat} {v : SV} {b c : Bool} (hl : s.tm.lookup d = some v) (hb : asB v = some (b, c)) : a.tmps[d]? = some (.bool b) := by
 obtain ⟨ρ, st, h1, h2⟩ := h
 rcases st.tm d v hl with h | ⟨g1, g2⟩
 ·subst h; simp [asB] at hb
 ·rw [asB_ok hb ρ] at g1; exact g1
theorem isSkip_eq : ∀ {v : SV}, isSkip v = true -> v = .tup [] := by
 intro v h
 unfold isSkip at h
 split at h
 ·rfl
 ·cases h
theorem At.unslot (h : At W F ρ0 cx s a w) {d j : Nat} {all : Array Oper} (hd : (all[j]?).bind (·.dst) = some d) (hl : s.tm.lookup d = some (.tup [])) : yielded all a.tmps j = none := by
 obtain ⟨ρ, st, h1, h2⟩ := h
 rcases st.tm d _ hl with h | ⟨g1, g2⟩
 ·cases h
 ·simp [yielded, hd, g1, den, denL]
theorem branch_ok {d : Nat} {b c : Bool} {v : SV} {k : Bool -> SS -> Prop} (h : branch cx d b c s k) (hat : At W F ρ0 cx s a w) (hl : s.tm.lookup d = some v) (hb : asB v = some (b, c)) : ∃ s', k b s' /\ At W F ρ0 cx s' a w := by
 unfold branch at h
 cases c with
 | true => exact ⟨s, h, hat⟩
 | false =>
   simp only [cond_false] at h
   have hk := hat.know hl hb
   split at h
   ·obtain ⟨rfl, h⟩ := h; exact ⟨_, h, hk⟩
   ·obtain ⟨rfl, h⟩ := h; exact ⟨_, h, hk⟩
   ·cases b with
    | true => exact ⟨_, h.1 rfl, hk⟩
    | false => exact ⟨_, h.2 rfl, hk⟩
theorem execOps_ok (hx : CxOK P cx) {all : Array Oper} {k : SS -> Prop} {Q : Exit -> Act -> World -> Prop} : ∀ {l : List Oper} {s : SS} {a : Act} {w : World}, execOps cx all l s k -> At W F ρ0 cx s a w ->
  (∀ a w s, k s -> At W F ρ0 cx s a w -> Q .normal a w) -> wpList P all Q l a w
 | [], s, a, w, h, hat, hQ => hQ a w s h hat
 | o :: r, s, a, w, h, hat, hQ => by
   unfold execOps at h
   unfold wpList
   split at h
   ·rename_i hg
    rw [if_pos (by simp [Region.wanted, hg])]
    left
    refine Oper.wp_mono ?_ (stepO_ok (W := W) (F := F) (ρ0 := ρ0) hx h hat)
    rintro a' w' ⟨s', h', hat'⟩
    exact execOps_ok hx h' hat' hQ
   ·rename_i j want hg
    split at h
    ·rename_i d hd
     split at h
     ·rename_i v hl
      cases hsk : isSkip v with
      | true =>
        obtain rfl := isSkip_eq hsk
        simp only [isSkip, cond_true] at h
        have hy : yielded all a.tmps j = none := hat.unslot hd hl
        have hw : Region.wanted o (yielded all a.tmps) = false := by simp [Region.wanted, hg, hy]
        rw [hw]
        simp only [Bool.false_eq_true, if_false]
        obtain ⟨s2, h2, hat2⟩ := hat.put (x := undef) (v := .tup []) (k := fun s => execOps cx all r s k) (fun ρ _ _ => ⟨rfl, trivial⟩) h
        exact execOps_ok hx h2 hat2 hQ
      | false =>
        simp only [hsk, cond_false] at h
        split at h
        ·rename_i b c hb
         obtain ⟨s', h', hat'⟩ := branch_ok h hat hl hb
         have hy : yielded all a.tmps j = some b := by simp [yielded, hd, hat.slot hl hb]
         have hw : Region.wanted o (yielded all a.tmps) = (b == want) := by simp [Region.wanted, hg, hy]
         rw [hw]
         cases hbw : (b == want) with
         | true =>
           simp only [hbw, cond_true] at h'
           simp only [if_true]
           left
           refine Oper.wp_mono ?_ (stepO_ok (W := W) (F := F) (ρ0 := ρ0) hx h' hat')
           rintro a' w' ⟨s2, h2, hat2⟩
           exact execOps_ok hx h2 hat2 hQ
         | false =>
           simp only [hbw, cond_false] at h'
           simp only [Bool.false_eq_true, if_false]
           obtain ⟨s2, h2, hat2⟩ := hat'.put (x := undef) (v := .tup []) (k := fun s => execOps cx all r s k) (fun ρ _ _ => ⟨rfl, trivial⟩) h'
           exact execOps_ok hx h2 hat2 hQ
        ·exact h.elim
     ·exact h.elim
    ·exact h.elim
end Sx
end
section
namespace Sx
variable {P : Program} {W : World} {F : Nat -> Prop} {ρ ρ0 : Num} {s : SS} {a : Act} {w : World} {cx : Ctx}
def isPiece : SV -> Bool
 | .ints _ _ _ => true
 | .many _ _ _ => true
 | _ => false
theorem cond_prop {b : Bool} {p : Prop} (h : bif b then p else False) : b = true /\ p := by
 cases b
 ·exact h.elim
 ·exact ⟨rfl, h⟩
theorem eqv_ints {x : SV} {k : IntKind} {m : Nat} {xs : List Int} (h : eqv x (.ints k m xs)) : x = .ints k m xs := by
 cases x <;> simp only [eqv] at h
 obtain ⟨h1, h2⟩ := cond_prop h
 simp only [Bool.and_eq_true, decide_eq_true_eq] at h1
 rw [h1.1, Nat.eq_of_beq_eq_true h1.2, h2]
theorem eqv_many {x : SV} {z n : Nat} {f : Nat -> List SV} (h : eqv x (.many z n f)) : ∃ f', x = .many z n f' /\ ∀ e, e < n -> f' e = f e := by
 cases x <;> simp only [eqv] at h
 obtain ⟨h1, rfl, h2⟩ := cond_prop h
 obtain rfl := Nat.eq_of_beq_eq_true h1
 exact ⟨_, rfl, h2⟩
theorem recCells_congr {z n : Nat} {f f' : Nat -> List SV} (h : ∀ e, e < n -> f' e = f e) : recCells z n f' = recCells z n f := by
 unfold recCells
 rw [List.flatMap_def, List.flatMap_def]
 congr 1
 refine List.map_congr_left fun e he => ?_
 rw [h e (by simpa using he)]
mutual
theorem eqv_ok (ρ : Num) {n : Nat} : ∀ {x y : SV}, eqv x y -> okd W F n x -> y ≠ .top -> den ρ x = den ρ y /\ okd W F n y /\ x ≠ .top /\ isPiece x = isPiece y
 | x, .top, _, _, ht => absurd rfl ht
 | x, .int k m, h, ho, _ => by
   simp only [eqv] at h
   cases hx : asI x with
   | none => simp [hx] at h
   | some q =>
     obtain ⟨k', m', c⟩ := q
     simp only [hx] at h
     cases hk : decide (k' = k) with
     | false => simp [hk] at h
     | true =>
     simp only [hk, cond_true] at h
     simp at hk
     subst hk h
     exact ⟨asI_ok hx ρ, trivial, by rintro rfl; simp [asI] at hx, by cases x <;> simp [asI] at hx <;> rfl⟩
 | x, .bool b, h, ho, _ => by
   simp only [eqv] at h
   cases hx : asB x with
   | none => simp [hx] at h
   | some q =>
     obtain ⟨b', c⟩ := q
     simp [hx] at h
     subst h
     exact ⟨asB_ok hx ρ, trivial, by rintro rfl; simp [asB] at hx, by cases x <;> simp [asB] at hx <;> rfl⟩
 | x, .ints k m xs, h, ho, _ => by
   have := eqv_ints h
   subst this
   exact ⟨rfl, trivial, (fun h => by cases h), rfl⟩
 | x, .agg bs, h, ho, _ => by
   cases x <;> simp only [eqv] at h
   rename_i cs
   cases hn : noTop bs with
   | false => simp [hn] at h
   | true =>
     simp [hn] at h
     obtain ⟨h1, h2, h3⟩ := eqvL_ok ρ h ho hn
     exact ⟨by simp [den, h1], h3, (fun h => by cases h), rfl⟩
 | x, .tup bs, h, ho, _ => by
   cases x <;> simp only [eqv] at h
   rename_i cs
   cases hn : noTop bs with
   | false => simp [hn] at h
   | true =>
     simp [hn] at h
     obtain ⟨h1, h2, h3⟩ := eqvL_ok ρ h ho hn
     exact ⟨by simp [den, h2], h3, (fun h => by cases h), rfl⟩
 | x, .ptm i z e o, h, ho, _ => by
   cases x <;> simp only [eqv] at h
   obtain ⟨h1, rfl⟩ := cond_prop h
   simp only [Bool.and_eq_true] at h1
   obtain rfl := Nat.eq_of_beq_eq_true h1.1.1
   obtain rfl := Nat.eq_of_beq_eq_true h1.1.2
   obtain rfl := Nat.eq_of_beq_eq_true h1.2
   exact ⟨rfl, ho, (fun h => by cases h), rfl⟩
 | x, .many z n f, h, ho, _ => by
   obtain ⟨f', rfl, h2⟩ := eqv_many h
   exact ⟨by simp only [den]; rw [recCells_congr h2], fun e he => by rw [<- h2 e he]; exact ho e he, (fun h => by cases h), rfl⟩
 | x, .pte i o e, h, ho, _ => by
   cases x <;> simp only [eqv] at h
   obtain ⟨h1, rfl⟩ := cond_prop h
   simp only [Bool.and_eq_true] at h1
   obtain rfl := Nat.eq_of_beq_eq_true h1.1
   obtain rfl := Nat.eq_of_beq_eq_true h1.2
   exact ⟨rfl, ho, (fun h => by cases h), rfl⟩
 | x, .rd k v xs, h, ho, _ => by
   cases x <;> simp only [eqv] at h
   obtain ⟨h1, rfl, rfl⟩ := cond_prop h
   simp at h1
   subst h1
   exact ⟨rfl, ho, (fun h => by cases h), rfl⟩
 | x, .lit k m, h, ho, _ => by simp only [eqv] at h; subst h; exact ⟨rfl, ho, (fun h => by cases h), rfl⟩
 | x, .litb b, h, ho, _ => by simp only [eqv] at h; subst h; exact ⟨rfl, ho, (fun h => by cases h), rfl⟩
 | x, .str b, h, ho, _ => by simp only [eqv] at h; subst h; exact ⟨rfl, ho, (fun h => by cases h), rfl⟩
 | x, .val b, h, ho, _ => by simp only [eqv] at h; subst h; exact ⟨rfl, ho, (fun h => by cases h), rfl⟩
 | x, .hnd b, h, ho, _ => by simp only [eqv] at h; subst h; exact ⟨rfl, ho, (fun h => by cases h), rfl⟩
 | x, .ptr i o, h, ho, _ => by simp only [eqv] at h; subst h; exact ⟨rfl, ho, (fun h => by cases h), rfl⟩
 | x, .sl i o l c, h, ho, _ => by simp only [eqv] at h; subst h; exact ⟨rfl, ho, (fun h => by cases h), rfl⟩
 | x, .os i o l c, h, ho, _ => by
   cases x <;> simp only [eqv] at h
   ·obtain ⟨h1, rfl, rfl, rfl⟩ := cond_prop h
    obtain rfl := Nat.eq_of_beq_eq_true h1
    exact ⟨rfl, ho, (fun h => by cases h), rfl⟩
   ·obtain ⟨h1, rfl, rfl, rfl⟩ := cond_prop h
    obtain rfl := Nat.eq_of_beq_eq_true h1
    exact ⟨rfl, ho, (fun h => by cases h), rfl⟩
 | x, .on i l z, h, ho, _ => by
   cases x <;> simp only [eqv] at h
   obtain ⟨h1, rfl, rfl⟩ := cond_prop h
   obtain rfl := Nat.eq_of_beq_eq_true h1
   exact ⟨rfl, ho, (fun h => by cases h), rfl⟩
 | x, .ow i z p o n m, h, ho, _ => by
   cases x <;> simp only [eqv] at h
   ·obtain ⟨h1, rfl, rfl, rfl, rfl, rfl⟩ := cond_prop h
    obtain rfl := Nat.eq_of_beq_eq_true h1
    exact ⟨listV_suff _ _ _, ho, (fun h => by cases h), rfl⟩
   ·obtain ⟨h1, rfl, rfl, rfl, rfl, rfl⟩ := cond_prop h
    obtain rfl := Nat.eq_of_beq_eq_true h1
    exact ⟨rfl, ho, (fun h => by cases h), rfl⟩
 | x, .gp _ _, h, ho, _ => by simp only [eqv] at h; subst h; exact ⟨rfl, ho, (fun h => by cases h), rfl⟩
 | x, .gpe _ _ _ _ _, h, ho, _ => by simp only [eqv] at h; subst h; exact ⟨rfl, ho, (fun h => by cases h), rfl⟩
 | x, .rda k v xs e, h, ho, _ => by simp only [eqv] at h; subst h; exact ⟨rfl, ho, (fun h => by cases h), rfl⟩
 | x, .rs _ _ _ _, h, ho, _ => by simp only [eqv] at h; subst h; exact ⟨rfl, ho, (fun h => by cases h), rfl⟩
 | x, .rsa _ _ _ _ _ _, h, ho, _ => by simp only [eqv] at h; subst h; exact ⟨rfl, ho, (fun h => by cases h), rfl⟩
 | x, .fn f u v, h, ho, _ => by simp only [eqv] at h; subst h; exact ⟨rfl, ho, (fun h => by cases h), rfl⟩
theorem eqvL_ok (ρ : Num) {n : Nat} : ∀ {l m : List SV}, eqvL l m -> okdL W F n l -> noTop m = true -> cellsL ρ l = cellsL ρ m /\ denL ρ l = denL ρ m /\ okdL W F n m
 | l, [], h, ho, _ => by
   cases l <;> simp only [eqvL] at h
   exact ⟨rfl, rfl, trivial⟩
 | l, b :: bs, h, ho, ht => by
   cases l with
   | nil => simp only [eqvL] at h
   | cons c cs =>
     simp only [eqvL] at h
     have ht2 : noTop bs = true := by cases b <;> simp_all [noTop]
     have hb : b ≠ .top := by rintro rfl; simp [noTop] at ht
     obtain ⟨h1, h2, h4⟩ := eqvL_ok ρ h.2 ho.2 ht2
     obtain ⟨e1, e2, e3, e4⟩ := eqv_ok ρ h.1 ho.1 hb
     refine ⟨?_, by simp [denL, e1, h2], e2, h4⟩
     cases hp : isPiece b with
     | true =>
       cases b <;> simp [isPiece] at hp
       ·have h3 := eqv_ints h.1
        subst h3
        simp [cellsL, h1]
       ·obtain ⟨f', rfl, h3⟩ := eqv_many h.1
        simp [cellsL, h1, recCells_congr h3]
     | false =>
       rw [hp] at e4
       have s1 : single b = true := by cases b <;> first | rfl | (exact absurd rfl hb) | (simp [isPiece] at hp)
       have s2 : single c = true := by cases c <;> first | rfl | (exact absurd rfl e3) | (simp [isPiece] at e4)
       rw [cellsL_one s1, cellsL_one s2, e1, h1]
end
theorem eqvL_cells (ρ : Num) {n : Nat} : ∀ {l m : List SV} {vs : List Value}, eqvL l m -> okdL W F n l -> CellsOK ρ l vs -> CellsOK ρ m vs /\ okdL W F n m
 | l, [], vs, h, ho, hc => by
   cases l <;> simp only [eqvL] at h
   exact ⟨hc, trivial⟩
 | l, b :: bs, vs, h, ho, hc => by
   cases l with
   | nil => simp only [eqvL] at h
   | cons c cs =>
     simp only [eqvL] at h
     by_cases hb : b = .top
     ·subst hb
      have h1 := h.1
      by_cases hs : single c = true
      ·obtain ⟨t, rfl, h2⟩ := hc.one hs
       obtain ⟨i1, i2⟩ := eqvL_cells ρ h.2 ho.2 h2
       exact ⟨⟨_, t, rfl, i1⟩, trivial, i2⟩
      ·cases c <;> first
        | (exact absurd rfl hs)
        | (simp only [eqv] at h1; done)
        | (obtain ⟨u, t, rfl, h2⟩ := hc
           obtain ⟨i1, i2⟩ := eqvL_cells ρ h.2 ho.2 h2
           exact ⟨⟨u, t, rfl, i1⟩, trivial, i2⟩)
     ·obtain ⟨e1, e2, e3, e4⟩ := eqv_ok ρ h.1 ho.1 hb
      cases hp : isPiece b with
      | true =>
        cases b <;> simp [isPiece] at hp
        ·have h3 := eqv_ints h.1
         subst h3
         obtain ⟨t, rfl, h2⟩ := hc
         obtain ⟨i1, i2⟩ := eqvL_cells ρ h.2 ho.2 h2
         exact ⟨⟨t, rfl, i1⟩, trivial, i2⟩
        ·obtain ⟨f', rfl, h3⟩ := eqv_many h.1
         obtain ⟨t, rfl, h2⟩ := hc
         obtain ⟨i1, i2⟩ := eqvL_cells ρ h.2 ho.2 h2
         exact ⟨⟨t, by rw [recCells_congr h3], i1⟩, e2, i2⟩
      | false =>
        rw [hp] at e4
        have s1 : single b = true := by cases b <;> first | rfl | (exact absurd rfl hb) | (simp [isPiece] at hp)
        have s2 : single c = true := by cases c <;> first | rfl | (exact absurd rfl e3) | (simp [isPiece] at e4)
        obtain ⟨t, rfl, h2⟩ := hc.one s2
        obtain ⟨i1, i2⟩ := eqvL_cells ρ h.2 ho.2 h2
        rw [e1]
        exact ⟨.mk_one s1 i1, e2, i2⟩
mutual
theorem okB_mono {n m : Nat} (h : n <= m) : ∀ {c : SV}, okB n c = true -> okB m c = true
 | .ptr i _, hc => by simp only [okB] at *; exact Nat.ble_eq_true_of_le (Nat.le_trans (Nat.le_of_ble_eq_true hc) h)
 | .ptm i _ _ _, hc => by simp only [okB] at *; exact Nat.ble_eq_true_of_le (Nat.le_trans (Nat.le_of_ble_eq_true hc) h)
 | .many _ _ _, _ => rfl
 | .pte i _ _, hc => by simp only [okB] at *; exact Nat.ble_eq_true_of_le (Nat.le_trans (Nat.le_of_ble_eq_true hc) h)
 | .sl i _ _ _, hc => by simp only [okB] at *; exact Nat.ble_eq_true_of_le (Nat.le_trans (Nat.le_of_ble_eq_true hc) h)
 | .os i _ _ _, hc => by simp only [okB] at *; exact Nat.ble_eq_true_of_le (Nat.le_trans (Nat.le_of_ble_eq_true hc) h)
 | .on i _ _, hc => by simp only [okB] at *; exact Nat.ble_eq_true_of_le (Nat.le_trans (Nat.le_of_ble_eq_true hc) h)
 | .ow i _ _ _ _ _, hc => by simp only [okB] at *; exact Nat.ble_eq_true_of_le (Nat.le_trans (Nat.le_of_ble_eq_true hc) h)
 | .agg cs, hc => by simp only [okB] at *; exact okBL_mono h hc
 | .tup cs, hc => by simp only [okB] at *; exact okBL_mono h hc
 | .fn _ x y, hc => by simp only [okB, Bool.and_eq_true] at *; exact ⟨okBL_mono h hc.1, okBL_mono h hc.2⟩
 | .top, _ | .lit _ _, _ | .int _ _, _ | .litb _, _ | .bool _, _ | .str _, _ | .val _, _ | .hnd _, _ | .ints _ _ _, _ | .gp _ _, _ | .gpe _ _ _ _ _, _ | .rd _ _ _, _ | .rda _ _ _ _, _ | .rs _ _ _ _, _ | .rsa _ _ _ _ _ _, _ => rfl
theorem okBL_mono {n m : Nat} (h : n <= m) : ∀ {l : List SV}, okBL n l = true -> okBL m l = true
 | [], _ => rfl
 | c :: l, hc => by simp only [okBL, Bool.and_eq_true] at *; exact ⟨okB_mono h hc.1, okBL_mono h hc.2⟩
end
mutual
theorem okd_less {n m : Nat} : ∀ {c : SV}, okd W F n c -> okB m c = true -> okd W F m c
 | .ptr i _, _, hb => by simp only [okB] at hb; exact Nat.le_of_ble_eq_true hb
 | .pte i _ _, _, hb => by simp only [okB] at hb; exact Nat.le_of_ble_eq_true hb
 | .ptm i _ _ _, _, hb => by simp only [okB] at hb; exact Nat.le_of_ble_eq_true hb
 | .many _ _ _, ho, _ => ho
 | .sl i _ _ _, _, hb => by simp only [okB] at hb; exact Nat.le_of_ble_eq_true hb
 | .os i _ _ _, _, hb => by simp only [okB] at hb; exact Nat.le_of_ble_eq_true hb
 | .on i _ _, _, hb => by simp only [okB] at hb; exact Nat.le_of_ble_eq_true hb
 | .ow i _ _ _ _ _, _, hb => by simp only [okB] at hb; exact Nat.le_of_ble_eq_true hb
 | .gpe _ _ _ _ _, ho, _ => ho
 | .gp _ _, _, _ => trivial
 | .agg cs, ho, hb => by simp only [okB] at hb; exact okdL_less (l := cs) ho hb
 | .tup cs, ho, hb => by simp only [okB] at hb; exact okdL_less (l := cs) ho hb
 | .fn _ x y, ho, hb => by simp only [okB, Bool.and_eq_true] at hb; exact ⟨okdL_less (l := x) ho.1 hb.1, okdL_less (l := y) ho.2 hb.2⟩
 | .rd _ _ _, ho, _ => ho
 | .rda _ _ _ _, ho, _ => ho
 | .rs _ _ _ _, ho, _ => ho
 | .rsa _ _ _ _ _ _, ho, _ => ho
 | .top, _, _ | .lit _ _, _, _ | .int _ _, _, _ | .litb _, _, _ | .bool _, _, _ | .str _, _, _ | .val _, _, _ | .hnd _, _, _ | .ints _ _ _, _, _ => trivial
theorem okdL_less {n m : Nat} : ∀ {l : List SV}, okdL W F n l -> okBL m l = true -> okdL W F m l
 | [], _, _ => trivial
 | c :: l, ho, hb => by simp only [okBL, Bool.and_eq_true] at hb; exact ⟨okd_less ho.1 hb.1, okdL_less ho.2 hb.2⟩
end
theorem fitsTm_ok {tm : List (Nat × SV)} : ∀ {t : List (Nat × SV)}, fitsTm tm t -> ∀ d v, t.lookup d = some v -> ∃ u, tm.lookup d = some u /\ eqv u v
 | [], _, d, v, h => by simp at h
 | (e, x) :: t, hf, d, v, h => by
   rw [lookup_cons] at h
   obtain ⟨h1, h2⟩ := hf
   by_cases hd : d = e
   ·subst hd
    simp at h; subst h
    cases hl : tm.lookup d with
    | none => simp [hl] at h1
    | some u => exact ⟨u, rfl, by simpa [hl] using h1⟩
   ·simp [hd] at h
    exact fitsTm_ok h2 d v h
theorem okTm_ok {n : Nat} : ∀ {t : List (Nat × SV)}, okTm n t = true -> ∀ d v, t.lookup d = some v -> okB n v = true
 | [], _, d, v, h => by simp at h
 | (e, x) :: t, hf, d, v, h => by
   simp [okTm] at hf
   rw [lookup_cons] at h
   by_cases hd : d = e
   ·simp [hd] at h; subst h; exact hf.1
   ·simp [hd] at h; exact okTm_ok hf.2 d v h
theorem okRows_ok {n : Nat} : ∀ {r : List (Option Row)}, okRows n r = true -> ∀ (i : Nat) (x : Row), r[i]? = some (some x) -> okBL n x.cs = true
 | [], _, i, x, h => by simp at h
 | none :: r, hf, i, x, h => by
   simp [okRows] at hf
   cases i with
   | zero => simp at h
   | succ i => exact okRows_ok hf i x (by simpa using h)
 | some y :: r, hf, i, x, h => by
   simp [okRows] at hf
   cases i with
   | zero => simp at h; subst h; exact hf.1
   | succ i => exact okRows_ok hf.2 i x (by simpa using h)
theorem obFits_ok : ∀ {x y : Option Ob} {k : Prop}, obFits x y k -> x = y /\ k
 | none, none, _, h => ⟨rfl, h⟩
 | some x, some y, _, h => ⟨by rw [h.1], h.2⟩
 | none, some _, _, h => h.elim
 | some _, none, _, h => h.elim
theorem fitsRows_ok : ∀ {r t : List (Option Row)}, fitsRows r t -> t.length <= r.length /\ ∀ (i : Nat) (y : Row), t[i]? = some (some y) -> ∃ x : Row, r[i]? = some (some x) /\ x.ty = y.ty /\ x.sz = y.sz /\ x.ob = y.ob /\ eqvL x.cs y.cs
 | r, [], _ => ⟨by simp, fun i y h => by simp at h⟩
 | [], _ :: _, h => h.elim
 | a :: r, none :: t, h => by
   have h' : fitsRows r t := by cases a <;> exact h
   obtain ⟨h1, h2⟩ := fitsRows_ok h'
   refine ⟨by simp; omega, fun i y hy => ?_⟩
   cases i with
   | zero => simp at hy
   | succ i => simpa using h2 i y (by simpa using hy)
 | some a :: r, some b :: t, h => by
   obtain ⟨h0, h3⟩ := h
   obtain ⟨ho, h1, h1', h2⟩ := obFits_ok h0
   obtain ⟨h4, h5⟩ := fitsRows_ok h3
   refine ⟨by simp; omega, fun i y hy => ?_⟩
   cases i with
   | zero => simp at hy; subst hy; exact ⟨a, rfl, h1, h1', ho, h2⟩
   | succ i => simpa using h5 i y (by simpa using hy)
 | none :: _, some _ :: _, h => h.elim
theorem At.fits {t : SS} (h : At W F ρ0 cx s a w) (hf : Sx.fits s t) (hw : wellB cx.n0 t = true) : At W F ρ0 cx t a w := by
 obtain ⟨ρ, st, h1, h2⟩ := h
 obtain ⟨f1, f2⟩ := hf
 simp only [wellB, Bool.and_eq_true] at hw
 obtain ⟨⟨w1, w2⟩, w3⟩ := hw
 obtain ⟨r1, r2⟩ := fitsRows_ok f2
 refine ⟨ρ, ⟨st.size, st.defers, fun d v hv => ?_, ⟨st.mem.frame, st.mem.glob, fun i y hy => ?_, fun i j x y hi hj g1 g2 he => ?_, fun i y hi g1 => ?_, ?_⟩⟩, h1, Nat.le_of_ble_eq_true w1⟩
 ·obtain ⟨u, hu, he⟩ := fitsTm_ok f1 d v hv
  by_cases hvt : v = .top
  ·exact .inl hvt
  ·rcases st.tm d u hu with h | ⟨g1, g2⟩
   ·subst h
    exfalso
    cases v <;> simp_all [eqv, asI, asB]
   ·obtain ⟨e1, e2, e3, e4⟩ := eqv_ok ρ he g2 hvt
    exact .inr ⟨by rw [g1, e1], okd_less e2 (okTm_ok w2 d v hv)⟩
 ·obtain ⟨x, hx, hty, hsz, hob, he⟩ := r2 i y hy
  obtain ⟨c1, c3⟩ := st.mem.row i x hx
  refine ⟨c1.map rfl hty.symm hsz.symm hob.symm (fun _ => rfl) (fun vs hv => (eqvL_cells ρ he c3 hv).1), ?_⟩
  rcases c1 with ⟨_, c, l, rest, _, _, g3, _⟩ | ⟨_, _, g3, _⟩
  ·exact okdL_less (eqvL_cells ρ he c3 g3).2 (okRows_ok w3 i y hy)
  ·exact okdL_less (eqvL_cells ρ he c3 g3).2 (okRows_ok w3 i y hy)
 ·obtain ⟨x', hx, _, s1, o1, _⟩ := r2 i x hi
  obtain ⟨y', hy, _, s2, o2, _⟩ := r2 j y hj
  exact st.mem.inj i j _ _ hx hy (g1.map rfl s1.symm o1.symm) (g2.map rfl s2.symm o2.symm) he
 ·obtain ⟨x', hx, _, s1, o1, _⟩ := r2 i y hi
  exact st.mem.mine i _ hx (g1.map rfl s1.symm o1.symm)
 ·obtain ⟨φ, hφ⟩ := st.mem.obs
  refine ⟨φ, hφ.keep (fun i y hi _ => ?_) (Nat.le_refl _) (fun _ _ _ => rfl) (fun j y hj hq => .inr ?_)⟩
  ·obtain ⟨x', hx, _, _, o1, he⟩ := r2 i y hi
   exact ⟨x', hx, o1, rfl, fun vs hv => (eqvL_cells ρ he (st.mem.row i x' hx).2 hv).1⟩
  ·obtain ⟨x', hx, _, s1, o1, _⟩ := r2 j y hj
   exact ⟨j, x', hx, hq.map rfl s1.symm o1.symm, rfl⟩
end Sx
end
section
namespace Sx
variable {P : Program} {W : World} {F : Nat -> Prop} {ρ ρ' ρ0 : Num} {s : SS} {a : Act} {w : World} {cx : Ctx} {m : List (Nat × Nat)}
theorem srcOf_mem : ∀ {m : List (Nat × Nat)} {i j : Nat}, srcOf m i = some j -> (j, i) ∈ m
 | [], i, j, h => by simp [srcOf] at h
 | (j', i') :: r, i, j, h => by
   simp only [srcOf] at h
   rcases beq_some h with ⟨e, hx⟩ | ⟨e, hx⟩ <;> clear h
   ·subst e; cases hx; exact List.mem_cons_self ..
   ·exact List.mem_cons_of_mem _ (srcOf_mem hx)
theorem keyOf_mem : ∀ {m : List (Nat × Nat)} {i j : Nat}, keyOf m j = some i -> (j, i) ∈ m
 | [], i, j, h => by simp [keyOf] at h
 | (j', i') :: r, i, j, h => by
   simp only [keyOf] at h
   rcases beq_some h with ⟨e, hx⟩ | ⟨e, hx⟩ <;> clear h
   ·subst e; cases hx; exact List.mem_cons_self ..
   ·exact List.mem_cons_of_mem _ (keyOf_mem hx)
structure Rn (m : List (Nat × Nat)) (n : Nat) (ρ ρ' : Num) : Prop where
 src : ∀ i j, srcOf m i = some j -> j < n /\ ρ' j = ρ i
 key : ∀ i j, keyOf m j = some i -> j < n /\ ρ' j = ρ i
 one : ∀ i j k, keyOf m j = some i -> keyOf m k = some i -> j = k
def numOf (m : List (Nat × Nat)) (ρ : Num) : Num := fun j => match keyOf m j with
 | some i => ρ i
 | none => ρ j
theorem Rn.of {n0 n : Nat} (h : rnOK n0 n m = true) (ρ : Num) : Rn m n ρ (numOf m ρ) := by
 simp only [rnOK, Bool.and_eq_true, List.all_eq_true, decide_eq_true_eq] at h
 have h1 := h.1
 refine ⟨fun i j e => ?_, fun i j e => ?_, fun i j k e f => ?_⟩
 ·obtain ⟨⟨g1, g2⟩, g3⟩ := h1 _ (srcOf_mem e)
  exact ⟨Nat.le_of_ble_eq_true g3, by unfold numOf; simp only [g1]⟩
 ·obtain ⟨⟨g1, g2⟩, g3⟩ := h1 _ (keyOf_mem e)
  exact ⟨Nat.le_of_ble_eq_true g3, by unfold numOf; simp only [g1]⟩
 ·obtain ⟨⟨g1, g2⟩, g3⟩ := h1 _ (keyOf_mem e)
  obtain ⟨⟨k1, k2⟩, k3⟩ := h1 _ (keyOf_mem f)
  have := g2.symm.trans k2
  cases this; rfl
theorem rn_ids : ∀ {n0 i : Nat}, i < n0 -> (i, i) ∈ idsTo n0
 | n + 1, i, h => by
   simp only [idsTo, List.mem_append, List.mem_singleton]
   by_cases e : i = n
   ·exact .inr (by rw [e])
   ·exact .inl (rn_ids (by omega))
mutual
theorem rnV_ok {n n' : Nat} (R : Rn m n ρ ρ') : ∀ {c c' : SV}, rnV m c = some c' -> okd W F n' c -> den ρ' c' = den ρ c /\ okd W F n c' /\ isPiece c' = isPiece c
 | .ptr i _, c', h, _ => by simp only [rnV, Option.map_eq_some_iff] at h; obtain ⟨j, h1, rfl⟩ := h; obtain ⟨h2, h3⟩ := R.src i j h1; exact ⟨by simp [den, h3], h2, rfl⟩
 | .ptm i _ _ _, c', h, _ => by simp only [rnV, Option.map_eq_some_iff] at h; obtain ⟨j, h1, rfl⟩ := h; obtain ⟨h2, h3⟩ := R.src i j h1; exact ⟨by simp [den, h3], h2, rfl⟩
 | .pte i _ _, c', h, _ => by simp only [rnV, Option.map_eq_some_iff] at h; obtain ⟨j, h1, rfl⟩ := h; obtain ⟨h2, h3⟩ := R.src i j h1; exact ⟨by simp [den, h3], h2, rfl⟩
 | .sl i _ _ _, c', h, _ => by simp only [rnV, Option.map_eq_some_iff] at h; obtain ⟨j, h1, rfl⟩ := h; obtain ⟨h2, h3⟩ := R.src i j h1; exact ⟨by simp [den, h3], h2, rfl⟩
 | .os i _ _ _, c', h, _ => by simp only [rnV, Option.map_eq_some_iff] at h; obtain ⟨j, h1, rfl⟩ := h; obtain ⟨h2, h3⟩ := R.src i j h1; exact ⟨by simp [den, h3], h2, rfl⟩
 | .on i _ _, c', h, _ => by simp only [rnV, Option.map_eq_some_iff] at h; obtain ⟨j, h1, rfl⟩ := h; obtain ⟨h2, h3⟩ := R.src i j h1; exact ⟨by simp [den, h3], h2, rfl⟩
 | .ow i _ _ _ _ _, c', h, _ => by simp only [rnV, Option.map_eq_some_iff] at h; obtain ⟨j, h1, rfl⟩ := h; obtain ⟨h2, h3⟩ := R.src i j h1; exact ⟨by simp [den, h3], h2, rfl⟩
 | .agg cs, c', h, ho => by
   simp only [rnV, Option.map_eq_some_iff] at h; obtain ⟨l, h1, rfl⟩ := h
   obtain ⟨e1, e2, e3⟩ := rnL_ok R (l := cs) h1 ho
   exact ⟨by simp [den, e1], e3, rfl⟩
 | .tup cs, c', h, ho => by
   simp only [rnV, Option.map_eq_some_iff] at h; obtain ⟨l, h1, rfl⟩ := h
   obtain ⟨e1, e2, e3⟩ := rnL_ok R (l := cs) h1 ho
   exact ⟨by simp [den, e2], e3, rfl⟩
 | .fn f x y, c', h, ho => by
   simp only [rnV, Option.bind_eq_some_iff, Option.map_eq_some_iff] at h; obtain ⟨l, h1, q, h2, rfl⟩ := h
   obtain ⟨e1, e2, e3⟩ := rnL_ok R (l := x) h1 ho.1
   obtain ⟨f1, f2, f3⟩ := rnL_ok R (l := y) h2 ho.2
   exact ⟨by simp [den, e2, f2], ⟨e3, f3⟩, rfl⟩
 | .gpe _ _ _ _ _, c', h, ho => by cases h; exact ⟨rfl, ho, rfl⟩
 | .rd _ _ _, c', h, ho => by cases h; exact ⟨rfl, ho, rfl⟩
 | .rda _ _ _ _, c', h, ho => by cases h; exact ⟨rfl, ho, rfl⟩
 | .rs _ _ _ _, c', h, ho => by cases h; exact ⟨rfl, ho, rfl⟩
 | .rsa _ _ _ _ _ _, c', h, ho => by cases h; exact ⟨rfl, ho, rfl⟩
 | .many _ _ _, c', h, ho => by cases h; exact ⟨rfl, ho, rfl⟩
 | .gp _ _, c', h, ho => by cases h; exact ⟨rfl, trivial, rfl⟩
 | .top, c', h, _ => by cases h; exact ⟨rfl, trivial, rfl⟩
 | .lit _ _, c', h, _ => by cases h; exact ⟨rfl, trivial, rfl⟩
 | .int _ _, c', h, _ => by cases h; exact ⟨rfl, trivial, rfl⟩
 | .litb _, c', h, _ => by cases h; exact ⟨rfl, trivial, rfl⟩
 | .bool _, c', h, _ => by cases h; exact ⟨rfl, trivial, rfl⟩
 | .str _, c', h, _ => by cases h; exact ⟨rfl, trivial, rfl⟩
 | .val _, c', h, _ => by cases h; exact ⟨rfl, trivial, rfl⟩
 | .hnd _, c', h, _ => by cases h; exact ⟨rfl, trivial, rfl⟩
 | .ints _ _ _, c', h, _ => by cases h; exact ⟨rfl, trivial, rfl⟩
theorem rnL_ok {n n' : Nat} (R : Rn m n ρ ρ') : ∀ {l l' : List SV}, rnL m l = some l' -> okdL W F n' l -> cellsL ρ' l' = cellsL ρ l /\ denL ρ' l' = denL ρ l /\ okdL W F n l'
 | [], l', h, _ => by cases h; exact ⟨rfl, rfl, trivial⟩
 | c :: l, l', h, ho => by
   simp only [rnL, Option.bind_eq_some_iff, Option.map_eq_some_iff] at h
   obtain ⟨c', h1, l2, h2, rfl⟩ := h
   obtain ⟨e1, e2, e3⟩ := rnV_ok R h1 ho.1
   obtain ⟨f1, f2, f3⟩ := rnL_ok R h2 ho.2
   refine ⟨?_, by simp [denL, e1, f2], e2, f3⟩
   by_cases hi : ∃ k n xs, c = .ints k n xs
   ·obtain ⟨k, n, xs, rfl⟩ := hi
    cases h1
    simp [cellsL, f1]
   rcases Classical.em (∃ z n f, c = SV.many z n f) with ⟨_, _, _, rfl⟩ | hm9
   ·cases h1
    simp [cellsL, f1]
   ·have hm8 : ¬ ∃ z n f, c' = SV.many z n f := by
     rintro ⟨k, n, xs, rfl⟩
     have : isPiece c = true := e3.symm
     cases c <;> simp_all [isPiece]
    have hc' : ¬ ∃ k n xs, c' = .ints k n xs := by
     rintro ⟨k, n, xs, rfl⟩
     have : isPiece c = true := e3.symm
     cases c <;> simp_all [isPiece]
    have g1 : cellsL ρ' (c' :: l2) = den ρ' c' :: cellsL ρ' l2 := by cases c' <;> first | rfl | exact absurd ⟨_, _, _, rfl⟩ hc' | exact absurd ⟨_, _, _, rfl⟩ hm8
    have g2 : cellsL ρ (c :: l) = den ρ c :: cellsL ρ l := by cases c <;> first | rfl | exact absurd ⟨_, _, _, rfl⟩ hi | exact absurd ⟨_, _, _, rfl⟩ hm9
    rw [g1, g2, e1, f1]
end
theorem rnTL_ok {n n' : Nat} (R : Rn m n ρ ρ') : ∀ {l : List SV} {vs : List Value}, okdL W F n' l -> CellsOK ρ l vs -> CellsOK ρ' (rnTL m l) vs
 | [], vs, _, h => h
 | c :: l, vs, ho, h => by
   simp only [rnTL, rnT]
   cases hs : single c with
   | true =>
     obtain ⟨t, rfl, h2⟩ := h.one hs
     have ih := rnTL_ok R ho.2 h2
     cases hv : rnV m c with
     | none => exact ⟨_, _, rfl, ih⟩
     | some c' =>
       obtain ⟨e1, e2, e3⟩ := rnV_ok R hv ho.1
       by_cases ht : c' = .top
       ·subst ht; exact ⟨_, _, rfl, ih⟩
       ·have : single c' = true := by
         cases c' <;> first | rfl | exact absurd rfl ht | (exfalso; cases c <;> simp_all [isPiece, single])
        rw [<- e1]
        exact .mk_one this ih
   | false =>
     cases c <;> simp [single] at hs
     ·obtain ⟨v, t, rfl, h2⟩ := h
      exact ⟨v, t, rfl, rnTL_ok R ho.2 h2⟩
     ·obtain ⟨t, rfl, h2⟩ := h
      exact ⟨t, rfl, rnTL_ok R ho.2 h2⟩
     ·obtain ⟨t, rfl, h2⟩ := h
      exact ⟨t, rfl, rnTL_ok R ho.2 h2⟩
theorem rnTL_okd {n n' : Nat} (R : Rn m n ρ ρ') : ∀ {l : List SV}, okdL W F n' l -> okdL W F n (rnTL m l)
 | [], _ => trivial
 | c :: l, ho => by
   simp only [rnTL, rnT]
   refine ⟨?_, rnTL_okd R ho.2⟩
   cases hv : rnV m c with
   | none => trivial
   | some c' => exact (rnV_ok R hv ho.1).2.1
theorem rnTm_ok : ∀ {l : List (Nat × SV)} {d : Nat} {v : SV}, (rnTm m l).lookup d = some v -> ∃ u, l.lookup d = some u /\ v = rnT m u
 | [], d, v, h => by simp [rnTm] at h
 | (e, x) :: l, d, v, h => by
   simp only [rnTm] at h
   rw [lookup_cons] at h ⊢
   by_cases hd : d = e
   ·rw [if_pos hd] at h ⊢
    cases h
    exact ⟨x, rfl, rfl⟩
   ·rw [if_neg hd] at h ⊢
    exact rnTm_ok h
theorem rnRows_len (rows : Rows) : ∀ n, (rnRows m rows n).length = n
 | 0 => rfl
 | n + 1 => by simp [rnRows, rnRows_len rows n]
theorem rnRows_get {rows : Rows} : ∀ {n j : Nat} {r : Row}, (rnRows m rows n)[j]? = some (some r) -> ∃ i q, keyOf m j = some i /\ rows[i]? = some (some q) /\ r = ⟨q.ty, rnTL m q.cs, q.sz, q.ob⟩
 | 0, j, r, h => by simp [rnRows] at h
 | n + 1, j, r, h => by
   simp only [rnRows] at h
   by_cases hj : j < n
   ·rw [List.getElem?_append_left (by rw [rnRows_len]; exact hj)] at h
    exact rnRows_get h
   ·rw [List.getElem?_append_right (by rw [rnRows_len]; omega), rnRows_len] at h
    have hj2 : j = n := by
     by_cases h0 : j - n = 0
     ·omega
     ·rw [List.getElem?_eq_none (by simp; omega)] at h; cases h
    subst hj2
    simp only [Nat.sub_self, List.getElem?_cons_zero, Option.some.injEq] at h
    unfold rnRow at h
    split at h
    ·rename_i i hi
     split at h
     ·rename_i q hq
      cases h
      exact ⟨i, q, hi, hq, rfl⟩
     ·cases h
    ·cases h
theorem MemOK.renum {rows : Rows} {n : Nat} (hm : MemOK W F ρ rows w) (R : Rn m n ρ ρ') : MemOK W F ρ' (rnRows m rows n) w := by
 refine ⟨hm.frame, hm.glob, fun j r hj => ?_, fun j k r q hj hk g1 g2 he => ?_, fun j r hj g1 => ?_, ?_⟩
 ·obtain ⟨i, q, h1, h2, rfl⟩ := rnRows_get hj
  obtain ⟨c1, c2⟩ := hm.row i q h2
  rw [rnRows_len]
  exact ⟨c1.map (R.key i j h1).2 rfl rfl rfl (fun _ => rfl) (fun vs hv => rnTL_ok R c2 hv), rnTL_okd R c2⟩
 ·obtain ⟨i, x, h1, h2, rfl⟩ := rnRows_get hj
  obtain ⟨i', y, h3, h4, rfl⟩ := rnRows_get hk
  rw [(R.key i j h1).2, (R.key i' k h3).2] at he
  have := hm.inj i i' x y h2 h4 (g1.map (R.key i j h1).2 rfl rfl) (g2.map (R.key i' k h3).2 rfl rfl) he
  subst this
  exact R.one i j k h1 h3
 ·obtain ⟨i, x, h1, h2, rfl⟩ := rnRows_get hj
  rw [(R.key i j h1).2]
  exact hm.mine i x h2 (g1.map (R.key i j h1).2 rfl rfl)
 ·obtain ⟨φ, hφ⟩ := hm.obs
  refine ⟨fun j => match keyOf m j with
   | some i => φ i
   | none => fun _ => False, fun j r x hj hx => ?_⟩
  obtain ⟨i, q, h1, h2, rfl⟩ := rnRows_get hj
  obtain ⟨k1, k2⟩ := hφ i q x h2 hx
  simp only [h1, (R.key i j h1).2]
  refine ⟨k1.map fun vs hv => rnTL_ok R (hm.row i q h2).2 hv, fun y hy => ?_⟩
  obtain ⟨m1, m2, m3⟩ := k2 y hy
  refine ⟨m1, m2, fun k z hk => ⟨fun hh => ?_, fun hz hne => ?_⟩⟩
  ·obtain ⟨i', u, h3, h4, rfl⟩ := rnRows_get hk
   rw [(R.key i' k h3).2]
   exact (m3 i' u h4).1 (hh.map (R.key i' k h3).2 rfl rfl)
  ·obtain ⟨i', u, h3, h4, rfl⟩ := rnRows_get hk
   simp only [h3]
   refine (m3 i' u h4).2 hz fun e => hne ?_
   subst e
   exact (R.one i' j k h1 h3).symm
theorem At.renum {t : SS} (h : At W F ρ0 cx s a w) (hw : wellB cx.n0 t = true) : At W F ρ0 cx (Sx.renum cx.n0 s t) a w := by
 unfold Sx.renum
 simp only
 generalize pairs cx.n0 s t = m
 cases h1 : m.all (fun p => Nat.beq p.1 p.2) with
 | true => exact h
 | false =>
   simp only [cond_false]
   cases h2 : rnOK cx.n0 t.rows.length m with
   | false => exact h
   | true =>
     simp only [cond_true]
     obtain ⟨ρ, st, h3, h4⟩ := h
     have R := Rn.of h2 ρ
     have hle : cx.n0 <= t.rows.length := by
      simp only [wellB, Bool.and_eq_true] at hw
      exact Nat.le_of_ble_eq_true hw.1.1
     refine ⟨numOf m ρ, ⟨st.size, st.defers, fun d v hv => ?_, st.mem.renum R⟩, fun i hi => ?_, by simpa [rnRows_len] using hle⟩
     ·obtain ⟨u, hu, rfl⟩ := rnTm_ok hv
      rcases st.tm d u hu with h | ⟨g1, g2⟩
      ·subst h; exact .inl rfl
      ·unfold rnT
       cases hv : rnV m u with
       | none => exact .inl rfl
       | some c' =>
         obtain ⟨e1, e2, _⟩ := rnV_ok R hv g2
         exact .inr ⟨by rw [g1, e1], by rw [rnRows_len]; exact e2⟩
     ·simp only [rnOK, Bool.and_eq_true, List.all_eq_true, decide_eq_true_eq] at h2
      have h5 := h2.2 _ (rn_ids hi)
      unfold numOf
      simp only at h5
      rw [h5]
      exact h3 i hi
end Sx
end
section
namespace Sx
variable {P : Program} {W : World} {F : Nat -> Prop} {ρ ρ' ρ0 : Num} {s s' : SS} {a : Act} {w : World} {cx : Ctx}
def moreL (n m : Nat) : Nat -> List (Nat × Nat)
 | 0 => []
 | k + 1 => moreL n m k ++ [(n + k, m + k)]
def mgRow (g : List (Nat × Nat)) (R rows : Rows) (i : Nat) : Option Row := match keyOf g i with
 | some _ => rnRow g rows i
 | none => match R[i]? with
   | some x => x
   | none => none
def mgRows (g : List (Nat × Nat)) (R rows : Rows) : Nat -> Rows
 | 0 => []
 | n + 1 => mgRows g R rows n ++ [mgRow g R rows n]
mutual
theorem okd_at (hf : Frm F W w) {F0 : Nat -> Prop} (h0 : ∀ b, F0 b -> F b ∨ W.heap.size <= b) {n : Nat} : ∀ {c : SV}, okd W F n c -> okd w F0 n c
 | .ptr _ _, h => h
 | .pte _ _ _, h => h
 | .ptm _ _ _ _, h => h
 | .many _ _ _, h => h
 | .sl _ _ _ _, h => h
 | .os _ _ _ _, h => h
 | .on _ _ _, h => h
 | .ow _ _ _ _ _ _, h => h
 | .gpe _ _ _ _ _, h => h
 | .gp _ _, _ => trivial
 | .rd _ _ _, h => Reads.at hf h0 h
 | .rda _ _ _ _, h => ⟨Reads.at hf h0 h.1, h.2⟩
 | .rs _ _ _ f, h => ⟨ReadsS.at hf h0 h.1, fun e he => okdL_at hf h0 (l := f e) (h.2 e he)⟩
 | .rsa _ _ _ f _ _, h => ⟨⟨ReadsS.at hf h0 h.1.1, fun e he => okdL_at hf h0 (l := f e) (h.1.2 e he)⟩, h.2⟩
 | .agg cs, h => okdL_at hf h0 (l := cs) h
 | .tup cs, h => okdL_at hf h0 (l := cs) h
 | .fn _ x y, h => ⟨okdL_at hf h0 (l := x) h.1, okdL_at hf h0 (l := y) h.2⟩
 | .lit _ _, _ | .litb _, _ | .top, _ | .int _ _, _ | .bool _, _ | .str _, _ | .val _, _ | .hnd _, _ | .ints _ _ _, _ => trivial
theorem okdL_at (hf : Frm F W w) {F0 : Nat -> Prop} (h0 : ∀ b, F0 b -> F b ∨ W.heap.size <= b) {n : Nat} : ∀ {l : List SV}, okdL W F n l -> okdL w F0 n l
 | [], _ => trivial
 | c :: l, h => ⟨okd_at hf h0 h.1, okdL_at hf h0 h.2⟩
end
mutual
theorem okd_noRd {W' : World} {F' : Nat -> Prop} {n : Nat} : ∀ {c : SV}, okd W F n c -> noRd c = true -> okd W' F' n c
 | .ptr _ _, h, _ => h
 | .pte _ _ _, h, _ => h
 | .ptm _ _ _ _, h, _ => h
 | .many _ _ _, h, _ => h
 | .sl _ _ _ _, h, _ => h
 | .os _ _ _ _, h, _ => h
 | .on _ _ _, h, _ => h
 | .ow _ _ _ _ _ _, h, _ => h
 | .gpe _ _ _ _ _, h, _ => h
 | .gp _ _, _, _ => trivial
 | .rd _ _ _, _, h => by simp [noRd] at h
 | .rda _ _ _ _, _, h => by simp [noRd] at h
 | .rs _ _ _ _, _, h => by simp [noRd] at h
 | .rsa _ _ _ _ _ _, _, h => by simp [noRd] at h
 | .agg cs, h, hb => okdL_noRd (l := cs) h (by simpa [noRd] using hb)
 | .tup cs, h, hb => okdL_noRd (l := cs) h (by simpa [noRd] using hb)
 | .fn _ x y, h, hb => by simp only [noRd, Bool.and_eq_true] at hb; exact ⟨okdL_noRd (l := x) h.1 hb.1, okdL_noRd (l := y) h.2 hb.2⟩
 | .lit _ _, _, _ | .litb _, _, _ | .top, _, _ | .int _ _, _, _ | .bool _, _, _ | .str _, _, _ | .val _, _, _ | .hnd _, _, _ | .ints _ _ _, _, _ => trivial
theorem okdL_noRd {W' : World} {F' : Nat -> Prop} {n : Nat} : ∀ {l : List SV}, okdL W F n l -> noRdL l = true -> okdL W' F' n l
 | [], _, _ => trivial
 | c :: l, h, hb => by simp only [noRdL, Bool.and_eq_true] at hb; exact ⟨okd_noRd h.1 hb.1, okdL_noRd h.2 hb.2⟩
end
theorem noRdR_get : ∀ {rows : Rows} {i : Nat} {x : Row}, noRdR rows = true -> rows[i]? = some (some x) -> noRdL x.cs = true
 | [], i, x, _, h => by simp at h
 | none :: r, i, x, hb, h => by
   cases i with
   | zero => simp at h
   | succ i => exact noRdR_get (rows := r) hb (by simpa using h)
 | some y :: r, i, x, hb, h => by
   simp only [noRdR, Bool.and_eq_true] at hb
   cases i with
   | zero => simp at h; subst h; exact hb.1
   | succ i => exact noRdR_get hb.2 (by simpa using h)
theorem mgRows_len (g : List (Nat × Nat)) (R rows : Rows) : ∀ n, (mgRows g R rows n).length = n
 | 0 => rfl
 | n + 1 => by simp [mgRows, mgRows_len g R rows n]
theorem mgRows_get {g : List (Nat × Nat)} {R rows : Rows} : ∀ {n i : Nat} {r : Row}, (mgRows g R rows n)[i]? = some (some r) -> i < n /\ ((∃ j q, keyOf g i = some j /\ rows[j]? = some (some q) /\ r = ⟨q.ty, rnTL g q.cs, q.sz, q.ob⟩) ∨ (keyOf g i = none /\ R[i]? = some (some r)))
 | 0, i, r, h => by simp [mgRows] at h
 | n + 1, i, r, h => by
   simp only [mgRows] at h
   by_cases hi : i < n
   ·rw [List.getElem?_append_left (by rw [mgRows_len]; exact hi)] at h
    obtain ⟨h1, h2⟩ := mgRows_get h
    exact ⟨by omega, h2⟩
   ·rw [List.getElem?_append_right (by rw [mgRows_len]; omega), mgRows_len] at h
    have hj2 : i = n := by
     by_cases h0 : i - n = 0
     ·omega
     ·rw [List.getElem?_eq_none (by simp; omega)] at h; cases h
    subst hj2
    refine ⟨by omega, ?_⟩
    simp only [Nat.sub_self, List.getElem?_cons_zero, Option.some.injEq] at h
    unfold mgRow at h
    cases hk : keyOf g i with
    | some j =>
      simp only [hk] at h
      unfold rnRow at h
      simp only [hk] at h
      split at h
      ·rename_i q hq; cases h; exact .inl ⟨j, q, rfl, hq, rfl⟩
      ·cases h
    | none =>
      simp only [hk] at h
      split at h
      ·rename_i x hx; subst h; exact .inr ⟨rfl, hx⟩
      ·cases h
theorem softL_get : ∀ {rows : Rows} {i : Nat} {r : Row}, (softRows rows)[i]? = some (some r) -> ∃ q : Row, rows[i]? = some (some q) /\ r = ⟨q.ty, softL q.cs, q.sz, q.ob⟩
 | [], i, r, h => by simp [softRows] at h
 | none :: rs, i, r, h => by
   cases i with
   | zero => simp [softRows] at h
   | succ i => simp only [softRows, List.getElem?_cons_succ] at h ⊢; exact softL_get h
 | some x :: rs, i, r, h => by
   cases i with
   | zero => simp only [softRows, List.getElem?_cons_zero, Option.some.injEq] at h ⊢; exact ⟨x, rfl, h.symm⟩
   | succ i => simp only [softRows, List.getElem?_cons_succ] at h ⊢; exact softL_get h
theorem softRows_len : ∀ (rows : Rows), (softRows rows).length = rows.length
 | [] => rfl
 | none :: r => by simp [softRows, softRows_len r]
 | some x :: r => by simp [softRows, softRows_len r]
theorem CellsOK.softL : ∀ {l : List SV} {vs : List Value}, CellsOK ρ l vs -> CellsOK ρ (softL l) vs
 | [], vs, h => h
 | c :: l, vs, h => by
   simp only [Sx.softL]
   cases hs : single c with
   | true =>
     obtain ⟨t, rfl, h2⟩ := h.one hs
     rw [<- soft_den ρ (c := c)]
     exact .mk_one (by cases c <;> first | rfl | (simp [single] at hs)) h2.softL
   | false =>
     cases c <;> simp [single] at hs
     ·obtain ⟨v, t, rfl, h2⟩ := h
      exact ⟨v, t, rfl, h2.softL⟩
     ·obtain ⟨t, rfl, h2⟩ := h
      exact ⟨t, rfl, h2.softL⟩
     ·obtain ⟨t, rfl, h2⟩ := h
      exact ⟨t, rfl, h2.softL⟩
theorem MemOK.softR {rows : Rows} (hm : MemOK W F ρ rows w) : MemOK W F ρ (softRows rows) w := by
 have has : ∀ {i : Nat} {q : Row}, Has ρ i ⟨q.ty, Sx.softL q.cs, q.sz, q.ob⟩ -> Has ρ i q := fun h => h
 refine ⟨hm.frame, hm.glob, fun i r hi => ?_, fun i j r q hi hj h1 h2 he => ?_, fun i r hi h1 => ?_, ?_⟩
 ·obtain ⟨q, hq, rfl⟩ := softL_get hi
  obtain ⟨c1, c2⟩ := hm.row i q hq
  exact ⟨c1.map rfl rfl rfl rfl (fun _ => rfl) (fun vs hv => hv.softL), by rw [softRows_len]; exact softL_okd c2⟩
 ·obtain ⟨x, hx, rfl⟩ := softL_get hi
  obtain ⟨y, hy, rfl⟩ := softL_get hj
  exact hm.inj i j x y hx hy h1 h2 he
 ·obtain ⟨x, hx, rfl⟩ := softL_get hi
  exact hm.mine i x hx h1
 ·obtain ⟨φ, hφ⟩ := hm.obs
  refine ⟨φ, hφ.keep (fun i r hi _ => ?_) (Nat.le_refl _) (fun _ _ _ => rfl) (fun j q hj hq => .inr ?_)⟩
  ·obtain ⟨x, hx, rfl⟩ := softL_get hi; exact ⟨x, hx, rfl, rfl, fun vs hv => hv.softL⟩
  ·obtain ⟨x, hx, rfl⟩ := softL_get hj; exact ⟨j, x, hx, hq, rfl⟩
theorem src_none {l : List (Nat × Nat)} {m k : Nat} (hl : rnOK 0 m l = true) (h : (srcOf l k).isNone = true) : ∀ j, keyOf l j ≠ some k := by
 intro j hj
 simp only [rnOK, Bool.and_eq_true, List.all_eq_true, decide_eq_true_eq] at hl
 have := (hl.1 _ (keyOf_mem hj)).1.2
 simp only at this
 rw [this] at h
 cases h
theorem readArgs_ok {R : Rows} (hm : MemOK W F ρ R w) {v : Nat -> Value} {l : List (Nat × Nat)} {m : Nat} (hl : rnOK 0 m l = true) {F0 : Nat -> Prop} (h0 : ∀ b, F0 b -> F b ∨ W.heap.size <= b) (h1 : ∀ (k : Nat) (q : Row), (∀ j, keyOf l j ≠ some k) -> R[k]? = some (some q) -> Has ρ k q -> ¬ F0 (ρ k).1) :
  ∀ {args args' : List SV} {n : Nat} {ps : List Prop}, readArgs R v n args = some (ps, args') -> All ps -> okdL W F R.length args -> (∀ i ∈ ownL args, (srcOf l i).isNone = true) -> (∀ i c, args[i]? = some c -> v (n + i) = den ρ c) -> okdL w F0 R.length args'
 | [], args', n, ps, h, hp, ho, hown, hv => by simp only [readArgs, Option.some.injEq, Prod.mk.injEq] at h; obtain ⟨_, rfl⟩ := h; trivial
 | c :: cs, args', n, ps, h, hp, ho, hown, hv => by
   simp only [readArgs] at h
   cases hi : isOwn c with
   | none =>
     simp only [hi, Option.map_eq_some_iff] at h
     obtain ⟨⟨p2, l2⟩, hx, h⟩ := h
     cases h
     exact ⟨okd_at hm.frame h0 ho.1, readArgs_ok hm hl h0 h1 hx hp ho.2 (fun i hi2 => hown i (by simp only [ownL, hi]; exact hi2)) (fun i c hc => by have := hv (i + 1) c (by simpa using hc); rw [<- this]; congr 1; omega)⟩
   | some i =>
     simp only [hi] at h
     cases ho1 : own1 R c with
     | false => rw [ho1] at h; cases h
     | true =>
       rw [ho1] at h
       simp only [cond_true, Option.bind_eq_some_iff, Option.map_eq_some_iff] at h
       obtain ⟨k, hk, ⟨q1, q2, q3⟩, hq, ⟨p2, l2⟩, hx, h⟩ := h
       cases h
       have hno := src_none hl (hown i (by simp only [ownL, hi]; exact List.mem_cons_self ..))
       have hr := own_reads (c := pickO R k c) hm (by rw [pickO_own]; exact hi) hq (fun p h => hp p (by simp [h])) (fun p h => hp p (by simp [pickO_cap h])) (by rw [pickO_own1]; exact ho1) (pickO_okd ho.1) (fun q e1 e2 => h1 i q hno e1 e2)
       rw [pickO_den] at hr
       refine ⟨?_, readArgs_ok hm hl h0 h1 hx (fun p h => hp p (by simp [h])) ho.2 (fun i hi2 => hown i (by simp only [ownL, hi]; exact List.mem_cons_of_mem _ hi2)) (fun i c hc => by have := hv (i + 1) c (by simpa using hc); rw [<- this]; congr 1; omega)⟩
       have := hv 0 c (by simp)
       simp only [Nat.add_zero] at this
       show Reads w F0 k (v n) q3
       rw [this]; exact hr
theorem con_draw {f : FuncId} {args args' args0 : List SV} {R : Rows} {l g : List (Nat × Nat)} {m b : Nat} {bo : Bool} {res r : SV} {rows : Rows}
  (ha : rnL l args' = some args0) (hs : SemCall P f (softL args0) (softRows (rnRows l R m)) (AltK [⟨none, res, rows⟩])) (hm : MemOK W F ρ R w) (hden : denL ρ args' = denL ρ args)
  (hok : ∀ F0 : Nat -> Prop, (∀ b, F0 b -> F b ∨ W.heap.size <= b) -> (∀ (k : Nat) (q : Row), (∀ j, keyOf l j ≠ some k) -> R[k]? = some (some q) -> Has ρ k q -> ¬ F0 (ρ k).1) -> okdL w F0 R.length args')
  (hr : rnV g res = some r) (hc : drawC l g m R.length b bo = true) (c2 : noRd res = true) (c3 : noRdR rows = true) (hfree : bo = true -> Free R b) :
  Calls P f (denL ρ args).toArray w fun e w' => ∃ ρ', e = .returned (den ρ' r) /\ okd W F R.length r /\ MemOK W F ρ' (mgRows g R rows R.length) w' /\ ∀ i, i ≠ b ∨ bo = false -> ρ' i = ρ i := by
 simp only [drawC, Bool.and_eq_true, List.all_eq_true] at hc
 obtain ⟨⟨⟨hl, d1⟩, d3⟩, d4⟩ := hc
 have Rl := Rn.of hl ρ
 obtain ⟨φ, hφ⟩ := hm.obs
 -- the blocks that are handed over
 let F0 : Nat -> Prop := fun y => ∃ j i r, keyOf l j = some i /\ R[i]? = some (some r) /\ ((Has ρ i r /\ (ρ i).1 = y) ∨ (r.ob ≠ none /\ φ i y))
 have f1 : ∀ y, F0 y -> y < w.heap.size /\ (F y ∨ W.heap.size <= y) := by
  rintro y ⟨j, i, r, h1, h2, h3⟩
  rcases h3 with ⟨h3, rfl⟩ | ⟨h3, h4⟩
  ·exact ⟨hm.lt h2 h3, hm.mine i r h2 h3⟩
  ·cases hr : r.ob with
   | none => exact absurd hr h3
   | some x =>
     obtain ⟨g1, g2, _⟩ := (hφ i r x h2 hr).2 y h4
     exact ⟨g1, g2⟩
 have f2 : ∀ (k : Nat) (q : Row), (∀ j, keyOf l j ≠ some k) -> R[k]? = some (some q) -> Has ρ k q -> ¬ F0 (ρ k).1 := by
  rintro k q hno hq hh ⟨j, i, r, h1, h2, h3⟩
  rcases h3 with ⟨h3, h4⟩ | ⟨h3, h4⟩
  ·have := hm.inj i k r q h2 hq h3 hh h4
   subst this
   exact hno j h1
  ·cases hr : r.ob with
   | none => exact absurd hr h3
   | some x => exact (((hφ i r x h2 hr).2 _ h4).2.2 k q hq).1 hh rfl
 have f3 : ∀ (k : Nat) (q : Row) (x : Ob), (∀ j, keyOf l j ≠ some k) -> R[k]? = some (some q) -> q.ob = some x -> ∀ y, φ k y -> ¬ F0 y := by
  rintro k q x hno hq hx y hy ⟨j, i, r, h1, h2, h3⟩
  rcases h3 with ⟨h3, h4⟩ | ⟨h3, h4⟩
  ·exact (((hφ k q x hq hx).2 y hy).2.2 i r h2).1 h3 h4
  ·cases hr : r.ob with
   | none => exact h3 hr
   | some z =>
     have hki : k ≠ i := by rintro rfl; exact hno j h1
     exact (((hφ i r z h2 hr).2 y h4).2.2 k q hq).2 (by rw [hx]; simp) hki hy
 have h0 : ∀ b, F0 b -> F b ∨ W.heap.size <= b := fun b h => (f1 b h).2
 have hmr := hm.renum (n := m) Rl
 have hm0 : MemOK w F0 (numOf l ρ) (rnRows l R m) w := by
  refine ⟨Frm.refl _ _, fun g cs hg => ?_, fun j r hj => ?_, hmr.inj, fun j r hj hh => .inl ?_, ⟨fun j => match keyOf l j with
   | some i => φ i
   | none => fun _ => False, fun j r x hj hx => ?_⟩⟩
  ·obtain ⟨h1, c, ty, fr, h2, h3⟩ := hm.glob g cs hg
   have hlt := (Array.getElem?_eq_some_iff.1 h2).1
   refine ⟨fun h => ?_, c, ty, fr, by rw [hm.frame.block g hlt h1]; exact h2, h3⟩
   rcases h0 g h with h | h
   ·exact h1 h
   ·omega
  ·obtain ⟨c1, c2⟩ := hmr.row j r hj
   exact ⟨c1, okdL_at hm.frame h0 c2⟩
  ·obtain ⟨i, q, g1, g2, rfl⟩ := rnRows_get hj
   exact ⟨j, i, q, g1, g2, .inl ⟨hh.map (Rl.key i j g1).2 rfl rfl, ((Rl.key i j g1).2 ▸ rfl)⟩⟩
  ·obtain ⟨i, q, g1, g2, rfl⟩ := rnRows_get hj
   obtain ⟨k1, k2⟩ := hφ i q x g2 hx
   simp only [g1, (Rl.key i j g1).2]
   refine ⟨k1.map fun vs hv => rnTL_ok Rl (hm.row i q g2).2 hv, fun y hy => ?_⟩
   obtain ⟨m1, m2, m3⟩ := k2 y hy
   refine ⟨m1, .inl ⟨j, i, q, g1, g2, .inr ⟨by have hx' : q.ob = some x := hx; rw [hx']; simp, hy⟩⟩, fun k z hk => ⟨fun hh => ?_, fun hz hne => ?_⟩⟩
   ·obtain ⟨i', u, h3, h4, rfl⟩ := rnRows_get hk
    rw [(Rl.key i' k h3).2]
    exact (m3 i' u h4).1 (hh.map (Rl.key i' k h3).2 rfl rfl)
   ·obtain ⟨i', u, h3, h4, rfl⟩ := rnRows_get hk
    simp only [h3]
    refine (m3 i' u h4).2 hz fun e => hne ?_
    subst e
    exact (Rl.one i' j k g1 h3).symm
 obtain ⟨a1, a2, a3⟩ := rnL_ok (W := w) (F := F0) Rl ha (hok F0 h0 f2)
 have hcall := hs w F0 (numOf l ρ) w hm0.softR (by rw [softRows_len, rnRows_len]; exact softL_okd a3)
 rw [softL_den, a2, hden] at hcall
 refine hcall.mono ?_
 rintro e w' ⟨ρ', res', rows', ⟨x, hx, hxh, rfl, rfl⟩, rfl, g1, g2, g3, g4⟩
 obtain rfl : x = ⟨none, res, rows⟩ := by simpa using hx
 rw [softRows_len, rnRows_len] at g3 g4
 let ρ2 : Num := fun i => match keyOf g i with
  | some j => ρ' j
  | none => ρ i
 have Rg : Rn g R.length ρ' ρ2 := by
  obtain ⟨q1, q2, q3⟩ := Rn.of d1 ρ'
  have hnum : ∀ i j, keyOf g j = some i -> ρ2 j = ρ' i := fun i j h => by simp only [ρ2, h]
  refine ⟨fun i j h => ⟨(q1 i j h).1, ?_⟩, fun i j h => ⟨(q2 i j h).1, hnum i j h⟩, q3⟩
  have d1' := d1
  simp only [rnOK, Bool.and_eq_true, List.all_eq_true, decide_eq_true_eq] at d1'
  exact hnum i j (d1'.1 _ (srcOf_mem h)).1.1
 have oldN : ∀ i, keyOf g i = none -> ρ2 i = ρ i := fun i h => by simp only [ρ2, h]
 have old : ∀ i, i ≠ b ∨ bo = false -> ρ2 i = ρ i := by
  intro i hi
  simp only [ρ2]
  cases h : keyOf g i with
  | none => rfl
  | some j =>
    have h4 := d4 _ (keyOf_mem h)
    simp only [Bool.or_eq_true, decide_eq_true_eq, Bool.and_eq_true] at h4
    rcases h4 with h4 | ⟨h4, h5⟩
    ·simp only
     rw [g4 j (Rl.key i j h4).1]
     exact (Rl.key i j h4).2
    ·have := Nat.eq_of_beq_eq_true h5
     rcases hi with hi | hi
     ·exact absurd this hi
     ·rw [hi] at h4; cases h4
 have other : ∀ i, keyOf g i = none -> ∀ j, keyOf l j ≠ some i := by
  intro i h j hj
  have := d3 _ (keyOf_mem hj)
  simp only [Bool.and_eq_true, decide_eq_true_eq] at this
  rw [h] at this; cases this.1
 have keep : ∀ y, y < w.heap.size -> ¬ F0 y -> w'.heap[y]? = w.heap[y]? := fun y h1 h2 => g2.frame.block y h1 h2
 have lt0 : ∀ y, (F0 y ∨ w.heap.size <= y) -> (F y ∨ W.heap.size <= y) := fun y h => h.elim (fun h => h0 y h) fun h => .inr (Nat.le_trans hm.frame.size h)
 obtain ⟨ψ, hψ⟩ := g2.obs
 refine ⟨ρ2, ?_, ?_, ?_, old⟩
 ·obtain ⟨e1, _, _⟩ := rnV_ok (W := w) (F := F0) Rg hr g1
  rw [e1]
 ·obtain ⟨_, e2, _⟩ := rnV_ok (W := W) (F := F) Rg hr (okd_noRd g1 c2)
  exact e2
 ·refine ⟨⟨g2.frame.os.trans hm.frame.os, g2.frame.tape.trans hm.frame.tape, g2.frame.output.trans hm.frame.output, Nat.le_trans hm.frame.size g2.frame.size, fun b hb hf => ?_⟩, hm.glob, fun i q hi => ?_, fun i k q1 q2 hi hk hh1 hh2 he => ?_, fun i q hi hh => ?_, ?_⟩
  ·rw [keep b (Nat.lt_of_lt_of_le hb hm.frame.size) (fun h => ?_), hm.frame.block b hb hf]
   rcases h0 b h with h | h
   ·exact hf h
   ·omega
  ·rw [mgRows_len]
   obtain ⟨hin, hq⟩ := mgRows_get hi
   rcases hq with ⟨j, q0, e1, e2, rfl⟩ | ⟨e1, e2⟩
   ·obtain ⟨c1, c2⟩ := g2.row j q0 e2
    exact ⟨c1.map (Rg.key j i e1).2 rfl rfl rfl (fun _ => rfl) (fun vs hv => rnTL_ok Rg c2 hv), rnTL_okd Rg (okdL_noRd c2 (noRdR_get c3 e2))⟩
   ·obtain ⟨c1, c2⟩ := hm.row i q e2
    have hiR := (List.getElem?_eq_some_iff.1 e2).1
    refine ⟨c1.map (oldN i e1) rfl rfl rfl (fun hh => keep _ (hm.lt e2 hh) (f2 i q (other i e1) e2 hh)) (fun vs hv => ?_), c2⟩
    cases hbo : bo with
    | false => exact CellsOK.congr (n := R.length) (fun k _ => old k (.inr hbo)) c2 hv
    | true => exact CellsOK.off (fun k hk => old k (.inl hk)) ((hfree hbo).off i q e2) hv
  ·obtain ⟨_, h3⟩ := mgRows_get hi
   obtain ⟨_, h4⟩ := mgRows_get hk
   rcases h3 with ⟨j, q0, e1, e2, rfl⟩ | ⟨e1, e2⟩ <;> rcases h4 with ⟨j', q0', e3, e4, rfl⟩ | ⟨e3, e4⟩
   ·rw [(Rg.key j i e1).2, (Rg.key j' k e3).2] at he
    have := g2.inj j j' q0 q0' e2 e4 (hh1.map (Rg.key j i e1).2 rfl rfl) (hh2.map (Rg.key j' k e3).2 rfl rfl) he
    subst this
    exact Rg.one j i k e1 e3
   ·have hkR := (List.getElem?_eq_some_iff.1 e4).1
    have hh2' := hh2.map (oldN k e3) rfl rfl
    have e5 := g2.mine j q0 e2 (hh1.map (Rg.key j i e1).2 rfl rfl)
    rw [(Rg.key j i e1).2, oldN k e3] at he
    rw [he] at e5
    rcases e5 with h | h
    ·exact absurd h (f2 k q2 (other k e3) e4 hh2')
    ·have := hm.lt e4 hh2'; omega
   ·have hkR := (List.getElem?_eq_some_iff.1 e2).1
    have hh1' := hh1.map (oldN i e1) rfl rfl
    have e5 := g2.mine j' q0' e4 (hh2.map (Rg.key j' k e3).2 rfl rfl)
    rw [(Rg.key j' k e3).2, oldN i e1] at he
    rw [<- he] at e5
    rcases e5 with h | h
    ·exact absurd h (f2 i q1 (other i e1) e2 hh1')
    ·have := hm.lt e2 hh1'; omega
   ·have hiR := (List.getElem?_eq_some_iff.1 e2).1
    have hkR := (List.getElem?_eq_some_iff.1 e4).1
    rw [oldN i e1, oldN k e3] at he
    exact hm.inj i k q1 q2 e2 e4 (hh1.map (oldN i e1) rfl rfl) (hh2.map (oldN k e3) rfl rfl) he
  ·obtain ⟨_, h3⟩ := mgRows_get hi
   rcases h3 with ⟨j, q0, e1, e2, rfl⟩ | ⟨e1, e2⟩
   ·rw [(Rg.key j i e1).2]
    exact lt0 _ (g2.mine j q0 e2 (hh.map (Rg.key j i e1).2 rfl rfl))
   ·have hiR := (List.getElem?_eq_some_iff.1 e2).1
    rw [oldN i e1]
    exact hm.mine i q e2 (hh.map (oldN i e1) rfl rfl)
  ·refine ⟨fun i => match keyOf g i with
    | some j => ψ j
    | none => φ i, fun i q z hi hz => ?_⟩
   obtain ⟨_, h3⟩ := mgRows_get hi
   have hasO : ∀ (k : Nat) (u : Row), keyOf g k = none -> R[k]? = some (some u) -> Has ρ2 k u -> Has ρ k u := fun k u hk _ hh => hh.map (oldN k hk) rfl rfl
   rcases h3 with ⟨j, q0, e1, e2, rfl⟩ | ⟨e1, e2⟩
   ·obtain ⟨k1, k2⟩ := hψ j q0 z e2 hz
    simp only [e1, (Rg.key j i e1).2]
    refine ⟨k1.map fun vs hv => rnTL_ok Rg (g2.row j q0 e2).2 hv, fun y hy => ?_⟩
    obtain ⟨n1, n2, n3⟩ := k2 y hy
    refine ⟨n1, lt0 y n2, fun k u hk => ?_⟩
    obtain ⟨_, h4⟩ := mgRows_get hk
    rcases h4 with ⟨j', q0', e3, e4, rfl⟩ | ⟨e3, e4⟩
    ·refine ⟨fun hh => ?_, fun hu hne => ?_⟩
     ·rw [(Rg.key j' k e3).2]; exact (n3 j' q0' e4).1 (hh.map (Rg.key j' k e3).2 rfl rfl)
     ·simp only [e3]
      refine (n3 j' q0' e4).2 hu fun e => hne ?_
      subst e
      exact (Rg.one j' i k e1 e3).symm
    ·have hkR := (List.getElem?_eq_some_iff.1 e4).1
     refine ⟨fun hh => ?_, fun hu hne => ?_⟩
     ·have hh' := hasO k u e3 e4 hh
      rw [oldN k e3]
      rintro rfl
      rcases n2 with h | h
      ·exact f2 k u (other k e3) e4 hh' h
      ·have := hm.lt e4 hh'; omega
     ·simp only [e3]
      intro hyk
      cases hub : u.ob with
      | none => exact hu hub
      | some z' =>
        rcases n2 with h | h
        ·exact f3 k u z' (other k e3) e4 hub y hyk h
        ·have := ((hφ k u z' e4 hub).2 y hyk).1; omega
   ·have hiR := (List.getElem?_eq_some_iff.1 e2).1
    obtain ⟨k1, k2⟩ := hφ i q z e2 hz
    have hnF := f3 i q z (other i e1) e2 hz
    simp only [e1, oldN i e1]
    have k3 : ∀ vs, CellsOK ρ q.cs vs -> CellsOK ρ2 q.cs vs := fun vs hv => by
     cases hbo : bo with
     | false => exact CellsOK.congr (n := R.length) (fun k _ => old k (.inr hbo)) (hm.row i q e2).2 hv
     | true => exact CellsOK.off (fun k hk => old k (.inl hk)) ((hfree hbo).off i q e2) hv
    refine ⟨Ob_loc (k1.map k3) fun y hy => keep y (k2 y hy).1 (hnF y hy), fun y hy => ?_⟩
    obtain ⟨n1, n2, n3⟩ := k2 y hy
    refine ⟨Nat.lt_of_lt_of_le n1 g2.frame.size, n2, fun k u hk => ?_⟩
    obtain ⟨_, h4⟩ := mgRows_get hk
    rcases h4 with ⟨j', q0', e3, e4, rfl⟩ | ⟨e3, e4⟩
    ·refine ⟨fun hh => ?_, fun hu hne => ?_⟩
     ·rw [(Rg.key j' k e3).2]
      rintro rfl
      rcases g2.mine j' q0' e4 (hh.map (Rg.key j' k e3).2 rfl rfl) with h | h
      ·exact hnF _ hy h
      ·omega
     ·simp only [e3]
      intro hyk
      cases hub : q0'.ob with
      | none => exact hu hub
      | some z' =>
        rcases ((hψ j' q0' z' e4 hub).2 y hyk).2.1 with h | h
        ·exact hnF y hy h
        ·omega
    ·have hkR := (List.getElem?_eq_some_iff.1 e4).1
     refine ⟨fun hh => ?_, fun hu hne => ?_⟩
     ·rw [oldN k e3]; exact (n3 k u e4).1 (hasO k u e3 e4 hh)
     ·simp only [e3]; exact (n3 k u e4).2 hu hne
theorem putsL_map (G : Nat -> Option Row) : ∀ (g : List (Nat × Nat)) (R : Rows) (i : Nat), (putsL (g.map fun p => (p.1, G p.1)) R)[i]? = if (keyOf g i).isSome /\ i < R.length then some (G i) else R[i]?
 | [], R, i => by simp [putsL, keyOf]
 | (k, j) :: g, R, i => by
   have hk0 : keyOf ((k, j) :: g) i = if k = i then some j else keyOf g i := by
    simp only [keyOf]
    by_cases hk : k = i
    ·subst hk; rw [Nat.beq_refl]; simp
    ·rw [show Nat.beq k i = false by (cases h : Nat.beq k i with | false => rfl | true => exact absurd (Nat.eq_of_beq_eq_true h) hk)]; simp [hk]
   rw [hk0]
   simp only [List.map_cons, putsL]
   rw [putsL_map G g]
   simp only [List.length_set]
   by_cases hk : k = i
   ·subst hk
    by_cases hl : k < R.length
    ·simp only [if_true, Option.isSome_some, true_and, hl, and_true]
     split
     ·rfl
     ·rw [List.getElem?_set_self hl]
    ·have e1 : R[k]? = none := List.getElem?_eq_none (by omega)
     have e2 : (R.set k (G k))[k]? = none := List.getElem?_eq_none (by simp; omega)
     simp only [hl, and_false, if_false, e1, e2]
   ·rw [List.getElem?_set_ne hk]
    simp only [if_neg hk]
theorem mgRows_at (g : List (Nat × Nat)) (R rows : Rows) : ∀ {n i : Nat}, i < n -> (mgRows g R rows n)[i]? = some (mgRow g R rows i)
 | n + 1, i, h => by
   simp only [mgRows]
   by_cases hi : i < n
   ·rw [List.getElem?_append_left (by rw [mgRows_len]; exact hi)]; exact mgRows_at g R rows hi
   ·obtain rfl : i = n := by omega
    rw [List.getElem?_append_right (by rw [mgRows_len]; exact Nat.le_refl _), mgRows_len]; simp
theorem putsL_mg (g : List (Nat × Nat)) (R rows : Rows) : putsL (g.map fun p => (p.1, rnRow g rows p.1)) R = mgRows g R rows R.length := by
 apply List.ext_getElem?
 intro i
 rw [putsL_map]
 by_cases hi : i < R.length
 ·rw [mgRows_at g R rows hi]
  unfold mgRow
  cases hk : keyOf g i with
  | some j => simp [hi]
  | none =>
    have : R[i]? = some R[i] := List.getElem?_eq_getElem hi
    simp [this]
 ·rw [if_neg (by omega), List.getElem?_eq_none (by omega), List.getElem?_eq_none (by rw [mgRows_len]; omega)]
theorem isNewD_of {op : Op} (h : isNew op = true) : isNewD op = true := by
 unfold isNewD
 split
 ·rfl
 ·exact h
theorem effCall_isNewD {b : Nat} {op : Op} {z : Eff × Bool} (h : effCall cx s b op = some z) : isNewD op = true := by
 unfold effCall at h
 simp only [Option.bind_eq_some_iff] at h
 obtain ⟨q, hc, _⟩ := h
 unfold callOf at hc
 split at hc
 ·rfl
 ·cases hc
theorem finE_out {R : Rows} {b : Nat} {ps : List Prop} {im own more : List Nat} {alts : List Alt} {z : Eff × Bool} (h : finE R b ps im own more alts = some z) :
  ∃ res rows g, alts = [⟨none, res, rows⟩] /\ rnV g res = some z.1.v /\ drawC (numL 0 im) g im.length R.length b z.2 = true /\ (∀ i ∈ own, (srcOf (numL 0 im) i).isNone = true) /\ noRd res = true /\ noRdR rows = true /\ notTop z.1.v = true /\ z.1.ps = ps /\ z.1.puts = g.map (fun p => (p.1, rnRow g rows p.1)) /\ z.1.rds = im ++ own ++ more := by
 unfold finE at h
 split at h
 ·rename_i res rows
  simp only at h
  split at h
  ·rename_i v hv
   rcases cond_some h with ⟨e, h⟩ | ⟨_, h⟩
   ·cases h
    simp only [Bool.and_eq_true, List.all_eq_true] at e
    obtain ⟨⟨⟨⟨⟨e1, e2⟩, e3⟩, e4⟩, e5⟩, e6⟩ := e
    exact ⟨res, rows, _, rfl, hv, e1, e3, e4, e5, e6, rfl, rfl, rfl⟩
   ·cases h
  ·cases h
 ·cases h
theorem callD_out {c : ECon} {R : Rows} {args : List SV} {z : List Nat × List Prop × List Alt} (h : callD c R args = some z) : z.1 = reach args R /\ ∃ a0, rnL (numL 0 z.1) args = some a0 /\ c (softL a0) (softRows (rnRows (numL 0 z.1) R z.1.length)) = some (z.2.1, z.2.2) := by
 unfold callD at h
 simp only [Option.bind_eq_some_iff, Option.map_eq_some_iff] at h
 obtain ⟨a0, h1, ⟨q1, q2⟩, h2, h⟩ := h
 cases h
 exact ⟨rfl, a0, h1, h2⟩
theorem rnL_put {l : List (Nat × Nat)} {v : Nat -> Value} : ∀ {fl : List Bool} {p a0 : List SV} {n : Nat}, rnL l p = some a0 -> rnL l (putV v n fl p) = some (putV v n fl a0)
 | [], p, a0, n, h => by
   have e : ∀ q, putV v n [] q = q := fun q => by cases q <;> rfl
   rw [e, e]; exact h
 | f :: fl, [], a0, n, h => by
   simp only [rnL, Option.some.injEq] at h
   subst h
   cases f <;> rfl
 | f :: fl, c :: p, a0, n, h => by
   simp only [rnL, Option.bind_eq_some_iff, Option.map_eq_some_iff] at h
   obtain ⟨c', hc, p', hp, rfl⟩ := h
   have ih := rnL_put (v := v) (fl := fl) (n := n + 1) hp
   have keep : ∀ c c' : SV, rnV l c = some c' -> rnL l (c :: putV v (n + 1) fl p) = some (c' :: putV v (n + 1) fl p') := fun c c' h => by simp only [rnL, h, ih, Option.bind_some, Option.map_some]
   cases f with
   | false => exact keep c c' hc
   | true =>
     cases c with
     | rd k u xs =>
       simp only [rnV, Option.some.injEq] at hc
       subst hc
       exact keep (.rd k (v n) xs) (.rd k (v n) xs) rfl
     | agg cs =>
       simp only [rnV, Option.map_eq_some_iff] at hc
       obtain ⟨x, hx, rfl⟩ := hc
       exact keep (.agg cs) (.agg x) (by simp only [rnV, hx, Option.map_some])
     | tup cs =>
       simp only [rnV, Option.map_eq_some_iff] at hc
       obtain ⟨x, hx, rfl⟩ := hc
       exact keep (.tup cs) (.tup x) (by simp only [rnV, hx, Option.map_some])
     | fn f a b =>
       simp only [rnV, Option.map_eq_some_iff, Option.bind_eq_some_iff] at hc
       obtain ⟨x, hx, y, hy, rfl⟩ := hc
       exact keep (.fn f a b) (.fn f x y) (by simp only [rnV, hx, hy, Option.map_some, Option.bind_some])
     | ptr i o =>
       simp only [rnV, Option.map_eq_some_iff] at hc
       obtain ⟨x, hx, rfl⟩ := hc
       exact keep (.ptr i o) (.ptr x o) (by simp only [rnV, hx, Option.map_some])
     | pte i o e =>
       simp only [rnV, Option.map_eq_some_iff] at hc
       obtain ⟨x, hx, rfl⟩ := hc
       exact keep (.pte i o e) (.pte x o e) (by simp only [rnV, hx, Option.map_some])
     | sl i o m k =>
       simp only [rnV, Option.map_eq_some_iff] at hc
       obtain ⟨x, hx, rfl⟩ := hc
       exact keep (.sl i o m k) (.sl x o m k) (by simp only [rnV, hx, Option.map_some])
     | ptm i z e o =>
       simp only [rnV, Option.map_eq_some_iff] at hc
       obtain ⟨x, hx, rfl⟩ := hc
       exact keep (.ptm i z e o) (.ptm x z e o) (by simp only [rnV, hx, Option.map_some])
     | os i o m k =>
       simp only [rnV, Option.map_eq_some_iff] at hc
       obtain ⟨x, hx, rfl⟩ := hc
       exact keep (.os i o m k) (.os x o m k) (by simp only [rnV, hx, Option.map_some])
     | on i m z =>
       simp only [rnV, Option.map_eq_some_iff] at hc
       obtain ⟨x, hx, rfl⟩ := hc
       exact keep (.on i m z) (.on x m z) (by simp only [rnV, hx, Option.map_some])
     | ow i z p o n m =>
       simp only [rnV, Option.map_eq_some_iff] at hc
       obtain ⟨x, hx, rfl⟩ := hc
       exact keep (.ow i z p o n m) (.ow x z p o n m) (by simp only [rnV, hx, Option.map_some])
     | _ =>
       simp only [rnV, Option.some.injEq] at hc
       subst hc
       exact keep _ _ rfl
theorem effCall_ok (hx : CxOK P cx) (st : Sat W F cx.nt ρ s a w) {o : Oper} {b : Nat} {z : Eff × Bool} (h : effCall cx s b o.op = some z) (hp : All z.1.ps) (hb : z.2 = true -> Free s.rows b) :
  ∀ (K : Act -> World -> Prop) (Q : Exit -> Act -> World -> Prop), (∀ ρ' w', okd W F s.rows.length z.1.v -> z.1.v ≠ .top -> MemOK W F ρ' (putsL z.1.puts s.rows) w' -> (∀ j, j ≠ b ∨ z.2 = false -> ρ' j = ρ j) -> K (a.put o.dst (den ρ' z.1.v)) w') -> o.wp P a w K Q := by
 unfold effCall at h
 simp only [Option.bind_eq_some_iff] at h
 obtain ⟨⟨f, args⟩, hc, c, hcon, h⟩ := h
 obtain ⟨c1, c2⟩ := hx.con f c hcon
 obtain ⟨e1, e2⟩ := callOf_ok st hc c1
 have main : ∃ v, notTop v = true /\ z.1.v = v /\ Calls P f (denL ρ args).toArray w fun e w' => ∃ ρ', e = .returned (den ρ' v) /\ okd W F s.rows.length v /\ MemOK W F ρ' (putsL z.1.puts s.rows) w' /\ ∀ i, i ≠ b ∨ z.2 = false -> ρ' i = ρ i := by
  split at h
  ·rename_i y hy
   obtain ⟨y1, a0, y2, y3⟩ := callD_out hy
   obtain ⟨res, rows, g, f1, f2, f3, f4, f5, f6, f7, f8, f9, f10⟩ := finE_out h
   refine ⟨_, f7, rfl, ?_⟩
   rw [f9, putsL_mg]
   exact con_draw y2 (by rw [<- f1]; exact c2 _ _ _ _ y3 (by rw [<- f8]; exact hp)) st.mem rfl (fun F0 h0 _ => okdL_at st.mem.frame h0 e2) f2 f3 f5 f6 hb
  ·rcases cond_some h with ⟨_, h⟩ | ⟨_, h⟩
   ·cases h
   simp only [Option.bind_eq_some_iff] at h
   obtain ⟨⟨p1, p2⟩, hr, a0, ha, ⟨z1, z2⟩, hz, h⟩ := h
   obtain ⟨res, rows, g, f1, f2, f3, f4, f5, f6, f7, f8, f9, f10⟩ := finE_out h
   have hsame := (forceL_out (K := fun a => OwnSameE c (ownF args) a _) (forceRows_out (K := fun R => forceL a0 fun a => OwnSameE c (ownF args) a R) (hp _ (by rw [f8]; exact List.mem_cons_self)))).out fun i => match args[i]? with
    | some c => den ρ c
    | none => undef
   rw [hz] at hsame
   obtain ⟨hq, _⟩ := readArgs_put (v := fun i => match args[i]? with
    | some c => den ρ c
    | none => undef) hr
   have hv : ∀ i c, args[i]? = some c -> (fun i => match args[i]? with
    | some c => den ρ c
    | none => undef) (0 + i) = den ρ c := fun i c hc => by simp only [Nat.zero_add, hc]
   have ha2 := rnL_put (v := fun i => match args[i]? with
    | some c => den ρ c
    | none => undef) (fl := ownF args) (n := 0) ha
   have hl : rnOK 0 (reach p2 s.rows).length (numL 0 (reach p2 s.rows)) = true := by simp only [drawC, Bool.and_eq_true] at f3; exact f3.1.1.1
   refine ⟨_, f7, rfl, ?_⟩
   rw [f9, putsL_mg]
   refine con_draw ha2 (by rw [<- f1]; exact c2 _ _ _ _ hsame (fun p hh => hp p (by rw [f8]; simp [hh]))) st.mem (readArgs_den hq hv) (fun F0 h0 h1 => readArgs_ok st.mem hl h0 h1 hq (fun p hh => hp p (by rw [f8]; simp [hh])) e2 (fun i hi => f4 i hi) hv) f2 f3 f5 f6 hb
 obtain ⟨v, m1, rfl, m2⟩ := main
 intro K Q hK
 unfold Oper.wp
 rw [e1]
 simp only [Oper.upon]
 refine m2.mono ?_
 rintro e w' ⟨ρ', rfl, g1, g2, g3⟩
 exact hK ρ' w' g1 (fun e => by rw [e] at m1; simp [notTop] at m1) g2 g3
end Sx
end
section
namespace Sx
variable {P : Program} {W : World} {F : Nat -> Prop} {ρ ρ0 : Num} {s : SS} {a : Act} {w : World} {cx : Ctx}
def StepFact (cx : Ctx) (b : Nat) (s : SS) (o : Oper) (r : Rec) : Prop :=
 (∃ ps, quietOp cx s o.op = some (ps, r.v) /\ All ps /\ r.puts = [] /\ r.new = none /\ r.rds = readRow s o.op) ∨
 (∃ c x y sv q cl, o.op = .pick (.tmp c) x y /\ s.tm.lookup c = some sv /\ asB sv = some (q, cl) /\ ev s.tm (bif q then x else y) = some r.v /\ r.puts = [] /\ r.new = none) ∨
 (∃ e' e, effOp cx.T s b o.op = some e' /\ e ∈ sides e' /\ All e.ps /\ r.v = e.v /\ r.puts = e.puts /\ r.rds = e.rds /\ r.new = (bif isNew o.op then some b else none)) ∨
 (∃ z, effCall cx s b o.op = some z /\ All z.1.ps /\ r.v = z.1.v /\ r.puts = z.1.puts /\ r.rds = z.1.rds /\ r.new = (bif z.2 then some b else none))
def skipRec (o : Oper) : Rec := ⟨o.dst, .tup [], [], none, []⟩
def GuardIs (all : Array Oper) (s : SS) (o : Oper) (q : Bool) : Prop :=
 match o.guard with
 | none => q = true
 | some (j, want) => ∃ d sv, (all[j]?).bind (·.dst) = some d /\ s.tm.lookup d = some sv /\ ((∃ x c, asB sv = some (x, c) /\ q = (x == want)) ∨ (sv = .tup [] /\ q = false))
def Fact (cx : Ctx) (all : Array Oper) (b : Nat) (s : SS) (o : Oper) (r : Rec) : Prop :=
 r.dst = o.dst /\ dstB cx o.dst = true /\ ((GuardIs all s o true /\ StepFact cx b s o r) ∨ (GuardIs all s o false /\ r = skipRec o))
def Facts (cx : Ctx) (all : Array Oper) : List Oper -> List Rec -> Nat -> SS -> Prop
 | [], [], _, _ => True
 | o :: os, r :: rs, b, s => Fact cx all b s o r /\ Facts cx all os rs (bif isNewD o.op then b + 1 else b) (applyRec s r)
 | _, _, _, _ => False
def Known (s : SS) (kn : List (Nat × Bool)) : Prop := ∀ d q, kn.lookup d = some q -> ∃ sv c, s.tm.lookup d = some sv /\ asB sv = some (q, c)
theorem dropK_same (d : Option Tmp) : ∀ (kn : List (Nat × Bool)) (e : Nat) (q : Bool), (dropK d kn).lookup e = some q -> kn.lookup e = some q /\ d ≠ some e
 | [], e, q, h => by simp [dropK] at h
 | (f, x) :: r, e, q, h => by
   simp only [dropK] at h
   cases hd : (d == some f) with
   | true =>
     simp only [hd, cond_true] at h
     obtain ⟨h1, h2⟩ := dropK_same d r e q h
     have hef : e ≠ f := by rintro rfl; exact h2 (by simpa using hd)
     rw [lookup_cons, if_neg hef]
     exact ⟨h1, h2⟩
   | false =>
     simp only [hd, cond_false] at h
     rw [lookup_cons] at h ⊢
     by_cases he : e = f
     ·rw [if_pos he] at h ⊢
      refine ⟨h, ?_⟩
      subst he
      intro h2
      rw [h2] at hd
      simp at hd
     ·rw [if_neg he] at h ⊢
      exact dropK_same d r e q h
theorem applyRec_lookup {r : Rec} {d : Nat} (h : r.dst ≠ some d) : (applyRec s r).tm.lookup d = s.tm.lookup d := by
 unfold applyRec
 cases hd : r.dst with
 | none => rfl
 | some e =>
   simp only
   rw [lookup_cons, if_neg]
   rintro rfl; exact h hd
theorem Known.apply {kn : List (Nat × Bool)} (h : Known s kn) {r : Rec} {d : Option Tmp} (hd : r.dst = d) : Known (applyRec s r) (dropK d kn) := by
 intro e q he
 obtain ⟨h1, h2⟩ := dropK_same d kn e q he
 obtain ⟨sv, c, h3, h4⟩ := h e q h1
 exact ⟨sv, c, by rw [applyRec_lookup (by rw [hd]; exact h2)]; exact h3, h4⟩
theorem forcePuts_out : ∀ {l : List (Nat × Option Row)} {K : List (Nat × Option Row) -> Prop}, forcePuts l K -> K l
 | [], K, h => h
 | (b, none) :: l, K, h => forcePuts_out (l := l) (K := fun l => K ((b, none) :: l)) h
 | (b, some x) :: l, K, h => forcePuts_out (l := l) (K := fun l => K ((b, some x) :: l)) (forceRow_out (K := fun x => forcePuts l fun l => K ((b, some x) :: l)) (forceNat_out (K := fun b => forceRow x fun x => forcePuts l fun l => K ((b, some x) :: l)) h))
theorem forceRec_out {r : Rec} {K : Rec -> Prop} (h : forceRec r K) : K r := by
 unfold forceRec at h
 have h := forceSV_out (K := fun v => forcePuts r.puts fun p => K ⟨r.dst, v, p, r.new, r.rds⟩) h
 exact forcePuts_out (K := fun p => K ⟨r.dst, r.v, p, r.new, r.rds⟩) h
theorem drawStep_fact {kn : List (Nat × Bool)} {b : Nat} {o : Oper} {ps : List Prop} {r : Rec} {alt : Option (Prop × Rec)} (h : drawStep cx kn b s o = some (ps, r, alt)) (hp : All ps) (hk : Known s kn) :
  (alt = none -> r.dst = o.dst /\ StepFact cx b s o r) /\ ∀ q r', alt = some (q, r') -> (q -> r'.dst = o.dst /\ StepFact cx b s o r') /\ (¬ q -> r.dst = o.dst /\ StepFact cx b s o r) := by
 unfold drawStep at h
 split at h
 ·rename_i x hx
  simp only [Option.map_eq_some_iff] at h
  obtain ⟨v, hv, h⟩ := h
  cases h
  refine ⟨fun _ => ⟨rfl, .inr (.inl ?_)⟩, fun q r' h => by cases h⟩
  unfold knownPick at hx
  split at hx
  ·rename_i c y z hop
   simp only [Option.map_eq_some_iff] at hx
   obtain ⟨q, hq, rfl⟩ := hx
   obtain ⟨sv, cl, h1, h2⟩ := hk c q hq
   exact ⟨c, y, z, sv, q, cl, hop, h1, h2, hv, rfl, rfl⟩
  ·cases hx
 ·split at h
  ·rename_i ps' v hq
   cases h
   exact ⟨fun _ => ⟨rfl, .inl ⟨ps, hq, hp, rfl, rfl, rfl⟩⟩, fun q r' h => by cases h⟩
  ·split at h
   ·rename_i e he
    cases h
    cases ha : e.alt with
    | none => exact ⟨fun _ => ⟨rfl, .inr (.inr (.inl ⟨e, e, he, by unfold sides; rw [ha]; simp, hp, rfl, rfl, rfl, rfl⟩))⟩, fun q r' h => by cases h⟩
    | some y =>
      obtain ⟨q, v⟩ := y
      refine ⟨(fun h => by cases h), fun q' r' h => ?_⟩
      cases h
      exact ⟨fun hq => ⟨rfl, .inr (.inr (.inl ⟨e, ⟨q :: e.ps, v, [], e.rds, none⟩, he, by unfold sides; rw [ha]; simp, (fun p h => by rcases List.mem_cons.1 h with rfl | h; exact hq; exact hp p h), rfl, rfl, rfl, rfl⟩))⟩,
       fun hq => ⟨rfl, .inr (.inr (.inl ⟨e, ⟨(¬ q) :: e.ps, e.v, e.puts, e.rds, none⟩, he, by unfold sides; rw [ha]; simp, (fun p h => by rcases List.mem_cons.1 h with rfl | h; exact hq; exact hp p h), rfl, rfl, rfl, rfl⟩))⟩⟩
   ·simp only [Option.map_eq_some_iff] at h
    obtain ⟨z, hz, h⟩ := h
    cases h
    exact ⟨fun _ => ⟨rfl, .inr (.inr (.inr ⟨z, hz, hp, rfl, rfl, rfl, rfl⟩))⟩, fun q r' h => by cases h⟩
theorem drawOps_facts {all : Array Oper} {K : SS -> List Rec -> List (Nat × Bool) -> Prop} : ∀ {l : List Oper} {b : Nat} {s : SS} {recs : List Rec} {kn : List (Nat × Bool)}, drawOps cx all l b s recs kn K -> Known s kn ->
  ∃ rs kn', Facts cx all l rs b s /\ K (rs.foldl applyRec s) (recs ++ rs) kn'
 | [], b, s, recs, kn, h, hk => ⟨[], kn, trivial, by simpa [drawOps] using h⟩
 | o :: r, b, s, recs, kn, h, hk => by
   unfold drawOps at h
   cases hd : dstB cx o.dst with
   | false => simp [hd] at h
   | true =>
     simp only [hd, cond_true] at h
     have goK : ∀ kn, Known s kn -> GuardIs all s o true -> (match drawStep cx kn b s o with
       | some (ps, rc, none) => andL ps (forceRec rc fun rc => drawOps cx all r (bif isNewD o.op then b + 1 else b) (applyRec s rc) (recs ++ [rc]) (dropK o.dst kn) K)
       | some (ps, rc, some (q, rc')) => andL ps ((q -> forceRec rc' fun rc => drawOps cx all r (bif isNewD o.op then b + 1 else b) (applyRec s rc) (recs ++ [rc]) (dropK o.dst kn) K) /\ (¬ q -> forceRec rc fun rc => drawOps cx all r (bif isNewD o.op then b + 1 else b) (applyRec s rc) (recs ++ [rc]) (dropK o.dst kn) K))
       | none => False) -> ∃ rs kn', Facts cx all (o :: r) rs b s /\ K (rs.foldl applyRec s) (recs ++ rs) kn' := by
      intro kn hk hg h
      have way : ∀ rc, (rc.dst = o.dst /\ StepFact cx b s o rc) -> (forceRec rc fun rc => drawOps cx all r (bif isNewD o.op then b + 1 else b) (applyRec s rc) (recs ++ [rc]) (dropK o.dst kn) K) -> ∃ rs kn', Facts cx all (o :: r) rs b s /\ K (rs.foldl applyRec s) (recs ++ rs) kn' := by
       rintro rc ⟨h1, h2⟩ h
       have h := forceRec_out (K := fun rc => drawOps cx all r (bif isNewD o.op then b + 1 else b) (applyRec s rc) (recs ++ [rc]) (dropK o.dst kn) K) h
       obtain ⟨rs, kn', h3, h4⟩ := drawOps_facts h (hk.apply h1)
       exact ⟨rc :: rs, kn', ⟨⟨h1, hd, .inl ⟨hg, h2⟩⟩, h3⟩, by simpa using h4⟩
      split at h
      ·rename_i ps rc hs
       obtain ⟨hp, h⟩ := andL_out h
       exact way rc ((drawStep_fact hs hp hk).1 rfl) h
      ·rename_i ps rc q rc' hs
       obtain ⟨hp, h⟩ := andL_out h
       obtain ⟨f1, f2⟩ := (drawStep_fact hs hp hk).2 q rc' rfl
       by_cases hq : q
       ·exact way rc' (f1 hq) (h.1 hq)
       ·exact way rc (f2 hq) (h.2 hq)
      ·exact h.elim
     have skipK : ∀ kn, Known s kn -> GuardIs all s o false -> drawOps cx all r (bif isNewD o.op then b + 1 else b) (applyRec s ⟨o.dst, .tup [], [], none, []⟩) (recs ++ [⟨o.dst, .tup [], [], none, []⟩]) (dropK o.dst kn) K ->
       ∃ rs kn', Facts cx all (o :: r) rs b s /\ K (rs.foldl applyRec s) (recs ++ rs) kn' := by
      intro kn hk hg h
      obtain ⟨rs, kn', h3, h4⟩ := drawOps_facts h (hk.apply rfl)
      exact ⟨skipRec o :: rs, kn', ⟨⟨rfl, hd, .inr ⟨hg, rfl⟩⟩, h3⟩, by simpa [skipRec] using h4⟩
     have addK : ∀ {d : Nat} {sv : SV} {x c : Bool}, s.tm.lookup d = some sv -> asB sv = some (x, c) -> Known s ((d, x) :: kn) := by
      intro d sv x c h1 h2 e q he
      rw [lookup_cons] at he
      by_cases hed : e = d
      ·simp [hed] at he; subst he hed; exact ⟨sv, c, h1, h2⟩
      ·simp [hed] at he; exact hk e q he
     split at h
     ·rename_i hg
      exact goK kn hk (by unfold GuardIs; rw [hg]) h
     ·rename_i j want hg
      split at h
      ·rename_i d hd2
       have gd : ∀ {sv : SV} {x c : Bool}, s.tm.lookup d = some sv -> asB sv = some (x, c) -> GuardIs all s o (x == want) := by
        intro sv x c h1 h2
        unfold GuardIs
        rw [hg]
        exact ⟨d, sv, hd2, h1, .inl ⟨x, c, h2, rfl⟩⟩
       split at h
       ·rename_i q hq
        obtain ⟨sv, c, h1, h2⟩ := hk d q hq
        have hgd := gd h1 h2
        cases hqw : (q == want) with
        | true => rw [hqw] at h hgd; exact goK kn hk hgd h
        | false => rw [hqw] at h hgd; exact skipK kn hk hgd h
       ·split at h
        ·rename_i sv h1
         cases hsk : isSkip sv with
         | true =>
           obtain rfl := isSkip_eq hsk
           simp only [isSkip, cond_true] at h
           exact skipK kn hk (by unfold GuardIs; rw [hg]; exact ⟨d, _, hd2, h1, .inr ⟨rfl, rfl⟩⟩) h
         | false =>
           simp only [hsk, cond_false] at h
           split at h
           ·rename_i x c h2
            have hgd := gd h1 h2
            cases c with
            | true =>
              simp only [cond_true] at h
              cases hqw : (x == want) with
              | true => rw [hqw] at h hgd; exact goK kn hk hgd h
              | false => rw [hqw] at h hgd; exact skipK kn hk hgd h
            | false =>
              simp only [cond_false] at h
              split at h
              ·rename_i q hq
               obtain ⟨rfl, h⟩ := h
               have hk' := addK h1 h2
               cases hqw : (x == want) with
               | true => rw [hqw] at h hgd; exact goK _ hk' hgd h
               | false => rw [hqw] at h hgd; exact skipK _ hk' hgd h
              ·by_cases hx : x = want
               ·subst hx
                exact goK _ (addK h1 h2) (by simpa using hgd) (h.1 rfl)
               ·have hx2 : x = !want := by cases x <;> cases want <;> first | rfl | exact absurd rfl hx
                have hk' := addK h1 h2
                rw [hx2] at hk'
                have hgf : GuardIs all s o false := by
                 have : (x == want) = false := by cases x <;> cases want <;> first | rfl | exact absurd rfl hx
                 rwa [this] at hgd
                exact skipK _ hk' hgf (h.2 hx2)
           ·exact h.elim
        ·exact h.elim
      ·exact h.elim
end Sx
end
section
namespace Sx
variable {P : Program} {W : World} {F : Nat -> Prop} {ρ ρ0 : Num} {s : SS} {a : Act} {w : World} {cx : Ctx}
def stF (S : Nat -> Bool) : Nat -> List Rec -> SS -> SS
 | _, [], s => s
 | i, r :: rs, s => stF S (i + 1) rs (bif S i then applyRec s r else s)
def lastD (S : Nat -> Bool) (t : Nat) : Nat -> List Rec -> Option SV
 | _, [] => none
 | i, r :: rs => match lastD S t (i + 1) rs with
   | some v => some v
   | none => if S i = true /\ r.dst = some t then some r.v else none
def lastPut : List (Nat × Option Row) -> Nat -> Option (Option Row)
 | [], _ => none
 | (c, x) :: l, b => match lastPut l b with
   | some y => some y
   | none => if c = b then some x else none
def lastP (S : Nat -> Bool) (b : Nat) : Nat -> List Rec -> Option (Option Row)
 | _, [] => none
 | i, r :: rs => match lastP S b (i + 1) rs with
   | some v => some v
   | none => if S i = true then lastPut r.puts b else none
theorem touch_iff {l : List (Nat × Option Row)} {b : Nat} : touch l b = true ↔ ∃ x, lastPut l b = some x := by
 unfold touch
 induction l with
 | nil => simp [lastPut]
 | cons p l ih =>
   obtain ⟨c, x⟩ := p
   simp only [List.any_cons, Bool.or_eq_true, lastPut, ih]
   constructor
   ·rintro (h | ⟨y, h⟩)
    ·have := Nat.eq_of_beq_eq_true h
     cases hl : lastPut l b with
     | some y => exact ⟨y, rfl⟩
     | none => exact ⟨x, by simp [this]⟩
    ·exact ⟨y, by rw [h]⟩
   ·rintro ⟨y, h⟩
    cases hl : lastPut l b with
    | some z => exact .inr ⟨z, rfl⟩
    | none =>
      rw [hl] at h
      simp only at h
      split at h
      ·rename_i hc; left; subst hc; exact Nat.beq_refl _
      ·cases h
theorem putsL_get : ∀ (l : List (Nat × Option Row)) (rows : Rows) (b : Nat), (putsL l rows)[b]? = match lastPut l b with
  | some x => if b < rows.length then some x else none
  | none => rows[b]?
 | [], rows, b => rfl
 | (c, x) :: l, rows, b => by
   rw [putsL, putsL_get l]
   simp only [lastPut]
   cases lastPut l b with
   | some y => simp
   | none =>
     simp only
     by_cases h : c = b
     ·subst h
      rw [if_pos rfl]
      by_cases hl : c < rows.length
      ·rw [List.getElem?_set_self hl]; simp [hl]
      ·rw [List.getElem?_eq_none (by simp; omega)]; simp [hl]
     ·rw [if_neg h, List.getElem?_set_ne h]
theorem applyRec_tm (s : SS) (r : Rec) (t : Nat) : (applyRec s r).tm.lookup t = if r.dst = some t then some r.v else s.tm.lookup t := by
 unfold applyRec
 cases hd : r.dst with
 | none => simp
 | some e =>
   simp only
   rw [lookup_cons]
   by_cases h : t = e
   ·subst h; simp
   ·rw [if_neg h, if_neg (by intro h2; exact h (Option.some.inj h2).symm)]
theorem applyRec_len (s : SS) (r : Rec) : (applyRec s r).rows.length = s.rows.length := putsL_len _ _
theorem applyRec_rows (s : SS) (r : Rec) (b : Nat) : (applyRec s r).rows[b]? = match lastPut r.puts b with
  | some x => if b < s.rows.length then some x else none
  | none => s.rows[b]? := putsL_get _ _ _
theorem stF_len (S : Nat -> Bool) : ∀ (rs : List Rec) (i : Nat) (s : SS), (stF S i rs s).rows.length = s.rows.length
 | [], i, s => rfl
 | r :: rs, i, s => by
   rw [stF, stF_len S rs]
   cases S i <;> simp [applyRec_len]
theorem stF_tm (S : Nat -> Bool) (t : Nat) : ∀ (rs : List Rec) (i : Nat) (s : SS), (stF S i rs s).tm.lookup t = match lastD S t i rs with
  | some v => some v
  | none => s.tm.lookup t
 | [], i, s => rfl
 | r :: rs, i, s => by
   rw [stF, stF_tm S t rs]
   simp only [lastD]
   cases lastD S t (i + 1) rs with
   | some v => rfl
   | none =>
     simp only
     cases hS : S i with
     | false => simp
     | true =>
       simp only [cond_true, true_and]
       rw [applyRec_tm]
       by_cases h : r.dst = some t
       ·rw [if_pos h, if_pos h]
       ·rw [if_neg h, if_neg h]
theorem stF_rows (S : Nat -> Bool) (b : Nat) : ∀ (rs : List Rec) (i : Nat) (s : SS), (stF S i rs s).rows[b]? = match lastP S b i rs with
  | some x => if b < s.rows.length then some x else none
  | none => s.rows[b]?
 | [], i, s => rfl
 | r :: rs, i, s => by
   rw [stF, stF_rows S b rs]
   simp only [lastP]
   cases hl : lastP S b (i + 1) rs with
   | some v =>
     simp only
     cases S i <;> simp [applyRec_len]
   | none =>
     simp only
     cases hS : S i with
     | false => simp
     | true =>
       simp only [cond_true, if_true]
       rw [applyRec_rows]
theorem lastD_congr {S S' : Nat -> Bool} {t : Nat} : ∀ {rs : List Rec} {i : Nat}, (∀ j r, rs[j]? = some r -> r.dst = some t -> S (i + j) = S' (i + j)) -> lastD S t i rs = lastD S' t i rs
 | [], i, h => rfl
 | r :: rs, i, h => by
   simp only [lastD]
   rw [lastD_congr (rs := rs) (i := i + 1) (S := S) (S' := S') (fun j x hj hx => by have := h (j + 1) x (by simpa using hj) hx; rw [show i + 1 + j = i + (j + 1) by omega]; exact this)]
   by_cases hd : r.dst = some t
   ·have h0 := h 0 r rfl hd
    simp only [Nat.add_zero] at h0
    rw [h0]
   ·simp [hd]
theorem lastP_congr {S S' : Nat -> Bool} {b : Nat} : ∀ {rs : List Rec} {i : Nat}, (∀ j r, rs[j]? = some r -> touch r.puts b = true -> S (i + j) = S' (i + j)) -> lastP S b i rs = lastP S' b i rs
 | [], i, h => rfl
 | r :: rs, i, h => by
   simp only [lastP]
   rw [lastP_congr (rs := rs) (i := i + 1) (S := S) (S' := S') (fun j x hj hx => by have := h (j + 1) x (by simpa using hj) hx; rw [show i + 1 + j = i + (j + 1) by omega]; exact this)]
   cases hp : lastPut r.puts b with
   | none => simp
   | some q =>
     have h0 := h 0 r rfl (touch_iff.2 ⟨q, hp⟩)
     simp only [Nat.add_zero] at h0
     rw [h0]
theorem lastD_last {S : Nat -> Bool} {t : Nat} : ∀ {rs : List Rec} {i k : Nat} {r : Rec}, rs[k]? = some r -> r.dst = some t -> S (i + k) = true -> (∀ j x, rs[j]? = some x -> k < j -> x.dst = some t -> S (i + j) = false) -> lastD S t i rs = some r.v
 | [], i, k, r, h, _, _, _ => by simp at h
 | x :: rs, i, 0, r, h, hd, hS, hl => by
   simp at h; subst h
   have : lastD S t (i + 1) rs = lastD (fun _ => false) t (i + 1) rs := lastD_congr fun j y hj hy => by
    rw [show i + 1 + j = i + (j + 1) by omega]; exact hl (j + 1) y (by simpa using hj) (by omega) hy
   have h2 : ∀ (rs : List Rec) (i : Nat), lastD (fun _ => false) t i rs = none := by
    intro rs
    induction rs with
    | nil => intro i; rfl
    | cons y rs ih => intro i; simp [lastD, ih]
   simp only [lastD, this, h2]
   rw [if_pos ⟨by simpa using hS, hd⟩]
 | x :: rs, i, k + 1, r, h, hd, hS, hl => by
   have := lastD_last (rs := rs) (i := i + 1) (k := k) (r := r) (S := S) (by simpa using h) hd (by rw [show i + 1 + k = i + (k + 1) by omega]; exact hS) (fun j y hj hk hy => by
    rw [show i + 1 + j = i + (j + 1) by omega]; exact hl (j + 1) y (by simpa using hj) (by omega) hy)
   simp [lastD, this]
theorem lastP_last {S : Nat -> Bool} {b : Nat} : ∀ {rs : List Rec} {i k : Nat} {r : Rec} {x : Option Row}, rs[k]? = some r -> lastPut r.puts b = some x -> S (i + k) = true -> (∀ j y, rs[j]? = some y -> k < j -> touch y.puts b = true -> S (i + j) = false) -> lastP S b i rs = some x
 | [], i, k, r, x, h, _, _, _ => by simp at h
 | y :: rs, i, 0, r, x, h, hd, hS, hl => by
   simp at h; subst h
   have : lastP S b (i + 1) rs = lastP (fun _ => false) b (i + 1) rs := lastP_congr fun j y hj hy => by
    rw [show i + 1 + j = i + (j + 1) by omega]; exact hl (j + 1) y (by simpa using hj) (by omega) hy
   have h2 : ∀ (rs : List Rec) (i : Nat), lastP (fun _ => false) b i rs = none := by
    intro rs
    induction rs with
    | nil => intro i; rfl
    | cons y rs ih => intro i; simp [lastP, ih]
   simp only [lastP, this, h2]
   rw [if_pos (by simpa using hS), hd]
 | y :: rs, i, k + 1, r, x, h, hd, hS, hl => by
   have := lastP_last (rs := rs) (i := i + 1) (k := k) (r := r) (S := S) (by simpa using h) hd (by rw [show i + 1 + k = i + (k + 1) by omega]; exact hS) (fun j y hj hk hy => by
    rw [show i + 1 + j = i + (j + 1) by omega]; exact hl (j + 1) y (by simpa using hj) (by omega) hy)
   simp [lastP, this]
theorem stF_prefix (n : Nat) : ∀ (rs : List Rec) (k : Nat) (s : SS), stF (fun j => decide (j < n)) k rs s = (rs.take (n - k)).foldl applyRec s
 | [], k, s => by simp [stF]
 | r :: rs, k, s => by
   rw [stF, stF_prefix n rs]
   by_cases h : k < n
   ·simp only [h, decide_true, cond_true]
    rw [show n - k = (n - (k + 1)) + 1 by omega]
    simp
   ·simp only [h, decide_false, cond_false]
    rw [show n - k = 0 by omega, show n - (k + 1) = 0 by omega]
    simp
theorem Sat.of_same {nt : Nat} {s s' : SS} (st : Sat W F nt ρ s a w) (h1 : ∀ t, s'.tm.lookup t = s.tm.lookup t) (h2 : ∀ b : Nat, s'.rows[b]? = s.rows[b]?) : Sat W F nt ρ s' a w := by
 have e : s'.rows = s.rows := List.ext_getElem? h2
 refine ⟨st.size, st.defers, fun d sv hd => ?_, by rw [e]; exact st.mem⟩
 rw [e]
 exact st.tm d sv (by rw [<- h1]; exact hd)
theorem Facts.get {all : Array Oper} : ∀ {os : List Oper} {rs : List Rec} {b : Nat} {s : SS}, Facts cx all os rs b s -> rs.length = os.length /\ ∀ i o, os[i]? = some o ->
  ∃ r, rs[i]? = some r /\ Fact cx all (b + countNew (os.take i)) ((rs.take i).foldl applyRec s) o r
 | [], [], b, s, h => ⟨rfl, fun i o h => by simp at h⟩
 | [], _ :: _, b, s, h => h.elim
 | _ :: _, [], b, s, h => h.elim
 | o :: os, r :: rs, b, s, h => by
   obtain ⟨h1, h2⟩ := h
   obtain ⟨i1, i2⟩ := Facts.get h2
   refine ⟨by simp [i1], fun i x hx => ?_⟩
   cases i with
   | zero => simp at hx; subst hx; exact ⟨r, rfl, by simpa [countNew] using h1⟩
   | succ i =>
     obtain ⟨y, hy, hf⟩ := i2 i x (by simpa using hx)
     refine ⟨y, by simpa using hy, ?_⟩
     simp only [List.take_succ_cons, List.foldl_cons, countNew]
     have : (bif isNewD o.op then b + 1 else b) + countNew (os.take i) = b + (bif isNewD o.op then countNew (os.take i) + 1 else countNew (os.take i)) := by
      cases isNewD o.op <;> simp <;> omega
     rw [<- this]
     exact hf
theorem maskOf_bit (acc : List Nat) (j : Nat) : ∀ (es : List Nat), (maskOf acc es).testBit j = true ↔ ∃ e ∈ es, e = j ∨ (acc.getD e 0).testBit j = true
 | [] => by simp [maskOf]
 | e :: es => by
   simp only [maskOf, Nat.testBit_or, Bool.or_eq_true, maskOf_bit acc j es, Nat.testBit_two_pow, List.mem_cons, decide_eq_true_eq]
   constructor
   ·rintro ((h | h) | ⟨x, hx, h⟩)
    ·exact ⟨e, .inl rfl, .inl h⟩
    ·exact ⟨e, .inl rfl, .inr h⟩
    ·exact ⟨x, .inr hx, h⟩
   ·rintro ⟨x, rfl | hx, h⟩
    ·exact .inl h
    ·exact .inr ⟨x, hx, h⟩
theorem befs_len : ∀ (l : List Oper) (acc : List Nat), (befs l acc).length = acc.length + l.length
 | [], acc => by simp [befs]
 | o :: l, acc => by rw [befs, befs_len l]; simp; omega
theorem befs_take : ∀ (l : List Oper) (acc : List Nat), (befs l acc).take acc.length = acc
 | [], acc => by simp [befs]
 | o :: l, acc => by
   rw [befs]
   have := befs_take l (acc ++ [maskOf acc (bindsOn o)])
   have h2 := congrArg (List.take acc.length) this
   rw [List.take_take] at h2
   simp at h2
   simpa using h2
theorem befs_get : ∀ (l : List Oper) (acc : List Nat) (i : Nat) (o : Oper), l[i]? = some o -> (befs l acc)[acc.length + i]? = some (maskOf ((befs l acc).take (acc.length + i)) (bindsOn o))
 | [], acc, i, o, h => by simp at h
 | x :: l, acc, 0, o, h => by
   simp at h; subst h
   rw [befs]
   have h1 := befs_take l (acc ++ [maskOf acc (bindsOn x)])
   have h2 : (befs l (acc ++ [maskOf acc (bindsOn x)]))[acc.length]? = some (maskOf acc (bindsOn x)) := by
    have := congrArg (fun z => z[acc.length]?) h1
    simp only [List.length_append, List.length_singleton] at this
    rw [List.getElem?_take_of_lt (by omega)] at this
    simpa using this
   rw [Nat.add_zero, h2]
   have h3 := befs_take (x :: l) acc
   rw [befs] at h3
   rw [h3]
 | x :: l, acc, i + 1, o, h => by
   rw [befs]
   have := befs_get l (acc ++ [maskOf acc (bindsOn x)]) i o (by simpa using h)
   simp only [List.length_append, List.length_singleton] at this
   rw [show acc.length + (i + 1) = acc.length + 1 + i by omega]
   exact this
end Sx
end
section
namespace Sx
variable {P : Program} {W : World} {F : Nat -> Prop} {ρ ρ' ρ0 : Num} {s : SS} {a : Act} {w : World} {cx : Ctx}
theorem Sat.putRec {nt : Nat} (st : Sat W F nt ρ s a w) {r : Rec} {x : Value} (hp : r.puts = []) (hd : ∀ d, r.dst = some d -> d < nt) (hx : x = den ρ r.v) (ho : okd W F s.rows.length r.v) : Sat W F nt ρ (applyRec s r) (a.put r.dst x) w := by
 unfold applyRec
 rw [hp]
 cases hd' : r.dst with
 | none => exact st
 | some d =>
   have := Sat.put (cx := ⟨[], fun _ => none, fun _ => none, fun _ => none, fun _ _ => none, nt, 0, fun _ => none, fun _ _ => [], false⟩) st (hd d hd') hx ho
   exact this
theorem Sat.putRow {nt : Nat} (st : Sat W F nt ρ s a w) {r : Rec} {v : Value} {ρ' : Num} {w' : World} (hd : ∀ d, r.dst = some d -> d < nt)
  (hm : MemOK W F ρ' (putsL r.puts s.rows) w') (hold : ∀ d sv, s.tm.lookup d = some sv -> sv = .top ∨ den ρ' sv = den ρ sv) (hx : v = den ρ' r.v) (ho : okd W F s.rows.length r.v) : Sat W F nt ρ' (applyRec s r) (a.put r.dst v) w' := by
 have st' : Sat W F nt ρ' ⟨s.tm, putsL r.puts s.rows⟩ a w' := by
  refine ⟨st.size, st.defers, fun d sv h => ?_, hm⟩
  rcases st.tm d sv h with h1 | ⟨h1, h2⟩
  ·exact .inl h1
  ·rcases hold d sv h with h3 | h3
   ·exact .inl h3
   ·exact .inr ⟨by rw [h1, h3], by rw [putsL_len]; exact h2⟩
 unfold applyRec
 cases hd' : r.dst with
 | none => exact st'
 | some d =>
   have := Sat.put (cx := ⟨[], fun _ => none, fun _ => none, fun _ => none, fun _ _ => none, nt, 0, fun _ => none, fun _ _ => [], false⟩) st' (hd d hd') hx (by rw [putsL_len]; exact ho)
   exact this
theorem draw_step (hx : CxOK P cx) {all : Array Oper} {i : Nat} {o : Oper} {r : Rec} {b : Nat} (ho : all[i]? = some o) (st : Sat W F cx.nt ρ s a w) (hf : Fact cx all b s o r)
  (hnew : r.new ≠ none -> Free s.rows b /\ ∀ d sv, s.tm.lookup d = some sv -> sv = .top ∨ noM b sv = true)
  {K : Act -> World -> Prop} {Q : Exit -> Act -> World -> Prop} (hK : ∀ ρ' a' w', Sat W F cx.nt ρ' (applyRec s r) a' w' -> (∀ j, j ≠ b ∨ r.new = none -> ρ' j = ρ j) -> K a' w') : wpOp P all Q i K a w := by
 obtain ⟨hdst, hdb, hcase⟩ := hf
 have hd : ∀ d, r.dst = some d -> d < cx.nt := by
  intro d h
  rw [hdst] at h
  rw [h] at hdb
  exact Nat.le_of_ble_eq_true (show Nat.ble (d + 1) cx.nt = true from hdb)
 have guard : ∀ q, GuardIs all s o q -> Region.wanted o (yielded all a.tmps) = q := by
  intro q hg
  unfold GuardIs at hg
  unfold Region.wanted
  split at hg
  ·rename_i h; rw [h]; simp [hg]
  ·rename_i j want h
   obtain ⟨d, sv, h1, h2, ⟨x, c, h3, h4⟩ | ⟨rfl, h4⟩⟩ := hg
   ·rw [h]
    rcases st.tm d sv h2 with h5 | ⟨h5, _⟩
    ·subst h5; simp [asB] at h3
    ·rw [asB_ok h3 ρ] at h5
     simp [yielded, h1, h5, h4]
   ·rw [h]
    rcases st.tm d _ h2 with h5 | ⟨h5, _⟩
    ·cases h5
    ·simp [yielded, h1, h5, h4, den, denL]
 unfold wpOp
 rw [ho]
 simp only
 rcases hcase with ⟨hg, hs⟩ | ⟨hg, rfl⟩
 ·rw [guard true hg, if_pos rfl]
  left
  rcases hs with ⟨ps, h1, h2, h3, h4, h5⟩ | ⟨c, x, y, sv, q, cl, h1, h2, h3, h4, h5, h6⟩ | ⟨e', e, h1, he, h2, h3, h4, h5, h6⟩ | ⟨z, h1, h2, h3, h4, h5, h6⟩
  ·have key := quietOp_ok hx st h1 h2 (K := fun _ _ => True) (Q := Q) fun _ _ => trivial
   refine (quietOp_ok hx st h1 h2 (K := K) (Q := Q) fun w' hm => ?_).1
   rw [<- hdst]
   exact hK ρ _ _ (Sat.putRec (s := s) ⟨st.size, st.defers, st.tm, hm⟩ h3 hd rfl key.2.1) fun _ _ => rfl
  ·obtain ⟨e1, e2, e3⟩ := ev_ok st h4
   have hq : a.eval (.tmp c) = .bool q := by
    rcases st.tm c sv h2 with h | ⟨g1, _⟩
    ·subst h; simp [asB] at h3
    ·rw [asB_ok h3 ρ] at g1
     simp [Act.eval, g1]
   unfold Oper.wp
   have hrun : (execOp a.eval o).run P w = .ok (.value (den ρ r.v)) w := by
    cases q <;> simp at e1 <;> simp [execOp, h1, hq, asBool, e1]
   rw [hrun]
   simp only [Oper.upon]
   rw [<- hdst]
   exact hK ρ _ _ (Sat.putRec st h5 hd rfl e2) fun _ _ => rfl
  ·have hnn : isNew o.op = true -> r.new ≠ none := fun h => by rw [h6, h]; simp
   obtain ⟨ρ', w', g1, g2, g3, g4, g5⟩ := effOp_ok hx.tab st h1 he h2 (fun h => (hnew (hnn h)).1) (fun h => (hnew (hnn h)).2)
   refine g1 K Q ?_
   rw [<- hdst, <- h3]
   rw [<- h4] at g2
   rw [<- h3] at g4
   have hoff : ∀ j, j ≠ b ∨ r.new = none -> ρ' j = ρ j := by
    intro j hj
    refine g3 j (hj.imp_right fun h => ?_)
    cases hq : isNew o.op with
    | false => rfl
    | true => exact absurd h (hnn hq)
   refine hK ρ' _ _ (Sat.putRow st hd g2 (fun d sv h => ?_) rfl g4) hoff
   cases hq : isNew o.op with
   | true =>
     rcases (hnew (hnn hq)).2 d sv h with h | h
     ·exact .inl h
     ·exact .inr (den_off (fun j hj => hoff j (.inl hj)) h)
   | false =>
     have : ρ' = ρ := funext fun j => g3 j (.inr hq)
     exact .inr (by rw [this])
  ·have hnn : z.2 = true -> r.new ≠ none := fun h => by rw [h6, h]; simp
   refine effCall_ok hx st h1 h2 (fun h => (hnew (hnn h)).1) K Q fun ρ' w' k1 k2 k3 k4 => ?_
   rw [<- hdst, <- h3]
   rw [<- h4] at k3
   rw [<- h3] at k1
   have hoff : ∀ j, j ≠ b ∨ r.new = none -> ρ' j = ρ j := by
    intro j hj
    refine k4 j (hj.imp_right fun h => ?_)
    cases hq : z.2 with
    | false => rfl
    | true => exact absurd h (hnn hq)
   refine hK ρ' _ _ (Sat.putRow st hd k3 (fun d sv h => ?_) rfl k1) hoff
   cases hq : z.2 with
   | true =>
     rcases (hnew (hnn hq)).2 d sv h with h | h
     ·exact .inl h
     ·exact .inr (den_off (fun j hj => hoff j (.inl hj)) h)
   | false =>
     have : ρ' = ρ := funext fun j => k4 j (.inr hq)
     exact .inr (by rw [this])
 ·rw [guard false hg, if_neg (by decide)]
  exact hK ρ _ _ (Sat.putRec (r := skipRec o) st rfl hd rfl trivial) fun _ _ => rfl
end Sx
end
section
namespace Sx
variable {P : Program} {W : World} {F : Nat -> Prop} {ρ ρ' ρ0 : Num} {s s' : SS} {a : Act} {w : World} {cx : Ctx}
theorem ev_congr {tm tm' : List (Nat × SV)} {x : Operand} (h : ∀ t, x = .tmp t -> tm.lookup t = tm'.lookup t) : ev tm x = ev tm' x := by
 cases x with
 | tmp t => simp only [ev]; rw [h t rfl]
 | _ => rfl
theorem evL_congr {tm tm' : List (Nat × SV)} : ∀ {l : List Operand}, (∀ x ∈ l, ev tm x = ev tm' x) -> evL tm l = evL tm' l
 | [], _ => rfl
 | x :: l, h => by simp only [evL]; rw [h x (by simp), evL_congr (fun y hy => h y (by simp [hy]))]
theorem evP_congr {tm tm' : List (Nat × SV)} : ∀ {l : List (Nat × Operand)}, (∀ x ∈ l.map (·.2), ev tm x = ev tm' x) -> evP tm l = evP tm' l
 | [], _ => rfl
 | (i, x) :: l, h => by simp only [evP]; rw [h x (by simp), evP_congr (fun y hy => h y (by simp only [List.map_cons, List.mem_cons]; exact .inr hy))]
theorem callOf_congr {op : Op} (h : ∀ x ∈ op.operands.toList, ev s.tm x = ev s'.tm x) : callOf s op = callOf s' op := by
 unfold callOf
 split
 ·rename_i f args tys
  have hf : ev s.tm f = ev s'.tm f := h f (by simp [Op.operands, Call.operands])
  have ha : evL s.tm args.toList = evL s'.tm args.toList := evL_congr fun x hx => h x (by simp [Op.operands, Call.operands]; exact .inr (by simpa using hx))
  rw [hf, ha]
 ·rfl
theorem evRows_congr {f : SV -> List Nat} {x : Operand} (h : ev s.tm x = ev s'.tm x) : evRows f s.tm x = evRows f s'.tm x := by unfold evRows; rw [h]
theorem readRow_congr {op : Op} (h : ∀ x ∈ op.operands.toList, ev s.tm x = ev s'.tm x) : readRow s op = readRow s' op := by
 cases op <;> simp only [readRow] <;> first | exact evRows_congr (h _ (by simp [Op.operands])) | (rw [callOf_congr h])
theorem onLen_congr {rows rows' : List (Option Row)} {b : Nat} (h : rowOf rows b = rowOf rows' b) : onLen rows b = onLen rows' b := by unfold onLen; rw [h]
theorem sliceInts_congr {rows rows' : List (Option Row)} {k : IntKind} {v : SV} (h : ∀ b ∈ rowsOfV v, rowOf rows b = rowOf rows' b) : sliceInts rows k v = sliceInts rows' k v := by
 cases v <;> simp only [sliceInts] <;> first
  | rfl
  | (rw [onLen_congr (h _ (by simp [rowsOfV]))])
  | (rw [h _ (by simp [rowsOfV])])
theorem sliceCells_congr {rows rows' : List (Option Row)} {sz : Nat} {v : SV} (h : ∀ b ∈ rowsOfV v, rowOf rows b = rowOf rows' b) : sliceCells rows sz v = sliceCells rows' sz v := by
 cases v <;> simp only [sliceCells] <;> first
  | rfl
  | (rw [onLen_congr (h _ (by simp [rowsOfV]))])
  | (rw [h _ (by simp [rowsOfV])])
theorem loadS_congr {T : Tab} {rows rows' : List (Option Row)} {t : TypeId} {v : SV} (h : ∀ b ∈ rowsOfV v, rowOf rows b = rowOf rows' b) : loadS T rows t v = loadS T rows' t v := by
 cases v <;> simp only [loadS] <;> first
  | rfl
  | (rw [h _ (by simp [rowsOfV])])
theorem convS_congr {T : Tab} {rows rows' : List (Option Row)} {src dst : TypeId} {v : SV} (h : ∀ b ∈ rowsOfV v, rowOf rows b = rowOf rows' b) : convS T rows src dst v = convS T rows' src dst v := by
 rfl
theorem indexA_congr {T : Tab} {rows rows' : List (Option Row)} {t : TypeId} {v ix : SV} (h : ∀ b ∈ listRow v, rowOf rows b = rowOf rows' b) : indexA T rows t v ix = indexA T rows' t v ix := by
 cases v <;> simp only [indexA] <;> first
  | rfl
  | (rw [onLen_congr (h _ (by simp [listRow]))])
theorem toArr_congr {T : Tab} {rows rows' : List (Option Row)} {t : TypeId} {v : SV} (h : ∀ b ∈ listRow v, rowOf rows b = rowOf rows' b) : toArr T rows t v = toArr T rows' t v := by
 rfl
theorem sliceS_congr {T : Tab} {rows rows' : List (Option Row)} {t : TypeId} {v : SV} {lo hi mx : Option (Int × Bool)} (h : ∀ b ∈ listRow v, rowOf rows b = rowOf rows' b) : sliceS T rows t v lo hi mx = sliceS T rows' t v lo hi mx := by
 rfl
theorem optI_congr {x : Option Operand} (h : ∀ y, x = some y -> ev s.tm y = ev s'.tm y) : optI s.tm x = optI s'.tm x := by
 cases x with
 | none => rfl
 | some y => simp only [optI, h y rfl]
theorem pureOp_congr {T : Tab} {op : Op} (h : ∀ x ∈ op.operands.toList, ev s.tm x = ev s'.tm x) (hr : ∀ b ∈ readRow s op, rowOf s.rows b = rowOf s'.rows b) : pureOp T s op = pureOp T s' op := by
 cases op <;> simp only [pureOp]
 case move x => rw [h x (by simp [Op.operands])]
 case assign x => rw [h x (by simp [Op.operands])]
 case pick c x y =>
  rw [h c (by simp [Op.operands]), h x (by simp [Op.operands]), h y (by simp [Op.operands])]
  congr 1
  funext q
  congr 1
  funext q
  have : ∀ b : Bool, ev s.tm (bif b then x else y) = ev s'.tm (bif b then x else y) := by
   intro b; cases b
   ·exact h y (by simp [Op.operands])
   ·exact h x (by simp [Op.operands])
  rw [this]
 case build t parts =>
  rw [evP_congr (tm := s.tm) (tm' := s'.tm) fun x hx => h x (by simpa [Op.operands] using hx)]
 case load t x =>
  have hx := h x (by simp [Op.operands])
  rw [<- hx]
  cases hv : ev s.tm x with
  | none => rfl
  | some v =>
    simp only [Option.bind_some]
    exact loadS_congr fun b hb => hr b (by simp [readRow, evRows, hv]; exact hb)
 case binOp op t x y yt => rw [h x (by simp [Op.operands]), h y (by simp [Op.operands])]
 case unOp op t x => rw [h x (by simp [Op.operands])]
 case convert src dst x =>
  rw [<- h x (by simp [Op.operands])]
  cases hv : ev s.tm x with
  | none => rfl
  | some v =>
    simp only [Option.bind_some]
    rw [convS_congr fun b hb => hr b (by simp [readRow, evRows, hv]; exact hb)]
 case sliceToArrayPointer t x =>
  rw [<- h x (by simp [Op.operands])]
  cases hv : ev s.tm x with
  | none => rfl
  | some v =>
    simp only [Option.bind_some]
    exact toArr_congr fun b hb => hr b (by simp [readRow, evRows, hv]; exact hb)
 case slice t x lo hi mx =>
  rw [<- h x (by simp [Op.operands]), <- optI_congr (s := s) (s' := s') (x := lo) (fun y hy => h y (by subst hy; simp [Op.operands])), <- optI_congr (s := s) (s' := s') (x := hi) (fun y hy => h y (by subst hy; simp [Op.operands])),
   <- optI_congr (s := s) (s' := s') (x := mx) (fun y hy => h y (by subst hy; simp [Op.operands]))]
  cases hv : ev s.tm x with
  | none => rfl
  | some v =>
    simp only [Option.bind_some]
    rfl
 case makeFunc f first cap =>
  rw [evL_congr (tm := s.tm) (tm' := s'.tm) (l := first.toList) fun x hx => h x (by simp [Op.operands]; exact .inl (by simpa using hx)),
   evL_congr (tm := s.tm) (tm' := s'.tm) (l := cap.toList) fun x hx => h x (by simp [Op.operands]; exact .inr (by simpa using hx))]
 case fieldAddr t x f => rw [h x (by simp [Op.operands])]
 case field t x f => rw [h x (by simp [Op.operands])]
 case indexAddr t x i =>
  rw [<- h x (by simp [Op.operands]), <- h i (by simp [Op.operands])]
  cases hv : ev s.tm x with
  | none => rfl
  | some v =>
    simp only [Option.bind_some]
    congr 1; funext q1
    exact indexA_congr fun b hb => hr b (by simp [readRow, evRows, hv]; exact hb)
 case index t x i => rw [h x (by simp [Op.operands]), h i (by simp [Op.operands])]
 case extract x i => rw [h x (by simp [Op.operands])]
 case nilCheck x => rw [h x (by simp [Op.operands])]
 case call c =>
  unfold lenCall
  split
  ·rename_i x t
   rw [h x (by simp [Op.operands, Call.operands])]
  ·rfl
theorem readArgs_congr {R R' : List (Option Row)} {v : Nat -> Value} : ∀ {args : List SV} {n : Nat}, (∀ b ∈ ownL args, rowOf R b = rowOf R' b) -> readArgs R v n args = readArgs R' v n args
 | [], n, h => rfl
 | c :: cs, n, h => by
   simp only [readArgs]
   cases hi : isOwn c with
   | none =>
     simp only [ownL, hi] at h
     simp only [readArgs_congr h]
   | some i =>
     simp only [ownL, hi, List.mem_cons, forall_eq_or_imp] at h
     have h1 : own1 R c = own1 R' c := by cases c <;> simp only [isOwn, reduceCtorEq, Option.some.injEq] at hi <;> subst hi <;> simp only [own1, h.1]
     have h2 : kindL R i = kindL R' i := by simp only [kindL, h.1]
     have h4 : ∀ k, sliceInts R k (onow c) = sliceInts R' k (onow c) := fun k => sliceInts_congr fun b hb => by
      have : b = i := by cases c <;> simp only [isOwn, reduceCtorEq, Option.some.injEq] at hi <;> subst hi <;> simpa [onow, rowsOfV] using hb
      subst this; exact h.1
     have h5 : ∀ k, sliceInts R k (onos c) = sliceInts R' k (onos c) := fun k => sliceInts_congr fun b hb => by
      have : b = i := by cases c <;> simp only [isOwn, reduceCtorEq, Option.some.injEq] at hi <;> subst hi <;> simpa [onos, onow, rowsOfV] using hb
      subst this; exact h.1
     have h3 : ∀ k, sliceInts R k (pickO R k c) = sliceInts R' k (pickO R' k c) := fun k => by
      have e : pickO R k c = pickO R' k c := by unfold pickO; rw [h4 k]
      rw [<- e]
      rcases pickO_is (R := R) (k := k) c with h | h <;> rw [h]
      ·exact h4 k
      ·exact h5 k
     simp only [h1, h2, h3, readArgs_congr h.2]
theorem ownCall_congr {op : Op} (h : ∀ x ∈ op.operands.toList, ev s.tm x = ev s'.tm x) (hr : ∀ b ∈ readRow s op, rowOf s.rows b = rowOf s'.rows b) : ownCall cx s op = ownCall cx s' op := by
 unfold ownCall
 rw [<- callOf_congr h]
 cases hc : callOf s op with
 | none => rfl
 | some q =>
   have hr' : ∀ b ∈ ownL q.2, rowOf s.rows b = rowOf s'.rows b := by
    cases op <;> first | (simp [callOf] at hc; done) | skip
    intro b hb
    exact hr b (by simp only [readRow, hc]; exact hb)
   have e : ∀ v, readArgs s.rows v 0 q.2 = readArgs s'.rows v 0 q.2 := fun v => readArgs_congr hr'
   simp only [Option.bind_some, e]
theorem quietOp_congr {op : Op} (h : ∀ x ∈ op.operands.toList, ev s.tm x = ev s'.tm x) (hr : ∀ b ∈ readRow s op, rowOf s.rows b = rowOf s'.rows b) : quietOp cx s op = quietOp cx s' op := by
 unfold quietOp pureCall
 rw [pureOp_congr h hr, callOf_congr h, ownCall_congr h hr]
theorem newOp_congr {T : Tab} {op : Op} (h : ∀ x ∈ op.operands.toList, ev s.tm x = ev s'.tm x) : newOp T s op = newOp T s' op := by
 cases op <;> simp only [newOp]
 case box t x => rw [h x (by simp [Op.operands])]
 case buildSlice t len parts => rw [evP_congr (tm := s.tm) (tm' := s'.tm) fun x hx => h x (by simpa [Op.operands] using hx)]
theorem storeS_congr {T : Tab} {rows rows' : List (Option Row)} {t : TypeId} {x v : SV} {ps : List Prop} {b : Nat} {r : Row} (h : storeS T rows t x v = some (ps, b, r)) (hr : rowOf rows b = rowOf rows' b) : storeS T rows' t x v = some (ps, b, r) := by
 simp only [storeS, Option.bind_eq_some_iff] at h ⊢
 obtain ⟨i, hi, h⟩ := h
 refine ⟨i, hi, ?_⟩
 split at h
 ·rename_i c off
  simp only [Option.bind_eq_some_iff] at h
  obtain ⟨q, hq, new, hv, h⟩ := h
  have hcb : c = b := by
   rcases cond_some h with ⟨e, hx⟩ | ⟨e, hx⟩
   ·split at hx
    ·cases hx; rfl
    ·rcases cond_some hx with ⟨ea, hy⟩ | ⟨ea, hy⟩
     ·cases hy
     ·simp only [Option.bind_eq_some_iff, Option.map_eq_some_iff] at hy
      obtain ⟨_, _, _, _, hy⟩ := hy
      cases hy; rfl
   ·cases hx
  subst hcb
  simp only [<- hr, hq, Option.bind_some, hv]
  exact h
 ·rename_i c off e
  rcases cond_some h with ⟨ea, hx⟩ | ⟨ea, hx⟩
  ·cases hx
  ·rcases beq_some hx with ⟨es, hy⟩ | ⟨es, hy⟩
   ·have hcb : c = b := by
     simp only [Option.bind_eq_some_iff, Option.map_eq_some_iff] at hy
     obtain ⟨_, _, _, _, _, _, _, _, hy⟩ := hy
     cases hy; rfl
    subst hcb
    rw [<- hr]
    exact h
   ·cases hy
 ·cases h
theorem storeOp_congr {T : Tab} {op : Op} {ps : List Prop} {b : Nat} {r : Row} (h : ∀ x ∈ op.operands.toList, ev s.tm x = ev s'.tm x) (hs : storeOp T s op = some (ps, b, r)) (hr : rowOf s.rows b = rowOf s'.rows b) : storeOp T s' op = some (ps, b, r) := by
 cases op <;> simp only [storeOp, reduceCtorEq] at hs ⊢
 case store t x v =>
  rw [<- h x (by simp [Op.operands]), <- h v (by simp [Op.operands])]
  simp only [Option.bind_eq_some_iff] at hs ⊢
  obtain ⟨x', h1, v', h2, h3⟩ := hs
  exact ⟨x', h1, v', h2, storeS_congr h3 hr⟩
theorem copyS_congr {T : Tab} {rows rows' : List (Option Row)} {t : TypeId} {x y : SV} {e : Eff} (h : copyS T rows t x y = some e) (hr : ∀ c ∈ e.rds, rowOf rows c = rowOf rows' c) : copyS T rows' t x y = some e := by
 unfold copyS at h
 cases h
theorem clearS_congr {T : Tab} {rows rows' : List (Option Row)} {t : TypeId} {x : SV} {e : Eff} (h : clearS T rows t x = some e) (hr : ∀ c ∈ e.rds, rowOf rows c = rowOf rows' c) : clearS T rows' t x = some e := by
 unfold clearS at h
 cases h
theorem appendS_congr00 {T : Tab} {rows rows' : List (Option Row)} {b : Nat} {t : TypeId} {x y : SV} {e : Eff} (hns : ∀ j off n cap, x ≠ .sl j off n cap) (h : appendS0 T rows b t x y = some e) (hr : ∀ c ∈ e.rds, rowOf rows c = rowOf rows' c) : appendS0 T rows' b t x y = some e := by
 have hall : (∀ c ∈ rowsOfV y, rowOf rows c = rowOf rows' c) /\ (∀ j len z, x = .on j len z -> rowOf rows j = rowOf rows' j) /\ (∀ j z n, x = .ow j z 0 0 n true -> rowOf rows j = rowOf rows' j) := by
  simp only [appendS0, Option.bind_eq_some_iff] at h
  obtain ⟨i, hi, te, hte, ei, hei, h⟩ := h
  rcases cond_some h with ⟨ec, h⟩ | ⟨ec, h⟩
  ·split at h
   ·rcases beq_some h with ⟨es, h⟩ | ⟨es, h⟩
    ·simp only [Option.bind_eq_some_iff] at h
     obtain ⟨q, hq, h⟩ := h
     split at h
     ·rcases cond_some h with ⟨ev, h⟩ | ⟨ev, h⟩
      ·cases h; exact ⟨hr, (fun j len z h => by cases h), fun j z n h => by cases h⟩
      ·cases h
     ·simp only [Option.bind_eq_some_iff] at h
      obtain ⟨r, hr2, p, hp, h⟩ := h
      rcases cond_some h with ⟨ev, h⟩ | ⟨ev, h⟩
      ·cases h
       exact ⟨fun c hc => hr c (by simp [hc]), (fun j len z h => by cases h; exact hr _ (by simp)), fun j z n h => by cases h⟩
      ·cases h
     ·simp only [Option.bind_eq_some_iff] at h
      obtain ⟨r, hr2, p, hp, h⟩ := h
      rcases cond_some h with ⟨ev, h⟩ | ⟨ev, h⟩
      ·cases h
       exact ⟨fun c hc => hr c (by simp [hc]), (fun j len z h => by cases h), fun j z n h => by cases h; exact hr _ (by simp)⟩
      ·cases h
     ·cases h
    ·cases h
   ·simp only [Option.bind_eq_some_iff] at h
    obtain ⟨q, hq, h⟩ := h
    split at h
    ·rcases cond_some h with ⟨ev, h⟩ | ⟨ev, h⟩
     ·cases h; exact ⟨hr, (fun j len z h => by cases h), fun j z n h => by cases h⟩
     ·cases h
    ·simp only [Option.bind_eq_some_iff] at h
     obtain ⟨r, hr2, h⟩ := h
     rcases cond_some h with ⟨ev, h⟩ | ⟨ev, h⟩
     ·cases h
      exact ⟨fun c hc => hr c (by simp [hc]), (fun j len z h => by cases h; exact hr _ (by simp)), fun j z n h => by cases h⟩
     ·cases h
    ·exact absurd rfl (hns _ _ _ _)
    ·cases h
  ·cases h
 have h1 : ∀ k, sliceInts rows k y = sliceInts rows' k y := fun k => sliceInts_congr hall.1
 have h2 : ∀ sz, sliceCells rows sz y = sliceCells rows' sz y := fun k => sliceCells_congr hall.1
 rw [<- h]
 cases x <;> simp only [appendS0, h1, h2]
 ·exact absurd rfl (hns _ _ _ _)
 ·rename_i j len z
  rw [hall.2.1 j len z rfl]
 ·rename_i j z p o n m
  congr 1
  funext i
  congr 1
  funext te
  congr 1
  funext ei
  congr 1
  split
  ·congr 1
   congr 1
   funext q
   cases p with
   | succ p => rfl
   | zero => cases o with
     | succ o => rfl
     | zero => cases m with
       | false => rfl
       | true =>
         show (rowOf rows' j).bind _ = (rowOf rows j).bind _
         rw [hall.2.2 j z n rfl]
  ·rfl
theorem appendS0_congr {T : Tab} {rows rows' : List (Option Row)} {b : Nat} {t : TypeId} {x y : SV} {e : Eff} (h : appendS0 T rows b t x y = some e) (hr : ∀ c ∈ e.rds, rowOf rows c = rowOf rows' c) : appendS0 T rows' b t x y = some e := by
 by_cases hns : ∀ j off n cap, x ≠ .sl j off n cap
 ·exact appendS_congr00 hns h hr
 ·have : ∃ j off n cap, x = .sl j off n cap := by
   cases x <;> first | exact ⟨_, _, _, _, rfl⟩ | exact absurd (fun _ _ _ _ h => by cases h) hns
  obtain ⟨j, off, n, cap, rfl⟩ := this
  simp only [appendS0, Option.bind_eq_some_iff] at h ⊢
  obtain ⟨i, hi, te, hte, ei, hei, h⟩ := h
  refine ⟨i, hi, te, hte, ei, hei, ?_⟩
  rcases cond_some h with ⟨ec, h⟩ | ⟨ec, h⟩
  ·rw [ec]
   simp only [cond_true]
   split at h
   ·rcases beq_some h with ⟨es, h⟩ | ⟨es, h⟩
    ·simp only [Option.bind_eq_some_iff] at h
     obtain ⟨q, hq, h⟩ := h
     cases h
    ·cases h
   ·simp only [Option.bind_eq_some_iff] at h ⊢
    obtain ⟨q, hq, p, hp, h⟩ := h
    rcases cond_some h with ⟨ev, h⟩ | ⟨ev, h⟩
    ·cases h
     refine ⟨q, ?_, p, ?_, ?_⟩
     ·rw [<- sliceCells_congr (fun c hc => hr c (by simp [hc]))]; exact hq
     ·rw [<- sliceCells_congr (fun c hc => hr c (by simp [rowsOfV] at hc; simp [hc]))]; exact hp
     ·rw [ev]; rfl
    ·cases h
  ·cases h
theorem manySrc_congr {rows rows' : List (Option Row)} {sz : Nat} {y : SV} (h : ∀ c ∈ rowsOfV y, rowOf rows c = rowOf rows' c) : manySrc rows sz y = manySrc rows' sz y := by
 unfold manySrc
 split <;> first | rfl | (rw [h _ (by simp [rowsOfV])])
theorem manyRow_congr {rows rows' : List (Option Row)} {y : SV} (h : ∀ c ∈ rowsOfV y, rowOf rows c = rowOf rows' c) : manyRow rows y = manyRow rows' y := by
 unfold manyRow
 split
 ·rw [h _ (by simp [rowsOfV])]
 ·rfl
theorem appendM_rds {T : Tab} {rows : List (Option Row)} {b : Nat} {t : TypeId} {x y : SV} {e : Eff} (h : appendM T rows b t x y = some e) : (∀ c ∈ rowsOfV y, c ∈ e.rds) /\ (∀ j len z, x = .on j len z -> j ∈ e.rds) /\ ((∃ v, x = .val v) ∨ ∃ j len z, x = .on j len z) := by
 simp only [appendM, Option.bind_eq_some_iff] at h
 obtain ⟨i, hi, te, hte, ei, hei, h⟩ := h
 rcases cond_some h with ⟨ec, h⟩ | ⟨ec, h⟩
 ·simp only [Option.bind_eq_some_iff] at h
  obtain ⟨q, hq, h⟩ := h
  split at h
  ·rcases cond_some h with ⟨ev, h⟩ | ⟨ev, h⟩
   ·cases h; exact ⟨fun c hc => hc, (fun j len z h => by cases h), .inl ⟨_, rfl⟩⟩
   ·cases h
  ·simp only [Option.bind_eq_some_iff] at h
   obtain ⟨r, hr, p, hp, h⟩ := h
   rcases cond_some h with ⟨ev, h⟩ | ⟨ev, h⟩
   ·cases h; exact ⟨fun c hc => by simp [hc], (fun j len z h => by cases h; simp), .inr ⟨_, _, _, rfl⟩⟩
   ·cases h
  ·cases h
 ·cases h
theorem appendM_congr {T : Tab} {rows rows' : List (Option Row)} {b : Nat} {t : TypeId} {x y : SV} {e : Eff} (h : appendM T rows b t x y = some e) (hr : ∀ c ∈ e.rds, rowOf rows c = rowOf rows' c) : appendM T rows' b t x y = some e /\ useM rows x y = useM rows' x y := by
 obtain ⟨h1, h2, h3⟩ := appendM_rds h
 have g1 : ∀ sz, manySrc rows sz y = manySrc rows' sz y := fun sz => manySrc_congr fun c hc => hr c (h1 c hc)
 have g2 : manyRow rows y = manyRow rows' y := manyRow_congr fun c hc => hr c (h1 c hc)
 rcases h3 with ⟨v, rfl⟩ | ⟨j, len, z, rfl⟩
 ·exact ⟨by rw [<- h]; simp only [appendM, g1], by simp only [useM, g2]; rfl⟩
 ·have g3 := hr j (h2 j len z rfl)
  have g4 : manyRow rows (.on j len z) = manyRow rows' (.on j len z) := by simp only [manyRow, g3]
  exact ⟨by rw [<- h]; simp only [appendM, g1, g3], by simp only [useM, g2, g4]⟩
theorem appendS0_use {T : Tab} {rows rows' : List (Option Row)} {b : Nat} {t : TypeId} {x y : SV} {e : Eff} (h : appendS0 T rows b t x y = some e) (hr : ∀ c ∈ e.rds, rowOf rows c = rowOf rows' c) : useM rows x y = useM rows' x y := by
 have key : (∀ c ∈ rowsOfV y, c ∈ e.rds) /\ ∀ j len z, x = .on j len z -> j ∈ e.rds := by
  simp only [appendS0, Option.bind_eq_some_iff] at h
  obtain ⟨i, hi, te, hte, ei, hei, h⟩ := h
  rcases cond_some h with ⟨ec, h⟩ | ⟨ec, h⟩
  ·split at h
   ·rcases beq_some h with ⟨es, h⟩ | ⟨es, h⟩
    ·simp only [Option.bind_eq_some_iff] at h
     obtain ⟨q, hq, h⟩ := h
     split at h
     ·rcases cond_some h with ⟨ev, h⟩ | ⟨ev, h⟩
      ·cases h; exact ⟨fun c hc => hc, fun j len z h => by cases h⟩
      ·cases h
     ·simp only [Option.bind_eq_some_iff] at h
      obtain ⟨r, hr2, p, hp, h⟩ := h
      rcases cond_some h with ⟨ev, h⟩ | ⟨ev, h⟩
      ·cases h; exact ⟨fun c hc => by simp [hc], fun j len z h => by cases h; simp⟩
      ·cases h
     ·simp only [Option.bind_eq_some_iff] at h
      obtain ⟨r, hr2, p, hp, h⟩ := h
      rcases cond_some h with ⟨ev, h⟩ | ⟨ev, h⟩
      ·cases h; exact ⟨fun c hc => by simp [hc], fun j len z h => by cases h⟩
      ·cases h
     ·cases h
    ·cases h
   ·simp only [Option.bind_eq_some_iff] at h
    obtain ⟨q, hq, h⟩ := h
    split at h
    ·rcases cond_some h with ⟨ev, h⟩ | ⟨ev, h⟩
     ·cases h; exact ⟨fun c hc => hc, fun j len z h => by cases h⟩
     ·cases h
    ·simp only [Option.bind_eq_some_iff] at h
     obtain ⟨r, hr2, h⟩ := h
     rcases cond_some h with ⟨ev, h⟩ | ⟨ev, h⟩
     ·cases h; exact ⟨fun c hc => by simp [hc], fun j len z h => by cases h; simp⟩
     ·cases h
    ·simp only [Option.bind_eq_some_iff] at h
     obtain ⟨p, hp, h⟩ := h
     rcases cond_some h with ⟨ev, h⟩ | ⟨ev, h⟩
     ·cases h; exact ⟨fun c hc => by simp [hc], fun j len z h => by cases h⟩
     ·cases h
    ·cases h
  ·cases h
 have g2 : manyRow rows y = manyRow rows' y := manyRow_congr fun c hc => hr c (key.1 c hc)
 have g3 : manyRow rows x = manyRow rows' x := by
  unfold manyRow
  split
  ·rename_i j len z
   rw [hr j (key.2 j len z rfl)]
  ·rfl
 simp only [useM, g2, g3]
theorem appendS_congr {T : Tab} {rows rows' : List (Option Row)} {b : Nat} {t : TypeId} {x y : SV} {e : Eff} (h : appendS T rows b t x y = some e) (hr : ∀ c ∈ e.rds, rowOf rows c = rowOf rows' c) : appendS T rows' b t x y = some e := by
 unfold appendS at h ⊢
 rcases cond_some h with ⟨eu, h⟩ | ⟨eu, h⟩
 ·obtain ⟨g1, g2⟩ := appendM_congr h hr
  rw [<- g2, eu]; exact g1
 ·rw [<- appendS0_use h hr, eu]; exact appendS0_congr h hr
theorem listOp_congr {T : Tab} {op : Op} {b : Nat} {e : Eff} (h : ∀ x ∈ op.operands.toList, ev s.tm x = ev s'.tm x) (hs : listOp T s b op = some e) (hr : ∀ c ∈ e.rds, rowOf s.rows c = rowOf s'.rows c) : listOp T s' b op = some e := by
 unfold listOp at hs ⊢
 split at hs
 ·rename_i t len cap
  rw [<- h len (by simp [Op.operands]), <- h cap (by simp [Op.operands])]
  exact hs
 ·rename_i x y t u
  rw [<- h x (by simp [Op.operands, Call.operands]), <- h y (by simp [Op.operands, Call.operands])]
  rcases cond_some hs with ⟨ec, hx⟩ | ⟨ec, hx⟩
  ·rw [ec]
   simp only [cond_true, Option.bind_eq_some_iff] at hx ⊢
   obtain ⟨x', h1, y', h2, h3⟩ := hx
   exact ⟨x', h1, y', h2, appendS_congr h3 hr⟩
  ·cases hx
 ·rename_i x y t us
  rw [<- h x (by simp [Op.operands, Call.operands]), <- h y (by simp [Op.operands, Call.operands])]
  simp only [Option.bind_eq_some_iff] at hs ⊢
  obtain ⟨x', h1, y', h2, h3⟩ := hs
  exact ⟨x', h1, y', h2, copyS_congr h3 hr⟩
 ·rename_i x t
  rw [<- h x (by simp [Op.operands, Call.operands])]
  simp only [Option.bind_eq_some_iff] at hs ⊢
  obtain ⟨x', h1, h3⟩ := hs
  exact ⟨x', h1, clearS_congr h3 hr⟩
 ·cases hs
theorem effOp_congr {T : Tab} {op : Op} {b : Nat} {e : Eff} (h : ∀ x ∈ op.operands.toList, ev s.tm x = ev s'.tm x) (hs : effOp T s b op = some e) (hr : ∀ c ∈ e.rds, rowOf s.rows c = rowOf s'.rows c) : effOp T s' b op = some e := by
 unfold effOp at hs ⊢
 rw [<- newOp_congr h]
 split at hs
 ·exact hs
 ·split at hs
  ·rename_i ps c r hst
   cases hs
   rw [storeOp_congr h hst (hr c (by simp))]
  ·rename_i hst
   have h2 : storeOp T s' op = none := by
    cases op <;> first
     | rfl
     | (exfalso; simp [listOp] at hs)
   rw [h2]
   exact listOp_congr h hs hr
theorem looks_of {all : Array Oper} {o : Oper} {t : Tmp} (h : Operand.tmp t ∈ o.op.operands.toList) : t ∈ o.looksAt all := by
 unfold Oper.looksAt
 rw [List.mem_append]
 left
 rw [List.mem_filterMap]
 exact ⟨.tmp t, h, rfl⟩
theorem reachRows_congr {R R' : Rows} : ∀ {l m : List Nat}, (∀ b ∈ l, R[b]? = R'[b]?) -> reachRows R l m = reachRows R' l m
 | [], m, h => rfl
 | i :: r, m, h => by
   simp only [reachRows]
   rw [h i (by simp)]
   exact reachRows_congr fun b hb => h b (by simp [hb])
theorem mem_bif {b : Bool} {m l : List Nat} {x : Nat} (h : x ∈ m) : x ∈ bif b then m else m ++ l := by
 cases b <;> simp [h]
mutual
theorem reachV_sub {m : List Nat} : ∀ {c : SV} {x : Nat}, x ∈ m -> x ∈ reachV m c
 | .agg cs, x, h => reachL_sub (l := cs) h
 | .tup cs, x, h => reachL_sub (l := cs) h
 | .fn _ a b, x, h => reachL_sub (l := b) (reachL_sub (l := a) h)
 | .ptr _ _, x, h | .pte _ _ _, x, h | .ptm _ _ _ _, x, h | .sl _ _ _ _, x, h | .os _ _ _ _, x, h | .on _ _ _, x, h | .ow _ _ _ _ _ _, x, h => by
   simp only [reachV, rowOfV]
   exact mem_bif h
 | .lit _ _, x, h | .litb _, x, h | .top, x, h | .int _ _, x, h | .bool _, x, h | .str _, x, h | .val _, x, h | .hnd _, x, h | .gp _ _, x, h | .gpe _ _ _ _ _, x, h | .rd _ _ _, x, h | .rda _ _ _ _, x, h | .rs _ _ _ _, x, h | .rsa _ _ _ _ _ _, x, h | .ints _ _ _, x, h | .many _ _ _, x, h => by simpa only [reachV, rowOfV] using h
theorem reachL_sub {m : List Nat} : ∀ {l : List SV} {x : Nat}, x ∈ m -> x ∈ reachL m l
 | [], x, h => h
 | c :: cs, x, h => reachL_sub (l := cs) (reachV_sub (c := c) h)
end
theorem reachRows_sub {R : Rows} : ∀ {l m : List Nat} {x : Nat}, x ∈ m -> x ∈ reachRows R l m
 | [], m, x, h => h
 | i :: r, m, x, h => by
   simp only [reachRows]
   refine reachRows_sub ?_
   split
   ·exact reachL_sub h
   ·exact h
theorem reach_congr {R R' : Rows} {args : List SV} (h : ∀ b ∈ reach args R, R[b]? = R'[b]?) : reach args R = reach args R' := by
 unfold reach at h ⊢
 simp only at h ⊢
 have h1 : reachRows R (reachL [] args) (reachL [] args) = reachRows R' (reachL [] args) (reachL [] args) := reachRows_congr fun b hb => h b (reachRows_sub (reachRows_sub (reachRows_sub hb)))
 rw [<- h1]
 have h2 : ∀ m, reachRows R (reachL [] args) (reachL [] args) = m -> (∀ b ∈ m, R[b]? = R'[b]?) -> reachRows R m m = reachRows R' m m := fun m _ hm => reachRows_congr hm
 rw [<- h2 _ rfl fun b hb => h b (reachRows_sub (reachRows_sub hb))]
 exact reachRows_congr fun b hb => h b (reachRows_sub hb)
theorem numL_key : ∀ {l : List Nat} {n j i : Nat}, keyOf (numL n l) j = some i -> i ∈ l
 | [], n, j, i, h => by simp [numL, keyOf] at h
 | x :: l, n, j, i, h => by
   simp only [numL, keyOf] at h
   rcases cond_some h with ⟨_, h⟩ | ⟨_, h⟩
   ·cases h; simp
   ·exact List.mem_cons_of_mem _ (numL_key h)
theorem rnRows_congr {l : List (Nat × Nat)} {R R' : Rows} (h : ∀ j i, keyOf l j = some i -> R[i]? = R'[i]?) : ∀ n, rnRows l R n = rnRows l R' n
 | 0 => rfl
 | n + 1 => by
   simp only [rnRows, rnRows_congr h n]
   unfold rnRow
   split
   ·rename_i i hk; rw [h _ _ hk]
   ·rfl
theorem callD_congr {c : ECon} {R R' : Rows} {args : List SV} (h : ∀ b ∈ reach args R, R[b]? = R'[b]?) : callD c R args = callD c R' args := by
 unfold callD
 rw [<- reach_congr h, rnRows_congr (R := R) (R' := R') fun j i hk => h i (numL_key hk)]
theorem finE_congr {R R' : Rows} {b : Nat} {ps : List Prop} {im own more : List Nat} {alts : List Alt} (h : R.length = R'.length) : finE R b ps im own more alts = finE R' b ps im own more alts := by
 unfold finE
 rw [h]
theorem effCall_congr {op : Op} {b : Nat} {z : Eff × Bool} (hev : ∀ x ∈ op.operands.toList, ev s.tm x = ev s'.tm x) (hlen : s.rows.length = s'.rows.length) (h : effCall cx s b op = some z) (hr : ∀ c ∈ z.1.rds, s.rows[c]? = s'.rows[c]?) : effCall cx s' b op = some z := by
 unfold effCall at h ⊢
 rw [<- callOf_congr hev]
 simp only [Option.bind_eq_some_iff] at h ⊢
 obtain ⟨q, h1, c, h2, h⟩ := h
 refine ⟨q, h1, c, h2, ?_⟩
 cases hD : callD c s.rows q.2 with
 | some y =>
   rw [hD] at h
   simp only at h
   obtain ⟨_, _, _, _, _, _, _, _, _, _, _, _, hrd⟩ := finE_out h
   have hD2 : callD c s'.rows q.2 = some y := by
    rw [<- callD_congr (R := s.rows) (R' := s'.rows) fun b hb => hr b (by rw [hrd, (callD_out hD).1]; simp [hb])]
    exact hD
   rw [hD2]
   simp only
   rw [<- finE_congr hlen]
   exact h
 | none =>
   rw [hD] at h
   simp only at h
   rcases cond_some h with ⟨_, h'⟩ | ⟨hne, h'⟩
   ·cases h'
   simp only [Option.bind_eq_some_iff] at h'
   obtain ⟨p, hp, a0, ha, y, hy, h'⟩ := h'
   obtain ⟨_, _, _, _, _, _, _, _, _, _, _, _, hrd⟩ := finE_out h'
   have hD2 : callD c s'.rows q.2 = none := by
    rw [<- callD_congr (R := s.rows) (R' := s'.rows) fun b hb => hr b (by rw [hrd]; simp [hb])]
    exact hD
   have hown : ∀ b ∈ ownL q.2, rowOf s.rows b = rowOf s'.rows b := fun b hb => by
    unfold rowOf; rw [hr b (by rw [hrd]; simp [hb])]
   have hre : reach p.2 s.rows = reach p.2 s'.rows := reach_congr fun b hb => hr b (by rw [hrd]; simp [hb])
   have hrows : rnRows (numL 0 (reach p.2 s.rows)) s.rows (reach p.2 s.rows).length = rnRows (numL 0 (reach p.2 s'.rows)) s'.rows (reach p.2 s'.rows).length := by
    rw [<- hre]
    exact rnRows_congr (fun j i hk => hr i (by rw [hrd]; simp [numL_key hk])) _
   rw [hD2]
   simp only [hne, cond_false, Option.bind_eq_some_iff]
   refine ⟨p, by rw [<- readArgs_congr hown]; exact hp, a0, by rw [<- hre]; exact ha, y, by rw [<- hrows]; exact hy, ?_⟩
   rw [<- finE_congr hlen, <- hrows, <- hre, <- reach_congr (R := s.rows) (R' := s'.rows) (args := q.2) fun b hb => hr b (by rw [hrd]; simp [hb])]
   exact h'
theorem Fact.congr (hlen : s.rows.length = s'.rows.length) {all : Array Oper} {b : Nat} {o : Oper} {r : Rec} (hf : Fact cx all b s o r) (h : ∀ t ∈ o.looksAt all, s.tm.lookup t = s'.tm.lookup t) (hr0 : ∀ c ∈ r.rds, s.rows[c]? = s'.rows[c]?) : Fact cx all b s' o r := by
 have hr : ∀ c ∈ r.rds, rowOf s.rows c = rowOf s'.rows c := fun c hc => by unfold rowOf; rw [hr0 c hc]
 have hev : ∀ x ∈ o.op.operands.toList, ev s.tm x = ev s'.tm x := fun x hx => ev_congr fun t ht => by subst ht; exact h t (looks_of hx)
 obtain ⟨h1, h2, h3⟩ := hf
 have hg : ∀ q, GuardIs all s o q -> GuardIs all s' o q := by
  intro q hq
  unfold GuardIs at hq ⊢
  split at hq
  ·exact hq
  ·rename_i j want hgd
   obtain ⟨d, sv, g1, g2, g3⟩ := hq
   refine ⟨d, sv, g1, ?_, g3⟩
   rw [<- h d ?_]; exact g2
   unfold Oper.looksAt
   rw [List.mem_append]
   right
   rw [hgd]
   simp [g1]
 refine ⟨h1, h2, ?_⟩
 rcases h3 with ⟨g, hs⟩ | ⟨g, hs⟩
 ·refine .inl ⟨hg _ g, ?_⟩
  rcases hs with ⟨ps, q1, q2, q3, q4, q5⟩ | ⟨c, x, y, sv, q, cl, q1, q2, q3, q4, q5, q6⟩ | ⟨e', e, q1, qe, q2, q3, q4, q5, q6⟩ | ⟨z, q1, q2, q3, q4, q5, q6⟩
  ·refine .inl ⟨ps, ?_, q2, q3, q4, by rw [q5]; exact readRow_congr hev⟩
   rw [<- quietOp_congr hev (fun c hc => hr c (by rw [q5]; exact hc))]
   exact q1
  ·refine .inr (.inl ⟨c, x, y, sv, q, cl, q1, ?_, q3, ?_, q5, q6⟩)
   ·rw [<- h c (looks_of (by rw [q1]; simp [Op.operands]))]; exact q2
   ·rw [<- q4]
    symm
    cases q
    ·exact hev y (by rw [q1]; simp [Op.operands])
    ·exact hev x (by rw [q1]; simp [Op.operands])
  ·have hrd : e.rds = e'.rds := by
    unfold sides at qe
    split at qe
    ·obtain rfl : e = e' := by simpa using qe
     rfl
    ·simp only [List.mem_cons, List.not_mem_nil, or_false] at qe
     rcases qe with rfl | rfl <;> rfl
   exact .inr (.inr (.inl ⟨e', e, effOp_congr hev q1 (fun c hc => hr c (by rw [q5, hrd]; exact hc)), qe, q2, q3, q4, q5, q6⟩))
  ·exact .inr (.inr (.inr ⟨z, effCall_congr hev (hlen := hlen) q1 (fun c hc => hr0 c (by rw [q5]; exact hc)), q2, q3, q4, q5, q6⟩))
 ·exact .inr ⟨hg _ g, hs⟩
end Sx
end
section
namespace Sx
variable {P : Program} {W : World} {F : Nat -> Prop} {ρ ρ' ρ0 : Num} {s s' : SS} {a : Act} {w : World} {cx : Ctx}
theorem zip3_get : ∀ {os : List Oper} {rs : List Rec} {ms : List Nat} {i : Nat} {o : Oper} {r : Rec} {m : Nat}, os[i]? = some o -> rs[i]? = some r -> ms[i]? = some m -> (zip3 os rs ms)[i]? = some (o, r, m)
 | [], _, _, i, _, _, _, h, _, _ => by simp at h
 | _ :: _, [], _, i, _, _, _, _, h, _ => by simp at h
 | _ :: _, _ :: _, [], i, _, _, _, _, _, h => by simp at h
 | o :: os, r :: rs, m :: ms, 0, _, _, _, h1, h2, h3 => by simp at h1 h2 h3; subst h1 h2 h3; rfl
 | o :: os, r :: rs, m :: ms, i + 1, _, _, _, h1, h2, h3 => by
   simp only [zip3, List.getElem?_cons_succ]
   exact zip3_get (by simpa using h1) (by simpa using h2) (by simpa using h3)
theorem allPairs_get {all : Array Oper} {z : List (Oper × Rec × Nat)} {n : Nat} : ∀ {l : List (Oper × Rec × Nat)} {k : Nat}, allPairs all z n k l = true -> ∀ i x, l[i]? = some x -> ∀ j, j < n -> pairB all z (k + i) x j = true /\ newB z (k + i) x j = true
 | [], k, h, i, x, hx, j, hj => by simp at hx
 | y :: l, k, h, i, x, hx, j, hj => by
   simp only [allPairs, Bool.and_eq_true, List.all_eq_true, List.mem_range] at h
   cases i with
   | zero => simp at hx; subst hx; exact h.1 j hj
   | succ i =>
     have := allPairs_get h.2 i x (by simpa using hx) j hj
     rw [show k + (i + 1) = k + 1 + i by omega]
     exact this
theorem edgesB_get : ∀ {l : List Oper} {k : Nat}, edgesB k l = true -> ∀ (i : Nat) (o : Oper), l[i]? = some o -> ∀ e ∈ bindsOn o, e < k + i
 | [], k, h, i, o, ho, e, he => by simp at ho
 | x :: l, k, h, i, o, ho, e, he => by
   simp only [edgesB, Bool.and_eq_true, List.all_eq_true] at h
   cases i with
   | zero => simp at ho; subst ho; have := Nat.le_of_ble_eq_true (show Nat.ble (e + 1) k = true from h.1 e he); omega
   | succ i => have := edgesB_get h.2 i o (by simpa using ho) e he; omega
theorem countNew_take : ∀ {l : List Oper} {i : Nat} {o : Oper}, l[i]? = some o -> isNewD o.op = true -> countNew (l.take i) < countNew l
 | [], i, o, h, _ => by simp at h
 | x :: l, 0, o, h, hn => by simp at h; subst h; simp [countNew, hn]
 | x :: l, i + 1, o, h, hn => by
   have := countNew_take (l := l) (i := i) (by simpa using h) hn
   simp only [List.take_succ_cons, countNew]
   cases isNewD x.op <;> simp <;> omega
theorem lastD_mem {S : Nat -> Bool} {t : Nat} {v : SV} : ∀ {rs : List Rec} {i : Nat}, lastD S t i rs = some v -> ∃ j r, rs[j]? = some r /\ S (i + j) = true /\ r.v = v
 | [], i, h => by simp [lastD] at h
 | r :: rs, i, h => by
   simp only [lastD] at h
   cases hl : lastD S t (i + 1) rs with
   | some u =>
     rw [hl] at h; simp at h; subst h
     obtain ⟨j, x, h1, h2, h3⟩ := lastD_mem hl
     exact ⟨j + 1, x, by simpa using h1, by rw [show i + (j + 1) = i + 1 + j by omega]; exact h2, h3⟩
   | none =>
     rw [hl] at h; simp only at h
     split at h
     ·rename_i hc; cases h; exact ⟨0, r, rfl, hc.1, rfl⟩
     ·cases h
theorem lastP_mem {S : Nat -> Bool} {b : Nat} {x : Option Row} : ∀ {rs : List Rec} {i : Nat}, lastP S b i rs = some x -> ∃ j r, rs[j]? = some r /\ S (i + j) = true /\ lastPut r.puts b = some x
 | [], i, h => by simp [lastP] at h
 | r :: rs, i, h => by
   simp only [lastP] at h
   cases hl : lastP S b (i + 1) rs with
   | some u =>
     rw [hl] at h; simp at h; subst h
     obtain ⟨j, y, h1, h2, h3⟩ := lastP_mem hl
     exact ⟨j + 1, y, by simpa using h1, by rw [show i + (j + 1) = i + 1 + j by omega]; exact h2, h3⟩
   | none =>
     rw [hl] at h; simp only at h
     split at h
     ·rename_i hS
      exact ⟨0, r, rfl, hS, h⟩
     ·cases h
theorem noMPuts_get {b : Nat} : ∀ {l : List (Nat × Option Row)} {c : Nat} {x : Row}, noMPuts b l = true -> lastPut l c = some (some x) -> noML b x.cs = true
 | [], c, x, h, hl => by simp [lastPut] at hl
 | (d, none) :: l, c, x, h, hl => by
   simp only [noMPuts] at h
   simp only [lastPut] at hl
   cases hq : lastPut l c with
   | some y => rw [hq] at hl; simp at hl; subst hl; exact noMPuts_get h hq
   | none =>
     rw [hq] at hl
     simp only at hl
     split at hl <;> cases hl
 | (d, some z) :: l, c, x, h, hl => by
   simp only [noMPuts, Bool.and_eq_true] at h
   simp only [lastPut] at hl
   cases hq : lastPut l c with
   | some y => rw [hq] at hl; simp at hl; subst hl; exact noMPuts_get h.2 hq
   | none =>
     rw [hq] at hl
     simp only at hl
     split at hl
     ·cases hl; exact h.1
     ·cases hl
def left (n : Nat) (listed : Array Bool) : Nat := (List.range n).countP fun i => !(listed.getD i false)
theorem left_set {n : Nat} {listed : Array Bool} {i : Nat} (hi : i < n) (hs : listed.size = n) (hl : listed.getD i false = false) : left n (listed.setIfInBounds i true) < left n listed := by
 unfold left
 have key : ∀ (l : List Nat), i ∈ l -> (∀ j ∈ l, j < n) -> l.countP (fun j => !((listed.setIfInBounds i true).getD j false)) < l.countP (fun j => !(listed.getD j false)) := by
  have mono : ∀ (l : List Nat), l.countP (fun j => !((listed.setIfInBounds i true).getD j false)) <= l.countP (fun j => !(listed.getD j false)) := by
   intro l
   apply List.countP_mono_left
   intro j _ hj
   by_cases h : i = j
   ·subst h
    simp [Array.getD, hs, hi] at hj
   ·simpa [Array.getElem?_setIfInBounds_ne h] using hj
  intro l
  induction l with
  | nil => intro h; cases h
  | cons x l ih =>
    intro h hb
    rw [List.countP_cons, List.countP_cons]
    by_cases hx : x = i
    ·subst hx
     have h1 : (!((listed.setIfInBounds x true).getD x false)) = false := by simp [Array.getD, hs, hi]
     have h2 : (!(listed.getD x false)) = true := by rw [hl]; rfl
     rw [h1, h2]
     have := mono l
     simp only [Bool.false_eq_true, if_false, if_true]
     omega
    ·have hm : i ∈ l := by rcases List.mem_cons.1 h with h | h; exact absurd h.symm hx; exact h
     have := ih hm (fun j hj => hb j (by simp [hj]))
     have he : (!((listed.setIfInBounds i true).getD x false)) = (!(listed.getD x false)) := by
      simp [Array.getElem?_setIfInBounds_ne (fun h => hx h.symm)]
     rw [he]
     omega
 exact key _ (by simpa using hi) (fun j hj => by simpa using hj)
theorem ready_spec {all : Array Oper} {listed : Array Bool} {i : Nat} (h : i ∈ Region.ready .any all listed) : i < all.size /\ listed.getD i true = false /\ ∃ o, all[i]? = some o /\ ∀ e ∈ bindsOn o, listed.getD e false = true := by
 unfold Region.ready at h
 rw [List.mem_filter] at h
 obtain ⟨h1, h2⟩ := h
 have h1 : i < all.size := by simpa using h1
 simp only [Bool.and_eq_true, Bool.not_eq_true'] at h2
 obtain ⟨h2, h3⟩ := h2
 refine ⟨h1, h2, all[i], by simp [h1], fun e he => ?_⟩
 rw [show all[i]? = some all[i] by simp [h1]] at h3
 simp only [Option.map_some, Option.getD_some, Array.all_eq_true] at h3
 unfold bindsOn at he
 simp only [List.mem_map, List.mem_filter, Array.mem_toList_iff] at he
 obtain ⟨x, ⟨hx1, hx2⟩, rfl⟩ := he
 obtain ⟨k, hk, rfl⟩ := Array.mem_iff_getElem.1 hx1
 have := h3 k hk
 simp only [hx2, Bool.not_true, Bool.false_or] at this
 exact this
theorem ready_of {all : Array Oper} {listed : Array Bool} {i : Nat} {o : Oper} (hi : all[i]? = some o) (hl : listed.getD i true = false) (he : ∀ e ∈ bindsOn o, listed.getD e false = true) : i ∈ Region.ready .any all listed := by
 unfold Region.ready
 rw [List.mem_filter]
 have hlt : i < all.size := (Array.getElem?_eq_some_iff.1 hi).1
 refine ⟨by simpa using hlt, ?_⟩
 rw [hi]
 simp only [hl, Bool.not_false, Bool.true_and, Option.map_some, Option.getD_some, Array.all_eq_true]
 intro k hk
 cases hb : Region.binds .any o.after[k] with
 | false => rfl
 | true =>
   simp only [Bool.not_true, Bool.false_or]
   apply he
   unfold bindsOn
   simp only [List.mem_map, List.mem_filter, Array.mem_toList_iff]
   exact ⟨o.after[k], ⟨Array.getElem_mem hk, hb⟩, rfl⟩
end Sx
end
section
namespace Sx
variable {P : Program} {W : World} {F : Nat -> Prop} {ρ ρ' ρ0 : Num} {s s' : SS} {a : Act} {w : World} {cx : Ctx}
theorem apartRows_puts {x y : Rec} (h : apartRows x y = true) {b : Nat} (hx : touch x.puts b = true) : touch y.puts b = false /\ b ∉ y.rds := by
 unfold apartRows at h
 simp only [Bool.and_eq_true, List.all_eq_true] at h
 unfold touch at hx
 simp only [List.any_eq_true] at hx
 obtain ⟨p, hp, hb⟩ := hx
 obtain rfl := Nat.eq_of_beq_eq_true hb
 have := h.1 p hp
 simp only [Bool.not_eq_true'] at this
 refine ⟨this.1, fun hm => ?_⟩
 have h2 := this.2
 rw [List.any_eq_false] at h2
 exact h2 _ hm (Nat.beq_refl _)
theorem apartRows_rds {x y : Rec} (h : apartRows x y = true) {b : Nat} (hy : touch y.puts b = true) : b ∉ x.rds := by
 unfold apartRows at h
 simp only [Bool.and_eq_true, List.all_eq_true] at h
 unfold touch at hy
 simp only [List.any_eq_true] at hy
 obtain ⟨p, hp, hb⟩ := hy
 obtain rfl := Nat.eq_of_beq_eq_true hb
 intro hm
 have h2 := h.2 p hp
 simp only [Bool.not_eq_true'] at h2
 rw [List.any_eq_false] at h2
 exact h2 _ hm (Nat.beq_refl _)
theorem draw_any (hx : CxOK P cx) {all : Array Oper} {recs : List Rec} (hf : Facts cx all all.toList recs s.rows.length ⟨s.tm, s.rows ++ List.replicate (countNew all.toList) none⟩) (hB : drawOK all recs = true)
  (hs1 : ∀ d sv, s.tm.lookup d = some sv -> sv = .top ∨ okd W F s.rows.length sv) (hs2 : ∀ (i : Nat) (x : Row), s.rows[i]? = some (some x) -> okdL W F s.rows.length x.cs)
  {Q : Exit -> Act -> World -> Prop} (hQ : ∀ ρ' a w, Sat W F cx.nt ρ' (recs.foldl applyRec ⟨s.tm, s.rows ++ List.replicate (countNew all.toList) none⟩) a w -> (∀ i, i < s.rows.length -> ρ' i = ρ i) -> Q .normal a w) :
  ∀ (fuel : Nat) (listed : Array Bool) (a : Act) (w : World) (ρ' : Num), listed.size = all.size -> left all.size listed <= fuel ->
   (∀ i o, all[i]? = some o -> listed.getD i false = true -> ∀ e ∈ bindsOn o, listed.getD e false = true) ->
   Sat W F cx.nt ρ' (stF (fun i => listed.getD i false) 0 recs ⟨s.tm, s.rows ++ List.replicate (countNew all.toList) none⟩) a w -> (∀ i, i < s.rows.length -> ρ' i = ρ i) -> wpAny P .any all Q fuel listed a w := by
 have hget := hf.get
 obtain ⟨hlen, hfact⟩ := hget
 simp only [drawOK, Bool.and_eq_true] at hB
 obtain ⟨⟨⟨_, hedge⟩, _⟩, hpairs⟩ := hB
 have hlen : recs.length = all.size := by simpa using hlen
 have hedges : ∀ (i : Nat) (o : Oper), all[i]? = some o -> ∀ e ∈ bindsOn o, e < i := by
  intro i o ho e he
  have := edgesB_get hedge i o (by simpa using ho) e he
  omega
 have hBl : (befs all.toList []).length = all.size := by rw [befs_len]; simp
 have hBi : ∀ (i : Nat) (o : Oper), all[i]? = some o -> (befs all.toList [])[i]? = some (maskOf ((befs all.toList []).take i) (bindsOn o)) := by
  intro i o ho
  have := befs_get all.toList [] i o (by simpa using ho)
  simpa using this
 have hz : ∀ (i : Nat) (o : Oper) (r : Rec) (m : Nat), all[i]? = some o -> recs[i]? = some r -> (befs all.toList [])[i]? = some m -> (zip3 all.toList recs (befs all.toList []))[i]? = some (o, r, m) :=
  fun i o r m h1 h2 h3 => zip3_get (by simpa using h1) h2 h3
 -- what is before an operation that may come up has come up
 have trans : ∀ (listed : Array Bool), (∀ i o, all[i]? = some o -> listed.getD i false = true -> ∀ e ∈ bindsOn o, listed.getD e false = true) ->
   ∀ (i : Nat) (o : Oper) (m : Nat), all[i]? = some o -> (befs all.toList [])[i]? = some m -> (∀ e ∈ bindsOn o, listed.getD e false = true) -> ∀ j, m.testBit j = true -> listed.getD j false = true := by
  intro listed hdc i
  induction i using Nat.strongRecOn with
  | _ i ih =>
    intro o m ho hm he j hj
    rw [hBi i o ho] at hm
    cases hm
    obtain ⟨e, he1, he2⟩ := (maskOf_bit _ j _).1 hj
    rcases he2 with rfl | he2
    ·exact he e he1
    ·have hei := hedges i o ho e he1
     have hlt : e < all.size := by have := (Array.getElem?_eq_some_iff.1 ho).1; omega
     have hoe : all[e]? = some all[e] := by simp [hlt]
     have hle := he e he1
     refine ih e hei all[e] _ hoe (hBi e _ hoe) (hdc e _ hoe hle) j ?_
     have : ((befs all.toList []).take i).getD e 0 = maskOf ((befs all.toList []).take e) (bindsOn all[e]) := by
      simp only [List.getD]
      rw [List.getElem?_take_of_lt hei, hBi e _ hoe]
      rfl
     rw [this] at he2
     exact he2
 have bitlt : ∀ (i : Nat) (o : Oper) (m : Nat), all[i]? = some o -> (befs all.toList [])[i]? = some m -> ∀ j, m.testBit j = true -> j < i := by
  intro i
  induction i using Nat.strongRecOn with
  | _ i ih =>
    intro o m ho hm j hj
    rw [hBi i o ho] at hm
    cases hm
    obtain ⟨e, he1, he2⟩ := (maskOf_bit _ j _).1 hj
    have hei := hedges i o ho e he1
    rcases he2 with rfl | he2
    ·exact hei
    ·have hlt : e < all.size := by have := (Array.getElem?_eq_some_iff.1 ho).1; omega
     have hoe : all[e]? = some all[e] := by simp [hlt]
     have : ((befs all.toList []).take i).getD e 0 = maskOf ((befs all.toList []).take e) (bindsOn all[e]) := by
      simp only [List.getD]
      rw [List.getElem?_take_of_lt hei, hBi e _ hoe]
      rfl
     rw [this] at he2
     have := ih e hei all[e] _ hoe (hBi e _ hoe) j he2
     omega
 have final : ∀ (listed : Array Bool) (a : Act) (w : World) (ρ' : Num), (∀ i, i < all.size -> listed.getD i false = true) ->
   Sat W F cx.nt ρ' (stF (fun i => listed.getD i false) 0 recs ⟨s.tm, s.rows ++ List.replicate (countNew all.toList) none⟩) a w -> (∀ i, i < s.rows.length -> ρ' i = ρ i) -> Q .normal a w := by
  intro listed a w ρ' hall st hρ
  have e := stF_prefix all.size recs 0 (⟨s.tm, s.rows ++ List.replicate (countNew all.toList) none⟩ : SS)
  rw [Nat.sub_zero, List.take_of_length_le (by omega)] at e
  have hj : ∀ j (x : Rec), recs[j]? = some x -> decide (j < all.size) = listed.getD j false := by
   intro j x hx
   have hlt : j < recs.length := (List.getElem?_eq_some_iff.1 hx).1
   rw [hall j (by omega)]
   simp; omega
  refine hQ ρ' a w (st.of_same (fun t => ?_) (fun b => ?_)) hρ
  ·rw [<- e, stF_tm, stF_tm, lastD_congr (S' := fun i => listed.getD i false) fun j x hx _ => by simpa using hj j x hx]
  ·rw [<- e, stF_rows, stF_rows, lastP_congr (S' := fun i => listed.getD i false) fun j x hx _ => by simpa using hj j x hx]
 intro fuel
 induction fuel with
 | zero =>
   intro listed a w ρ' hsz hleft hdc st hρ
   have hall : ∀ i, i < all.size -> listed.getD i false = true := by
    intro i hi
    unfold left at hleft
    have h0 : (List.range all.size).countP (fun i => !(listed.getD i false)) = 0 := by omega
    rw [List.countP_eq_zero] at h0
    have := h0 i (by simpa using hi)
    simpa using this
   constructor
   ·apply List.eq_nil_iff_forall_not_mem.2
    intro i hi
    obtain ⟨h1, h2, _⟩ := ready_spec hi
    have := hall i h1
    have hlt : i < listed.size := by omega
    simp [Array.getD, hlt] at h2 this
    rw [h2] at this
    cases this
   ·exact final listed a w ρ' hall st hρ
 | succ fuel ih =>
   intro listed a w ρ' hsz hleft hdc st hρ
   constructor
   ·intro hnil
    refine final listed a w ρ' (fun i => ?_) st hρ
    induction i using Nat.strongRecOn with
    | _ i ihi =>
      intro hi
      cases hl : listed.getD i false with
      | true => rfl
      | false =>
        exfalso
        have hlt : i < listed.size := by omega
        have ho : all[i]? = some all[i] := by simp [hi]
        have hm := ready_of (listed := listed) ho (by simp [Array.getD, hlt] at hl ⊢; exact hl) (fun e he => by have := hedges i _ ho e he; exact ihi e this (by omega))
        rw [hnil] at hm
        cases hm
   ·intro i hi
    obtain ⟨hin, hli', o, ho, he⟩ := ready_spec hi
    have hlt : i < listed.size := by omega
    have hli : listed.getD i false = false := by simp [Array.getD, hlt] at hli' ⊢; exact hli'
    obtain ⟨r, hr, hfct⟩ := hfact i o (by simpa using ho)
    have hmi := hBi i o ho
    -- operations that are not apart from it: those before it in the text are just those that have come up
    have agree : ∀ j (x : Rec), recs[j]? = some x -> (j ≠ i -> ∀ oj, all[j]? = some oj -> x.dst = oj.dst -> ¬ (o.apart all oj = true /\ apartRows r x = true)) -> decide (j < i) = listed.getD j false := by
     intro j x hxj hc
     by_cases hji : j = i
     ·subst hji; rw [hli]; simp
     ·have hjn : j < all.size := by have := (List.getElem?_eq_some_iff.1 hxj).1; omega
      have hoj : all[j]? = some all[j] := by simp [hjn]
      obtain ⟨x', hx', hfj⟩ := hfact j all[j] (by simp [hjn])
      rw [hxj] at hx'; cases hx'
      have hmj := hBi j _ hoj
      have hp := (allPairs_get hpairs i _ (hz i o r _ ho hr hmi) j hjn).1
      unfold pairB at hp
      rw [hz j _ x _ hoj hxj hmj] at hp
      simp only [Nat.zero_add] at hp
      have hb1 : Nat.beq i j = false := by cases h : Nat.beq i j with
       | false => rfl
       | true => exact absurd (Nat.eq_of_beq_eq_true h).symm hji
      rw [hb1] at hp
      simp only [cond_false] at hp
      have hcon := hc hji all[j] hoj hfj.1
      cases hbits : (Nat.testBit (maskOf ((befs all.toList []).take j) (bindsOn all[j])) i || Nat.testBit (maskOf ((befs all.toList []).take i) (bindsOn o)) j) with
      | false =>
        rw [hbits] at hp
        simp only [cond_false, Bool.and_eq_true] at hp
        exact absurd hp hcon
      | true =>
        simp only [Bool.or_eq_true] at hbits
        rcases hbits with h | h
        ·have hij := bitlt j _ _ hoj hmj i h
         cases hlj : listed.getD j false with
         | false => simp; omega
         | true =>
           have := trans listed hdc j _ _ hoj hmj (hdc j _ hoj hlj) i h
           rw [hli] at this; cases this
        ·have hji2 := bitlt i o _ ho hmi j h
         rw [trans listed hdc i o _ ho hmi he j h]
         simp; exact hji2
    have epre := stF_prefix i recs 0 (⟨s.tm, s.rows ++ List.replicate (countNew all.toList) none⟩ : SS)
    rw [Nat.sub_zero] at epre
    have hfS : Fact cx all (s.rows.length + countNew (all.toList.take i)) (stF (fun i => listed.getD i false) 0 recs ⟨s.tm, s.rows ++ List.replicate (countNew all.toList) none⟩) o r := by
     refine hfct.congr (by rw [stF_len, <- epre, stF_len]) (fun t ht => ?_) (fun c hc => ?_)
     ·rw [<- epre, stF_tm, stF_tm, lastD_congr (S' := fun i => listed.getD i false) fun j x hxj hd => ?_]
      simp only [Nat.zero_add]
      refine agree j x hxj fun _ oj hoj hdd hap => ?_
      exact (Oper.apart_spec hap.1).2.2 t (by rw [<- hdd]; exact hd) ht
     ·rw [<- epre, stF_rows, stF_rows, lastP_congr (S' := fun i => listed.getD i false) fun j x hxj hd => ?_]
      simp only [Nat.zero_add]
      refine agree j x hxj fun _ oj hoj hdd hap => ?_
      exact apartRows_rds hap.2 hd hc
    have hb0 : s.rows.length <= s.rows.length + countNew (all.toList.take i) := Nat.le_add_right _ _
    have newj : ∀ b, r.new = some b -> ∀ j (y : Rec), recs[j]? = some y -> listed.getD j false = true -> noMRec b y = true /\ touch y.puts b = false := by
     intro b hn
     have key : ∀ j, j < all.size -> newB (zip3 all.toList recs (befs all.toList [])) i (o, r, maskOf ((befs all.toList []).take i) (bindsOn o)) j = true := fun j hj => by
      have := (allPairs_get hpairs i _ (hz i o r _ ho hr hmi) j hj).2
      rwa [Nat.zero_add] at this
     intro j y hyj hlj
     ·have hjn : j < all.size := by have := (List.getElem?_eq_some_iff.1 hyj).1; omega
      have hoj : all[j]? = some all[j] := by simp [hjn]
      have hmj := hBi j _ hoj
      have := key j hjn
      unfold newB at this
      simp only [hn, hz j _ y _ hoj hyj hmj, Bool.and_eq_true] at this
      have hcond : (Nat.beq i j || Nat.testBit (maskOf ((befs all.toList []).take j) (bindsOn all[j])) i) = false := by
       cases hq : (Nat.beq i j || Nat.testBit (maskOf ((befs all.toList []).take j) (bindsOn all[j])) i) with
       | false => rfl
       | true =>
         exfalso
         simp only [Bool.or_eq_true] at hq
         rcases hq with hq | hq
         ·have := Nat.eq_of_beq_eq_true hq
          subst this
          rw [hli] at hlj; cases hlj
         ·have := trans listed hdc j _ _ hoj hmj (hdc j _ hoj hlj) i hq
          rw [hli] at this; cases this
      rw [hcond] at this
      simpa using this
    refine draw_step hx ho st hfS ?_ ?_
    ·intro hn
     obtain ⟨hput, hisn⟩ : r.new = some (s.rows.length + countNew (all.toList.take i)) /\ isNewD o.op = true := by
      rcases hfct.2.2 with ⟨_, hs⟩ | ⟨_, hs⟩
      ·rcases hs with ⟨_, _, _, _, h4, _⟩ | ⟨_, _, _, _, _, _, _, _, _, _, _, h6⟩ | ⟨e, _, _, _, _, _, _, _, q6⟩ | ⟨z, hz1, _, _, _, _, q6⟩
       ·exact absurd h4 hn
       ·exact absurd h6 hn
       ·cases hq : isNew o.op with
        | true => rw [hq] at q6; exact ⟨q6, isNewD_of hq⟩
        | false => rw [hq] at q6; exact absurd q6 hn
       ·cases hq : z.2 with
        | true => rw [hq] at q6; exact ⟨q6, effCall_isNewD hz1⟩
        | false => rw [hq] at q6; exact absurd q6 hn
      ·rw [hs] at hn; exact absurd rfl hn
     have n2 := newj _ hput
     have hcn := countNew_take (l := all.toList) (i := i) (by simpa using ho) hisn
     have hblt : s.rows.length + countNew (all.toList.take i) < s.rows.length + countNew all.toList := by omega
     refine ⟨⟨by rw [stF_len]; simp; exact hcn, ?_, fun j y hy => ?_⟩, fun d sv hd => ?_⟩
     ·rw [stF_rows]
      have : lastP (fun i => listed.getD i false) (s.rows.length + countNew (all.toList.take i)) 0 recs = none := by
       cases hl : lastP (fun i => listed.getD i false) (s.rows.length + countNew (all.toList.take i)) 0 recs with
       | none => rfl
       | some y =>
         obtain ⟨j, z, h1, h2, h3⟩ := lastP_mem hl
         rw [Nat.zero_add] at h2
         have := (n2 j z h1 h2).2
         rw [touch_iff.2 ⟨y, h3⟩] at this
         cases this
      rw [this]
      simp only
      rw [List.getElem?_append_right (by omega), List.getElem?_replicate, if_pos (by omega)]
     ·rw [stF_rows] at hy
      cases hl : lastP (fun i => listed.getD i false) j 0 recs with
      | some z =>
        rw [hl] at hy
        simp only at hy
        split at hy
        ·cases hy
         obtain ⟨k, q, h1, h2, h3⟩ := lastP_mem hl
         rw [Nat.zero_add] at h2
         have := (n2 k q h1 h2).1
         unfold noMRec at this
         simp only [Bool.and_eq_true] at this
         exact noMPuts_get this.2 h3
        ·cases hy
      | none =>
        rw [hl] at hy
        simp only at hy
        by_cases hjl : j < s.rows.length
        ·rw [List.getElem?_append_left hjl] at hy
         exact okdL_noM hb0 (hs2 j y hy)
        ·rw [List.getElem?_append_right (by omega), List.getElem?_replicate] at hy
         split at hy <;> cases hy
     ·rw [stF_tm] at hd
      cases hl : lastD (fun i => listed.getD i false) d 0 recs with
      | some z =>
        rw [hl] at hd
        simp only at hd
        cases hd
        obtain ⟨k, q, h1, h2, h3⟩ := lastD_mem hl
        rw [Nat.zero_add] at h2
        have := (n2 k q h1 h2).1
        unfold noMRec at this
        simp only [Bool.and_eq_true] at this
        rw [h3] at this
        exact .inr this.1
      | none =>
        rw [hl] at hd
        simp only at hd
        rcases hs1 d sv hd with h | h
        ·exact .inl h
        ·exact .inr (okd_noM hb0 h)
    ·intro ρ'' a' w' st' hρ''
     have hLi : (listed.setIfInBounds i true).getD i false = true := by simp [Array.getD, hlt]
     have hLj : ∀ j, j ≠ i -> (listed.setIfInBounds i true).getD j false = listed.getD j false := fun j hj => by simp [Array.getElem?_setIfInBounds_ne (fun h => hj h.symm)]
     refine ih (listed.setIfInBounds i true) a' w' ρ'' (by simpa using hsz) (by have := left_set hin hsz hli; omega) ?_ (st'.of_same (fun t => ?_) (fun c => ?_)) (fun j hj => ?_)
     ·intro j oj hoj hlj e hej
      have hup : listed.getD e false = true -> (listed.setIfInBounds i true).getD e false = true := by
       intro h
       by_cases hei : e = i
       ·subst hei; exact hLi
       ·rw [hLj e hei]; exact h
      by_cases hji : j = i
      ·subst hji
       rw [ho] at hoj; cases hoj
       exact hup (he e hej)
      ·rw [hLj j hji] at hlj
       exact hup (hdc j oj hoj hlj e hej)
     ·rw [applyRec_tm, stF_tm]
      by_cases hd : r.dst = some t
      ·rw [if_pos hd, lastD_last hr hd (by rw [Nat.zero_add]; exact hLi) ?_]
       intro j x hxj hij hdx
       rw [Nat.zero_add, hLj j (by omega)]
       have := agree j x hxj fun _ oj hoj hdd hap => (Oper.apart_spec hap.1).2.1 t (by rw [<- hfct.1]; exact hd) (by rw [<- hdd]; exact hdx)
       rw [<- this]
       simp; omega
      ·rw [if_neg hd, stF_tm, lastD_congr (S' := fun i => listed.getD i false) fun j x hxj hdx => ?_]
       simp only [Nat.zero_add]
       refine hLj j ?_
       rintro rfl
       rw [hr] at hxj; cases hxj
       exact hd hdx
     ·rw [applyRec_rows, stF_rows]
      cases hp : lastPut r.puts c with
      | none =>
        simp only
        rw [stF_rows, lastP_congr (S' := fun i => listed.getD i false) fun j x hxj hdx => ?_]
        simp only [Nat.zero_add]
        refine hLj j ?_
        rintro rfl
        rw [hr] at hxj; cases hxj
        obtain ⟨z, hz2⟩ := touch_iff.1 hdx
        rw [hp] at hz2; cases hz2
      | some x =>
        simp only
        rw [lastP_last hr hp (by rw [Nat.zero_add]; exact hLi) ?_]
        ·simp only
         rw [stF_len]
        ·intro j y hyj hij hty
         rw [Nat.zero_add, hLj j (by omega)]
         have := agree j y hyj fun _ oj hoj hdd hap => by
          have h2 := (apartRows_puts hap.2 (touch_iff.2 ⟨x, hp⟩)).1
          rw [h2] at hty; cases hty
         rw [<- this]
         simp; omega
     ·rw [hρ'' j (.inl (by omega))]
      exact hρ j hj
end Sx
end
end Go.Proofs.YtimjnajdpccjdaaDoor
