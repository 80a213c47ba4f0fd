/- The memory of a machine, as its lays say. No condition beyond sizes. -/
import Derived.Test.YtimjnajdpccjdaaDoorCpE
namespace Go.Proofs.YtimjnajdpccjdaaDoor
set_option linter.unusedVariables false
set_option linter.unusedSimpArgs false
open Go.RowKit Sx
set_option maxRecDepth 100000
set_option maxHeartbeats 8000000
def gI (g : Nat → List SV) (k : Nat) (e : Nat) : Int := match (g e)[k]? with
  | some (.int _ x) => x
  | _ => 0
def gB (g : Nat → List SV) (k : Nat) (e : Nat) : Bool := match (g e)[k]? with
  | some (.bool x) => x
  | _ => false
def gL (g : Nat → List SV) (k : Nat) (e : Nat) : List Int := match (g e)[k]? with
  | some (.rd _ _ x) => x
  | _ => []
def gV (g : Nat → List SV) (k : Nat) (e : Nat) : Value := match (g e)[k]? with
  | some (.rd _ x _) => x
  | _ => undef
def atI (s : SS) (k : Nat) (f : Int → Option LoopSpec) : Option LoopSpec := match List.lookup k s.tm with
  | some (.int _ v) => f v
  | _ => none
structure PE (g : Nat → List SV) : Prop where
  out : g = fun e => [.bool (gB g 0 e), .int .i64 (gI g 1 e), .int .i64 (gI g 2 e), .rd .u32 (gV g 3 e) (gL g 3 e)]
structure PV (g : Nat → List SV) (n : Nat) : Prop where
  out : ∀ e, e < n → ∀ x ∈ gL g 3 e, InK .u32 x
abbrev St := List (List Int) × List (List Int) × Int
def inn (t : Bool) (k o : Int) (ws : List Int) (S : St) : Nat → St
  | 0 => S
  | j + 1 => if 0 ≤ o ∧ o < 1024 then
      (setP (t && okW t k (o + (j : Int)) (inn t k o ws S j).1 (inn t k o ws S j).2.1) k ((pgAt t k (inn t k o ws S j).1 (inn t k o ws S j).2.1).set (o + (j : Int)).toNat (ws.getD j 0)) (inn t k o ws S j).1,
       setP (!t && okW t k (o + (j : Int)) (inn t k o ws S j).1 (inn t k o ws S j).2.1) k ((pgAt t k (inn t k o ws S j).1 (inn t k o ws S j).2.1).set (o + (j : Int)).toNat (ws.getD j 0)) (inn t k o ws S j).2.1,
       if okW t k (o + (j : Int)) (inn t k o ws S j).1 (inn t k o ws S j).2.1 = true then (inn t k o ws S j).2.2 + 1 else (inn t k o ws S j).2.2)
    else inn t k o ws S j
def outs (a b : Nat) (T : Nat → Bool) (K O : Nat → Int) (L : Nat → List Int) : Nat → St
  | 0 => (List.replicate a (List.replicate 1024 0), List.replicate b (List.replicate 1024 0), 0)
  | i + 1 => inn (T i) (K i) (O i) (L i) (outs a b T K O L i) (min (L i).length 1024)
section
variable (a b : Nat) (T : Nat → Bool) (K O : Nat → Int) (L : Nat → List Int)
theorem aP_ex : ∃ f : Nat → List (List Int), ∀ n, f n = (outs a b T K O L n).1 := ⟨_, fun _ => rfl⟩
theorem aQ_ex : ∃ f : Nat → List (List Int), ∀ n, f n = (outs a b T K O L n).2.1 := ⟨_, fun _ => rfl⟩
theorem aM_ex : ∃ f : Nat → Int, ∀ n, f n = (outs a b T K O L n).2.2 := ⟨_, fun _ => rfl⟩
noncomputable def aP : Nat → List (List Int) := Classical.choose (aP_ex a b T K O L)
noncomputable def aQ : Nat → List (List Int) := Classical.choose (aQ_ex a b T K O L)
noncomputable def aM : Nat → Int := Classical.choose (aM_ex a b T K O L)
theorem cP_ex : ∃ f : Nat → Nat → List (List Int), ∀ n j, f n j = (inn (T n) (K n) (O n) (L n) (outs a b T K O L n) j).1 := ⟨_, fun _ _ => rfl⟩
theorem cQ_ex : ∃ f : Nat → Nat → List (List Int), ∀ n j, f n j = (inn (T n) (K n) (O n) (L n) (outs a b T K O L n) j).2.1 := ⟨_, fun _ _ => rfl⟩
theorem cM_ex : ∃ f : Nat → Nat → Int, ∀ n j, f n j = (inn (T n) (K n) (O n) (L n) (outs a b T K O L n) j).2.2 := ⟨_, fun _ _ => rfl⟩
noncomputable def cP : Nat → Nat → List (List Int) := Classical.choose (cP_ex a b T K O L)
noncomputable def cQ : Nat → Nat → List (List Int) := Classical.choose (cQ_ex a b T K O L)
noncomputable def cM : Nat → Nat → Int := Classical.choose (cM_ex a b T K O L)
theorem aP_eq (n : Nat) : aP a b T K O L n = (outs a b T K O L n).1 := Classical.choose_spec (aP_ex a b T K O L) n
theorem aQ_eq (n : Nat) : aQ a b T K O L n = (outs a b T K O L n).2.1 := Classical.choose_spec (aQ_ex a b T K O L) n
theorem aM_eq (n : Nat) : aM a b T K O L n = (outs a b T K O L n).2.2 := Classical.choose_spec (aM_ex a b T K O L) n
theorem cP_eq (n j : Nat) : cP a b T K O L n j = (inn (T n) (K n) (O n) (L n) (outs a b T K O L n) j).1 := Classical.choose_spec (cP_ex a b T K O L) n j
theorem cQ_eq (n j : Nat) : cQ a b T K O L n j = (inn (T n) (K n) (O n) (L n) (outs a b T K O L n) j).2.1 := Classical.choose_spec (cQ_ex a b T K O L) n j
theorem cM_eq (n j : Nat) : cM a b T K O L n j = (inn (T n) (K n) (O n) (L n) (outs a b T K O L n) j).2.2 := Classical.choose_spec (cM_ex a b T K O L) n j
theorem a_0 : aP a b T K O L 0 = List.replicate a (List.replicate 1024 0) ∧ aQ a b T K O L 0 = List.replicate b (List.replicate 1024 0) ∧ aM a b T K O L 0 = 0 := by
  rw [aP_eq, aQ_eq, aM_eq]; exact ⟨rfl, rfl, rfl⟩
theorem a_s (n : Nat) : aP a b T K O L (n + 1) = cP a b T K O L n (min (L n).length 1024) ∧ aQ a b T K O L (n + 1) = cQ a b T K O L n (min (L n).length 1024) ∧ aM a b T K O L (n + 1) = cM a b T K O L n (min (L n).length 1024) := by
  rw [aP_eq, aQ_eq, aM_eq, cP_eq, cQ_eq, cM_eq]; exact ⟨rfl, rfl, rfl⟩
theorem c_0 (n : Nat) : cP a b T K O L n 0 = aP a b T K O L n ∧ cQ a b T K O L n 0 = aQ a b T K O L n ∧ cM a b T K O L n 0 = aM a b T K O L n := by
  rw [aP_eq, aQ_eq, aM_eq, cP_eq, cQ_eq, cM_eq]; exact ⟨rfl, rfl, rfl⟩
theorem c_s (n j : Nat) (h : 0 ≤ O n ∧ O n < 1024) :
    cP a b T K O L n (j + 1) = setP (T n && okW (T n) (K n) (O n + (j : Int)) (cP a b T K O L n j) (cQ a b T K O L n j)) (K n) ((pgAt (T n) (K n) (cP a b T K O L n j) (cQ a b T K O L n j)).set (O n + (j : Int)).toNat ((L n).getD j 0)) (cP a b T K O L n j) ∧
    cQ a b T K O L n (j + 1) = setP (!T n && okW (T n) (K n) (O n + (j : Int)) (cP a b T K O L n j) (cQ a b T K O L n j)) (K n) ((pgAt (T n) (K n) (cP a b T K O L n j) (cQ a b T K O L n j)).set (O n + (j : Int)).toNat ((L n).getD j 0)) (cQ a b T K O L n j) ∧
    cM a b T K O L n (j + 1) = if okW (T n) (K n) (O n + (j : Int)) (cP a b T K O L n j) (cQ a b T K O L n j) = true then cM a b T K O L n j + 1 else cM a b T K O L n j := by
  rw [cP_eq, cQ_eq, cM_eq, cP_eq, cQ_eq, cM_eq]
  simp only [inn]
  rw [if_pos h]
  exact ⟨rfl, rfl, rfl⟩
theorem c_n (n j : Nat) (h : ¬ (0 ≤ O n ∧ O n < 1024)) : cP a b T K O L n (j + 1) = cP a b T K O L n j ∧ cQ a b T K O L n (j + 1) = cQ a b T K O L n j ∧ cM a b T K O L n (j + 1) = cM a b T K O L n j := by
  rw [cP_eq, cQ_eq, cM_eq, cP_eq, cQ_eq, cM_eq]
  simp only [inn]
  rw [if_neg h]
  exact ⟨rfl, rfl, rfl⟩
structure okM (ps qs : List (List Int)) (m : Int) (lim : Int) : Prop where
  l1 : ps.length = a
  l2 : qs.length = b
  p1 : wfP ps
  p2 : wfP qs
  m0 : 0 ≤ m
  m1 : m ≤ lim
variable {N : Nat} (hL : ∀ e, e < N → ∀ x ∈ L e, InK .u32 x)
include hL
theorem gD_in {e j : Nat} (he : e < N) : InK .u32 ((L e).getD j 0) := by
  rw [List.getD_eq_getElem?_getD]
  cases h : (L e)[j]? with
  | none => simp [InK]
  | some x => exact hL e he x (List.mem_of_getElem? h)
theorem c_ok (n : Nat) (hn : n < N) (lim : Int) (h : okM a b (aP a b T K O L n) (aQ a b T K O L n) (aM a b T K O L n) lim) : ∀ j, okM a b (cP a b T K O L n j) (cQ a b T K O L n j) (cM a b T K O L n j) (lim + j)
  | 0 => by
    rw [(c_0 a b T K O L n).1, (c_0 a b T K O L n).2.1, (c_0 a b T K O L n).2.2]
    exact ⟨h.l1, h.l2, h.p1, h.p2, h.m0, by have := h.m1; omega⟩
  | j + 1 => by
    have ih := c_ok n hn lim h j
    by_cases ho : 0 ≤ O n ∧ O n < 1024
    · obtain ⟨e1, e2, e3⟩ := c_s a b T K O L n j ho
      have hw := write_wf (t := T n) (k := K n) (off := O n + (j : Int)) ih.p1 ih.p2 (gD_in L hL (j := j) hn)
      rw [e1, e2, e3]
      refine ⟨by rw [setP_len]; exact ih.l1, by rw [setP_len]; exact ih.l2, hw.1, hw.2, ?_, ?_⟩
      · have := ih.m0; split <;> omega
      · have := ih.m1; split <;> omega
    · obtain ⟨e1, e2, e3⟩ := c_n a b T K O L n j ho
      rw [e1, e2, e3]
      exact ⟨ih.l1, ih.l2, ih.p1, ih.p2, ih.m0, by have := ih.m1; omega⟩
theorem a_ok : ∀ n, n ≤ N → okM a b (aP a b T K O L n) (aQ a b T K O L n) (aM a b T K O L n) (1024 * (n : Int))
  | 0, _ => by
    rw [(a_0 a b T K O L).1, (a_0 a b T K O L).2.1, (a_0 a b T K O L).2.2]
    exact ⟨by simp, by simp, wf_rep a, wf_rep b, by omega, by omega⟩
  | n + 1, h => by
    have := c_ok a b T K O L hL n (by omega) _ (a_ok n (by omega)) (min (L n).length 1024)
    obtain ⟨e1, e2, e3⟩ := a_s a b T K O L n
    rw [e1, e2, e3]
    exact ⟨this.l1, this.l2, this.p1, this.p2, this.m0, by have := this.m1; omega⟩
end
noncomputable def pt_Cm : List (Nat × (List SV → Option (List Prop × SV))) := []
theorem pt_Cm_ok : PureOK Tryd.prog (fun f => List.lookup f pt_Cm) := pure_list pt_Cm trivial
noncomputable abbrev cx_Cm (must : Nat → Option Bool := fun _ => none) (loop : Nat → SS → Option LoopSpec := fun _ _ => none) (fz : Nat → SS → List Nat := fun _ _ => []) (on : Bool := false) : Ctx := ⟨tab, inl tab (fun f => List.lookup f pt_Cm) fns (fun _ => {}) 1000 4, fun f => List.lookup f pt_Cm, must, loop, 0, 0, fun _ => none, fz, on⟩
theorem cx_Cm_ok (must : Nat → Option Bool) (loop : Nat → SS → Option LoopSpec) (fz : Nat → SS → List Nat) (on : Bool) : CxOK Tryd.prog (cx_Cm must loop fz on) := inl_ok mixed tab_ok pt_Cm_ok fns_ok 4 _ _ _ _ _ _
theorem size10_ok (x : Int)  : PureSem Tryd.prog 50 [.int .i64 x] (.int .i64 (1 + x % 8)) := by
  refine pure_intro mixed (cx_Cm_ok (fun _ => none) (fun _ _ => none) (fun _ _ => []) false) Tryd.func50 1000 rfl rfl ?_
  refine of_nf (p := ((-9223372036854775808 : Int) <= x.tmod (8 : Int) + (8 : Int) /\ x.tmod (8 : Int) + (8 : Int) < (9223372036854775808 : Int)) /\ ((-9223372036854775808 : Int) <= (x.tmod (8 : Int) + (8 : Int)).tmod (8 : Int) + (1 : Int) /\ (x.tmod (8 : Int) + (8 : Int)).tmod (8 : Int) + (1 : Int) < (9223372036854775808 : Int)) /\ (x.tmod (8 : Int) + (8 : Int)).tmod (8 : Int) + (1 : Int) = (1 : Int) + x % 8) (by kernel_rfl) ?_
  have hm := Int.tmod_eq_emod (a := x) (b := 8)
  by_cases h0 : 0 ≤ x
  · rw [Int.tmod_eq_emod_of_nonneg h0, Int.tmod_eq_emod_of_nonneg (by omega)]
    exact ⟨⟨by omega, by omega⟩, ⟨by omega, by omega⟩, by omega⟩
  · have ht : -8 < x.tmod 8 ∧ x.tmod 8 ≤ 0 ∧ x.tmod 8 % 8 = x % 8 := by
      have e : x = -(-x) := by omega
      rw [e, Int.neg_tmod, Int.tmod_eq_emod_of_nonneg (by omega)]
      omega
    rw [Int.tmod_eq_emod_of_nonneg (a := x.tmod 8 + 8) (by omega)]
    exact ⟨⟨by omega, by omega⟩, ⟨by omega, by omega⟩, by omega⟩
noncomputable def c_size10 : List SV → Option (List Prop × SV)
  | [.int .i64 x] => some ([], .int .i64 (1 + x % 8))
  | _ => none
theorem c_size10_e : PEntry Tryd.prog 50 c_size10 := by
  refine ⟨callFunc_ok Tryd.func50 (by kernel_rfl) (by kernel_rfl), fun args ps v h hp => ?_⟩
  unfold c_size10 at h
  split at h
  · cases h; exact size10_ok _ 
  · cases h
theorem num10_ok (x : Int)  : PureSem Tryd.prog 18 [.int .i64 x] (.int .i64 x) := by
  refine pure_intro mixed (cx_Cm_ok (fun _ => none) (fun _ _ => none) (fun _ _ => []) false) Tryd.func18 1000 rfl rfl ?_
  refine of_nf (p := x = x) (by kernel_rfl) ?_
  trivial
noncomputable def c_num10 : List SV → Option (List Prop × SV)
  | [.int .i64 x] => some ([], .int .i64 x)
  | _ => none
theorem c_num10_e : PEntry Tryd.prog 18 c_num10 := by
  refine ⟨callFunc_ok Tryd.func18 (by kernel_rfl) (by kernel_rfl), fun args ps v h hp => ?_⟩
  unfold c_num10 at h
  split at h
  · cases h; exact num10_ok _ 
  · cases h
noncomputable def pt_Cn : List (Nat × (List SV → Option (List Prop × SV))) := [(50, c_size10), (18, c_num10)]
theorem pt_Cn_ok : PureOK Tryd.prog (fun f => List.lookup f pt_Cn) := pure_list pt_Cn ⟨c_size10_e, c_num10_e, trivial⟩
noncomputable def et_Cn : List (Nat × ECon) := [(38, c_New1), (21, c_WriteM)]
theorem et_Cn_ok : ConOK Tryd.prog (fun f => List.lookup f et_Cn) := con_list et_Cn ⟨c_New1_e, c_WriteM_e, trivial⟩
noncomputable abbrev cx_Cn (must : Nat → Option Bool := fun _ => none) (loop : Nat → SS → Option LoopSpec := fun _ _ => none) (fz : Nat → SS → List Nat := fun _ _ => []) (on : Bool := false) : Ctx := ⟨tab, inlG tab (fun f => List.lookup f pt_Cn) (fun f => List.lookup f et_Cn) fns (fun _ => {}) 1000 4, fun f => List.lookup f pt_Cn, must, loop, 0, 0, fun f => List.lookup f et_Cn, fz, on⟩
theorem cx_Cn_ok (must : Nat → Option Bool) (loop : Nat → SS → Option LoopSpec) (fz : Nat → SS → List Nat) (on : Bool) : CxOK Tryd.prog (cx_Cn must loop fz on) := inlG_ok mixed tab_ok pt_Cn_ok et_Cn_ok fns_ok 4 _ _ _ _ _ _
theorem madeX_ok (s i : Int) (v : Value) (n : Nat) (T : Nat → Bool) (K O : Nat → Int) (VF : Nat → Value) (L : Nat → List Int) (l1 : Int) (R : List Int) (pc : Int) (z f l : Bool) (h0 : n ≤ 1048576) (h1 : (∀ e, e < n → ∀ x ∈ L e, InK .u32 x)) : SemCall Tryd.prog 10 [.agg [.int .i64 s, .int .i64 i, .rs 4 v n (fun e => [.bool (T e), .int .i64 (K e), .int .i64 (O e), .rd .u32 (VF e) (L e)]), .int .i64 l1, .ints .u32 15 R, .int .u32 pc, .bool z, .bool f, .bool l]] [] (AltK [⟨none, .ptr 0 0, [some ⟨120, [], 0, some (.own (.mem (aP (1 + s % 8).toNat (1 + i % 8).toNat T K O L n) (aQ (1 + s % 8).toNat (1 + i % 8).toNat T K O L n) (aM (1 + s % 8).toNat (1 + i % 8).toNat T K O L n)))⟩]⟩]) := by
  refine con_intro mixed (cx_Cn_ok (fun _ => none) (fun q w_ => bif Nat.beq q 5 then some ⟨Nat, fun k => ⟨[(1, .ptr 0 0), (3, .ptr 1 0), (5, .int .i64 (k : Int))], [some ⟨28, [.int .i64 s, .int .i64 i, .rs 4 v n (fun e => [.bool (T e), .int .i64 (K e), .int .i64 (O e), .rd .u32 (VF e) (L e)]), .int .i64 l1, .ints .u32 15 R, .int .u32 pc, .bool z, .bool f, .bool l], 0, none⟩, some ⟨120, [], 0, some (.own (.mem (aP (1 + s % 8).toNat (1 + i % 8).toNat T K O L k) (aQ (1 + s % 8).toNat (1 + i % 8).toNat T K O L k) (aM (1 + s % 8).toNat (1 + i % 8).toNat T K O L k)))⟩]⟩, fun k => k ≤ n, fun k => n - k⟩ else bif Nat.beq q 9 then atI w_ 5 (fun v_ => some ⟨Nat, fun j => ⟨[(1, .ptr 0 0), (3, .ptr 1 0), (5, .int .i64 v_), (6, .ptr 2 0), (7, .int .i64 (j : Int))], [some ⟨28, [.int .i64 s, .int .i64 i, .rs 4 v n (fun e => [.bool (T e), .int .i64 (K e), .int .i64 (O e), .rd .u32 (VF e) (L e)]), .int .i64 l1, .ints .u32 15 R, .int .u32 pc, .bool z, .bool f, .bool l], 0, none⟩, some ⟨120, [], 0, some (.own (.mem (cP (1 + s % 8).toNat (1 + i % 8).toNat T K O L v_.toNat j) (cQ (1 + s % 8).toNat (1 + i % 8).toNat T K O L v_.toNat j) (cM (1 + s % 8).toNat (1 + i % 8).toNat T K O L v_.toNat j)))⟩, some ⟨115, [.bool (T v_.toNat), .int .i64 (K v_.toNat), .int .i64 (O v_.toNat), .rd .u32 (VF v_.toNat) (L v_.toNat)], 0, none⟩]⟩, fun j => j ≤ min (L v_.toNat).length 1024, fun j => 1024 - j⟩) else none) (fun _ _ => []) false) Tryd.func10 1000 ?_
  refine of_nf (p := inN ((1 : Int) + s % 8) ((1 : Int) + i % 8) = true /\ (false = true -> (SV.val (Value.pointer none) = SV.ptr (0 : Nat) (0 : Nat) /\ True) /\ False /\ True) /\ (false = false -> ∃ (x : Nat), ((SV.ptr (0 : Nat) 0 = SV.ptr (0 : Nat) (0 : Nat) /\ SV.ptr (1 : Nat) 0 = SV.ptr (1 : Nat) (0 : Nat) /\ (0 : Int) = ((x : Nat) : Int) /\ True) /\ (nat_lit 27 + (1 : Nat) = (28 : TypeId) /\ (0 : Nat) = (0 : Nat) /\ s = s /\ i = i /\ ((SV.rs (4 : Nat) v n fun (e : Nat) => [SV.bool (T e), SV.int IntKind.i64 (K e), SV.int IntKind.i64 (O e), SV.rd IntKind.u32 (VF e) (L e)]) = SV.rs (4 : Nat) v n fun (e : Nat) => [SV.bool (T e), SV.int IntKind.i64 (K e), SV.int IntKind.i64 (O e), SV.rd IntKind.u32 (VF e) (L e)]) /\ l1 = l1 /\ R = R /\ pc = pc /\ z = z /\ f = f /\ l = l /\ True) /\ (Ob.own (OT.mem (List.replicate ((1 : Int) + s % 8).toNat (List.replicate (1024 : Nat) (0 : Int))) (List.replicate ((1 : Int) + i % 8).toNat (List.replicate (1024 : Nat) (0 : Int))) (0 : Int)) = Ob.own (OT.mem (aP ((1 : Int) + s % 8).toNat ((1 : Int) + i % 8).toNat T K O L x) (aQ ((1 : Int) + s % 8).toNat ((1 : Int) + i % 8).toNat T K O L x) (aM ((1 : Int) + s % 8).toNat ((1 : Int) + i % 8).toNat T K O L x)) /\ nat_lit 119 + (1 : Nat) = (120 : TypeId) /\ (0 : Nat) = (0 : Nat) /\ True) /\ True) /\ x.le n /\ ∀ (x : Nat), x.le n -> (decide (((x : Nat) : Int) < ((n : Nat) : Int)) = true -> (0 : Int) <= ((x : Nat) : Int) /\ ((x : Nat) : Int) < ((n : Nat) : Int) /\ ∃ (x_1 : Nat), ((SV.ptr (0 : Nat) 0 = SV.ptr (0 : Nat) (0 : Nat) /\ SV.ptr (1 : Nat) 0 = SV.ptr (1 : Nat) (0 : Nat) /\ ((x : Nat) : Int) = ((x : Nat) : Int) /\ SV.ptr (2 : Nat) 0 = SV.ptr (2 : Nat) (0 : Nat) /\ (0 : Int) = ((x_1 : Nat) : Int) /\ True) /\ (nat_lit 27 + (1 : Nat) = (28 : TypeId) /\ (0 : Nat) = (0 : Nat) /\ s = s /\ i = i /\ ((SV.rs (4 : Nat) v n fun (e : Nat) => [SV.bool (T e), SV.int IntKind.i64 (K e), SV.int IntKind.i64 (O e), SV.rd IntKind.u32 (VF e) (L e)]) = SV.rs (4 : Nat) v n fun (e : Nat) => [SV.bool (T e), SV.int IntKind.i64 (K e), SV.int IntKind.i64 (O e), SV.rd IntKind.u32 (VF e) (L e)]) /\ l1 = l1 /\ R = R /\ pc = pc /\ z = z /\ f = f /\ l = l /\ True) /\ (Ob.own (OT.mem (aP ((1 : Int) + s % 8).toNat ((1 : Int) + i % 8).toNat T K O L x) (aQ ((1 : Int) + s % 8).toNat ((1 : Int) + i % 8).toNat T K O L x) (aM ((1 : Int) + s % 8).toNat ((1 : Int) + i % 8).toNat T K O L x)) = Ob.own (OT.mem (cP ((1 : Int) + s % 8).toNat ((1 : Int) + i % 8).toNat T K O L (((x : Nat) : Int)).toNat x_1) (cQ ((1 : Int) + s % 8).toNat ((1 : Int) + i % 8).toNat T K O L (((x : Nat) : Int)).toNat x_1) (cM ((1 : Int) + s % 8).toNat ((1 : Int) + i % 8).toNat T K O L (((x : Nat) : Int)).toNat x_1)) /\ nat_lit 119 + (1 : Nat) = (120 : TypeId) /\ (0 : Nat) = (0 : Nat) /\ True) /\ (nat_lit 114 + (1 : Nat) = (115 : TypeId) /\ (0 : Nat) = (0 : Nat) /\ T (((x : Nat) : Int)).toNat = T (((x : Nat) : Int)).toNat /\ K (((x : Nat) : Int)).toNat = K (((x : Nat) : Int)).toNat /\ O (((x : Nat) : Int)).toNat = O (((x : Nat) : Int)).toNat /\ (VF (((x : Nat) : Int)).toNat = VF (((x : Nat) : Int)).toNat /\ L (((x : Nat) : Int)).toNat = L (((x : Nat) : Int)).toNat) /\ True) /\ True) /\ x_1.le (min (L (((x : Nat) : Int)).toNat).length (1024 : Nat)) /\ ∀ (x_2 : Nat), x_2.le (min (L (((x : Nat) : Int)).toNat).length (1024 : Nat)) -> (decide (((x_2 : Nat) : Int) < (((L (((x : Nat) : Int)).toNat).length : Nat) : Int)) = true -> (decide (((x_2 : Nat) : Int) < 1024) = true -> (decide (0 <= O (((x : Nat) : Int)).toNat) = true -> (decide (O (((x : Nat) : Int)).toNat < 1024) = true -> ((-9223372036854775808 : Int) <= O (((x : Nat) : Int)).toNat + ((x_2 : Nat) : Int) /\ O (((x : Nat) : Int)).toNat + ((x_2 : Nat) : Int) < 9223372036854775808) /\ (0 : Int) <= ((x_2 : Nat) : Int) /\ ((x_2 : Nat) : Int) < (((L (((x : Nat) : Int)).toNat).length : Nat) : Int) /\ 0 <= cM ((1 : Int) + s % 8).toNat ((1 : Int) + i % 8).toNat T K O L (((x : Nat) : Int)).toNat x_2 /\ cM ((1 : Int) + s % 8).toNat ((1 : Int) + i % 8).toNat T K O L (((x : Nat) : Int)).toNat x_2 <= 4611686018427387904 /\ (∀ (p : List Int), p ∈ cP ((1 : Int) + s % 8).toNat ((1 : Int) + i % 8).toNat T K O L (((x : Nat) : Int)).toNat x_2 -> p.length = 1024) /\ (∀ (p : List Int), p ∈ cQ ((1 : Int) + s % 8).toNat ((1 : Int) + i % 8).toNat T K O L (((x : Nat) : Int)).toNat x_2 -> p.length = 1024) /\ ((-9223372036854775808 : Int) <= ((x_2 : Nat) : Int) + 1 /\ ((x_2 : Nat) : Int) + 1 < (9223372036854775808 : Int)) /\ ∃ (y : Nat), ((SV.ptr (0 : Nat) 0 = SV.ptr (0 : Nat) (0 : Nat) /\ SV.ptr (1 : Nat) 0 = SV.ptr (1 : Nat) (0 : Nat) /\ ((x : Nat) : Int) = ((x : Nat) : Int) /\ SV.ptr (2 : Nat) 0 = SV.ptr (2 : Nat) (0 : Nat) /\ ((x_2 : Nat) : Int) + 1 = ((y : Nat) : Int) /\ True) /\ (nat_lit 27 + (1 : Nat) = (28 : TypeId) /\ (0 : Nat) = (0 : Nat) /\ s = s /\ i = i /\ ((SV.rs (4 : Nat) v n fun (e : Nat) => [SV.bool (T e), SV.int IntKind.i64 (K e), SV.int IntKind.i64 (O e), SV.rd IntKind.u32 (VF e) (L e)]) = SV.rs (4 : Nat) v n fun (e : Nat) => [SV.bool (T e), SV.int IntKind.i64 (K e), SV.int IntKind.i64 (O e), SV.rd IntKind.u32 (VF e) (L e)]) /\ l1 = l1 /\ R = R /\ pc = pc /\ z = z /\ f = f /\ l = l /\ True) /\ (Ob.own (OT.mem (setP (T (((x : Nat) : Int)).toNat && okW (T (((x : Nat) : Int)).toNat) (K (((x : Nat) : Int)).toNat) (O (((x : Nat) : Int)).toNat + ((x_2 : Nat) : Int)) (cP ((1 : Int) + s % 8).toNat ((1 : Int) + i % 8).toNat T K O L (((x : Nat) : Int)).toNat x_2) (cQ ((1 : Int) + s % 8).toNat ((1 : Int) + i % 8).toNat T K O L (((x : Nat) : Int)).toNat x_2)) (K (((x : Nat) : Int)).toNat) ((pgAt (T (((x : Nat) : Int)).toNat) (K (((x : Nat) : Int)).toNat) (cP ((1 : Int) + s % 8).toNat ((1 : Int) + i % 8).toNat T K O L (((x : Nat) : Int)).toNat x_2) (cQ ((1 : Int) + s % 8).toNat ((1 : Int) + i % 8).toNat T K O L (((x : Nat) : Int)).toNat x_2)).set (O (((x : Nat) : Int)).toNat + ((x_2 : Nat) : Int)).toNat ((L (((x : Nat) : Int)).toNat).getD (((x_2 : Nat) : Int)).toNat (0 : Int))) (cP ((1 : Int) + s % 8).toNat ((1 : Int) + i % 8).toNat T K O L (((x : Nat) : Int)).toNat x_2)) (setP (!T (((x : Nat) : Int)).toNat && okW (T (((x : Nat) : Int)).toNat) (K (((x : Nat) : Int)).toNat) (O (((x : Nat) : Int)).toNat + ((x_2 : Nat) : Int)) (cP ((1 : Int) + s % 8).toNat ((1 : Int) + i % 8).toNat T K O L (((x : Nat) : Int)).toNat x_2) (cQ ((1 : Int) + s % 8).toNat ((1 : Int) + i % 8).toNat T K O L (((x : Nat) : Int)).toNat x_2)) (K (((x : Nat) : Int)).toNat) ((pgAt (T (((x : Nat) : Int)).toNat) (K (((x : Nat) : Int)).toNat) (cP ((1 : Int) + s % 8).toNat ((1 : Int) + i % 8).toNat T K O L (((x : Nat) : Int)).toNat x_2) (cQ ((1 : Int) + s % 8).toNat ((1 : Int) + i % 8).toNat T K O L (((x : Nat) : Int)).toNat x_2)).set (O (((x : Nat) : Int)).toNat + ((x_2 : Nat) : Int)).toNat ((L (((x : Nat) : Int)).toNat).getD (((x_2 : Nat) : Int)).toNat (0 : Int))) (cQ ((1 : Int) + s % 8).toNat ((1 : Int) + i % 8).toNat T K O L (((x : Nat) : Int)).toNat x_2)) (if okW (T (((x : Nat) : Int)).toNat) (K (((x : Nat) : Int)).toNat) (O (((x : Nat) : Int)).toNat + ((x_2 : Nat) : Int)) (cP ((1 : Int) + s % 8).toNat ((1 : Int) + i % 8).toNat T K O L (((x : Nat) : Int)).toNat x_2) (cQ ((1 : Int) + s % 8).toNat ((1 : Int) + i % 8).toNat T K O L (((x : Nat) : Int)).toNat x_2) = true then cM ((1 : Int) + s % 8).toNat ((1 : Int) + i % 8).toNat T K O L (((x : Nat) : Int)).toNat x_2 + 1 else cM ((1 : Int) + s % 8).toNat ((1 : Int) + i % 8).toNat T K O L (((x : Nat) : Int)).toNat x_2)) = Ob.own (OT.mem (cP ((1 : Int) + s % 8).toNat ((1 : Int) + i % 8).toNat T K O L (((x : Nat) : Int)).toNat y) (cQ ((1 : Int) + s % 8).toNat ((1 : Int) + i % 8).toNat T K O L (((x : Nat) : Int)).toNat y) (cM ((1 : Int) + s % 8).toNat ((1 : Int) + i % 8).toNat T K O L (((x : Nat) : Int)).toNat y)) /\ nat_lit 119 + (1 : Nat) = (120 : TypeId) /\ (0 : Nat) = (0 : Nat) /\ True) /\ (nat_lit 114 + (1 : Nat) = (115 : TypeId) /\ (0 : Nat) = (0 : Nat) /\ T (((x : Nat) : Int)).toNat = T (((x : Nat) : Int)).toNat /\ K (((x : Nat) : Int)).toNat = K (((x : Nat) : Int)).toNat /\ O (((x : Nat) : Int)).toNat = O (((x : Nat) : Int)).toNat /\ (VF (((x : Nat) : Int)).toNat = VF (((x : Nat) : Int)).toNat /\ L (((x : Nat) : Int)).toNat = L (((x : Nat) : Int)).toNat) /\ True) /\ True) /\ y.le (min (L (((x : Nat) : Int)).toNat).length (1024 : Nat)) /\ (1024 : Nat) - y < 1024 - x_2) /\ (decide (O (((x : Nat) : Int)).toNat < 1024) = false -> ((-9223372036854775808 : Int) <= ((x_2 : Nat) : Int) + 1 /\ ((x_2 : Nat) : Int) + 1 < (9223372036854775808 : Int)) /\ ∃ (y : Nat), ((SV.ptr (0 : Nat) 0 = SV.ptr (0 : Nat) (0 : Nat) /\ SV.ptr (1 : Nat) 0 = SV.ptr (1 : Nat) (0 : Nat) /\ ((x : Nat) : Int) = ((x : Nat) : Int) /\ SV.ptr (2 : Nat) 0 = SV.ptr (2 : Nat) (0 : Nat) /\ ((x_2 : Nat) : Int) + 1 = ((y : Nat) : Int) /\ True) /\ ((28 : TypeId) = (28 : TypeId) /\ (0 : Nat) = (0 : Nat) /\ s = s /\ i = i /\ ((SV.rs (4 : Nat) v n fun (e : Nat) => [SV.bool (T e), SV.int IntKind.i64 (K e), SV.int IntKind.i64 (O e), SV.rd IntKind.u32 (VF e) (L e)]) = SV.rs (4 : Nat) v n fun (e : Nat) => [SV.bool (T e), SV.int IntKind.i64 (K e), SV.int IntKind.i64 (O e), SV.rd IntKind.u32 (VF e) (L e)]) /\ l1 = l1 /\ R = R /\ pc = pc /\ z = z /\ f = f /\ l = l /\ True) /\ (Ob.own (OT.mem (cP ((1 : Int) + s % 8).toNat ((1 : Int) + i % 8).toNat T K O L (((x : Nat) : Int)).toNat x_2) (cQ ((1 : Int) + s % 8).toNat ((1 : Int) + i % 8).toNat T K O L (((x : Nat) : Int)).toNat x_2) (cM ((1 : Int) + s % 8).toNat ((1 : Int) + i % 8).toNat T K O L (((x : Nat) : Int)).toNat x_2)) = Ob.own (OT.mem (cP ((1 : Int) + s % 8).toNat ((1 : Int) + i % 8).toNat T K O L (((x : Nat) : Int)).toNat y) (cQ ((1 : Int) + s % 8).toNat ((1 : Int) + i % 8).toNat T K O L (((x : Nat) : Int)).toNat y) (cM ((1 : Int) + s % 8).toNat ((1 : Int) + i % 8).toNat T K O L (((x : Nat) : Int)).toNat y)) /\ (120 : TypeId) = (120 : TypeId) /\ (0 : Nat) = (0 : Nat) /\ True) /\ ((115 : TypeId) = (115 : TypeId) /\ (0 : Nat) = (0 : Nat) /\ T (((x : Nat) : Int)).toNat = T (((x : Nat) : Int)).toNat /\ K (((x : Nat) : Int)).toNat = K (((x : Nat) : Int)).toNat /\ O (((x : Nat) : Int)).toNat = O (((x : Nat) : Int)).toNat /\ (VF (((x : Nat) : Int)).toNat = VF (((x : Nat) : Int)).toNat /\ L (((x : Nat) : Int)).toNat = L (((x : Nat) : Int)).toNat) /\ True) /\ True) /\ y.le (min (L (((x : Nat) : Int)).toNat).length (1024 : Nat)) /\ (1024 : Nat) - y < 1024 - x_2)) /\ (decide (0 <= O (((x : Nat) : Int)).toNat) = false -> ((-9223372036854775808 : Int) <= ((x_2 : Nat) : Int) + 1 /\ ((x_2 : Nat) : Int) + 1 < (9223372036854775808 : Int)) /\ ∃ (y : Nat), ((SV.ptr (0 : Nat) 0 = SV.ptr (0 : Nat) (0 : Nat) /\ SV.ptr (1 : Nat) 0 = SV.ptr (1 : Nat) (0 : Nat) /\ ((x : Nat) : Int) = ((x : Nat) : Int) /\ SV.ptr (2 : Nat) 0 = SV.ptr (2 : Nat) (0 : Nat) /\ ((x_2 : Nat) : Int) + 1 = ((y : Nat) : Int) /\ True) /\ ((28 : TypeId) = (28 : TypeId) /\ (0 : Nat) = (0 : Nat) /\ s = s /\ i = i /\ ((SV.rs (4 : Nat) v n fun (e : Nat) => [SV.bool (T e), SV.int IntKind.i64 (K e), SV.int IntKind.i64 (O e), SV.rd IntKind.u32 (VF e) (L e)]) = SV.rs (4 : Nat) v n fun (e : Nat) => [SV.bool (T e), SV.int IntKind.i64 (K e), SV.int IntKind.i64 (O e), SV.rd IntKind.u32 (VF e) (L e)]) /\ l1 = l1 /\ R = R /\ pc = pc /\ z = z /\ f = f /\ l = l /\ True) /\ (Ob.own (OT.mem (cP ((1 : Int) + s % 8).toNat ((1 : Int) + i % 8).toNat T K O L (((x : Nat) : Int)).toNat x_2) (cQ ((1 : Int) + s % 8).toNat ((1 : Int) + i % 8).toNat T K O L (((x : Nat) : Int)).toNat x_2) (cM ((1 : Int) + s % 8).toNat ((1 : Int) + i % 8).toNat T K O L (((x : Nat) : Int)).toNat x_2)) = Ob.own (OT.mem (cP ((1 : Int) + s % 8).toNat ((1 : Int) + i % 8).toNat T K O L (((x : Nat) : Int)).toNat y) (cQ ((1 : Int) + s % 8).toNat ((1 : Int) + i % 8).toNat T K O L (((x : Nat) : Int)).toNat y) (cM ((1 : Int) + s % 8).toNat ((1 : Int) + i % 8).toNat T K O L (((x : Nat) : Int)).toNat y)) /\ (120 : TypeId) = (120 : TypeId) /\ (0 : Nat) = (0 : Nat) /\ True) /\ ((115 : TypeId) = (115 : TypeId) /\ (0 : Nat) = (0 : Nat) /\ T (((x : Nat) : Int)).toNat = T (((x : Nat) : Int)).toNat /\ K (((x : Nat) : Int)).toNat = K (((x : Nat) : Int)).toNat /\ O (((x : Nat) : Int)).toNat = O (((x : Nat) : Int)).toNat /\ (VF (((x : Nat) : Int)).toNat = VF (((x : Nat) : Int)).toNat /\ L (((x : Nat) : Int)).toNat = L (((x : Nat) : Int)).toNat) /\ True) /\ True) /\ y.le (min (L (((x : Nat) : Int)).toNat).length (1024 : Nat)) /\ (1024 : Nat) - y < 1024 - x_2)) /\ (decide (((x_2 : Nat) : Int) < 1024) = false -> ((-9223372036854775808 : Int) <= ((x : Nat) : Int) + 1 /\ ((x : Nat) : Int) + 1 < (9223372036854775808 : Int)) /\ ∃ (y : Nat), ((SV.ptr (0 : Nat) 0 = SV.ptr (0 : Nat) (0 : Nat) /\ SV.ptr (1 : Nat) 0 = SV.ptr (1 : Nat) (0 : Nat) /\ ((x : Nat) : Int) + 1 = ((y : Nat) : Int) /\ True) /\ ((28 : TypeId) = (28 : TypeId) /\ (0 : Nat) = (0 : Nat) /\ s = s /\ i = i /\ ((SV.rs (4 : Nat) v n fun (e : Nat) => [SV.bool (T e), SV.int IntKind.i64 (K e), SV.int IntKind.i64 (O e), SV.rd IntKind.u32 (VF e) (L e)]) = SV.rs (4 : Nat) v n fun (e : Nat) => [SV.bool (T e), SV.int IntKind.i64 (K e), SV.int IntKind.i64 (O e), SV.rd IntKind.u32 (VF e) (L e)]) /\ l1 = l1 /\ R = R /\ pc = pc /\ z = z /\ f = f /\ l = l /\ True) /\ (Ob.own (OT.mem (cP ((1 : Int) + s % 8).toNat ((1 : Int) + i % 8).toNat T K O L (((x : Nat) : Int)).toNat x_2) (cQ ((1 : Int) + s % 8).toNat ((1 : Int) + i % 8).toNat T K O L (((x : Nat) : Int)).toNat x_2) (cM ((1 : Int) + s % 8).toNat ((1 : Int) + i % 8).toNat T K O L (((x : Nat) : Int)).toNat x_2)) = Ob.own (OT.mem (aP ((1 : Int) + s % 8).toNat ((1 : Int) + i % 8).toNat T K O L y) (aQ ((1 : Int) + s % 8).toNat ((1 : Int) + i % 8).toNat T K O L y) (aM ((1 : Int) + s % 8).toNat ((1 : Int) + i % 8).toNat T K O L y)) /\ (120 : TypeId) = (120 : TypeId) /\ (0 : Nat) = (0 : Nat) /\ True) /\ True) /\ y.le n /\ n - y < n - x)) /\ (decide (((x_2 : Nat) : Int) < (((L (((x : Nat) : Int)).toNat).length : Nat) : Int)) = false -> ((-9223372036854775808 : Int) <= ((x : Nat) : Int) + 1 /\ ((x : Nat) : Int) + 1 < (9223372036854775808 : Int)) /\ ∃ (y : Nat), ((SV.ptr (0 : Nat) 0 = SV.ptr (0 : Nat) (0 : Nat) /\ SV.ptr (1 : Nat) 0 = SV.ptr (1 : Nat) (0 : Nat) /\ ((x : Nat) : Int) + 1 = ((y : Nat) : Int) /\ True) /\ ((28 : TypeId) = (28 : TypeId) /\ (0 : Nat) = (0 : Nat) /\ s = s /\ i = i /\ ((SV.rs (4 : Nat) v n fun (e : Nat) => [SV.bool (T e), SV.int IntKind.i64 (K e), SV.int IntKind.i64 (O e), SV.rd IntKind.u32 (VF e) (L e)]) = SV.rs (4 : Nat) v n fun (e : Nat) => [SV.bool (T e), SV.int IntKind.i64 (K e), SV.int IntKind.i64 (O e), SV.rd IntKind.u32 (VF e) (L e)]) /\ l1 = l1 /\ R = R /\ pc = pc /\ z = z /\ f = f /\ l = l /\ True) /\ (Ob.own (OT.mem (cP ((1 : Int) + s % 8).toNat ((1 : Int) + i % 8).toNat T K O L (((x : Nat) : Int)).toNat x_2) (cQ ((1 : Int) + s % 8).toNat ((1 : Int) + i % 8).toNat T K O L (((x : Nat) : Int)).toNat x_2) (cM ((1 : Int) + s % 8).toNat ((1 : Int) + i % 8).toNat T K O L (((x : Nat) : Int)).toNat x_2)) = Ob.own (OT.mem (aP ((1 : Int) + s % 8).toNat ((1 : Int) + i % 8).toNat T K O L y) (aQ ((1 : Int) + s % 8).toNat ((1 : Int) + i % 8).toNat T K O L y) (aM ((1 : Int) + s % 8).toNat ((1 : Int) + i % 8).toNat T K O L y)) /\ (120 : TypeId) = (120 : TypeId) /\ (0 : Nat) = (0 : Nat) /\ True) /\ True) /\ y.le n /\ n - y < n - x)) /\ (decide (((x : Nat) : Int) < ((n : Nat) : Int)) = false -> (SV.ptr (0 : Nat) 0 = SV.ptr (0 : Nat) (0 : Nat) /\ True) /\ (Ob.own (OT.mem (aP ((1 : Int) + s % 8).toNat ((1 : Int) + i % 8).toNat T K O L x) (aQ ((1 : Int) + s % 8).toNat ((1 : Int) + i % 8).toNat T K O L x) (aM ((1 : Int) + s % 8).toNat ((1 : Int) + i % 8).toNat T K O L x)) = Ob.own (OT.mem (aP ((1 : Int) + s % 8).toNat ((1 : Int) + i % 8).toNat T K O L n) (aQ ((1 : Int) + s % 8).toNat ((1 : Int) + i % 8).toNat T K O L n) (aM ((1 : Int) + s % 8).toNat ((1 : Int) + i % 8).toNat T K O L n)) /\ (120 : TypeId) = (120 : TypeId) /\ (0 : Nat) = (0 : Nat) /\ True) /\ True))) (by kernel_rfl) ?_
  have hin : inN (1 + s % 8) (1 + i % 8) = true := by unfold inN; simp; omega
  generalize (1 + s % 8).toNat = a at *
  generalize (1 + i % 8).toNat = b at *
  have hz := a_0 a b T K O L
  have hs := a_s a b T K O L
  have hc0 := c_0 a b T K O L
  have hok := a_ok a b T K O L (N := n) h1
  refine ⟨hin, fun h => (by cases h), fun _ => ⟨0, ?_, Nat.zero_le _, fun x hx => ⟨fun h => ?_, fun h => ?_⟩⟩⟩
  · repeat' (first | with_reducible rfl | exact True.intro | with_reducible assumption | apply And.intro)
    all_goals first | rfl | exact memEq hz.1.symm hz.2.1.symm hz.2.2.symm
  · have h := of_decide_eq_true h
    have hx : x ≤ n := hx
    have hy1 : x < n := by omega
    simp only [Int.toNat_natCast]
    refine ⟨by omega, h, 0, ?_, Nat.zero_le _, fun j hy => ⟨fun k1 => ⟨fun k2 => ⟨fun k3 => ⟨fun k4 => ?_, fun k4 => ?_⟩, fun k3 => ?_⟩, fun k2 => ?_⟩, fun k1 => ?_⟩⟩
    · repeat' (first | with_reducible rfl | exact True.intro | with_reducible assumption | apply And.intro)
      all_goals first | rfl | exact memEq (hc0 x).1.symm (hc0 x).2.1.symm (hc0 x).2.2.symm
    all_goals have hy2 : j ≤ min (L x).length 1024 := hy
    · have k1 := of_decide_eq_true k1
      have k2 := of_decide_eq_true k2
      have k3 := of_decide_eq_true k3
      have k4 := of_decide_eq_true k4
      have hj := c_ok a b T K O L (N := n) h1 x hy1 _ (hok x (by omega)) j
      obtain ⟨e1, e2, e3⟩ := c_s a b T K O L x j ⟨k3, k4⟩
      have hm1 := hj.m1
      refine ⟨⟨by omega, by omega⟩, by omega, k1, hj.m0, by omega, wfP_len hj.p1, wfP_len hj.p2, ⟨by omega, by omega⟩, j + 1, ?_, by show j + 1 ≤ min (L x).length 1024; omega, by omega⟩
      repeat' (first | with_reducible rfl | exact True.intro | with_reducible assumption | apply And.intro)
      all_goals first | rfl | exact memEq e1.symm e2.symm e3.symm
    iterate 2
      · have k1 := of_decide_eq_true k1
        have k2 := of_decide_eq_true k2
        have k9 : ¬ (0 ≤ O x ∧ O x < 1024) := fun ⟨q1, q2⟩ => by first | exact of_decide_eq_false k4 q2 | exact of_decide_eq_false k3 q1
        obtain ⟨e1, e2, e3⟩ := c_n a b T K O L x j k9
        refine ⟨⟨by omega, by omega⟩, j + 1, ?_, by show j + 1 ≤ min (L x).length 1024; omega, by omega⟩
        repeat' (first | with_reducible rfl | exact True.intro | with_reducible assumption | apply And.intro)
        all_goals first | rfl | exact memEq e1.symm e2.symm e3.symm
    iterate 2
      · have hj : j = min (L x).length 1024 := by
          first
            | (have k2 := of_decide_eq_false k2; omega)
            | (have k1 := of_decide_eq_false k1; omega)
        obtain ⟨e1, e2, e3⟩ := hs x
        refine ⟨⟨by omega, by omega⟩, x + 1, ?_, by show x + 1 ≤ n; omega, by omega⟩
        rw [← hj] at e1 e2 e3
        repeat' (first | with_reducible rfl | exact True.intro | with_reducible assumption | apply And.intro)
        all_goals first | rfl | exact memEq e1.symm e2.symm e3.symm
  · have h := of_decide_eq_false h
    have hx : x ≤ n := hx
    obtain rfl : x = n := by omega
    repeat' (first | with_reducible rfl | exact True.intro | with_reducible assumption | apply And.intro)
    all_goals rfl
end Go.Proofs.YtimjnajdpccjdaaDoor
