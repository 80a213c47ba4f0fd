/- Digests as objects. No condition beyond sizes. -/
import Derived.Test.YtheeaplnobdpoaaDoorShaD
namespace Go.Proofs.YtheeaplnobdpoaaDoor
open Go.RowKit Sx
set_option linter.unusedVariables false
set_option linter.unusedSimpArgs false
set_option maxRecDepth 100000
set_option maxHeartbeats 4000000
/-- What a digest saves. -/
def saveS (st : List Int) (n : Int) (xs : List Int) : List Int := st ++ [n / 4294967296 % 4294967296, n % 4294967296] ++ xs ++ List.replicate (16 - xs.length) 0
/-- Of a number that has two words: the number. -/
def numS (ws : List Int) : Int := ws.getD 8 0 * 4294967296 + ws.getD 9 0
/-- The eight words of a state. -/
def norm8 (st : List Int) : List Int := [st.getD 0 0, st.getD 1 0, st.getD 2 0, st.getD 3 0, st.getD 4 0, st.getD 5 0, st.getD 6 0, st.getD 7 0]
/-- A digest's state, and what waits, behind more words. -/
def addSt (st xs ws : List Int) : List Int := stA (norm8 st) (xs ++ ws) ((xs.length + ws.length) / 16)
def addWs (xs ws : List Int) : List Int := (xs ++ ws).drop (16 * ((xs.length + ws.length) / 16))
theorem addWs_len (xs ws : List Int) : (addWs xs ws).length = (xs.length + ws.length) % 16 := by
  unfold addWs
  rw [List.length_drop, List.length_append]
  omega
theorem saveS_len {st xs : List Int} {n : Int} (h : st.length = 8) (h2 : xs.length ≤ 16) : (saveS st n xs).length = 26 := by simp [saveS, h]; omega
noncomputable def pt_sm : List (Nat × (List SV → Option (List Prop × SV))) := []
theorem pt_sm_ok : PureOK Tryd.prog (fun f => List.lookup f pt_sm) := pure_list pt_sm trivial
noncomputable def et_sm : List (Nat × ECon) := [(89, c_end)]
theorem et_sm_ok : ConOK Tryd.prog (fun f => List.lookup f et_sm) := con_list et_sm ⟨c_end_e, trivial⟩
noncomputable abbrev cx_sm (must : Nat → Option Bool := fun _ => none) (loop : Nat → SS → Option LoopSpec := fun _ _ => none) : Ctx := ⟨tab, inlC tab (fun f => List.lookup f pt_sm) (fun f => List.lookup f et_sm) fns (fun _ => {}) 1000 6, fun f => List.lookup f pt_sm, must, loop, 0, 0, fun f => List.lookup f et_sm⟩
theorem cx_sm_ok (must : Nat → Option Bool) (loop : Nat → SS → Option LoopSpec) : CxOK Tryd.prog (cx_sm must loop) := inlC_ok mixed tab_ok pt_sm_ok et_sm_ok fns_ok 6 _ _ _ _
theorem New_ok   : SemCall Tryd.prog 78 [] [] (AltK [⟨none, .ptr 0 0, [some ⟨123, [.int .u32 1779033703, .int .u32 3144134277, .int .u32 1013904242, .int .u32 2773480762, .int .u32 1359893119, .int .u32 2600822924, .int .u32 528734635, .int .u32 1541459225, .int .i64 0, .on 1 0 true], 0, none⟩, some ⟨28, [.ints .u32 0 []], 1, none⟩]⟩]) := by
  refine con_intro mixed (cx_sm_ok (fun _ => none) (fun _ _ => none)) Tryd.func78 1000 ?_
  refine of_nf (p := (SV.ptr (0 : Nat) (0 : Nat) = SV.ptr (0 : Nat) (0 : Nat) ∧ True) ∧ ((123 : Nat) = (123 : Nat) ∧ (0 : Nat) = (0 : Nat) ∧ (1779033703 : Int) = (1779033703 : Int) ∧ (3144134277 : Int) = (3144134277 : Int) ∧ (1013904242 : Int) = (1013904242 : Int) ∧ (2773480762 : Int) = (2773480762 : Int) ∧ (1359893119 : Int) = (1359893119 : Int) ∧ (2600822924 : Int) = (2600822924 : Int) ∧ (528734635 : Int) = (528734635 : Int) ∧ (1541459225 : Int) = (1541459225 : Int) ∧ (0 : Int) = (0 : Int) ∧ ((0 : Nat) = (0 : Nat) ∧ true = true) ∧ True) ∧ ((28 : Nat) = (28 : Nat) ∧ (1 : Nat) = (1 : Nat) ∧ ([] : List Int) = [] ∧ True) ∧ True) (by kernel_rfl) ?_
  repeat' (first | with_reducible rfl | exact True.intro | apply And.intro | (intro _h; cases _h; done) | exact OwnSame.mk fun _ => rfl | exact OwnSameE.mk fun _ => rfl | intro _h | apply pieceEq)
noncomputable def c_New : ECon
  | [], [] => some ([], [⟨none, .ptr 0 0, [some ⟨123, [.int .u32 1779033703, .int .u32 3144134277, .int .u32 1013904242, .int .u32 2773480762, .int .u32 1359893119, .int .u32 2600822924, .int .u32 528734635, .int .u32 1541459225, .int .i64 0, .on 1 0 true], 0, none⟩, some ⟨28, [.ints .u32 0 []], 1, none⟩]⟩])
  | _, _ => none
theorem c_New_e : EEntry Tryd.prog 78 c_New := by
  refine ⟨callFunc_ok Tryd.func78 (by kernel_rfl) (by kernel_rfl), fun args rows ps alts h hp => ?_⟩
  unfold c_New at h
  split at h
  · cases h; exact New_ok  
  · cases h
theorem DSum_ok (a0 a1 a2 a3 a4 a5 a6 a7 n : Int) (len : Nat) (z : Bool) (m : Nat) (xs : List Int) (h0 : len = m) (h1 : xs.length = m) (h2 : m < 16) (h3 : 0 ≤ n) (h4 : n ≤ 36028797018963968) : SemCall Tryd.prog 65 [.ptr 0 0] [some ⟨123, [.int .u32 a0, .int .u32 a1, .int .u32 a2, .int .u32 a3, .int .u32 a4, .int .u32 a5, .int .u32 a6, .int .u32 a7, .int .i64 n, .on 1 len z], 0, none⟩, some ⟨28, [.ints .u32 m xs], 1, none⟩] (AltK [⟨none, .agg [.int .u32 ((endS [a0, a1, a2, a3, a4, a5, a6, a7] xs 2147483648 (32 * n)).getD 0 0), .int .u32 ((endS [a0, a1, a2, a3, a4, a5, a6, a7] xs 2147483648 (32 * n)).getD 1 0), .int .u32 ((endS [a0, a1, a2, a3, a4, a5, a6, a7] xs 2147483648 (32 * n)).getD 2 0), .int .u32 ((endS [a0, a1, a2, a3, a4, a5, a6, a7] xs 2147483648 (32 * n)).getD 3 0), .int .u32 ((endS [a0, a1, a2, a3, a4, a5, a6, a7] xs 2147483648 (32 * n)).getD 4 0), .int .u32 ((endS [a0, a1, a2, a3, a4, a5, a6, a7] xs 2147483648 (32 * n)).getD 5 0), .int .u32 ((endS [a0, a1, a2, a3, a4, a5, a6, a7] xs 2147483648 (32 * n)).getD 6 0), .int .u32 ((endS [a0, a1, a2, a3, a4, a5, a6, a7] xs 2147483648 (32 * n)).getD 7 0)], [some ⟨123, [.int .u32 a0, .int .u32 a1, .int .u32 a2, .int .u32 a3, .int .u32 a4, .int .u32 a5, .int .u32 a6, .int .u32 a7, .int .i64 n, .on 1 len z], 0, none⟩, some ⟨28, [.ints .u32 m xs], 1, none⟩]⟩]) := by
  refine con_intro mixed (cx_sm_ok (fun _ => none) (fun _ _ => none)) Tryd.func65 1000 ?_
  refine of_nf (p := ((0 : Int) ≤ IntKind.u64.wrap ((32 : Int) * IntKind.u64.wrap n) ∧ IntKind.u64.wrap ((32 : Int) * IntKind.u64.wrap n) < (18446744073709551616 : Int)) ∧ len = m ∧ xs.length = m ∧ m < (16 : Nat) ∧ (((endS [a0, a1, a2, a3, a4, a5, a6, a7] xs (2147483648 : Int) (IntKind.u64.wrap ((32 : Int) * IntKind.u64.wrap n))).getD (0 : Nat) (0 : Int) = (endS [a0, a1, a2, a3, a4, a5, a6, a7] xs (2147483648 : Int) ((32 : Int) * n)).getD (0 : Nat) (0 : Int) ∧ (endS [a0, a1, a2, a3, a4, a5, a6, a7] xs (2147483648 : Int) (IntKind.u64.wrap ((32 : Int) * IntKind.u64.wrap n))).getD (1 : Nat) (0 : Int) = (endS [a0, a1, a2, a3, a4, a5, a6, a7] xs (2147483648 : Int) ((32 : Int) * n)).getD (1 : Nat) (0 : Int) ∧ (endS [a0, a1, a2, a3, a4, a5, a6, a7] xs (2147483648 : Int) (IntKind.u64.wrap ((32 : Int) * IntKind.u64.wrap n))).getD (2 : Nat) (0 : Int) = (endS [a0, a1, a2, a3, a4, a5, a6, a7] xs (2147483648 : Int) ((32 : Int) * n)).getD (2 : Nat) (0 : Int) ∧ (endS [a0, a1, a2, a3, a4, a5, a6, a7] xs (2147483648 : Int) (IntKind.u64.wrap ((32 : Int) * IntKind.u64.wrap n))).getD (3 : Nat) (0 : Int) = (endS [a0, a1, a2, a3, a4, a5, a6, a7] xs (2147483648 : Int) ((32 : Int) * n)).getD (3 : Nat) (0 : Int) ∧ (endS [a0, a1, a2, a3, a4, a5, a6, a7] xs (2147483648 : Int) (IntKind.u64.wrap ((32 : Int) * IntKind.u64.wrap n))).getD (4 : Nat) (0 : Int) = (endS [a0, a1, a2, a3, a4, a5, a6, a7] xs (2147483648 : Int) ((32 : Int) * n)).getD (4 : Nat) (0 : Int) ∧ (endS [a0, a1, a2, a3, a4, a5, a6, a7] xs (2147483648 : Int) (IntKind.u64.wrap ((32 : Int) * IntKind.u64.wrap n))).getD (5 : Nat) (0 : Int) = (endS [a0, a1, a2, a3, a4, a5, a6, a7] xs (2147483648 : Int) ((32 : Int) * n)).getD (5 : Nat) (0 : Int) ∧ (endS [a0, a1, a2, a3, a4, a5, a6, a7] xs (2147483648 : Int) (IntKind.u64.wrap ((32 : Int) * IntKind.u64.wrap n))).getD (6 : Nat) (0 : Int) = (endS [a0, a1, a2, a3, a4, a5, a6, a7] xs (2147483648 : Int) ((32 : Int) * n)).getD (6 : Nat) (0 : Int) ∧ (endS [a0, a1, a2, a3, a4, a5, a6, a7] xs (2147483648 : Int) (IntKind.u64.wrap ((32 : Int) * IntKind.u64.wrap n))).getD (7 : Nat) (0 : Int) = (endS [a0, a1, a2, a3, a4, a5, a6, a7] xs (2147483648 : Int) ((32 : Int) * n)).getD (7 : Nat) (0 : Int) ∧ True) ∧ True) ∧ (nat_lit 122 + (1 : Nat) = (123 : TypeId) ∧ (0 : Nat) = (0 : Nat) ∧ a0 = a0 ∧ a1 = a1 ∧ a2 = a2 ∧ a3 = a3 ∧ a4 = a4 ∧ a5 = a5 ∧ a6 = a6 ∧ a7 = a7 ∧ n = n ∧ (len = len ∧ z = z) ∧ True) ∧ (nat_lit 27 + (1 : Nat) = (28 : TypeId) ∧ nat_lit 0 + (1 : Nat) = (1 : Nat) ∧ @Bool.rec (fun _ => Prop) False (xs = xs) (true && m.beq m) ∧ True) ∧ True) (by kernel_rfl) ?_
  have e1 : IntKind.u64.wrap n = n := w_u64 (by omega)
  have e2 : IntKind.u64.wrap (32 * n) = 32 * n := w_u64 (by omega)
  simp only [e1, e2]
  repeat' (first | with_reducible rfl | exact True.intro | apply And.intro | (intro _h; cases _h; done) | exact OwnSame.mk fun _ => rfl | exact OwnSameE.mk fun _ => rfl | intro _h | apply pieceEq)
  all_goals (first | exact True.intro | omega)
noncomputable def c_DSum : ECon
  | [.ptr 0 0], [some ⟨123, [.int .u32 a0, .int .u32 a1, .int .u32 a2, .int .u32 a3, .int .u32 a4, .int .u32 a5, .int .u32 a6, .int .u32 a7, .int .i64 n, .on 1 len z], 0, none⟩, some ⟨28, [.ints .u32 m xs], 1, none⟩] => some ([len = m, xs.length = m, m < 16, 0 ≤ n, n ≤ 36028797018963968], [⟨none, .agg [.int .u32 ((endS [a0, a1, a2, a3, a4, a5, a6, a7] xs 2147483648 (32 * n)).getD 0 0), .int .u32 ((endS [a0, a1, a2, a3, a4, a5, a6, a7] xs 2147483648 (32 * n)).getD 1 0), .int .u32 ((endS [a0, a1, a2, a3, a4, a5, a6, a7] xs 2147483648 (32 * n)).getD 2 0), .int .u32 ((endS [a0, a1, a2, a3, a4, a5, a6, a7] xs 2147483648 (32 * n)).getD 3 0), .int .u32 ((endS [a0, a1, a2, a3, a4, a5, a6, a7] xs 2147483648 (32 * n)).getD 4 0), .int .u32 ((endS [a0, a1, a2, a3, a4, a5, a6, a7] xs 2147483648 (32 * n)).getD 5 0), .int .u32 ((endS [a0, a1, a2, a3, a4, a5, a6, a7] xs 2147483648 (32 * n)).getD 6 0), .int .u32 ((endS [a0, a1, a2, a3, a4, a5, a6, a7] xs 2147483648 (32 * n)).getD 7 0)], [some ⟨123, [.int .u32 a0, .int .u32 a1, .int .u32 a2, .int .u32 a3, .int .u32 a4, .int .u32 a5, .int .u32 a6, .int .u32 a7, .int .i64 n, .on 1 len z], 0, none⟩, some ⟨28, [.ints .u32 m xs], 1, none⟩]⟩])
  | _, _ => none
theorem c_DSum_e : EEntry Tryd.prog 65 c_DSum := by
  refine ⟨callFunc_ok Tryd.func65 (by kernel_rfl) (by kernel_rfl), fun args rows ps alts h hp => ?_⟩
  unfold c_DSum at h
  split at h
  · cases h; exact DSum_ok _ _ _ _ _ _ _ _ _ _ _ _ _ (hp _ (List.mem_of_getElem? (i := 0) rfl)) (hp _ (List.mem_of_getElem? (i := 1) rfl)) (hp _ (List.mem_of_getElem? (i := 2) rfl)) (hp _ (List.mem_of_getElem? (i := 3) rfl)) (hp _ (List.mem_of_getElem? (i := 4) rfl))
  · cases h
theorem Copy_ok (a0 a1 a2 a3 a4 a5 a6 a7 n : Int) (len : Nat) (z : Bool) (m : Nat) (xs : List Int) (h0 : len = m) (h1 : xs.length = m) (h2 : m < 16) : SemCall Tryd.prog 66 [.ptr 0 0] [some ⟨123, [.int .u32 a0, .int .u32 a1, .int .u32 a2, .int .u32 a3, .int .u32 a4, .int .u32 a5, .int .u32 a6, .int .u32 a7, .int .i64 n, .on 1 len z], 0, none⟩, some ⟨28, [.ints .u32 m xs], 1, none⟩] (AltK [⟨none, .ptr 2 0, [some ⟨123, [.int .u32 a0, .int .u32 a1, .int .u32 a2, .int .u32 a3, .int .u32 a4, .int .u32 a5, .int .u32 a6, .int .u32 a7, .int .i64 n, .on 1 len z], 0, none⟩, some ⟨28, [.ints .u32 m xs], 1, none⟩, some ⟨123, [.int .u32 a0, .int .u32 a1, .int .u32 a2, .int .u32 a3, .int .u32 a4, .int .u32 a5, .int .u32 a6, .int .u32 a7, .int .i64 n, .on 3 len true], 0, none⟩, some ⟨28, [.ints .u32 len xs], 1, none⟩]⟩]) := by
  refine con_intro mixed (cx_sm_ok (fun _ => none) (fun _ _ => none)) Tryd.func66 1000 ?_
  refine of_nf (p := len = m ∧ xs.length = m ∧ len ≤ (68719476736 : Nat) ∧ (SV.ptr (2 : Nat) (0 : Nat) = SV.ptr (2 : Nat) (0 : Nat) ∧ True) ∧ (nat_lit 122 + (1 : Nat) = (123 : TypeId) ∧ (0 : Nat) = (0 : Nat) ∧ a0 = a0 ∧ a1 = a1 ∧ a2 = a2 ∧ a3 = a3 ∧ a4 = a4 ∧ a5 = a5 ∧ a6 = a6 ∧ a7 = a7 ∧ n = n ∧ (len = len ∧ z = z) ∧ True) ∧ (nat_lit 27 + (1 : Nat) = (28 : TypeId) ∧ nat_lit 0 + (1 : Nat) = (1 : Nat) ∧ @Bool.rec (fun _ => Prop) False (xs = xs) (true && m.beq m) ∧ True) ∧ (nat_lit 122 + (1 : Nat) = (123 : TypeId) ∧ (0 : Nat) = (0 : Nat) ∧ a0 = a0 ∧ a1 = a1 ∧ a2 = a2 ∧ a3 = a3 ∧ a4 = a4 ∧ a5 = a5 ∧ a6 = a6 ∧ a7 = a7 ∧ n = n ∧ (len = len ∧ true = true) ∧ True) ∧ (nat_lit 27 + (1 : Nat) = (28 : TypeId) ∧ nat_lit 0 + (1 : Nat) = (1 : Nat) ∧ @Bool.rec (fun _ => Prop) False (xs = xs) (true && len.beq len) ∧ True) ∧ True) (by kernel_rfl) ?_
  repeat' (first | with_reducible rfl | exact True.intro | apply And.intro | (intro _h; cases _h; done) | exact OwnSame.mk fun _ => rfl | exact OwnSameE.mk fun _ => rfl | intro _h | apply pieceEq)
  all_goals (first | exact True.intro | omega | (rw [List.drop_zero, List.take_of_length_le (by omega)]; done))
noncomputable def c_Copy : ECon
  | [.ptr 0 0], [some ⟨123, [.int .u32 a0, .int .u32 a1, .int .u32 a2, .int .u32 a3, .int .u32 a4, .int .u32 a5, .int .u32 a6, .int .u32 a7, .int .i64 n, .on 1 len z], 0, none⟩, some ⟨28, [.ints .u32 m xs], 1, none⟩] => some ([len = m, xs.length = m, m < 16], [⟨none, .ptr 2 0, [some ⟨123, [.int .u32 a0, .int .u32 a1, .int .u32 a2, .int .u32 a3, .int .u32 a4, .int .u32 a5, .int .u32 a6, .int .u32 a7, .int .i64 n, .on 1 len z], 0, none⟩, some ⟨28, [.ints .u32 m xs], 1, none⟩, some ⟨123, [.int .u32 a0, .int .u32 a1, .int .u32 a2, .int .u32 a3, .int .u32 a4, .int .u32 a5, .int .u32 a6, .int .u32 a7, .int .i64 n, .on 3 len true], 0, none⟩, some ⟨28, [.ints .u32 len xs], 1, none⟩]⟩])
  | _, _ => none
theorem c_Copy_e : EEntry Tryd.prog 66 c_Copy := by
  refine ⟨callFunc_ok Tryd.func66 (by kernel_rfl) (by kernel_rfl), fun args rows ps alts h hp => ?_⟩
  unfold c_Copy at h
  split at h
  · cases h; exact Copy_ok _ _ _ _ _ _ _ _ _ _ _ _ _ (hp _ (List.mem_of_getElem? (i := 0) rfl)) (hp _ (List.mem_of_getElem? (i := 1) rfl)) (hp _ (List.mem_of_getElem? (i := 2) rfl))
  · cases h
theorem Save_ok (a0 a1 a2 a3 a4 a5 a6 a7 n : Int) (len : Nat) (z : Bool) (m : Nat) (xs : List Int) (h0 : len = m) (h1 : xs.length = m) (h2 : m < 16) (h3 : 0 ≤ n) (h4 : n ≤ 36028797018963968) : SemCall Tryd.prog 79 [.ptr 0 0] [some ⟨123, [.int .u32 a0, .int .u32 a1, .int .u32 a2, .int .u32 a3, .int .u32 a4, .int .u32 a5, .int .u32 a6, .int .u32 a7, .int .i64 n, .on 1 len z], 0, none⟩, some ⟨28, [.ints .u32 m xs], 1, none⟩] (AltK [⟨none, .agg [.ints .u32 26 (saveS [a0, a1, a2, a3, a4, a5, a6, a7] n xs)], [some ⟨123, [.int .u32 a0, .int .u32 a1, .int .u32 a2, .int .u32 a3, .int .u32 a4, .int .u32 a5, .int .u32 a6, .int .u32 a7, .int .i64 n, .on 1 len z], 0, none⟩, some ⟨28, [.ints .u32 m xs], 1, none⟩]⟩]) := by
  refine con_intro mixed (cx_sm_ok (fun _ => none) (fun _ _ => none)) Tryd.func79 1000 ?_
  refine of_nf (p := (8 : Nat) ≤ (8 : Nat) ∧ (26 : Nat) = (26 : Nat) ∧ (8 : Nat) ≤ (8 : Nat) ∧ (26 : Nat) = (26 : Nat) ∧ (26 : Nat) = (26 : Nat) ∧ len = m ∧ xs.length = m ∧ (List.take (16 : Nat) xs).length ≤ (16 : Nat) ∧ (26 : Nat) = (26 : Nat) ∧ (List.take (16 : Nat) xs).length ≤ (16 : Nat) ∧ ((a0 :: a1 :: a2 :: a3 :: a4 :: a5 :: a6 :: a7 :: IntKind.u32.wrap (IntKind.u64.wrap n / (4294967296 : Int)) :: IntKind.u32.wrap n :: (List.take (16 : Nat) xs).append (List.drop ((10 : Nat) + (List.take (16 : Nat) xs).length) (((a0 :: a1 :: a2 :: a3 :: a4 :: a5 :: a6 :: a7 :: List.drop ((0 : Nat) + (8 : Nat)) [(0 : Int), (0 : Int), (0 : Int), (0 : Int), (0 : Int), (0 : Int), (0 : Int), (0 : Int), (0 : Int), (0 : Int), (0 : Int), (0 : Int), (0 : Int), (0 : Int), (0 : Int), (0 : Int), (0 : Int), (0 : Int), (0 : Int), (0 : Int), (0 : Int), (0 : Int), (0 : Int), (0 : Int), (0 : Int), (0 : Int)]).set (8 : Nat) (IntKind.u32.wrap (IntKind.u64.wrap n / (4294967296 : Int)))).set (9 : Nat) (IntKind.u32.wrap n))) = saveS [a0, a1, a2, a3, a4, a5, a6, a7] n xs ∧ True) ∧ True) ∧ (nat_lit 122 + (1 : Nat) = (123 : TypeId) ∧ (0 : Nat) = (0 : Nat) ∧ a0 = a0 ∧ a1 = a1 ∧ a2 = a2 ∧ a3 = a3 ∧ a4 = a4 ∧ a5 = a5 ∧ a6 = a6 ∧ a7 = a7 ∧ n = n ∧ (len = len ∧ z = z) ∧ True) ∧ (nat_lit 27 + (1 : Nat) = (28 : TypeId) ∧ nat_lit 0 + (1 : Nat) = (1 : Nat) ∧ @Bool.rec (fun _ => Prop) False (xs = xs) (true && m.beq m) ∧ True) ∧ True) (by kernel_rfl) ?_
  subst h0
  have e1 : IntKind.u64.wrap n = n := w_u64 (by omega)
  have e2 : IntKind.u32.wrap (n / 4294967296) = n / 4294967296 % 4294967296 := wmod32 _
  have e3 : IntKind.u32.wrap n = n % 4294967296 := wmod32 _
  have e4 : List.take 16 xs = xs := List.take_of_length_le (by omega)
  have e5 : ∀ (p : List Int), p.length = 10 → List.drop (10 + xs.length) (p ++ List.replicate 16 (0 : Int)) = List.replicate (16 - xs.length) 0 := fun p hp => by
    rw [← hp, List.drop_length_add_append, List.drop_replicate]
  have key : [a0, a1, a2, a3, a4, a5, a6, a7, IntKind.u32.wrap (IntKind.u64.wrap n / 4294967296), IntKind.u32.wrap n] ++ (xs ++ List.drop (10 + xs.length) ([a0, a1, a2, a3, a4, a5, a6, a7, IntKind.u32.wrap (IntKind.u64.wrap n / 4294967296), IntKind.u32.wrap n] ++ List.replicate 16 (0 : Int))) = saveS [a0, a1, a2, a3, a4, a5, a6, a7] n xs := by
    rw [e5 _ rfl, e1, e2, e3]
    simp [saveS]
  rw [e4]
  repeat' (first | with_reducible rfl | exact True.intro | apply And.intro | (intro _h; cases _h; done) | exact OwnSame.mk fun _ => rfl | exact OwnSameE.mk fun _ => rfl | intro _h | apply pieceEq)
  all_goals (first | exact True.intro | omega | exact key)
noncomputable def c_Save : ECon
  | [.ptr 0 0], [some ⟨123, [.int .u32 a0, .int .u32 a1, .int .u32 a2, .int .u32 a3, .int .u32 a4, .int .u32 a5, .int .u32 a6, .int .u32 a7, .int .i64 n, .on 1 len z], 0, none⟩, some ⟨28, [.ints .u32 m xs], 1, none⟩] => some ([len = m, xs.length = m, m < 16, 0 ≤ n, n ≤ 36028797018963968], [⟨none, .agg [.ints .u32 26 (saveS [a0, a1, a2, a3, a4, a5, a6, a7] n xs)], [some ⟨123, [.int .u32 a0, .int .u32 a1, .int .u32 a2, .int .u32 a3, .int .u32 a4, .int .u32 a5, .int .u32 a6, .int .u32 a7, .int .i64 n, .on 1 len z], 0, none⟩, some ⟨28, [.ints .u32 m xs], 1, none⟩]⟩])
  | _, _ => none
theorem c_Save_e : EEntry Tryd.prog 79 c_Save := by
  refine ⟨callFunc_ok Tryd.func79 (by kernel_rfl) (by kernel_rfl), fun args rows ps alts h hp => ?_⟩
  unfold c_Save at h
  split at h
  · cases h; exact Save_ok _ _ _ _ _ _ _ _ _ _ _ _ _ (hp _ (List.mem_of_getElem? (i := 0) rfl)) (hp _ (List.mem_of_getElem? (i := 1) rfl)) (hp _ (List.mem_of_getElem? (i := 2) rfl)) (hp _ (List.mem_of_getElem? (i := 3) rfl)) (hp _ (List.mem_of_getElem? (i := 4) rfl))
  · cases h
theorem clDig1 (st : List Int) (n : Int) (xs : List Int) : closeOK [0] [some ⟨123, [], 0, some (.own (.dig st n xs))⟩] := by
  refine ⟨⟨fun r x h hx => ?_, fun j q hj h => ?_⟩, trivial⟩
  · simp at h; subst h
    simp at hx; subst hx
    exact ⟨rfl, _, rfl, rfl, fun k q hk => by rcases k with _ | _ | k <;> simp [OTrows] at hk <;> (subst hk; exact .inl rfl)⟩
  · rcases j with _ | j
    · exact absurd rfl hj
    · simp at h
theorem clDig2 (st : List Int) (n : Int) (xs : List Int) (su : List Int) (k : Int) (ys : List Int) : closeOK [0, 1] [some ⟨123, [], 0, some (.own (.dig st n xs))⟩, some ⟨123, [], 0, some (.own (.dig su k ys))⟩] := by
  refine ⟨⟨fun r x h hx => ?_, fun j q hj h => ?_⟩, ⟨fun r x h hx => ?_, fun j q hj h => ?_⟩, trivial⟩
  · simp at h; subst h
    simp at hx; subst hx
    exact ⟨rfl, _, rfl, rfl, fun k q hk => by rcases k with _ | _ | k <;> simp [OTrows] at hk <;> (subst hk; exact .inl rfl)⟩
  · rcases j with _ | _ | j
    · exact absurd rfl hj
    · simp at h; subst h; rfl
    · simp at h
  · simp [open1, opAt, OTrows] at h; subst h
    simp at hx; subst hx
    exact ⟨rfl, _, rfl, rfl, fun k q hk => by rcases k with _ | _ | k <;> simp [OTrows] at hk <;> (subst hk; exact .inl rfl)⟩
  · rcases j with _ | _ | _ | j
    · simp [open1, opAt, OTrows] at h; subst h; rfl
    · exact absurd rfl hj
    · simp [open1, opAt, OTrows] at h; subst h; rfl
    · simp [open1, opAt, OTrows] at h
theorem NewO_ok   : SemCall Tryd.prog 78 [] [] (AltK [⟨none, .ptr 0 0, [some ⟨123, [], 0, some (.own (.dig IVL 0 []))⟩]⟩]) := by
  refine SemCall.close packOT (is := []) (js := [0]) (g := [(0, 0), (1, 1)]) (New_ok ) rfl rfl rfl rfl ?_ rfl (by simp)
  first | exact clDig1 _ _ _ | exact clDig2 _ _ _ _ _ _
noncomputable def c_NewO : ECon
  | [], [] => some ([], [⟨none, .ptr 0 0, [some ⟨123, [], 0, some (.own (.dig IVL 0 []))⟩]⟩])
  | _, _ => none
theorem c_NewO_e : EEntry Tryd.prog 78 c_NewO := by
  refine ⟨callFunc_ok Tryd.func78 (by kernel_rfl) (by kernel_rfl), fun args rows ps alts h hp => ?_⟩
  unfold c_NewO at h
  split at h
  · cases h; exact NewO_ok  
  · cases h
theorem DSumO_ok (st : List Int) (n : Int) (xs : List Int) (h0 : xs.length < 16) (h1 : 0 ≤ n) (h2 : n ≤ 36028797018963968) : SemCall Tryd.prog 65 [.ptr 0 0] [some ⟨123, [], 0, some (.own (.dig st n xs))⟩] (AltK [⟨none, .agg [.int .u32 ((endS (norm8 st) xs 2147483648 (32 * n)).getD 0 0), .int .u32 ((endS (norm8 st) xs 2147483648 (32 * n)).getD 1 0), .int .u32 ((endS (norm8 st) xs 2147483648 (32 * n)).getD 2 0), .int .u32 ((endS (norm8 st) xs 2147483648 (32 * n)).getD 3 0), .int .u32 ((endS (norm8 st) xs 2147483648 (32 * n)).getD 4 0), .int .u32 ((endS (norm8 st) xs 2147483648 (32 * n)).getD 5 0), .int .u32 ((endS (norm8 st) xs 2147483648 (32 * n)).getD 6 0), .int .u32 ((endS (norm8 st) xs 2147483648 (32 * n)).getD 7 0)], [some ⟨123, [], 0, some (.own (.dig st n xs))⟩]⟩]) := by
  refine SemCall.close packOT (is := [0]) (js := [0]) (g := [(0, 0), (1, 1)]) (DSum_ok (st.getD 0 0) (st.getD 1 0) (st.getD 2 0) (st.getD 3 0) (st.getD 4 0) (st.getD 5 0) (st.getD 6 0) (st.getD 7 0) n xs.length true xs.length xs rfl rfl h0 h1 h2) rfl rfl rfl rfl ?_ rfl (by simp)
  first | exact clDig1 _ _ _ | exact clDig2 _ _ _ _ _ _
noncomputable def c_DSumO : ECon
  | [.ptr 0 0], [some ⟨123, [], 0, some (.own (.dig st n xs))⟩] => some ([xs.length < 16, 0 ≤ n, n ≤ 36028797018963968], [⟨none, .agg [.int .u32 ((endS (norm8 st) xs 2147483648 (32 * n)).getD 0 0), .int .u32 ((endS (norm8 st) xs 2147483648 (32 * n)).getD 1 0), .int .u32 ((endS (norm8 st) xs 2147483648 (32 * n)).getD 2 0), .int .u32 ((endS (norm8 st) xs 2147483648 (32 * n)).getD 3 0), .int .u32 ((endS (norm8 st) xs 2147483648 (32 * n)).getD 4 0), .int .u32 ((endS (norm8 st) xs 2147483648 (32 * n)).getD 5 0), .int .u32 ((endS (norm8 st) xs 2147483648 (32 * n)).getD 6 0), .int .u32 ((endS (norm8 st) xs 2147483648 (32 * n)).getD 7 0)], [some ⟨123, [], 0, some (.own (.dig st n xs))⟩]⟩])
  | _, _ => none
theorem c_DSumO_e : EEntry Tryd.prog 65 c_DSumO := by
  refine ⟨callFunc_ok Tryd.func65 (by kernel_rfl) (by kernel_rfl), fun args rows ps alts h hp => ?_⟩
  unfold c_DSumO at h
  split at h
  · cases h; exact DSumO_ok _ _ _ (hp _ (List.mem_of_getElem? (i := 0) rfl)) (hp _ (List.mem_of_getElem? (i := 1) rfl)) (hp _ (List.mem_of_getElem? (i := 2) rfl))
  · cases h
theorem CopyO_ok (st : List Int) (n : Int) (xs : List Int) (h0 : xs.length < 16) : SemCall Tryd.prog 66 [.ptr 0 0] [some ⟨123, [], 0, some (.own (.dig st n xs))⟩] (AltK [⟨none, .ptr 1 0, [some ⟨123, [], 0, some (.own (.dig st n xs))⟩, some ⟨123, [], 0, some (.own (.dig st n xs))⟩]⟩]) := by
  refine SemCall.close packOT (is := [0]) (js := [0, 1]) (g := [(0, 0), (1, 2), (2, 1), (3, 3)]) (Copy_ok (st.getD 0 0) (st.getD 1 0) (st.getD 2 0) (st.getD 3 0) (st.getD 4 0) (st.getD 5 0) (st.getD 6 0) (st.getD 7 0) n xs.length true xs.length xs rfl rfl h0) rfl rfl rfl rfl ?_ rfl (by simp)
  first | exact clDig1 _ _ _ | exact clDig2 _ _ _ _ _ _
noncomputable def c_CopyO : ECon
  | [.ptr 0 0], [some ⟨123, [], 0, some (.own (.dig st n xs))⟩] => some ([xs.length < 16], [⟨none, .ptr 1 0, [some ⟨123, [], 0, some (.own (.dig st n xs))⟩, some ⟨123, [], 0, some (.own (.dig st n xs))⟩]⟩])
  | _, _ => none
theorem c_CopyO_e : EEntry Tryd.prog 66 c_CopyO := by
  refine ⟨callFunc_ok Tryd.func66 (by kernel_rfl) (by kernel_rfl), fun args rows ps alts h hp => ?_⟩
  unfold c_CopyO at h
  split at h
  · cases h; exact CopyO_ok _ _ _ (hp _ (List.mem_of_getElem? (i := 0) rfl))
  · cases h
theorem SaveO_ok (st : List Int) (n : Int) (xs : List Int) (h0 : xs.length < 16) (h1 : 0 ≤ n) (h2 : n ≤ 36028797018963968) : SemCall Tryd.prog 79 [.ptr 0 0] [some ⟨123, [], 0, some (.own (.dig st n xs))⟩] (AltK [⟨none, .agg [.ints .u32 26 (saveS (norm8 st) n xs)], [some ⟨123, [], 0, some (.own (.dig st n xs))⟩]⟩]) := by
  refine SemCall.close packOT (is := [0]) (js := [0]) (g := [(0, 0), (1, 1)]) (Save_ok (st.getD 0 0) (st.getD 1 0) (st.getD 2 0) (st.getD 3 0) (st.getD 4 0) (st.getD 5 0) (st.getD 6 0) (st.getD 7 0) n xs.length true xs.length xs rfl rfl h0 h1 h2) rfl rfl rfl rfl ?_ rfl (by simp)
  first | exact clDig1 _ _ _ | exact clDig2 _ _ _ _ _ _
noncomputable def c_SaveO : ECon
  | [.ptr 0 0], [some ⟨123, [], 0, some (.own (.dig st n xs))⟩] => some ([xs.length < 16, 0 ≤ n, n ≤ 36028797018963968], [⟨none, .agg [.ints .u32 26 (saveS (norm8 st) n xs)], [some ⟨123, [], 0, some (.own (.dig st n xs))⟩]⟩])
  | _, _ => none
theorem c_SaveO_e : EEntry Tryd.prog 79 c_SaveO := by
  refine ⟨callFunc_ok Tryd.func79 (by kernel_rfl) (by kernel_rfl), fun args rows ps alts h hp => ?_⟩
  unfold c_SaveO at h
  split at h
  · cases h; exact SaveO_ok _ _ _ (hp _ (List.mem_of_getElem? (i := 0) rfl)) (hp _ (List.mem_of_getElem? (i := 1) rfl)) (hp _ (List.mem_of_getElem? (i := 2) rfl))
  · cases h
theorem AddO_ok (st : List Int) (n : Int) (xs : List Int) (v : Value) (ws : List Int) (h0 : xs.length < 16) (h1 : 0 ≤ n) (h2 : n + ws.length ≤ 36028797018963968) (h3 : (ws.length : Int) ≤ 60000000000) : SemCall Tryd.prog 20 [.ptr 0 0, .rd .u32 v ws] [some ⟨123, [], 0, some (.own (.dig st n xs))⟩] (AltK [⟨none, .tup [], [some ⟨123, [], 0, some (.own (.dig (addSt st xs ws) (n + ws.length) (addWs xs ws)))⟩]⟩]) := by
  refine SemCall.close packOT (is := [0]) (js := [0]) (g := [(0, 0), (1, 2)]) (Add_ok (st.getD 0 0) (st.getD 1 0) (st.getD 2 0) (st.getD 3 0) (st.getD 4 0) (st.getD 5 0) (st.getD 6 0) (st.getD 7 0) n xs.length true xs.length xs v ws h1 h2 h3 rfl rfl h0) rfl rfl (congrArg (fun k => ([some ⟨123, [.int .u32 ((addSt st xs ws).getD 0 0), .int .u32 ((addSt st xs ws).getD 1 0), .int .u32 ((addSt st xs ws).getD 2 0), .int .u32 ((addSt st xs ws).getD 3 0), .int .u32 ((addSt st xs ws).getD 4 0), .int .u32 ((addSt st xs ws).getD 5 0), .int .u32 ((addSt st xs ws).getD 6 0), .int .u32 ((addSt st xs ws).getD 7 0), .int .i64 (n + ws.length), .on 1 k true], 0, none⟩, some ⟨28, [.ints .u32 k (addWs xs ws)], 1, none⟩] : Sx.Rows)) (show xs.length + ws.length - 16 * ((xs.length + ws.length) / 16) = (addWs xs ws).length by unfold addWs; simp)) rfl ?_ rfl (by simp)
  first | exact clDig1 _ _ _ | exact clDig2 _ _ _ _ _ _
noncomputable def c_AddO : ECon
  | [.ptr 0 0, .rd .u32 v ws], [some ⟨123, [], 0, some (.own (.dig st n xs))⟩] => some ([xs.length < 16, 0 ≤ n, n + ws.length ≤ 36028797018963968, (ws.length : Int) ≤ 60000000000], [⟨none, .tup [], [some ⟨123, [], 0, some (.own (.dig (addSt st xs ws) (n + ws.length) (addWs xs ws)))⟩]⟩])
  | _, _ => none
theorem c_AddO_e : EEntry Tryd.prog 20 c_AddO := by
  refine ⟨callFunc_ok Tryd.func20 (by kernel_rfl) (by kernel_rfl), fun args rows ps alts h hp => ?_⟩
  unfold c_AddO at h
  split at h
  · cases h; exact AddO_ok _ _ _ _ _ (hp _ (List.mem_of_getElem? (i := 0) rfl)) (hp _ (List.mem_of_getElem? (i := 1) rfl)) (hp _ (List.mem_of_getElem? (i := 2) rfl)) (hp _ (List.mem_of_getElem? (i := 3) rfl))
  · cases h
end Go.Proofs.YtheeaplnobdpoaaDoor
