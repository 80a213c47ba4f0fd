/- Keys out of keys: RFC 5869's expansion, as the code makes it. No condition beyond lengths. -/
import Derived.Test.YtheeaplnobdpoaaDoorMacG
namespace Go.Proofs.YtheeaplnobdpoaaDoor
open Go.RowKit Sx
set_option linter.unusedVariables false
set_option linter.unusedSimpArgs false
set_option maxRecDepth 100000
set_option maxHeartbeats 8000000
noncomputable def xLp (kb is : List Int) : Nat → List Int
  | 0 => []
  | k + 1 => bV (e8 (tagV kb (xLp kb is k ++ is ++ [IntKind.u8.wrap ((k : Int) + 1)])))
noncomputable def xOp (kb is : List Int) : Nat → List Int
  | 0 => []
  | k + 1 => xOp kb is k ++ xLp kb is (k + 1)
theorem xL_ex : ∃ f : List Int → List Int → Nat → List Int, ∀ kb is k, f kb is k = xLp kb is k := ⟨_, fun _ _ _ => rfl⟩
/-- The last piece behind so many rounds. -/
noncomputable def xL : List Int → List Int → Nat → List Int := Classical.choose xL_ex
theorem xL_eq (kb is : List Int) (k : Nat) : xL kb is k = xLp kb is k := Classical.choose_spec xL_ex kb is k
theorem xO_ex : ∃ f : List Int → List Int → Nat → List Int, ∀ kb is k, f kb is k = xOp kb is k := ⟨_, fun _ _ _ => rfl⟩
/-- What was made behind so many rounds. -/
noncomputable def xO : List Int → List Int → Nat → List Int := Classical.choose xO_ex
theorem xO_eq (kb is : List Int) (k : Nat) : xO kb is k = xOp kb is k := Classical.choose_spec xO_ex kb is k
theorem xL_0 (kb is : List Int) : xL kb is 0 = [] := by rw [xL_eq]; rfl
theorem xL_s (kb is : List Int) (k : Nat) : xL kb is (k + 1) = bV (e8 (tagV kb (xL kb is k ++ is ++ [IntKind.u8.wrap ((k : Int) + 1)]))) := by rw [xL_eq, xL_eq]; rfl
theorem xO_0 (kb is : List Int) : xO kb is 0 = [] := by rw [xO_eq]; rfl
theorem xO_s (kb is : List Int) (k : Nat) : xO kb is (k + 1) = xO kb is k ++ xL kb is (k + 1) := by rw [xO_eq, xO_eq, xL_eq]; rfl
def lL (k : Nat) : Nat := if k = 0 then 0 else 32
theorem xL_len (kb is : List Int) (k : Nat) : (xL kb is k).length = lL k := by
  cases k with
  | zero => rw [xL_0]; rfl
  | succ k => rw [xL_s, bV_len]; rfl
theorem xO_len (kb is : List Int) (k : Nat) : (xO kb is k).length = 32 * k := by
  induction k with
  | zero => rw [xO_0]; rfl
  | succ k ih => rw [xO_s, List.length_append, ih, xL_len]; unfold lL; rw [if_neg (by omega)]; omega
theorem lL_le (k : Nat) : lL k ≤ 32 := by unfold lL; split <;> omega
theorem xL_in (kb is : List Int) (k : Nat) : ∀ x ∈ xL kb is k, InK .u8 x := by
  cases k with
  | zero => rw [xL_0]; intro x hx; simp at hx
  | succ k => rw [xL_s]; exact bV_in _
theorem wrap_s (k : Nat) : IntKind.u8.wrap (IntKind.u8.wrap ((k : Int) + 1) + 1) = IntKind.u8.wrap (((k + 1 : Nat) : Int) + 1) := by
  simp only [IntKind.wrap, IntKind.bits, IntKind.signed]
  simp
noncomputable def pt_Ka : List (Nat × (List SV → Option (List Prop × SV))) := [(17, c_TagBytes)]
theorem pt_Ka_ok : PureOK Tryd.prog (fun f => List.lookup f pt_Ka) := pure_list pt_Ka ⟨c_TagBytes_e, trivial⟩
noncomputable abbrev cx_Ka (must : Nat → Option Bool := fun _ => none) (loop : Nat → SS → Option LoopSpec := fun _ _ => none) : Ctx := ⟨tab, inl tab (fun f => List.lookup f pt_Ka) fns (fun _ => {}) 1000 4, fun f => List.lookup f pt_Ka, must, loop, 0, 0, fun _ => none⟩
theorem cx_Ka_ok (must : Nat → Option Bool) (loop : Nat → SS → Option LoopSpec) : CxOK Tryd.prog (cx_Ka must loop) := inl_ok mixed tab_ok pt_Ka_ok fns_ok 4 _ _ _ _
theorem bytesC_ok (v : Value) (ws : List Int) (h0 : (ws.length : Int) ≤ 60000000000) : SemCall Tryd.prog 23 [.rd .u8 v ws] [] (AltK [⟨none, .on 0 ws.length true, [some ⟨5, [.ints .u8 ws.length ws], 1, none⟩]⟩]) := by
  refine con_intro mixed (cx_Ka_ok (fun _ => none) (fun _ _ => none)) Tryd.func23 1000 ?_
  refine of_nf (p := ws.length ≤ (68719476736 : Nat) ∧ ((ws.length = ws.length ∧ true = true) ∧ True) ∧ (nat_lit 4 + (1 : Nat) = (5 : TypeId) ∧ nat_lit 0 + (1 : Nat) = (1 : Nat) ∧ @Bool.rec (fun _ => Prop) False (ws = ws) (true && ws.length.beq ws.length) ∧ True) ∧ True) (by kernel_rfl) ?_
  simp only [↓forall_eq]
  repeat' (first | with_reducible rfl | exact True.intro | with_reducible assumption | exact OwnSame.mk fun _ => rfl | exact OwnSameE.mk fun _ => rfl | apply And.intro | apply pieceEq | intro _)
  all_goals first | omega | rfl | (simp; done) | trace_state
noncomputable def c_bytesC : ECon
  | [.rd .u8 v ws], [] => some ([(ws.length : Int) ≤ 60000000000], [⟨none, .on 0 ws.length true, [some ⟨5, [.ints .u8 ws.length ws], 1, none⟩]⟩])
  | _, _ => none
theorem c_bytesC_e : EEntry Tryd.prog 23 c_bytesC := by
  refine ⟨callFunc_ok Tryd.func23 (by kernel_rfl) (by kernel_rfl), fun args rows ps alts h hp => ?_⟩
  unfold c_bytesC at h
  split at h
  · cases h; exact bytesC_ok _ _ (hp _ (List.mem_of_getElem? (i := 0) rfl))
  · cases h
theorem Extract_ok (v : Value) (ks : List Int) (u : Value) (ms : List Int) (h0 : (ks.length : Int) ≤ 50000000000) (h1 : (ms.length : Int) ≤ 50000000000) (h2 : (∀ x ∈ ks, InK .u8 x)) (h3 : (∀ x ∈ ms, InK .u8 x)) : PureSem Tryd.prog 22 [.rd .u8 v ks, .rd .u8 u ms] (.agg [.int .u32 ((tagV ks ms).getD 0 0), .int .u32 ((tagV ks ms).getD 1 0), .int .u32 ((tagV ks ms).getD 2 0), .int .u32 ((tagV ks ms).getD 3 0), .int .u32 ((tagV ks ms).getD 4 0), .int .u32 ((tagV ks ms).getD 5 0), .int .u32 ((tagV ks ms).getD 6 0), .int .u32 ((tagV ks ms).getD 7 0)]) := by
  refine pure_intro mixed (cx_Ka_ok (fun _ => none) (fun _ _ => none)) Tryd.func22 1000 rfl rfl ?_
  refine of_nf (p := ((ks.length : Nat) : Int) ≤ (50000000000 : Int) ∧ ((ms.length : Nat) : Int) ≤ (50000000000 : Int) ∧ (∀ (x : Int), x ∈ ks → (0 : Int) ≤ x ∧ x < (256 : Int)) ∧ (∀ (x : Int), x ∈ ms → (0 : Int) ≤ x ∧ x < (256 : Int)) ∧ (tagV ks ms).getD (0 : Nat) (0 : Int) = (tagV ks ms).getD (0 : Nat) (0 : Int) ∧ (tagV ks ms).getD (1 : Nat) (0 : Int) = (tagV ks ms).getD (1 : Nat) (0 : Int) ∧ (tagV ks ms).getD (2 : Nat) (0 : Int) = (tagV ks ms).getD (2 : Nat) (0 : Int) ∧ (tagV ks ms).getD (3 : Nat) (0 : Int) = (tagV ks ms).getD (3 : Nat) (0 : Int) ∧ (tagV ks ms).getD (4 : Nat) (0 : Int) = (tagV ks ms).getD (4 : Nat) (0 : Int) ∧ (tagV ks ms).getD (5 : Nat) (0 : Int) = (tagV ks ms).getD (5 : Nat) (0 : Int) ∧ (tagV ks ms).getD (6 : Nat) (0 : Int) = (tagV ks ms).getD (6 : Nat) (0 : Int) ∧ (tagV ks ms).getD (7 : Nat) (0 : Int) = (tagV ks ms).getD (7 : Nat) (0 : Int) ∧ True) (by kernel_rfl) ?_
  simp only [InK] at h2 h3
  repeat' (first | with_reducible rfl | exact True.intro | with_reducible assumption | exact OwnSame.mk fun _ => rfl | exact OwnSameE.mk fun _ => rfl | apply And.intro | apply pieceEq | intro _)

noncomputable def c_Extract : List SV → Option (List Prop × SV)
  | [.rd .u8 v ks, .rd .u8 u ms] => some ([(ks.length : Int) ≤ 50000000000, (ms.length : Int) ≤ 50000000000, (∀ x ∈ ks, InK .u8 x), (∀ x ∈ ms, InK .u8 x)], .agg [.int .u32 ((tagV ks ms).getD 0 0), .int .u32 ((tagV ks ms).getD 1 0), .int .u32 ((tagV ks ms).getD 2 0), .int .u32 ((tagV ks ms).getD 3 0), .int .u32 ((tagV ks ms).getD 4 0), .int .u32 ((tagV ks ms).getD 5 0), .int .u32 ((tagV ks ms).getD 6 0), .int .u32 ((tagV ks ms).getD 7 0)])
  | _ => none
theorem c_Extract_e : PEntry Tryd.prog 22 c_Extract := by
  refine ⟨callFunc_ok Tryd.func22 (by kernel_rfl) (by kernel_rfl), fun args ps v h hp => ?_⟩
  unfold c_Extract at h
  split at h
  · cases h; exact Extract_ok _ _ _ _ (hp _ (List.mem_of_getElem? (i := 0) rfl)) (hp _ (List.mem_of_getElem? (i := 1) rfl)) (hp _ (List.mem_of_getElem? (i := 2) rfl)) (hp _ (List.mem_of_getElem? (i := 3) rfl))
  · cases h
noncomputable def pt_Kb : List (Nat × (List SV → Option (List Prop × SV))) := [(17, c_TagBytes)]
theorem pt_Kb_ok : PureOK Tryd.prog (fun f => List.lookup f pt_Kb) := pure_list pt_Kb ⟨c_TagBytes_e, trivial⟩
noncomputable def et_Kb : List (Nat × ECon) := [(12, c_BytesW)]
theorem et_Kb_ok : ConOK Tryd.prog (fun f => List.lookup f et_Kb) := con_list et_Kb ⟨c_BytesW_e, trivial⟩
noncomputable abbrev cx_Kb (must : Nat → Option Bool := fun _ => none) (loop : Nat → SS → Option LoopSpec := fun _ _ => none) : Ctx := ⟨tab, inlG tab (fun f => List.lookup f pt_Kb) (fun f => List.lookup f et_Kb) fns (fun _ => {}) 1000 4, fun f => List.lookup f pt_Kb, must, loop, 0, 0, fun f => List.lookup f et_Kb⟩
theorem cx_Kb_ok (must : Nat → Option Bool) (loop : Nat → SS → Option LoopSpec) : CxOK Tryd.prog (cx_Kb must loop) := inlG_ok mixed tab_ok pt_Kb_ok et_Kb_ok fns_ok 4 _ _ _ _
theorem Expand0_ok (x0 x1 x2 x3 x4 x5 x6 x7 : Int) (v : Value) (is : List Int) (h0 : is.length ≤ 1048576) : SemCall Tryd.prog 24 [.agg [.int .u32 x0, .int .u32 x1, .int .u32 x2, .int .u32 x3, .int .u32 x4, .int .u32 x5, .int .u32 x6, .int .u32 x7], .rd .u8 v is, .lit .i64 0] [] (AltK [⟨none, .tup [.val (.slice none 0 0), .int .i64 0], []⟩]) := by
  refine con_intro mixed (cx_Kb_ok (fun _ => none) (fun _ _ => none)) Tryd.func24 1000 ?_
  refine of_nf (p := (decide ((1048576 : Int) < ((is.length : Nat) : Int)) = true → ((SV.val (Value.slice none (0 : Nat) (0 : Nat)) = SV.val (Value.slice none (0 : Nat) (0 : Nat)) ∧ (2 : Int) = (0 : Int) ∧ True) ∧ True) ∧ True) ∧ (decide ((1048576 : Int) < ((is.length : Nat) : Int)) = false → ∀ (v : Nat → Value), (8 : Nat) ≤ (8 : Nat) ∧ (((8 : Nat) : Nat) : Int) ≤ (15000000000 : Int) ∧ ∀ (m : Int), m = x0 → ∀ (m : Int), m = x1 → ∀ (m : Int), m = x2 → ∀ (m : Int), m = x3 → ∀ (m : Int), m = x4 → ∀ (m : Int), m = x5 → ∀ (m : Int), m = x6 → ∀ (m : Int), m = x7 → ∀ (ys : List Int), ys = bV [x0, x1, x2, x3, x4, x5, x6, x7] → (0 : Int) = (0 : Int) ∧ (0 : Int) = (0 : Int) ∧ (0 : Int) = (0 : Int) ∧ ((SV.val (Value.slice none (0 : Nat) (0 : Nat)) = SV.val (Value.slice none (0 : Nat) (0 : Nat)) ∧ (0 : Int) = (0 : Int) ∧ True) ∧ True) ∧ True)) (by kernel_rfl) ?_
  refine ⟨fun h => absurd (of_decide_eq_true h) (by omega), fun _ => ?_⟩
  simp only [↓forall_eq]
  repeat' (first | with_reducible rfl | exact True.intro | with_reducible assumption | exact OwnSame.mk fun _ => rfl | exact OwnSameE.mk fun _ => rfl | apply And.intro | apply pieceEq | intro _)
  all_goals first | omega | rfl
noncomputable def c_Expand0 : ECon
  | [.agg [.int .u32 x0, .int .u32 x1, .int .u32 x2, .int .u32 x3, .int .u32 x4, .int .u32 x5, .int .u32 x6, .int .u32 x7], .rd .u8 v is, .lit .i64 0], [] => some ([is.length ≤ 1048576], [⟨none, .tup [.val (.slice none 0 0), .int .i64 0], []⟩])
  | _, _ => none
theorem c_Expand0_e : EEntry Tryd.prog 24 c_Expand0 := by
  refine ⟨callFunc_ok Tryd.func24 (by kernel_rfl) (by kernel_rfl), fun args rows ps alts h hp => ?_⟩
  unfold c_Expand0 at h
  split at h
  · cases h; exact Expand0_ok _ _ _ _ _ _ _ _ _ _ (hp _ (List.mem_of_getElem? (i := 0) rfl))
  · cases h
theorem Expand_ok (x0 x1 x2 x3 x4 x5 x6 x7 : Int) (v : Value) (is : List Int) (n : Int) (h0 : is.length ≤ 1048576) (h1 : 0 ≤ n) (h2 : n ≤ 8160) (h3 : (∀ x ∈ is, InK .u8 x)) : SemCall Tryd.prog 24 [.agg [.int .u32 x0, .int .u32 x1, .int .u32 x2, .int .u32 x3, .int .u32 x4, .int .u32 x5, .int .u32 x6, .int .u32 x7], .rd .u8 v is, .int .i64 n] [] (AltK [⟨none, .tup [.ow 0 true 0 0 n.toNat true, .int .i64 0], [some ⟨5, [.ints .u8 (32 * ((n.toNat + 31) / 32)) (xO (bV [x0, x1, x2, x3, x4, x5, x6, x7]) is ((n.toNat + 31) / 32))], 1, none⟩]⟩]) := by
  refine con_intro mixed (cx_Kb_ok (fun _ => none) (fun q s => bif Nat.beq q 8 then some ⟨Nat, fun k => ⟨[(1, .rd .u8 v is), (2, .int .i64 n), (8, .on 1 32 false), (9, .on 2 (32 * k) true), (10, .on 3 (lL k) (Nat.beq k 0)), (11, .int .u8 (IntKind.u8.wrap ((k : Int) + 1)))], [none, some ⟨5, [.ints .u8 32 (bV [x0, x1, x2, x3, x4, x5, x6, x7])], 1, none⟩, some ⟨5, [.ints .u8 (32 * k) (xO (bV [x0, x1, x2, x3, x4, x5, x6, x7]) is k)], 1, none⟩, some ⟨5, [.ints .u8 (lL k) (xL (bV [x0, x1, x2, x3, x4, x5, x6, x7]) is k)], 1, none⟩]⟩, fun k => 32 * (k : Int) < n + 32, fun k => 256 - k⟩ else none)) Tryd.func24 1000 ?_
  refine of_nf (p := letI k0_ := (bV [x0, x1, x2, x3, x4, x5, x6, x7]); letI k1_ := (List.take (32 : Nat) (List.drop (0 : Nat) k0_)); letI k2_ := ((is.length : Nat) : Int); (decide (n < (0 : Int)) = true → ((False ∧ (30 : Int) = (0 : Int) ∧ True) ∧ True) ∧ (nat_lit 28 + (1 : Nat) = (5 : TypeId) ∧ (0 : Nat) = (1 : Nat) ∧ False ∧ False) ∧ True) ∧ (decide (n < (0 : Int)) = false → (decide ((8160 : Int) < n) = true → ((False ∧ (30 : Int) = (0 : Int) ∧ True) ∧ True) ∧ (nat_lit 28 + (1 : Nat) = (5 : TypeId) ∧ (0 : Nat) = (1 : Nat) ∧ False ∧ False) ∧ True) ∧ (decide ((8160 : Int) < n) = false → (decide ((1048576 : Int) < k2_) = true → ((False ∧ (2 : Int) = (0 : Int) ∧ True) ∧ True) ∧ (nat_lit 28 + (1 : Nat) = (5 : TypeId) ∧ (0 : Nat) = (1 : Nat) ∧ False ∧ False) ∧ True) ∧ (decide ((1048576 : Int) < k2_) = false → ∀ (v_1 : Nat → Value), (8 : Nat) ≤ (8 : Nat) ∧ (((8 : Nat) : Nat) : Int) ≤ (15000000000 : Int) ∧ ∀ (m : Int), m = x0 → ∀ (m : Int), m = x1 → ∀ (m : Int), m = x2 → ∀ (m : Int), m = x3 → ∀ (m : Int), m = x4 → ∀ (m : Int), m = x5 → ∀ (m : Int), m = x6 → ∀ (m : Int), m = x7 → ∀ (ys : List Int), ys = bV [x0, x1, x2, x3, x4, x5, x6, x7] → ∃ (x : Nat), (((v = v ∧ is = is) ∧ n = n ∧ ((4 : Nat) * (8 : Nat) = (32 : Nat) ∧ false = false) ∧ ((0 : Nat) = (32 : Nat) * x ∧ true = true) ∧ ((0 : Nat) = lL x ∧ true = x.beq (0 : Nat)) ∧ (1 : Int) = IntKind.u8.wrap (((x : Nat) : Int) + (1 : Int)) ∧ True) ∧ (nat_lit 4 + (1 : Nat) = (5 : TypeId) ∧ nat_lit 0 + (1 : Nat) = (1 : Nat) ∧ ys = bV [x0, x1, x2, x3, x4, x5, x6, x7] ∧ True) ∧ ((5 : TypeId) = (5 : TypeId) ∧ (1 : Nat) = (1 : Nat) ∧ @Bool.rec (fun _ => Prop) False ([] = xO k0_ is x) (true && Nat.beq (0 : Nat) ((32 : Nat) * x)) ∧ True) ∧ ((5 : TypeId) = (5 : TypeId) ∧ (1 : Nat) = (1 : Nat) ∧ @Bool.rec (fun _ => Prop) False ([] = xL k0_ is x) (true && Nat.beq (0 : Nat) (lL x)) ∧ True) ∧ True) ∧ (n + (32 : Int) - ((32 : Int) * ((x : Nat) : Int) + (1 : Int))).NonNeg ∧ ∀ (x : Nat), (n + (32 : Int) - ((32 : Int) * ((x : Nat) : Int) + (1 : Int))).NonNeg → (decide (((((32 : Nat) * x) : Nat) : Int) < n) = true → ((-9223372036854775808 : Int) ≤ (((lL x) : Nat) : Int) + k2_ ∧ (((lL x) : Nat) : Int) + k2_ < (9223372036854775808 : Int)) ∧ ((-9223372036854775808 : Int) ≤ (((lL x) : Nat) : Int) + k2_ + (1 : Int) ∧ (((lL x) : Nat) : Int) + k2_ + (1 : Int) < (9223372036854775808 : Int)) ∧ (0 : Int) ≤ (0 : Int) ∧ (0 : Int) ≤ (((lL x) : Nat) : Int) + k2_ + (1 : Int) ∧ (((lL x) : Nat) : Int) + k2_ + (1 : Int) ≤ (68719476736 : Int) ∧ lL x = lL x ∧ (xL k0_ is x).length = lL x ∧ (0 : Nat) = (0 : Nat) ∧ (0 : Nat) = (0 : Nat) ∧ (0 : Nat) + lL x ≤ (68719476736 : Nat) ∧ (0 : Nat) + lL x = (0 : Nat) + lL x ∧ (xL k0_ is x).length = (0 : Nat) + lL x ∧ (0 : Nat) + lL x + is.length ≤ (68719476736 : Nat) ∧ (0 : Nat) + lL x + is.length = (0 : Nat) + lL x + is.length ∧ ((xL k0_ is x).append is).length = (0 : Nat) + lL x + is.length ∧ (0 : Nat) + lL x + is.length + (1 : Nat) ≤ (68719476736 : Nat) ∧ OwnSame c_TagBytes [true, true] [SV.rd IntKind.u8 undef k1_, SV.rd IntKind.u8 undef (List.take ((0 : Nat) + lL x + is.length + (1 : Nat)) (List.drop (0 : Nat) (((xL k0_ is x).append is).append [IntKind.u8.wrap (((x : Nat) : Int) + (1 : Int))])))] ∧ (32 : Nat) ≤ (32 : Nat) ∧ k0_.length = (32 : Nat) ∧ (0 : Nat) + ((0 : Nat) + lL x + is.length + (1 : Nat)) ≤ (0 : Nat) + lL x + is.length + (1 : Nat) ∧ (((xL k0_ is x).append is).append [IntKind.u8.wrap (((x : Nat) : Int) + (1 : Int))]).length = (0 : Nat) + lL x + is.length + (1 : Nat) ∧ ((k1_.length : Nat) : Int) ≤ (50000000000 : Int) ∧ (((List.take ((0 : Nat) + lL x + is.length + (1 : Nat)) (List.drop (0 : Nat) (((xL k0_ is x).append is).append [IntKind.u8.wrap (((x : Nat) : Int) + (1 : Int))]))).length : Nat) : Int) ≤ (50000000000 : Int) ∧ (∀ (x : Int), x ∈ List.take (32 : Nat) (List.drop (0 : Nat) k0_) → (0 : Int) ≤ x ∧ x < (256 : Int)) ∧ (∀ (x_1 : Int), x_1 ∈ List.take ((0 : Nat) + lL x + is.length + (1 : Nat)) (List.drop (0 : Nat) (((xL k0_ is x).append is).append [IntKind.u8.wrap (((x : Nat) : Int) + (1 : Int))])) → (0 : Int) ≤ x_1 ∧ x_1 < (256 : Int)) ∧ ∀ (v_2 : Nat → Value), (8 : Nat) ≤ (8 : Nat) ∧ (((8 : Nat) : Nat) : Int) ≤ (15000000000 : Int) ∧ ∀ (ys : List Int), ys = bV [x0, x1, x2, x3, x4, x5, x6, x7] → ∀ (ys_1 : List Int), ys_1 = xO k0_ is x → ∀ (ys_2 : List Int), ys_2 = xL k0_ is x → ∀ (m : Int), m = IntKind.u8.wrap (((x : Nat) : Int) + (1 : Int)) → ∀ (ys_3 : List Int), ys_3 = ((xL k0_ is x).append is).append [IntKind.u8.wrap (((x : Nat) : Int) + (1 : Int))] → ∀ (m : Int), m = (tagV k1_ (List.take ((0 : Nat) + lL x + is.length + (1 : Nat)) (List.drop (0 : Nat) (((xL k0_ is x).append is).append [IntKind.u8.wrap (((x : Nat) : Int) + (1 : Int))])))).getD (0 : Nat) (0 : Int) → ∀ (m : Int), m = (tagV k1_ (List.take ((0 : Nat) + lL x + is.length + (1 : Nat)) (List.drop (0 : Nat) (((xL k0_ is x).append is).append [IntKind.u8.wrap (((x : Nat) : Int) + (1 : Int))])))).getD (1 : Nat) (0 : Int) → ∀ (m : Int), m = (tagV k1_ (List.take ((0 : Nat) + lL x + is.length + (1 : Nat)) (List.drop (0 : Nat) (((xL k0_ is x).append is).append [IntKind.u8.wrap (((x : Nat) : Int) + (1 : Int))])))).getD (2 : Nat) (0 : Int) → ∀ (m : Int), m = (tagV k1_ (List.take ((0 : Nat) + lL x + is.length + (1 : Nat)) (List.drop (0 : Nat) (((xL k0_ is x).append is).append [IntKind.u8.wrap (((x : Nat) : Int) + (1 : Int))])))).getD (3 : Nat) (0 : Int) → ∀ (m : Int), m = (tagV k1_ (List.take ((0 : Nat) + lL x + is.length + (1 : Nat)) (List.drop (0 : Nat) (((xL k0_ is x).append is).append [IntKind.u8.wrap (((x : Nat) : Int) + (1 : Int))])))).getD (4 : Nat) (0 : Int) → ∀ (m : Int), m = (tagV k1_ (List.take ((0 : Nat) + lL x + is.length + (1 : Nat)) (List.drop (0 : Nat) (((xL k0_ is x).append is).append [IntKind.u8.wrap (((x : Nat) : Int) + (1 : Int))])))).getD (5 : Nat) (0 : Int) → ∀ (m : Int), m = (tagV k1_ (List.take ((0 : Nat) + lL x + is.length + (1 : Nat)) (List.drop (0 : Nat) (((xL k0_ is x).append is).append [IntKind.u8.wrap (((x : Nat) : Int) + (1 : Int))])))).getD (6 : Nat) (0 : Int) → ∀ (m : Int), m = (tagV k1_ (List.take ((0 : Nat) + lL x + is.length + (1 : Nat)) (List.drop (0 : Nat) (((xL k0_ is x).append is).append [IntKind.u8.wrap (((x : Nat) : Int) + (1 : Int))])))).getD (7 : Nat) (0 : Int) → ∀ (ys_4 : List Int), ys_4 = bV [(tagV k1_ (List.take ((0 : Nat) + lL x + is.length + (1 : Nat)) (List.drop (0 : Nat) (((xL k0_ is x).append is).append [IntKind.u8.wrap (((x : Nat) : Int) + (1 : Int))])))).getD (0 : Nat) (0 : Int), (tagV k1_ (List.take ((0 : Nat) + lL x + is.length + (1 : Nat)) (List.drop (0 : Nat) (((xL k0_ is x).append is).append [IntKind.u8.wrap (((x : Nat) : Int) + (1 : Int))])))).getD (1 : Nat) (0 : Int), (tagV k1_ (List.take ((0 : Nat) + lL x + is.length + (1 : Nat)) (List.drop (0 : Nat) (((xL k0_ is x).append is).append [IntKind.u8.wrap (((x : Nat) : Int) + (1 : Int))])))).getD (2 : Nat) (0 : Int), (tagV k1_ (List.take ((0 : Nat) + lL x + is.length + (1 : Nat)) (List.drop (0 : Nat) (((xL k0_ is x).append is).append [IntKind.u8.wrap (((x : Nat) : Int) + (1 : Int))])))).getD (3 : Nat) (0 : Int), (tagV k1_ (List.take ((0 : Nat) + lL x + is.length + (1 : Nat)) (List.drop (0 : Nat) (((xL k0_ is x).append is).append [IntKind.u8.wrap (((x : Nat) : Int) + (1 : Int))])))).getD (4 : Nat) (0 : Int), (tagV k1_ (List.take ((0 : Nat) + lL x + is.length + (1 : Nat)) (List.drop (0 : Nat) (((xL k0_ is x).append is).append [IntKind.u8.wrap (((x : Nat) : Int) + (1 : Int))])))).getD (5 : Nat) (0 : Int), (tagV k1_ (List.take ((0 : Nat) + lL x + is.length + (1 : Nat)) (List.drop (0 : Nat) (((xL k0_ is x).append is).append [IntKind.u8.wrap (((x : Nat) : Int) + (1 : Int))])))).getD (6 : Nat) (0 : Int), (tagV k1_ (List.take ((0 : Nat) + lL x + is.length + (1 : Nat)) (List.drop (0 : Nat) (((xL k0_ is x).append is).append [IntKind.u8.wrap (((x : Nat) : Int) + (1 : Int))])))).getD (7 : Nat) (0 : Int)] → (4 : Nat) * (8 : Nat) = (32 : Nat) ∧ ys_4.length = (32 : Nat) ∧ (32 : Nat) * x = (32 : Nat) * x ∧ ys_1.length = (32 : Nat) * x ∧ (32 : Nat) * x + (32 : Nat) ≤ (68719476736 : Nat) ∧ ∃ (y : Nat), (((v = v ∧ is = is) ∧ n = n ∧ ((32 : Nat) = (32 : Nat) ∧ false = false) ∧ ((32 : Nat) * x + (32 : Nat) = (32 : Nat) * y ∧ true = true) ∧ ((4 : Nat) * (8 : Nat) = lL y ∧ false = y.beq (0 : Nat)) ∧ IntKind.u8.wrap (IntKind.u8.wrap (((x : Nat) : Int) + (1 : Int)) + (1 : Int)) = IntKind.u8.wrap (((y : Nat) : Int) + (1 : Int)) ∧ True) ∧ (nat_lit 4 + (1 : Nat) = (5 : TypeId) ∧ nat_lit 0 + (1 : Nat) = (1 : Nat) ∧ ys = bV [x0, x1, x2, x3, x4, x5, x6, x7] ∧ True) ∧ (nat_lit 4 + (1 : Nat) = (5 : TypeId) ∧ nat_lit 0 + (1 : Nat) = (1 : Nat) ∧ @Bool.rec (fun _ => Prop) False (ys_1.append ys_4 = xO k0_ is y) (true && ((32 : Nat) * x + (32 : Nat)).beq ((32 : Nat) * y)) ∧ True) ∧ (nat_lit 4 + (1 : Nat) = (5 : TypeId) ∧ nat_lit 0 + (1 : Nat) = (1 : Nat) ∧ @Bool.rec (fun _ => Prop) False (ys_4 = xL k0_ is y) (true && ((4 : Nat) * (8 : Nat)).beq (lL y)) ∧ True) ∧ True) ∧ (n + (32 : Int) - ((32 : Int) * ((y : Nat) : Int) + (1 : Int))).NonNeg ∧ (256 : Nat) - y < (256 : Nat) - x) ∧ (decide (((((32 : Nat) * x) : Nat) : Int) < n) = false → (0 : Int) ≤ n ∧ n = n ∧ n ≤ ((((32 : Nat) * x + (0 : Nat)) : Nat) : Int) ∧ (((true = true ∧ (0 : Nat) = (0 : Nat) ∧ (0 : Nat) = (0 : Nat) ∧ n.toNat = n.toNat ∧ true = true) ∧ (0 : Int) = (0 : Int) ∧ True) ∧ True) ∧ ((5 : TypeId) = (5 : TypeId) ∧ (1 : Nat) = (1 : Nat) ∧ @Bool.rec (fun _ => Prop) False (xO k0_ is x = xO k0_ is ((n.toNat + (31 : Nat)) / (32 : Nat))) (true && ((32 : Nat) * x).beq ((32 : Nat) * ((n.toNat + (31 : Nat)) / (32 : Nat)))) ∧ True) ∧ True))))) (by kernel_rfl) ?_
  refine ⟨fun h => absurd (of_decide_eq_true h) (by omega), fun _ => ⟨fun h => absurd (of_decide_eq_true h) (by omega), fun _ => ⟨fun h => absurd (of_decide_eq_true h) (by omega), fun _ => ?_⟩⟩⟩
  have hkl : (bV [x0, x1, x2, x3, x4, x5, x6, x7]).length = 32 := bV_len _
  have t32 : List.take 32 (List.drop 0 (bV [x0, x1, x2, x3, x4, x5, x6, x7])) = bV [x0, x1, x2, x3, x4, x5, x6, x7] := by rw [List.drop_zero]; exact List.take_of_length_le (by omega)
  have happ : ∀ a b : List Int, a.append b = a ++ b := fun _ _ => rfl
  have kin : ∀ x ∈ bV [x0, x1, x2, x3, x4, x5, x6, x7], 0 ≤ x ∧ x < 256 := fun x hx => by have := bV_in _ x hx; simpa only [InK] using this
  simp only [↓forall_eq, t32, happ]
  refine fun _ => ⟨by omega, by omega, 0, ?_, (show 32 * ((0 : Nat) : Int) < n + 32 by omega), fun x hx => ⟨fun h => ?_, fun h => ?_⟩⟩
  · repeat' (first | with_reducible rfl | exact True.intro | with_reducible assumption | apply And.intro | apply pieceEq)
    all_goals first | rfl | exact (xO_0 _ _).symm | exact (xL_0 _ _).symm | decide | trace_state
  · have hx : 32 * (x : Int) < n + 32 := hx
    have h := of_decide_eq_true h
    have l1 := xL_len (bV [x0, x1, x2, x3, x4, x5, x6, x7]) is x
    have l2 := lL_le x
    have l3 := xO_len (bV [x0, x1, x2, x3, x4, x5, x6, x7]) is x
    obtain ⟨M, hM⟩ : ∃ M, M = xL (bV [x0, x1, x2, x3, x4, x5, x6, x7]) is x ++ is ++ [IntKind.u8.wrap ((x : Int) + 1)] := ⟨_, rfl⟩
    have hMl : M.length = 0 + lL x + is.length + 1 := by rw [hM]; simp [l1]; omega
    have tM : List.take (0 + lL x + is.length + 1) (List.drop 0 M) = M := by rw [List.drop_zero]; exact List.take_of_length_le (by omega)
    have min : ∀ x ∈ M, 0 ≤ x ∧ x < 256 := by
      intro y hy
      have q := in_app (k := .u8) (in_app (xL_in (bV [x0, x1, x2, x3, x4, x5, x6, x7]) is x) h3) (b := [IntKind.u8.wrap ((x : Int) + 1)]) (fun z hz => by rw [List.mem_singleton.1 hz]; exact wrap8_in _) y (hM ▸ hy)
      simpa only [InK] using q
    have hal : (xL (bV [x0, x1, x2, x3, x4, x5, x6, x7]) is x ++ is).length = 0 + lL x + is.length := by simp [l1]
    have hs : bV (e8 (tagV (bV [x0, x1, x2, x3, x4, x5, x6, x7]) M)) = xL (bV [x0, x1, x2, x3, x4, x5, x6, x7]) is (x + 1) := by rw [hM]; exact (xL_s _ _ _).symm
    simp only [e8] at hs
    have hos := (xO_s (bV [x0, x1, x2, x3, x4, x5, x6, x7]) is x).symm
    have l4 := xL_len (bV [x0, x1, x2, x3, x4, x5, x6, x7]) is (x + 1)
    simp only [← hM, tM, hs, hos, hMl, hkl, l1, l3, hal, wrap_s]
    have hlL : lL (x + 1) = 32 := rfl
    rw [hlL] at l4
    repeat' (first | with_reducible rfl | exact True.intro | with_reducible assumption | exact OwnSame.mk fun _ => rfl | exact OwnSameE.mk fun _ => rfl | apply And.intro | apply pieceEq | intro _ | refine Exists.intro (x + 1) ?_)
    all_goals first | omega | rfl | (show 32 * ((x + 1 : Nat) : Int) < n + 32; omega) | trace_state
  · have hx : 32 * (x : Int) < n + 32 := hx
    have h := of_decide_eq_false h
    obtain rfl : x = (n.toNat + 31) / 32 := by omega
    repeat' (first | with_reducible rfl | exact True.intro | with_reducible assumption | apply And.intro | apply pieceEq)
    all_goals first | omega | rfl | trace_state
noncomputable def c_Expand : ECon
  | [.agg [.int .u32 x0, .int .u32 x1, .int .u32 x2, .int .u32 x3, .int .u32 x4, .int .u32 x5, .int .u32 x6, .int .u32 x7], .rd .u8 v is, .int .i64 n], [] => some ([is.length ≤ 1048576, 0 ≤ n, n ≤ 8160, (∀ x ∈ is, InK .u8 x)], [⟨none, .tup [.ow 0 true 0 0 n.toNat true, .int .i64 0], [some ⟨5, [.ints .u8 (32 * ((n.toNat + 31) / 32)) (xO (bV [x0, x1, x2, x3, x4, x5, x6, x7]) is ((n.toNat + 31) / 32))], 1, none⟩]⟩])
  | _, _ => none
theorem c_Expand_e : EEntry Tryd.prog 24 c_Expand := by
  refine ⟨callFunc_ok Tryd.func24 (by kernel_rfl) (by kernel_rfl), fun args rows ps alts h hp => ?_⟩
  unfold c_Expand at h
  split at h
  · cases h; exact Expand_ok _ _ _ _ _ _ _ _ _ _ _ (hp _ (List.mem_of_getElem? (i := 0) rfl)) (hp _ (List.mem_of_getElem? (i := 1) rfl)) (hp _ (List.mem_of_getElem? (i := 2) rfl)) (hp _ (List.mem_of_getElem? (i := 3) rfl))
  · cases h

end Go.Proofs.YtheeaplnobdpoaaDoor
