/- The database of pages: told as words, cloned, made. No condition beyond sizes. -/
import Derived.Test.YtlndkfcnfhkbkaaPdG
namespace Go.Proofs.Ytlndkfcnfhkbkaa
open Go.RowKit Sx
set_option linter.unusedVariables false
set_option linter.unusedSimpArgs false
set_option maxRecDepth 100000
set_option maxHeartbeats 8000000
theorem zA_ex : ∃ F0 : (List (List Int)) → Nat → List (List Int), ∀ ps k, F0 ps k = List.replicate k (List.replicate 1024 0) ++ ps.drop k := ⟨_, fun _ _ => rfl⟩
noncomputable def zA : (List (List Int)) → Nat → List (List Int) := Classical.choose zA_ex
theorem zA_eq (ps : List (List Int)) (k : Nat) : zA ps k = List.replicate k (List.replicate 1024 0) ++ ps.drop k := Classical.choose_spec zA_ex ps k
theorem zA_0 (ps : List (List Int)) : ps = zA ps 0 := by rw [zA_eq]; simp
theorem zA_len {ps : List (List Int)} {k : Nat} (h : k ≤ ps.length) : (zA ps k).length = ps.length := by rw [zA_eq]; simp; omega
theorem zA_all (ps : List (List Int)) : zA ps ps.length = List.replicate ps.length (List.replicate 1024 0) := by rw [zA_eq]; simp
theorem zA_s {ps : List (List Int)} {k : Nat} (h : k < ps.length) : (zA ps k).set k (List.replicate 1024 0) = zA ps (k + 1) := by
  rw [zA_eq, zA_eq]
  generalize List.replicate 1024 (0 : Int) = Z
  rw [List.set_append_right _ _ (by simp), List.length_replicate, Nat.sub_self, List.drop_eq_getElem_cons h, List.set_cons_zero, List.replicate_succ', List.append_assoc]
  rfl
theorem zA_in {ps : List (List Int)} (h : ∀ p ∈ ps, p.length = 1024) (k : Nat) : ∀ p ∈ zA ps k, p.length = 1024 := by
  intro p hp
  rw [zA_eq] at hp
  rcases List.mem_append.1 hp with hp | hp
  · rw [(List.mem_replicate.1 hp).2]; simp
  · exact h p (List.mem_of_mem_drop hp)
noncomputable def pt_Ph : List (Nat × (List SV → Option (List Prop × SV))) := [(113, c_secureF)]
theorem pt_Ph_ok : PureOK Try.prog (fun f => List.lookup f pt_Ph) := pure_list pt_Ph ⟨c_secureF_e, trivial⟩
noncomputable def et_Ph : List (Nat × ECon) := [(117, c_SecureM), (120, c_ZeroM), (25, c_CloneM)]
theorem et_Ph_ok : ConOK Try.prog (fun f => List.lookup f et_Ph) := con_list et_Ph ⟨c_SecureM_e, c_ZeroM_e, c_CloneM_e, trivial⟩
noncomputable abbrev cx_Ph (must : Nat → Option Bool := fun _ => none) (loop : Nat → SS → Option LoopSpec := fun _ _ => none) : Ctx := ⟨tab, inlG tab (fun f => List.lookup f pt_Ph) (fun f => List.lookup f et_Ph) fns (fun _ => {}) 1000 6, fun f => List.lookup f pt_Ph, must, loop, 0, 0, fun f => List.lookup f et_Ph⟩
theorem cx_Ph_ok (must : Nat → Option Bool) (loop : Nat → SS → Option LoopSpec) : CxOK Try.prog (cx_Ph must loop) := inlG_ok mixed tab_ok pt_Ph_ok et_Ph_ok fns_ok 6 _ _ _ _
theorem dbWords_ok (b : Int) (len L : Nat) (ps qs : List (List Int)) (m : Int) (ws : List Int) (h0 : wfD len L b ps qs m ws) : SemCall Try.prog 47 [.ptr 0 0] [some ⟨205, [.ptr 1 0, .int .i64 b, .on 2 len false], 0, none⟩, some ⟨181, [], 0, some (.own (.mem ps qs m))⟩, some ⟨34, [.ints .u32 L ws], 1, none⟩] (AltK [⟨none, .on 3 (1 + len) false, [some ⟨205, [.ptr 1 0, .int .i64 b, .on 2 len false], 0, none⟩, some ⟨181, [], 0, some (.own (.mem ps qs m))⟩, some ⟨34, [.ints .u32 L ws], 1, none⟩, some ⟨34, [.ints .u32 (1 + len) (b :: ws)], 1, none⟩]⟩]) := by
  refine con_intro mixed (cx_Ph_ok (fun _ => none) (fun _ _ => none)) Try.func47 1000 ?_
  refine of_nf (p := ((-9223372036854775808 : Int) <= (1 : Int) + ((len : Nat) : Int) /\ (1 : Int) + ((len : Nat) : Int) < 9223372036854775808) /\ (0 : Int) <= (1 : Int) + ((len : Nat) : Int) /\ (1 : Int) + ((len : Nat) : Int) <= 1 + ((len : Nat) : Int) /\ (1 : Int) + ((len : Nat) : Int) <= 68719476736 /\ (0 : Int) <= (0 : Int) /\ (0 : Int) < ((((1 : Int) + ((len : Nat) : Int)).toNat : Nat) : Int) /\ (0 : Nat) < ((1 : Int) + ((len : Nat) : Int)).toNat + 0 /\ (0 : Int) <= (0 : Int) /\ (0 : Int) < ((((1 : Int) + ((len : Nat) : Int)).toNat : Nat) : Int) /\ (List.replicate ((1 : Int) + ((len : Nat) : Int)).toNat (0 : Int)).length = ((1 : Int) + ((len : Nat) : Int)).toNat /\ (0 : Int) <= (1 : Int) /\ (1 : Int) <= ((((1 : Int) + ((len : Nat) : Int)).toNat : Nat) : Int) /\ ((((1 : Int) + ((len : Nat) : Int)).toNat : Nat) : Int) <= (((((1 : Int) + ((len : Nat) : Int)).toNat + 0) : Nat) : Int) /\ len = L /\ ws.length = L /\ (List.take (((((1 : Int) + ((len : Nat) : Int)).toNat : Nat) : Int) - 1).toNat ws).length <= (((((1 : Int) + ((len : Nat) : Int)).toNat : Nat) : Int) - 1).toNat /\ (0 : Nat) < (List.take (((((1 : Int) + ((len : Nat) : Int)).toNat : Nat) : Int) - 1).toNat ws).length /\ ((List.replicate ((1 : Int) + ((len : Nat) : Int)).toNat (0 : Int)).set (0 : Nat) (IntKind.u32.wrap b)).length = ((1 : Int) + ((len : Nat) : Int)).toNat /\ (1 : Nat) + (List.take (((((1 : Int) + ((len : Nat) : Int)).toNat : Nat) : Int) - 1).toNat ws).length <= ((1 : Int) + ((len : Nat) : Int)).toNat /\ ((((1 : Int) + ((len : Nat) : Int)).toNat = 1 + len /\ false = false) /\ True) /\ (nat_lit 204 + (1 : Nat) = (205 : TypeId) /\ (0 : Nat) = (0 : Nat) /\ SV.ptr (1 : Nat) 0 = SV.ptr (1 : Nat) (0 : Nat) /\ b = b /\ (len = len /\ false = false) /\ True) /\ (Ob.own (OT.mem ps qs m) = Ob.own (OT.mem ps qs m) /\ nat_lit 180 + (1 : Nat) = (181 : TypeId) /\ (0 : Nat) = (0 : Nat) /\ True) /\ (nat_lit 33 + (1 : Nat) = (34 : TypeId) /\ nat_lit 0 + (1 : Nat) = (1 : Nat) /\ @Bool.rec (fun _ => Prop) False (ws = ws) (true && L.beq L) /\ True) /\ (nat_lit 33 + (1 : Nat) = (34 : TypeId) /\ nat_lit 0 + (1 : Nat) = (1 : Nat) /\ @Bool.rec (fun _ => Prop) False (((List.take (1 : Nat) ((List.replicate ((1 : Int) + ((len : Nat) : Int)).toNat (0 : Int)).set (0 : Nat) (IntKind.u32.wrap b))).append (List.take (((((1 : Int) + ((len : Nat) : Int)).toNat : Nat) : Int) - 1).toNat ws)).append (List.drop ((1 : Nat) + (List.take (((((1 : Int) + ((len : Nat) : Int)).toNat : Nat) : Int) - 1).toNat ws).length) ((List.replicate ((1 : Int) + ((len : Nat) : Int)).toNat (0 : Int)).set (0 : Nat) (IntKind.u32.wrap b))) = b :: ws) (true && ((1 : Int) + ((len : Nat) : Int)).toNat.beq ((1 : Nat) + len)) /\ True) /\ True) (by kernel_rfl) ?_
  have H := h0
  obtain ⟨l1, l2, l3, n1, n2, q1, q2, w1, b0, b1, p1, p2, m0, m1⟩ := h0
  have f1 : (1 + (len : Int)).toNat = 1 + len := by omega
  have f2 : (((1 + len : Nat) : Int) - 1).toNat = len := by omega
  have f3 : List.take len ws = ws := List.take_of_length_le (by omega)
  have ub : IntKind.u32.wrap b = b := by rw [wmod32]; omega
  have f4 : (List.replicate (1 + len) (0 : Int)).set 0 b = b :: List.replicate len 0 := by rw [Nat.add_comm, List.replicate_succ, List.set_cons_zero]
  have f5 : List.drop (1 + ws.length) (b :: List.replicate len (0 : Int)) = [] := List.drop_eq_nil_of_le (by simp; omega)
  have f6 : List.take 1 (b :: List.replicate len (0 : Int)) = [b] := rfl
  have happ : ∀ a b : List Int, a.append b = a ++ b := fun _ _ => rfl
  have f7 : (b :: List.replicate len (0 : Int)).length = 1 + len := by simp; omega
  have f8 : (List.replicate (1 + len) (0 : Int)).length = 1 + len := by simp
  simp only [f1, f2, f3, ub, f4, f5, f6, f7, f8, happ, List.append_nil, List.cons_append, List.nil_append]
  repeat' (first | with_reducible rfl | exact True.intro | with_reducible assumption | exact OwnSame.mk fun _ => rfl | exact OwnSameE.mk fun _ => rfl | apply And.intro | apply pieceEq | intro _)
  all_goals first | omega | rfl | (simp; done) | trace_state
noncomputable def c_dbWords : ECon
  | [.ptr 0 0], [some ⟨205, [.ptr 1 0, .int .i64 b, .on 2 len false], 0, none⟩, some ⟨181, [], 0, some (.own (.mem ps qs m))⟩, some ⟨34, [.ints .u32 L ws], 1, none⟩] => some ([wfD len L b ps qs m ws], [⟨none, .on 3 (1 + len) false, [some ⟨205, [.ptr 1 0, .int .i64 b, .on 2 len false], 0, none⟩, some ⟨181, [], 0, some (.own (.mem ps qs m))⟩, some ⟨34, [.ints .u32 L ws], 1, none⟩, some ⟨34, [.ints .u32 (1 + len) (b :: ws)], 1, none⟩]⟩])
  | _, _ => none
theorem c_dbWords_e : EEntry Try.prog 47 c_dbWords := by
  refine ⟨callFunc_ok Try.func47 (by kernel_rfl) (by kernel_rfl), fun args rows ps alts h hp => ?_⟩
  unfold c_dbWords at h
  split at h
  · cases h; exact dbWords_ok _ _ _ _ _ _ _ (hp _ (List.mem_of_getElem? (i := 0) rfl))
  · cases h
theorem dbClone_ok (b : Int) (len L : Nat) (ps qs : List (List Int)) (m : Int) (ws : List Int) (h0 : wfD len L b ps qs m ws) : SemCall Try.prog 41 [.ptr 0 0] [some ⟨205, [.ptr 1 0, .int .i64 b, .on 2 len false], 0, none⟩, some ⟨181, [], 0, some (.own (.mem ps qs m))⟩, some ⟨34, [.ints .u32 L ws], 1, none⟩] (AltK [⟨none, .ptr 3 0, [some ⟨205, [.ptr 1 0, .int .i64 b, .on 2 len false], 0, none⟩, some ⟨181, [], 0, some (.own (.mem ps qs m))⟩, some ⟨34, [.ints .u32 L ws], 1, none⟩, some ⟨205, [.ptr 4 0, .int .i64 b, .on 5 len false], 0, none⟩, some ⟨181, [], 0, some (.own (.mem ps qs m))⟩, some ⟨34, [.ints .u32 len ws], 1, none⟩]⟩]) := by
  refine con_intro mixed (cx_Ph_ok (fun _ => none) (fun _ _ => none)) Try.func41 1000 ?_
  refine of_nf (p := letI k0_ := (Ob.own (OT.mem ps qs m) = Ob.own (OT.mem ps qs m) /\ nat_lit 180 + (1 : Nat) = (181 : TypeId) /\ (0 : Nat) = (0 : Nat) /\ True); (1 : Nat) <= ps.length /\ 1 <= qs.length /\ ps.length <= 1048576 /\ qs.length <= 1048576 /\ (∀ (p : List Int), p ∈ ps -> p.length = 1024) /\ (∀ (p : List Int), p ∈ qs -> p.length = 1024) /\ (0 : Int) <= ((len : Nat) : Int) /\ ((len : Nat) : Int) <= ((len : Nat) : Int) /\ ((len : Nat) : Int) <= 68719476736 /\ len = L /\ ws.length = L /\ (List.take (((len : Nat) : Int)).toNat ws).length <= (((len : Nat) : Int)).toNat /\ (List.replicate (((len : Nat) : Int)).toNat (0 : Int)).length = (((len : Nat) : Int)).toNat /\ (0 : Nat) + (List.take (((len : Nat) : Int)).toNat ws).length <= (((len : Nat) : Int)).toNat /\ (SV.ptr (3 : Nat) 0 = SV.ptr (3 : Nat) (0 : Nat) /\ True) /\ (nat_lit 204 + (1 : Nat) = (205 : TypeId) /\ (0 : Nat) = (0 : Nat) /\ SV.ptr (nat_lit 1) 0 = SV.ptr (1 : Nat) (0 : Nat) /\ b = b /\ (len = len /\ false = false) /\ True) /\ k0_ /\ (nat_lit 33 + (1 : Nat) = (34 : TypeId) /\ nat_lit 0 + (1 : Nat) = (1 : Nat) /\ @Bool.rec (fun _ => Prop) False (ws = ws) (true && L.beq L) /\ True) /\ (nat_lit 204 + (1 : Nat) = (205 : TypeId) /\ (0 : Nat) = (0 : Nat) /\ SV.ptr (4 : Nat) 0 = SV.ptr (4 : Nat) (0 : Nat) /\ b = b /\ ((((len : Nat) : Int)).toNat = len /\ false = false) /\ True) /\ k0_ /\ (nat_lit 33 + (1 : Nat) = (34 : TypeId) /\ nat_lit 0 + (1 : Nat) = (1 : Nat) /\ @Bool.rec (fun _ => Prop) False ((List.take (((len : Nat) : Int)).toNat ws).append (List.drop ((0 : Nat) + (List.take (((len : Nat) : Int)).toNat ws).length) (List.replicate (((len : Nat) : Int)).toNat (0 : Int))) = ws) (true && (((len : Nat) : Int)).toNat.beq len) /\ True) /\ True) (by kernel_rfl) ?_
  have H := h0
  obtain ⟨l1, l2, l3, n1, n2, q1, q2, w1, b0, b1, p1, p2, m0, m1⟩ := h0
  have f1 : ((len : Int)).toNat = len := by omega
  have f3 : List.take len ws = ws := List.take_of_length_le (by omega)
  have f5 : List.drop (0 + ws.length) (List.replicate len (0 : Int)) = [] := List.drop_eq_nil_of_le (by simp; omega)
  have happ : ∀ a b : List Int, a.append b = a ++ b := fun _ _ => rfl
  have f8 : (List.replicate len (0 : Int)).length = len := by simp
  simp only [f1, f3, f5, f8, happ, List.append_nil]
  repeat' (first | with_reducible rfl | exact True.intro | with_reducible assumption | exact OwnSame.mk fun _ => rfl | exact OwnSameE.mk fun _ => rfl | apply And.intro | apply pieceEq | intro _)
  all_goals first | omega | rfl | (simp; done) | trace_state
noncomputable def c_dbClone : ECon
  | [.ptr 0 0], [some ⟨205, [.ptr 1 0, .int .i64 b, .on 2 len false], 0, none⟩, some ⟨181, [], 0, some (.own (.mem ps qs m))⟩, some ⟨34, [.ints .u32 L ws], 1, none⟩] => some ([wfD len L b ps qs m ws], [⟨none, .ptr 3 0, [some ⟨205, [.ptr 1 0, .int .i64 b, .on 2 len false], 0, none⟩, some ⟨181, [], 0, some (.own (.mem ps qs m))⟩, some ⟨34, [.ints .u32 L ws], 1, none⟩, some ⟨205, [.ptr 4 0, .int .i64 b, .on 5 len false], 0, none⟩, some ⟨181, [], 0, some (.own (.mem ps qs m))⟩, some ⟨34, [.ints .u32 len ws], 1, none⟩]⟩])
  | _, _ => none
theorem c_dbClone_e : EEntry Try.prog 41 c_dbClone := by
  refine ⟨callFunc_ok Try.func41 (by kernel_rfl) (by kernel_rfl), fun args rows ps alts h hp => ?_⟩
  unfold c_dbClone at h
  split at h
  · cases h; exact dbClone_ok _ _ _ _ _ _ _ (hp _ (List.mem_of_getElem? (i := 0) rfl))
  · cases h
theorem dbNew_ok (ps qs : List (List Int)) (m : Int) (h0 : 1 ≤ ps.length) (h1 : ps.length ≤ 64) (h2 : (∀ p ∈ ps, p.length = 1024)) (h3 : (∀ p ∈ qs, p.length = 1024)) (h4 : 0 ≤ m) (h5 : m ≤ 4000000000000000000) : SemCall Try.prog 62 [.ptr 0 0] [some ⟨181, [], 0, some (.own (.mem ps qs m))⟩] (AltK [⟨none, .ptr 1 0, [some ⟨181, [], 0, some (.own (.mem (List.replicate ps.length (List.replicate 1024 0)) qs (m + 1024 * (ps.length : Int))))⟩, some ⟨205, [.ptr 0 0, .int .i64 0, .on 2 (2 * ps.length) false], 0, none⟩, some ⟨34, [.ints .u32 (2 * ps.length) (List.replicate (2 * ps.length) 0)], 1, none⟩]⟩]) := by
  refine con_intro mixed (cx_Ph_ok (fun _ => none) (fun q s => bif Nat.beq q 4 then some ⟨Nat, fun k => ⟨[(0, .ptr 0 0), (7, .int .i64 (ps.length : Nat)), (8, .int .i64 (k : Int))], [some ⟨181, [], 0, some (.own (.mem (zA ps k) qs (m + 1024 * (k : Int))))⟩]⟩, fun k => k ≤ ps.length, fun k => ps.length - k⟩ else none)) Try.func62 1000 ?_
  refine of_nf (p := ∀ (m_1 : Int), m_1 = ((ps.length : Nat) : Int) -> ∀ (ps' : List (List Int)), ps' = ps -> ∀ (qs' : List (List Int)), qs' = qs -> ∀ (m' : Int), m' = m -> ∃ (x : Nat), ((SV.ptr (0 : Nat) 0 = SV.ptr (0 : Nat) (0 : Nat) /\ m_1 = ((ps.length : Nat) : Int) /\ (0 : Int) = ((x : Nat) : Int) /\ True) /\ (Ob.own (OT.mem ps' qs' m') = Ob.own (OT.mem (zA ps x) qs (m + 1024 * ((x : Nat) : Int))) /\ nat_lit 180 + (1 : Nat) = (181 : TypeId) /\ (0 : Nat) = (0 : Nat) /\ True) /\ True) /\ x.le ps.length /\ ∀ (x : Nat), x.le ps.length -> (decide (((x : Nat) : Int) < ((ps.length : Nat) : Int)) = true -> 0 <= m + 1024 * ((x : Nat) : Int) /\ m + 1024 * ((x : Nat) : Int) <= 4611686018427387904 /\ (∀ (p : List Int), p ∈ zA ps x -> p.length = 1024) /\ (∀ (p : List Int), p ∈ qs -> p.length = 1024) /\ ∀ (m_2 : Int), (m_2 = if hasP true (((x : Nat) : Int)) (zA ps x) qs = true then (0 : Int) else (5 : Int)) -> ∀ (ps' : List (List Int)), ps' = setP (true && hasP true (((x : Nat) : Int)) (zA ps x) qs) (((x : Nat) : Int)) (List.replicate (1024 : Nat) (0 : Int)) (zA ps x) -> ∀ (qs' : List (List Int)), qs' = setP (false && hasP true (((x : Nat) : Int)) (zA ps x) qs) (((x : Nat) : Int)) (List.replicate (1024 : Nat) (0 : Int)) qs -> ∀ (m' : Int), (m' = if hasP true (((x : Nat) : Int)) (zA ps x) qs = true then m + 1024 * ((x : Nat) : Int) + 1024 else m + 1024 * ((x : Nat) : Int)) -> ((-9223372036854775808 : Int) <= ((x : Nat) : Int) + 1 /\ ((x : Nat) : Int) + 1 < (9223372036854775808 : Int)) /\ ∃ (y : Nat), ((SV.ptr (0 : Nat) 0 = SV.ptr (0 : Nat) (0 : Nat) /\ ((ps.length : Nat) : Int) = ((ps.length : Nat) : Int) /\ ((x : Nat) : Int) + 1 = ((y : Nat) : Int) /\ True) /\ (Ob.own (OT.mem ps' qs' m') = Ob.own (OT.mem (zA ps y) qs (m + 1024 * ((y : Nat) : Int))) /\ nat_lit 180 + (1 : Nat) = (181 : TypeId) /\ (0 : Nat) = (0 : Nat) /\ True) /\ True) /\ y.le ps.length /\ ps.length - y < ps.length - x) /\ (decide (((x : Nat) : Int) < ((ps.length : Nat) : Int)) = false -> ∀ (m_2 : Int), m_2 = (((zA ps x).length : Nat) : Int) -> ∀ (ps' : List (List Int)), ps' = zA ps x -> ∀ (qs' : List (List Int)), qs' = qs -> ∀ (m' : Int), m' = m + 1024 * ((x : Nat) : Int) -> ((-9223372036854775808 : Int) <= (2 : Int) * m_2 /\ (2 : Int) * m_2 < 9223372036854775808) /\ (0 : Int) <= (2 : Int) * m_2 /\ (2 : Int) * m_2 <= 2 * m_2 /\ (2 : Int) * m_2 <= 68719476736 /\ (SV.ptr (1 : Nat) 0 = SV.ptr (1 : Nat) (0 : Nat) /\ True) /\ (Ob.own (OT.mem ps' qs' m') = Ob.own (OT.mem (List.replicate ps.length (List.replicate (1024 : Nat) (0 : Int))) qs (m + 1024 * ((ps.length : Nat) : Int))) /\ nat_lit 180 + (1 : Nat) = (181 : TypeId) /\ (0 : Nat) = (0 : Nat) /\ True) /\ (nat_lit 204 + (1 : Nat) = (205 : TypeId) /\ (0 : Nat) = (0 : Nat) /\ SV.ptr (nat_lit 0) 0 = SV.ptr (0 : Nat) (0 : Nat) /\ (0 : Int) = (0 : Int) /\ (((2 : Int) * m_2).toNat = 2 * ps.length /\ false = false) /\ True) /\ (nat_lit 33 + (1 : Nat) = (34 : TypeId) /\ nat_lit 0 + (1 : Nat) = (1 : Nat) /\ @Bool.rec (fun _ => Prop) False (List.replicate ((2 : Int) * m_2).toNat 0 = List.replicate ((2 : Nat) * ps.length) (0 : Int)) (true && ((2 : Int) * m_2).toNat.beq ((2 : Nat) * ps.length)) /\ True) /\ True)) (by kernel_rfl) ?_
  simp only [↓forall_eq]
  refine ⟨0, ?_, Nat.zero_le _, fun x hx => ⟨fun h => ?_, fun h => ?_⟩⟩
  · repeat' (first | with_reducible rfl | exact True.intro | with_reducible assumption | exact OwnSame.mk fun _ => rfl | exact OwnSameE.mk fun _ => rfl | apply And.intro | apply pieceEq | intro _)
    all_goals first | omega | rfl | exact memEq (zA_0 _) rfl (by omega) | (simp; done) | trace_state
  · have h := of_decide_eq_true h
    have hx : x ≤ ps.length := hx
    have hh : hasP true (x : Int) (zA ps x) qs = true := by rw [hasP_hs]; unfold hs; rw [zA_len hx]; simp; omega
    have hz : setP (true && true) (x : Int) (List.replicate 1024 0) (zA ps x) = zA ps (x + 1) := by
      rw [← zA_s (by omega)]; rfl
    have hin := zA_in h2 x
    have hq : setP (false && true) (x : Int) (List.replicate 1024 0) qs = qs := rfl
    simp only [hh, hz, hq, ↓reduceIte]
    repeat' (first | with_reducible rfl | exact True.intro | with_reducible assumption | apply And.intro | refine Exists.intro (x + 1) ?_ | intro _)
    all_goals first | omega | rfl | exact memEq rfl rfl (by omega) | (show x + 1 ≤ ps.length; omega) | (simp; done) | trace_state
  · have h := of_decide_eq_false h
    have hx : x ≤ ps.length := hx
    obtain rfl : x = ps.length := by omega
    have hl := zA_len hx
    have f1 : (2 * (ps.length : Int)).toNat = 2 * ps.length := by omega
    simp only [hl, f1]
    repeat' (first | with_reducible rfl | exact True.intro | with_reducible assumption | exact OwnSame.mk fun _ => rfl | exact OwnSameE.mk fun _ => rfl | apply And.intro | apply pieceEq | intro _)
    all_goals first | omega | rfl | exact memEq (zA_all _) rfl rfl | (simp; done) | trace_state
noncomputable def c_dbNew : ECon
  | [.ptr 0 0], [some ⟨181, [], 0, some (.own (.mem ps qs m))⟩] => some ([1 ≤ ps.length, ps.length ≤ 64, (∀ p ∈ ps, p.length = 1024), (∀ p ∈ qs, p.length = 1024), 0 ≤ m, m ≤ 4000000000000000000], [⟨none, .ptr 1 0, [some ⟨181, [], 0, some (.own (.mem (List.replicate ps.length (List.replicate 1024 0)) qs (m + 1024 * (ps.length : Int))))⟩, some ⟨205, [.ptr 0 0, .int .i64 0, .on 2 (2 * ps.length) false], 0, none⟩, some ⟨34, [.ints .u32 (2 * ps.length) (List.replicate (2 * ps.length) 0)], 1, none⟩]⟩])
  | _, _ => none
theorem c_dbNew_e : EEntry Try.prog 62 c_dbNew := by
  refine ⟨callFunc_ok Try.func62 (by kernel_rfl) (by kernel_rfl), fun args rows ps alts h hp => ?_⟩
  unfold c_dbNew at h
  split at h
  · cases h; exact dbNew_ok _ _ _ (hp _ (List.mem_of_getElem? (i := 0) rfl)) (hp _ (List.mem_of_getElem? (i := 1) rfl)) (hp _ (List.mem_of_getElem? (i := 2) rfl)) (hp _ (List.mem_of_getElem? (i := 3) rfl)) (hp _ (List.mem_of_getElem? (i := 4) rfl)) (hp _ (List.mem_of_getElem? (i := 5) rfl))
  · cases h
end Go.Proofs.Ytlndkfcnfhkbkaa
