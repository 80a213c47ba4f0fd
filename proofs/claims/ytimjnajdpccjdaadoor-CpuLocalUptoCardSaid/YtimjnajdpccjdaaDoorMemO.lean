/- A memory's calls, the memory being one row. No condition beyond lengths. -/
import Derived.Test.YtimjnajdpccjdaaDoorMemQ
namespace Go.Proofs.YtimjnajdpccjdaaDoor
set_option linter.unusedVariables false
set_option linter.unusedSimpArgs false
open Go.RowKit Sx
set_option maxRecDepth 100000
set_option maxHeartbeats 4000000
abbrev OB (ps qs : List (List Int)) (m : Int) : Row := ⟨120, [], 0, some (.own (.mem ps qs m))⟩
abbrev HD3 (a b : Nat) (m : Int) : Option Row := some ⟨120, [.on 1 a false, .on 2 b false, .int .i64 m], 0, none⟩
abbrev FM3 (t : Nat) (ps : List (List Int)) : Option Row := some ⟨0, [], 0, some (.fam (.boxes 155 129 .u32 1024 t ps []))⟩
theorem memEq {ps qs ps' qs' : List (List Int)} {m m' : Int} (h1 : ps = ps') (h2 : qs = qs') (h3 : m = m') : Ob.own (.mem ps qs m) = Ob.own (.mem ps' qs' m') := by rw [h1, h2, h3]
theorem clMem0 (ps qs : List (List Int)) (m : Int) {T : Sx.Rows} {i : Nat} (h : T[i]? = some (some (OB ps qs m))) : ∀ (r : Row) (x : OT), T[i]? = some (some r) → r.ob = some (.own x) → r.cs = [] ∧ ∃ rh, (OTrows x)[0]? = some (some rh) ∧ rh.sz = 0 ∧ ∀ (k : Nat) (q : Row), (OTrows x)[k]? = some (some q) → q.ob = none ∨ (k ≠ 0 ∧ q.cs = [] ∧ ∃ f, q.ob = some (.fam f)) := by
  intro r x hr hx
  rw [h] at hr
  cases hr
  cases hx
  refine ⟨rfl, _, rfl, rfl, fun k q hk => ?_⟩
  rcases k with _ | _ | _ | k <;> simp [OTrows] at hk
  · subst hk; exact .inl rfl
  · subst hk; exact .inr ⟨by omega, rfl, _, rfl⟩
  · subst hk; exact .inr ⟨by omega, rfl, _, rfl⟩
theorem clMem1 (ps qs : List (List Int)) (m : Int) : closeOK [0] [some (OB ps qs m)] := by
  refine ⟨⟨clMem0 ps qs m rfl, fun j q hj h => ?_⟩, trivial⟩
  rcases j with _ | j
  · exact absurd rfl hj
  · simp at h
theorem clMem2 (ps qs : List (List Int)) (m : Int) (ps' qs' : List (List Int)) (m' : Int) : closeOK [0, 1] [some (OB ps qs m), some (OB ps' qs' m')] := by
  refine ⟨⟨clMem0 ps qs m rfl, fun j q hj h => ?_⟩, ⟨clMem0 ps' qs' m' rfl, fun j q hj h => ?_⟩, trivial⟩
  · rcases j with _ | _ | j
    · exact absurd rfl hj
    · simp at h; subst h; rfl
    · simp at h
  · rcases j with _ | _ | _ | _ | j
    · simp [open1, opAt, OTrows] at h; subst h; rfl
    · exact absurd rfl hj
    · simp [open1, opAt, OTrows] at h; subst h; rfl
    · simp [open1, opAt, OTrows, List.range_succ] at h; subst h; rfl
    · simp [open1, opAt, OTrows, List.range_succ] at h
theorem new_rows {a b : Nat} {ps qs : List (List Int)} (h1 : a = ps.length) (h2 : b = qs.length) : rnRows [(0, 0), (1, 1), (2, 2)] [HD3 a b 0, FM3 a ps, FM3 b qs] 3 = openL [0] [some (OB ps qs 0)] := by subst h1 h2; rfl
theorem closeMem {P : Program} {f : FuncId} {args : List SV} {ps qs ps' qs' : List (List Int)} {m m' : Int} {res : SV} (hs : SemCall P f args [HD3 ps.length qs.length m, FM3 ps.length ps, FM3 qs.length qs] (AltK [⟨none, res, [HD3 ps.length qs.length m', FM3 ps.length ps', FM3 qs.length qs']⟩]))
    (h1 : ps'.length = ps.length) (h2 : qs'.length = qs.length) (ha : okBL 1 args = true) (hr : rnV [(0, 0), (1, 1), (2, 2)] res = some res) (hb : okB 1 res = true) : SemCall P f args [some (OB ps qs m)] (AltK [⟨none, res, [some (OB ps' qs' m')]⟩]) := by
  rw [← h1, ← h2] at hs
  have e : ([HD3 ps'.length qs'.length m, FM3 ps'.length ps, FM3 qs'.length qs] : Sx.Rows) = openL [0] [some (OB ps qs m)] := by rw [h1, h2]; rfl
  rw [e] at hs
  exact SemCall.close packOT (is := [0]) (js := [0]) (g := [(0, 0), (1, 1), (2, 2)]) hs ha rfl rfl hr (clMem1 _ _ _) hb (by simp)
theorem ReadM_ok (t : Bool) (k : Int) (m : Int) (ps qs : List (List Int)) (off : Int) (h0 : 0 ≤ m) (h1 : m ≤ 4611686018427387904) : SemCall Tryd.prog 54 [.ptr 0 0, .agg [.bool t, .int .i64 k], .int .i64 off] [some ⟨120, [], 0, some (.own (.mem ps qs m))⟩] (AltK [⟨none, .tup [.int .u32 (rdW t k off ps qs), .int .i64 (errW t k off ps qs)], [some ⟨120, [], 0, some (.own (.mem ps qs (if okW t k off ps qs = true then m + 1 else m)))⟩]⟩]) := by
  refine closeMem (ReadO_ok t k ps.length qs.length ps.length qs.length m ps qs off rfl rfl h0 h1) ?_ ?_ rfl rfl rfl
  all_goals first | rfl | exact setP_len _ _ _ _ | (split <;> first | rfl | exact setP_len _ _ _ _) | (simp only [setP_len])
noncomputable def c_ReadM : ECon
  | [.ptr 0 0, .agg [.bool t, .int .i64 k], .int .i64 off], [some ⟨120, [], 0, some (.own (.mem ps qs m))⟩] => some ([0 ≤ m, m ≤ 4611686018427387904], [⟨none, .tup [.int .u32 (rdW t k off ps qs), .int .i64 (errW t k off ps qs)], [some ⟨120, [], 0, some (.own (.mem ps qs (if okW t k off ps qs = true then m + 1 else m)))⟩]⟩])
  | _, _ => none
theorem c_ReadM_e : EEntry Tryd.prog 54 c_ReadM := by
  refine ⟨callFunc_ok Tryd.func54 (by kernel_rfl) (by kernel_rfl), fun args rows ps alts h hp => ?_⟩
  unfold c_ReadM at h
  split at h
  · cases h; exact ReadM_ok _ _ _ _ _ _ (hp.i 0) (hp.i 1)
  · cases h
theorem WriteM_ok (t : Bool) (k : Int) (m : Int) (ps qs : List (List Int)) (off v : Int) (h0 : 0 ≤ m) (h1 : m ≤ 4611686018427387904) (h2 : (∀ p ∈ ps, p.length = 1024)) (h3 : (∀ p ∈ qs, p.length = 1024)) : SemCall Tryd.prog 21 [.ptr 0 0, .agg [.bool t, .int .i64 k], .int .i64 off, .int .u32 v] [some ⟨120, [], 0, some (.own (.mem ps qs m))⟩] (AltK [⟨none, .int .i64 (errW t k off ps qs), [some ⟨120, [], 0, some (.own (.mem (setP (t && okW t k off ps qs) k ((pgAt t k ps qs).set off.toNat v) ps) (setP (!t && okW t k off ps qs) k ((pgAt t k ps qs).set off.toNat v) qs) (if okW t k off ps qs = true then m + 1 else m)))⟩]⟩]) := by
  refine closeMem (WriteO_ok t k ps.length qs.length ps.length qs.length m ps qs off v rfl rfl h0 h1 h2 h3) ?_ ?_ rfl rfl rfl
  all_goals first | rfl | exact setP_len _ _ _ _ | (split <;> first | rfl | exact setP_len _ _ _ _) | (simp only [setP_len])
noncomputable def c_WriteM : ECon
  | [.ptr 0 0, .agg [.bool t, .int .i64 k], .int .i64 off, .int .u32 v], [some ⟨120, [], 0, some (.own (.mem ps qs m))⟩] => some ([0 ≤ m, m ≤ 4611686018427387904, (∀ p ∈ ps, p.length = 1024), (∀ p ∈ qs, p.length = 1024)], [⟨none, .int .i64 (errW t k off ps qs), [some ⟨120, [], 0, some (.own (.mem (setP (t && okW t k off ps qs) k ((pgAt t k ps qs).set off.toNat v) ps) (setP (!t && okW t k off ps qs) k ((pgAt t k ps qs).set off.toNat v) qs) (if okW t k off ps qs = true then m + 1 else m)))⟩]⟩])
  | _, _ => none
theorem c_WriteM_e : EEntry Tryd.prog 21 c_WriteM := by
  refine ⟨callFunc_ok Tryd.func21 (by kernel_rfl) (by kernel_rfl), fun args rows ps alts h hp => ?_⟩
  unfold c_WriteM at h
  split at h
  · cases h; exact WriteM_ok _ _ _ _ _ _ _ (hp.i 0) (hp.i 1) (hp.i 2) (hp.i 3)
  · cases h
theorem PeekM_ok (t : Bool) (k : Int) (m : Int) (ps qs : List (List Int)) (off : Int)  : SemCall Tryd.prog 16 [.ptr 0 0, .agg [.bool t, .int .i64 k], .int .i64 off] [some ⟨120, [], 0, some (.own (.mem ps qs m))⟩] (AltK [⟨none, .int .u32 (rdW t k off ps qs), [some ⟨120, [], 0, some (.own (.mem ps qs m))⟩]⟩]) := by
  refine closeMem (PeekO_ok t k ps.length qs.length ps.length qs.length m ps qs off rfl rfl) ?_ ?_ rfl rfl rfl
  all_goals first | rfl | exact setP_len _ _ _ _ | (split <;> first | rfl | exact setP_len _ _ _ _) | (simp only [setP_len])
noncomputable def c_PeekM : ECon
  | [.ptr 0 0, .agg [.bool t, .int .i64 k], .int .i64 off], [some ⟨120, [], 0, some (.own (.mem ps qs m))⟩] => some ([], [⟨none, .int .u32 (rdW t k off ps qs), [some ⟨120, [], 0, some (.own (.mem ps qs m))⟩]⟩])
  | _, _ => none
theorem c_PeekM_e : EEntry Tryd.prog 16 c_PeekM := by
  refine ⟨callFunc_ok Tryd.func16 (by kernel_rfl) (by kernel_rfl), fun args rows ps alts h hp => ?_⟩
  unfold c_PeekM at h
  split at h
  · cases h; exact PeekM_ok _ _ _ _ _ _ 
  · cases h
theorem HasM_ok (t : Bool) (k : Int) (m : Int) (ps qs : List (List Int))  : SemCall Tryd.prog 138 [.ptr 0 0, .agg [.bool t, .int .i64 k]] [some ⟨120, [], 0, some (.own (.mem ps qs m))⟩] (AltK [⟨none, .bool (hasP t k ps qs), [some ⟨120, [], 0, some (.own (.mem ps qs m))⟩]⟩]) := by
  refine closeMem (HasO_ok t k ps.length qs.length ps.length qs.length m ps qs rfl rfl) ?_ ?_ rfl rfl rfl
  all_goals first | rfl | exact setP_len _ _ _ _ | (split <;> first | rfl | exact setP_len _ _ _ _) | (simp only [setP_len])
noncomputable def c_HasM : ECon
  | [.ptr 0 0, .agg [.bool t, .int .i64 k]], [some ⟨120, [], 0, some (.own (.mem ps qs m))⟩] => some ([], [⟨none, .bool (hasP t k ps qs), [some ⟨120, [], 0, some (.own (.mem ps qs m))⟩]⟩])
  | _, _ => none
theorem c_HasM_e : EEntry Tryd.prog 138 c_HasM := by
  refine ⟨callFunc_ok Tryd.func138 (by kernel_rfl) (by kernel_rfl), fun args rows ps alts h hp => ?_⟩
  unfold c_HasM at h
  split at h
  · cases h; exact HasM_ok _ _ _ _ _ 
  · cases h
theorem MeterM_ok (m : Int) (ps qs : List (List Int))  : SemCall Tryd.prog 22 [.ptr 0 0] [some ⟨120, [], 0, some (.own (.mem ps qs m))⟩] (AltK [⟨none, .int .i64 m, [some ⟨120, [], 0, some (.own (.mem ps qs m))⟩]⟩]) := by
  refine closeMem (Meter_ok ps.length qs.length ps.length qs.length m ps qs) ?_ ?_ rfl rfl rfl
  all_goals first | rfl | exact setP_len _ _ _ _ | (split <;> first | rfl | exact setP_len _ _ _ _) | (simp only [setP_len])
noncomputable def c_MeterM : ECon
  | [.ptr 0 0], [some ⟨120, [], 0, some (.own (.mem ps qs m))⟩] => some ([], [⟨none, .int .i64 m, [some ⟨120, [], 0, some (.own (.mem ps qs m))⟩]⟩])
  | _, _ => none
theorem c_MeterM_e : EEntry Tryd.prog 22 c_MeterM := by
  refine ⟨callFunc_ok Tryd.func22 (by kernel_rfl) (by kernel_rfl), fun args rows ps alts h hp => ?_⟩
  unfold c_MeterM at h
  split at h
  · cases h; exact MeterM_ok _ _ _ 
  · cases h
theorem SecureM_ok (m : Int) (ps qs : List (List Int))  : SemCall Tryd.prog 57 [.ptr 0 0] [some ⟨120, [], 0, some (.own (.mem ps qs m))⟩] (AltK [⟨none, .int .i64 (ps.length : Nat), [some ⟨120, [], 0, some (.own (.mem ps qs m))⟩]⟩]) := by
  refine closeMem (Secure_ok ps.length qs.length ps.length qs.length m ps qs) ?_ ?_ rfl rfl rfl
  all_goals first | rfl | exact setP_len _ _ _ _ | (split <;> first | rfl | exact setP_len _ _ _ _) | (simp only [setP_len])
noncomputable def c_SecureM : ECon
  | [.ptr 0 0], [some ⟨120, [], 0, some (.own (.mem ps qs m))⟩] => some ([], [⟨none, .int .i64 (ps.length : Nat), [some ⟨120, [], 0, some (.own (.mem ps qs m))⟩]⟩])
  | _, _ => none
theorem c_SecureM_e : EEntry Tryd.prog 57 c_SecureM := by
  refine ⟨callFunc_ok Tryd.func57 (by kernel_rfl) (by kernel_rfl), fun args rows ps alts h hp => ?_⟩
  unfold c_SecureM at h
  split at h
  · cases h; exact SecureM_ok _ _ _ 
  · cases h
theorem InsecureM_ok (m : Int) (ps qs : List (List Int))  : SemCall Tryd.prog 56 [.ptr 0 0] [some ⟨120, [], 0, some (.own (.mem ps qs m))⟩] (AltK [⟨none, .int .i64 (qs.length : Nat), [some ⟨120, [], 0, some (.own (.mem ps qs m))⟩]⟩]) := by
  refine closeMem (Insecure_ok ps.length qs.length ps.length qs.length m ps qs) ?_ ?_ rfl rfl rfl
  all_goals first | rfl | exact setP_len _ _ _ _ | (split <;> first | rfl | exact setP_len _ _ _ _) | (simp only [setP_len])
noncomputable def c_InsecureM : ECon
  | [.ptr 0 0], [some ⟨120, [], 0, some (.own (.mem ps qs m))⟩] => some ([], [⟨none, .int .i64 (qs.length : Nat), [some ⟨120, [], 0, some (.own (.mem ps qs m))⟩]⟩])
  | _, _ => none
theorem c_InsecureM_e : EEntry Tryd.prog 56 c_InsecureM := by
  refine ⟨callFunc_ok Tryd.func56 (by kernel_rfl) (by kernel_rfl), fun args rows ps alts h hp => ?_⟩
  unfold c_InsecureM at h
  split at h
  · cases h; exact InsecureM_ok _ _ _ 
  · cases h
theorem NewM_ok (s i : Int)  : SemCall Tryd.prog 38 [.int .i64 s, .int .i64 i] [] (AltK [⟨some (inN s i = true), .tup [.ptr 0 0, .int .i64 0], [some ⟨120, [], 0, some (.own (.mem (List.replicate s.toNat (List.replicate 1024 (0 : Int))) (List.replicate i.toNat (List.replicate 1024 (0 : Int))) 0))⟩]⟩, ⟨some (inN s i = false), .tup [.val (.pointer none), .int .i64 1], []⟩]) := by
  refine SemCall.closeL packOT (is := []) (New_ok s i) rfl fun x hx hh => ?_
  rcases List.mem_cons.1 hx with rfl | hx
  · refine ⟨_, List.mem_cons_self, hh, [0], [(0, 0), (1, 1), (2, 2)], rfl, ?_, rfl, clMem1 _ _ _, rfl, by simp⟩
    exact new_rows (by simp) (by simp)
  · obtain rfl := List.mem_singleton.1 hx
    exact ⟨_, List.mem_cons_of_mem _ List.mem_cons_self, hh, [], [], rfl, rfl, rfl, trivial, rfl, by simp⟩
theorem New1_ok (s i : Int) (h0 : inN s i = true) : SemCall Tryd.prog 38 [.int .i64 s, .int .i64 i] [] (AltK [⟨none, .tup [.ptr 0 0, .int .i64 0], [some ⟨120, [], 0, some (.own (.mem (List.replicate s.toNat (List.replicate 1024 (0 : Int))) (List.replicate i.toNat (List.replicate 1024 (0 : Int))) 0))⟩]⟩]) := by
  refine (NewM_ok s i).mono' fun r rows h => ?_
  obtain ⟨x, hx, hh, h1, h2⟩ := h
  rcases List.mem_cons.1 hx with rfl | hx
  · exact ⟨_, List.mem_singleton.2 rfl, trivial, h1, h2⟩
  · obtain rfl := List.mem_singleton.1 hx
    exact Bool.noConfusion (h0.symm.trans (hh : inN s i = false))
noncomputable def c_New1 : ECon
  | [.int .i64 s, .int .i64 i], [] => some ([inN s i = true], [⟨none, .tup [.ptr 0 0, .int .i64 0], [some ⟨120, [], 0, some (.own (.mem (List.replicate s.toNat (List.replicate 1024 (0 : Int))) (List.replicate i.toNat (List.replicate 1024 (0 : Int))) 0))⟩]⟩])
  | _, _ => none
theorem c_New1_e : EEntry Tryd.prog 38 c_New1 := by
  refine ⟨callFunc_ok Tryd.func38 (by kernel_rfl) (by kernel_rfl), fun args rows ps alts h hp => ?_⟩
  unfold c_New1 at h
  split at h
  · cases h; exact New1_ok _ _ (hp.i 0)
  · cases h
theorem CloneM_ok (m : Int) (ps qs : List (List Int)) (h0 : 1 ≤ ps.length) (h1 : 1 ≤ qs.length) (h2 : ps.length ≤ 1048576) (h3 : qs.length ≤ 1048576) (h4 : (∀ p ∈ ps, p.length = 1024)) (h5 : (∀ p ∈ qs, p.length = 1024)) : SemCall Tryd.prog 12 [.ptr 0 0] [some ⟨120, [], 0, some (.own (.mem ps qs m))⟩] (AltK [⟨none, .ptr 1 0, [some ⟨120, [], 0, some (.own (.mem ps qs m))⟩, some ⟨120, [], 0, some (.own (.mem ps qs m))⟩]⟩]) := by
  exact SemCall.close packOT (is := [0]) (js := [0, 1]) (g := [(0, 0), (1, 3), (2, 1), (3, 2), (4, 4), (5, 5)]) (Clone_ok ps.length qs.length ps.length qs.length m ps qs rfl rfl h0 h1 h2 h3 h4 h5) rfl rfl rfl rfl (clMem2 _ _ _ _ _ _) rfl (by simp)
noncomputable def c_CloneM : ECon
  | [.ptr 0 0], [some ⟨120, [], 0, some (.own (.mem ps qs m))⟩] => some ([1 ≤ ps.length, 1 ≤ qs.length, ps.length ≤ 1048576, qs.length ≤ 1048576, (∀ p ∈ ps, p.length = 1024), (∀ p ∈ qs, p.length = 1024)], [⟨none, .ptr 1 0, [some ⟨120, [], 0, some (.own (.mem ps qs m))⟩, some ⟨120, [], 0, some (.own (.mem ps qs m))⟩]⟩])
  | _, _ => none
theorem c_CloneM_e : EEntry Tryd.prog 12 c_CloneM := by
  refine ⟨callFunc_ok Tryd.func12 (by kernel_rfl) (by kernel_rfl), fun args rows ps alts h hp => ?_⟩
  unfold c_CloneM at h
  split at h
  · cases h; exact CloneM_ok _ _ _ (hp.i 0) (hp.i 1) (hp.i 2) (hp.i 3) (hp.i 4) (hp.i 5)
  · cases h
end Go.Proofs.YtimjnajdpccjdaaDoor
