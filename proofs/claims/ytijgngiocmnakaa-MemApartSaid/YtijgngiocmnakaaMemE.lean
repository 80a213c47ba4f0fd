/- A memory's pages copied. No condition beyond lengths. -/
import Derived.Test.YtijgngiocmnakaaMemD
namespace Go.Proofs.Ytijgngiocmnakaa
open Go.RowKit Sx
set_option linter.unusedVariables false
set_option linter.unusedSimpArgs false
set_option maxRecDepth 100000
set_option maxHeartbeats 4000000
noncomputable def c_cpTS : ECon := ECon.or c_atT c_atTS
theorem c_cpTS_e : EEntry Try.prog 37 c_cpTS := EEntry.or c_atT_e c_atTS_e
noncomputable def pt_ccTS : List (Nat × (List SV → Option (List Prop × SV))) := []
theorem pt_ccTS_ok : PureOK Try.prog (fun f => List.lookup f pt_ccTS) := pure_list pt_ccTS trivial
noncomputable def et_ccTS : List (Nat × ECon) := [(37, c_cpTS)]
theorem et_ccTS_ok : ConOK Try.prog (fun f => List.lookup f et_ccTS) := con_list et_ccTS ⟨c_cpTS_e, trivial⟩
noncomputable abbrev cx_ccTS (must : Nat → Option Bool := fun _ => none) (loop : Nat → SS → Option LoopSpec := fun _ _ => none) : Ctx := ⟨tab, inlC tab (fun f => List.lookup f pt_ccTS) (fun f => List.lookup f et_ccTS) fns (fun _ => {}) 1000 4, fun f => List.lookup f pt_ccTS, must, loop, 0, 0, fun f => List.lookup f et_ccTS⟩
theorem cx_ccTS_ok (must : Nat → Option Bool) (loop : Nat → SS → Option LoopSpec) : CxOK Try.prog (cx_ccTS must loop) := inlC_ok mixed tab_ok pt_ccTS_ok et_ccTS_ok fns_ok 4 _ _ _ _
theorem CopyTSX_ok (t u : Bool) (k l : Int) (a b ta tb : Nat) (m : Int) (ps qs : List (List Int)) (h0 : a = ps.length) (h1 : b = qs.length) (h2 : 0 ≤ m) (h3 : m ≤ 4611686018427387904) (h4 : (∀ p ∈ ps, p.length = 1024)) (h5 : (∀ p ∈ qs, p.length = 1024)) (h6 : t = true) (h7 : 0 ≤ k) (h8 : k < ps.length) (h9 : u = true) (h10 : l = k) : SemCall Try.prog 21 [.ptr 0 0, .agg [.bool t, .int .i64 k], .agg [.bool u, .int .i64 l]] [some ⟨78, [.on 1 a false, .on 2 b false, .int .i64 m], 0, none⟩, some ⟨0, [], 0, some (.fam (.boxes 90 85 .u32 1024 ta ps []))⟩, some ⟨0, [], 0, some (.fam (.boxes 90 85 .u32 1024 tb qs []))⟩] (AltK [⟨none, .int .i64 0, [some ⟨78, [.on 1 a false, .on 2 b false, .int .i64 (m + 2048)], 0, none⟩, some ⟨1, [.ptr 3 0], 0, some (.fam (.boxes 90 85 .u32 1024 ta ps [k.toNat]))⟩, some ⟨0, [], 0, some (.fam (.boxes 90 85 .u32 1024 tb qs []))⟩, some ⟨90, [.ints .u32 1024 (ps.getD k.toNat [])], 0, none⟩]⟩]) := by
  refine con_intro mixed (cx_ccTS_ok (fun _ => none) (fun _ _ => none)) Try.func21 1000 ?_
  refine of_nf (p := a = ps.length ∧ b = qs.length ∧ t = true ∧ (0 : Int) ≤ k ∧ k < ((ps.length : Nat) : Int) ∧ a = ps.length ∧ b = qs.length ∧ u = true ∧ l = ((k.toNat : Nat) : Int) ∧ k.toNat < ps.length ∧ ((-9223372036854775808 : Int) ≤ m + (2048 : Int) ∧ m + (2048 : Int) < (9223372036854775808 : Int)) ∧ ((0 : Int) = (0 : Int) ∧ True) ∧ (nat_lit 77 + (1 : Nat) = (78 : TypeId) ∧ (0 : Nat) = (0 : Nat) ∧ (a = a ∧ false = false) ∧ (b = b ∧ false = false) ∧ m + (2048 : Int) = m + (2048 : Int) ∧ True) ∧ (Ob.fam (FamT.boxes (90 : Nat) (85 : Nat) IntKind.u32 (1024 : Nat) ta ps [k.toNat]) = Ob.fam (FamT.boxes (90 : Nat) (85 : Nat) IntKind.u32 (1024 : Nat) ta ps [k.toNat]) ∧ nat_lit 0 + (1 : Nat) = (1 : TypeId) ∧ (0 : Nat) = (0 : Nat) ∧ SV.ptr (3 : Nat) (0 : Nat) = SV.ptr (3 : Nat) (0 : Nat) ∧ True) ∧ (Ob.fam (FamT.boxes (90 : Nat) (85 : Nat) IntKind.u32 (1024 : Nat) tb qs []) = Ob.fam (FamT.boxes (90 : Nat) (85 : Nat) IntKind.u32 (1024 : Nat) tb qs []) ∧ (0 : Nat) = (0 : TypeId) ∧ (0 : Nat) = (0 : Nat) ∧ True) ∧ (nat_lit 89 + (1 : Nat) = (90 : TypeId) ∧ (0 : Nat) = (0 : Nat) ∧ ps.getD k.toNat [] = ps.getD k.toNat [] ∧ True) ∧ True) (by kernel_rfl) ?_
  repeat' (first | with_reducible rfl | exact True.intro | apply And.intro)
  all_goals first | assumption | omega | rfl | exact lenP (by assumption) (by omega)
noncomputable def c_cpTT : ECon := ECon.or c_atT c_atTT
theorem c_cpTT_e : EEntry Try.prog 37 c_cpTT := EEntry.or c_atT_e c_atTT_e
noncomputable def pt_ccTT : List (Nat × (List SV → Option (List Prop × SV))) := []
theorem pt_ccTT_ok : PureOK Try.prog (fun f => List.lookup f pt_ccTT) := pure_list pt_ccTT trivial
noncomputable def et_ccTT : List (Nat × ECon) := [(37, c_cpTT)]
theorem et_ccTT_ok : ConOK Try.prog (fun f => List.lookup f et_ccTT) := con_list et_ccTT ⟨c_cpTT_e, trivial⟩
noncomputable abbrev cx_ccTT (must : Nat → Option Bool := fun _ => none) (loop : Nat → SS → Option LoopSpec := fun _ _ => none) : Ctx := ⟨tab, inlC tab (fun f => List.lookup f pt_ccTT) (fun f => List.lookup f et_ccTT) fns (fun _ => {}) 1000 4, fun f => List.lookup f pt_ccTT, must, loop, 0, 0, fun f => List.lookup f et_ccTT⟩
theorem cx_ccTT_ok (must : Nat → Option Bool) (loop : Nat → SS → Option LoopSpec) : CxOK Try.prog (cx_ccTT must loop) := inlC_ok mixed tab_ok pt_ccTT_ok et_ccTT_ok fns_ok 4 _ _ _ _
theorem CopyTTX_ok (t u : Bool) (k l : Int) (a b ta tb : Nat) (m : Int) (ps qs : List (List Int)) (h0 : a = ps.length) (h1 : b = qs.length) (h2 : 0 ≤ m) (h3 : m ≤ 4611686018427387904) (h4 : (∀ p ∈ ps, p.length = 1024)) (h5 : (∀ p ∈ qs, p.length = 1024)) (h6 : t = true) (h7 : 0 ≤ k) (h8 : k < ps.length) (h9 : u = true) (h10 : 0 ≤ l) (h11 : l < ps.length) (h12 : ¬ l = k) : SemCall Try.prog 21 [.ptr 0 0, .agg [.bool t, .int .i64 k], .agg [.bool u, .int .i64 l]] [some ⟨78, [.on 1 a false, .on 2 b false, .int .i64 m], 0, none⟩, some ⟨0, [], 0, some (.fam (.boxes 90 85 .u32 1024 ta ps []))⟩, some ⟨0, [], 0, some (.fam (.boxes 90 85 .u32 1024 tb qs []))⟩] (AltK [⟨none, .int .i64 0, [some ⟨78, [.on 1 a false, .on 2 b false, .int .i64 (m + 2048)], 0, none⟩, some ⟨1, [.ptr 4 0, .ptr 3 0], 0, some (.fam (.boxes 90 85 .u32 1024 ta ps [l.toNat, k.toNat]))⟩, some ⟨0, [], 0, some (.fam (.boxes 90 85 .u32 1024 tb qs []))⟩, some ⟨90, [.ints .u32 1024 (ps.getD l.toNat [])], 0, none⟩, some ⟨90, [.ints .u32 1024 (ps.getD l.toNat [])], 0, none⟩]⟩]) := by
  refine con_intro mixed (cx_ccTT_ok (fun _ => none) (fun _ _ => none)) Try.func21 1000 ?_
  refine of_nf (p := a = ps.length ∧ b = qs.length ∧ t = true ∧ (0 : Int) ≤ k ∧ k < ((ps.length : Nat) : Int) ∧ a = ps.length ∧ b = qs.length ∧ u = true ∧ (0 : Int) ≤ l ∧ l < ((ps.length : Nat) : Int) ∧ ¬l = ((k.toNat : Nat) : Int) ∧ ((-9223372036854775808 : Int) ≤ m + (2048 : Int) ∧ m + (2048 : Int) < (9223372036854775808 : Int)) ∧ ((0 : Int) = (0 : Int) ∧ True) ∧ (nat_lit 77 + (1 : Nat) = (78 : TypeId) ∧ (0 : Nat) = (0 : Nat) ∧ (a = a ∧ false = false) ∧ (b = b ∧ false = false) ∧ m + (2048 : Int) = m + (2048 : Int) ∧ True) ∧ (Ob.fam (FamT.boxes (90 : Nat) (85 : Nat) IntKind.u32 (1024 : Nat) ta ps [l.toNat, k.toNat]) = Ob.fam (FamT.boxes (90 : Nat) (85 : Nat) IntKind.u32 (1024 : Nat) ta ps [l.toNat, k.toNat]) ∧ nat_lit 0 + (1 : Nat) = (1 : TypeId) ∧ (0 : Nat) = (0 : Nat) ∧ SV.ptr (4 : Nat) (0 : Nat) = SV.ptr (4 : Nat) (0 : Nat) ∧ SV.ptr (3 : Nat) (0 : Nat) = SV.ptr (3 : Nat) (0 : Nat) ∧ True) ∧ (Ob.fam (FamT.boxes (90 : Nat) (85 : Nat) IntKind.u32 (1024 : Nat) tb qs []) = Ob.fam (FamT.boxes (90 : Nat) (85 : Nat) IntKind.u32 (1024 : Nat) tb qs []) ∧ (0 : Nat) = (0 : TypeId) ∧ (0 : Nat) = (0 : Nat) ∧ True) ∧ (nat_lit 89 + (1 : Nat) = (90 : TypeId) ∧ (0 : Nat) = (0 : Nat) ∧ ps.getD l.toNat [] = ps.getD l.toNat [] ∧ True) ∧ (nat_lit 89 + (1 : Nat) = (90 : TypeId) ∧ (0 : Nat) = (0 : Nat) ∧ ps.getD l.toNat [] = ps.getD l.toNat [] ∧ True) ∧ True) (by kernel_rfl) ?_
  repeat' (first | with_reducible rfl | exact True.intro | apply And.intro)
  all_goals first | assumption | omega | rfl | exact lenP (by assumption) (by omega)
noncomputable def c_cpTF : ECon := ECon.or c_atT c_atTF
theorem c_cpTF_e : EEntry Try.prog 37 c_cpTF := EEntry.or c_atT_e c_atTF_e
noncomputable def pt_ccTF : List (Nat × (List SV → Option (List Prop × SV))) := []
theorem pt_ccTF_ok : PureOK Try.prog (fun f => List.lookup f pt_ccTF) := pure_list pt_ccTF trivial
noncomputable def et_ccTF : List (Nat × ECon) := [(37, c_cpTF)]
theorem et_ccTF_ok : ConOK Try.prog (fun f => List.lookup f et_ccTF) := con_list et_ccTF ⟨c_cpTF_e, trivial⟩
noncomputable abbrev cx_ccTF (must : Nat → Option Bool := fun _ => none) (loop : Nat → SS → Option LoopSpec := fun _ _ => none) : Ctx := ⟨tab, inlC tab (fun f => List.lookup f pt_ccTF) (fun f => List.lookup f et_ccTF) fns (fun _ => {}) 1000 4, fun f => List.lookup f pt_ccTF, must, loop, 0, 0, fun f => List.lookup f et_ccTF⟩
theorem cx_ccTF_ok (must : Nat → Option Bool) (loop : Nat → SS → Option LoopSpec) : CxOK Try.prog (cx_ccTF must loop) := inlC_ok mixed tab_ok pt_ccTF_ok et_ccTF_ok fns_ok 4 _ _ _ _
theorem CopyTFX_ok (t u : Bool) (k l : Int) (a b ta tb : Nat) (m : Int) (ps qs : List (List Int)) (h0 : a = ps.length) (h1 : b = qs.length) (h2 : 0 ≤ m) (h3 : m ≤ 4611686018427387904) (h4 : (∀ p ∈ ps, p.length = 1024)) (h5 : (∀ p ∈ qs, p.length = 1024)) (h6 : t = true) (h7 : 0 ≤ k) (h8 : k < ps.length) (h9 : u = false) (h10 : 0 ≤ l) (h11 : l < qs.length) : SemCall Try.prog 21 [.ptr 0 0, .agg [.bool t, .int .i64 k], .agg [.bool u, .int .i64 l]] [some ⟨78, [.on 1 a false, .on 2 b false, .int .i64 m], 0, none⟩, some ⟨0, [], 0, some (.fam (.boxes 90 85 .u32 1024 ta ps []))⟩, some ⟨0, [], 0, some (.fam (.boxes 90 85 .u32 1024 tb qs []))⟩] (AltK [⟨none, .int .i64 0, [some ⟨78, [.on 1 a false, .on 2 b false, .int .i64 (m + 2048)], 0, none⟩, some ⟨1, [.ptr 3 0], 0, some (.fam (.boxes 90 85 .u32 1024 ta ps [k.toNat]))⟩, some ⟨0, [.ptr 4 0], 0, some (.fam (.boxes 90 85 .u32 1024 tb qs [l.toNat]))⟩, some ⟨90, [.ints .u32 1024 (qs.getD l.toNat [])], 0, none⟩, some ⟨90, [.ints .u32 1024 (qs.getD l.toNat [])], 0, none⟩]⟩]) := by
  refine con_intro mixed (cx_ccTF_ok (fun _ => none) (fun _ _ => none)) Try.func21 1000 ?_
  refine of_nf (p := a = ps.length ∧ b = qs.length ∧ t = true ∧ (0 : Int) ≤ k ∧ k < ((ps.length : Nat) : Int) ∧ a = ps.length ∧ b = qs.length ∧ u = false ∧ (0 : Int) ≤ l ∧ l < ((qs.length : Nat) : Int) ∧ ((-9223372036854775808 : Int) ≤ m + (2048 : Int) ∧ m + (2048 : Int) < (9223372036854775808 : Int)) ∧ ((0 : Int) = (0 : Int) ∧ True) ∧ (nat_lit 77 + (1 : Nat) = (78 : TypeId) ∧ (0 : Nat) = (0 : Nat) ∧ (a = a ∧ false = false) ∧ (b = b ∧ false = false) ∧ m + (2048 : Int) = m + (2048 : Int) ∧ True) ∧ (Ob.fam (FamT.boxes (90 : Nat) (85 : Nat) IntKind.u32 (1024 : Nat) ta ps [k.toNat]) = Ob.fam (FamT.boxes (90 : Nat) (85 : Nat) IntKind.u32 (1024 : Nat) ta ps [k.toNat]) ∧ nat_lit 0 + (1 : Nat) = (1 : TypeId) ∧ (0 : Nat) = (0 : Nat) ∧ SV.ptr (3 : Nat) (0 : Nat) = SV.ptr (3 : Nat) (0 : Nat) ∧ True) ∧ (Ob.fam (FamT.boxes (90 : Nat) (85 : Nat) IntKind.u32 (1024 : Nat) tb qs [l.toNat]) = Ob.fam (FamT.boxes (90 : Nat) (85 : Nat) IntKind.u32 (1024 : Nat) tb qs [l.toNat]) ∧ (0 : Nat) = (0 : TypeId) ∧ (0 : Nat) = (0 : Nat) ∧ SV.ptr (4 : Nat) (0 : Nat) = SV.ptr (4 : Nat) (0 : Nat) ∧ True) ∧ (nat_lit 89 + (1 : Nat) = (90 : TypeId) ∧ (0 : Nat) = (0 : Nat) ∧ qs.getD l.toNat [] = qs.getD l.toNat [] ∧ True) ∧ (nat_lit 89 + (1 : Nat) = (90 : TypeId) ∧ (0 : Nat) = (0 : Nat) ∧ qs.getD l.toNat [] = qs.getD l.toNat [] ∧ True) ∧ True) (by kernel_rfl) ?_
  repeat' (first | with_reducible rfl | exact True.intro | apply And.intro)
  all_goals first | assumption | omega | rfl | exact lenP (by assumption) (by omega)
noncomputable def c_cpTN : ECon := ECon.or c_atT c_atTN
theorem c_cpTN_e : EEntry Try.prog 37 c_cpTN := EEntry.or c_atT_e c_atTN_e
noncomputable def pt_ccTN : List (Nat × (List SV → Option (List Prop × SV))) := []
theorem pt_ccTN_ok : PureOK Try.prog (fun f => List.lookup f pt_ccTN) := pure_list pt_ccTN trivial
noncomputable def et_ccTN : List (Nat × ECon) := [(37, c_cpTN)]
theorem et_ccTN_ok : ConOK Try.prog (fun f => List.lookup f et_ccTN) := con_list et_ccTN ⟨c_cpTN_e, trivial⟩
noncomputable abbrev cx_ccTN (must : Nat → Option Bool := fun _ => none) (loop : Nat → SS → Option LoopSpec := fun _ _ => none) : Ctx := ⟨tab, inlC tab (fun f => List.lookup f pt_ccTN) (fun f => List.lookup f et_ccTN) fns (fun _ => {}) 1000 4, fun f => List.lookup f pt_ccTN, must, loop, 0, 0, fun f => List.lookup f et_ccTN⟩
theorem cx_ccTN_ok (must : Nat → Option Bool) (loop : Nat → SS → Option LoopSpec) : CxOK Try.prog (cx_ccTN must loop) := inlC_ok mixed tab_ok pt_ccTN_ok et_ccTN_ok fns_ok 4 _ _ _ _
theorem CopyTNX_ok (t u : Bool) (k l : Int) (a b ta tb : Nat) (m : Int) (ps qs : List (List Int)) (h0 : a = ps.length) (h1 : b = qs.length) (h2 : 0 ≤ m) (h3 : m ≤ 4611686018427387904) (h4 : (∀ p ∈ ps, p.length = 1024)) (h5 : (∀ p ∈ qs, p.length = 1024)) (h6 : t = true) (h7 : 0 ≤ k) (h8 : k < ps.length) (h9 : (u = true ∧ ¬ (0 ≤ l ∧ l < ps.length)) ∨ (u = false ∧ ¬ (0 ≤ l ∧ l < qs.length))) : SemCall Try.prog 21 [.ptr 0 0, .agg [.bool t, .int .i64 k], .agg [.bool u, .int .i64 l]] [some ⟨78, [.on 1 a false, .on 2 b false, .int .i64 m], 0, none⟩, some ⟨0, [], 0, some (.fam (.boxes 90 85 .u32 1024 ta ps []))⟩, some ⟨0, [], 0, some (.fam (.boxes 90 85 .u32 1024 tb qs []))⟩] (AltK [⟨none, .int .i64 5, [some ⟨78, [.on 1 a false, .on 2 b false, .int .i64 m], 0, none⟩, some ⟨1, [.ptr 3 0], 0, some (.fam (.boxes 90 85 .u32 1024 ta ps [k.toNat]))⟩, some ⟨0, [], 0, some (.fam (.boxes 90 85 .u32 1024 tb qs []))⟩, some ⟨90, [.ints .u32 1024 (ps.getD k.toNat [])], 0, none⟩]⟩]) := by
  refine con_intro mixed (cx_ccTN_ok (fun _ => none) (fun _ _ => none)) Try.func21 1000 ?_
  refine of_nf (p := a = ps.length ∧ b = qs.length ∧ t = true ∧ (0 : Int) ≤ k ∧ k < ((ps.length : Nat) : Int) ∧ a = ps.length ∧ b = qs.length ∧ (u = true ∧ ¬((0 : Int) ≤ l ∧ l < ((ps.length : Nat) : Int)) ∨ u = false ∧ ¬((0 : Int) ≤ l ∧ l < ((qs.length : Nat) : Int))) ∧ ((5 : Int) = (5 : Int) ∧ True) ∧ (nat_lit 77 + (1 : Nat) = (78 : TypeId) ∧ (0 : Nat) = (0 : Nat) ∧ (a = a ∧ false = false) ∧ (b = b ∧ false = false) ∧ m = m ∧ True) ∧ (Ob.fam (FamT.boxes (90 : Nat) (85 : Nat) IntKind.u32 (1024 : Nat) ta ps [k.toNat]) = Ob.fam (FamT.boxes (90 : Nat) (85 : Nat) IntKind.u32 (1024 : Nat) ta ps [k.toNat]) ∧ nat_lit 0 + (1 : Nat) = (1 : TypeId) ∧ (0 : Nat) = (0 : Nat) ∧ SV.ptr (3 : Nat) (0 : Nat) = SV.ptr (3 : Nat) (0 : Nat) ∧ True) ∧ (Ob.fam (FamT.boxes (90 : Nat) (85 : Nat) IntKind.u32 (1024 : Nat) tb qs []) = Ob.fam (FamT.boxes (90 : Nat) (85 : Nat) IntKind.u32 (1024 : Nat) tb qs []) ∧ (0 : Nat) = (0 : TypeId) ∧ (0 : Nat) = (0 : Nat) ∧ True) ∧ (nat_lit 89 + (1 : Nat) = (90 : TypeId) ∧ (0 : Nat) = (0 : Nat) ∧ ps.getD k.toNat [] = ps.getD k.toNat [] ∧ True) ∧ True) (by kernel_rfl) ?_
  repeat' (first | with_reducible rfl | exact True.intro | apply And.intro)
  all_goals first | assumption | omega | rfl | exact lenP (by assumption) (by omega)
noncomputable def c_cpFS : ECon := ECon.or c_atF c_atFS
theorem c_cpFS_e : EEntry Try.prog 37 c_cpFS := EEntry.or c_atF_e c_atFS_e
noncomputable def pt_ccFS : List (Nat × (List SV → Option (List Prop × SV))) := []
theorem pt_ccFS_ok : PureOK Try.prog (fun f => List.lookup f pt_ccFS) := pure_list pt_ccFS trivial
noncomputable def et_ccFS : List (Nat × ECon) := [(37, c_cpFS)]
theorem et_ccFS_ok : ConOK Try.prog (fun f => List.lookup f et_ccFS) := con_list et_ccFS ⟨c_cpFS_e, trivial⟩
noncomputable abbrev cx_ccFS (must : Nat → Option Bool := fun _ => none) (loop : Nat → SS → Option LoopSpec := fun _ _ => none) : Ctx := ⟨tab, inlC tab (fun f => List.lookup f pt_ccFS) (fun f => List.lookup f et_ccFS) fns (fun _ => {}) 1000 4, fun f => List.lookup f pt_ccFS, must, loop, 0, 0, fun f => List.lookup f et_ccFS⟩
theorem cx_ccFS_ok (must : Nat → Option Bool) (loop : Nat → SS → Option LoopSpec) : CxOK Try.prog (cx_ccFS must loop) := inlC_ok mixed tab_ok pt_ccFS_ok et_ccFS_ok fns_ok 4 _ _ _ _
theorem CopyFSX_ok (t u : Bool) (k l : Int) (a b ta tb : Nat) (m : Int) (ps qs : List (List Int)) (h0 : a = ps.length) (h1 : b = qs.length) (h2 : 0 ≤ m) (h3 : m ≤ 4611686018427387904) (h4 : (∀ p ∈ ps, p.length = 1024)) (h5 : (∀ p ∈ qs, p.length = 1024)) (h6 : t = false) (h7 : 0 ≤ k) (h8 : k < qs.length) (h9 : u = false) (h10 : l = k) : SemCall Try.prog 21 [.ptr 0 0, .agg [.bool t, .int .i64 k], .agg [.bool u, .int .i64 l]] [some ⟨78, [.on 1 a false, .on 2 b false, .int .i64 m], 0, none⟩, some ⟨0, [], 0, some (.fam (.boxes 90 85 .u32 1024 ta ps []))⟩, some ⟨0, [], 0, some (.fam (.boxes 90 85 .u32 1024 tb qs []))⟩] (AltK [⟨none, .int .i64 0, [some ⟨78, [.on 1 a false, .on 2 b false, .int .i64 (m + 2048)], 0, none⟩, some ⟨1, [], 0, some (.fam (.boxes 90 85 .u32 1024 ta ps []))⟩, some ⟨0, [.ptr 3 0], 0, some (.fam (.boxes 90 85 .u32 1024 tb qs [k.toNat]))⟩, some ⟨90, [.ints .u32 1024 (qs.getD k.toNat [])], 0, none⟩]⟩]) := by
  refine con_intro mixed (cx_ccFS_ok (fun _ => none) (fun _ _ => none)) Try.func21 1000 ?_
  refine of_nf (p := a = ps.length ∧ b = qs.length ∧ t = false ∧ (0 : Int) ≤ k ∧ k < ((qs.length : Nat) : Int) ∧ a = ps.length ∧ b = qs.length ∧ u = false ∧ l = ((k.toNat : Nat) : Int) ∧ k.toNat < qs.length ∧ ((-9223372036854775808 : Int) ≤ m + (2048 : Int) ∧ m + (2048 : Int) < (9223372036854775808 : Int)) ∧ ((0 : Int) = (0 : Int) ∧ True) ∧ (nat_lit 77 + (1 : Nat) = (78 : TypeId) ∧ (0 : Nat) = (0 : Nat) ∧ (a = a ∧ false = false) ∧ (b = b ∧ false = false) ∧ m + (2048 : Int) = m + (2048 : Int) ∧ True) ∧ (Ob.fam (FamT.boxes (90 : Nat) (85 : Nat) IntKind.u32 (1024 : Nat) ta ps []) = Ob.fam (FamT.boxes (90 : Nat) (85 : Nat) IntKind.u32 (1024 : Nat) ta ps []) ∧ nat_lit 0 + (1 : Nat) = (1 : TypeId) ∧ (0 : Nat) = (0 : Nat) ∧ True) ∧ (Ob.fam (FamT.boxes (90 : Nat) (85 : Nat) IntKind.u32 (1024 : Nat) tb qs [k.toNat]) = Ob.fam (FamT.boxes (90 : Nat) (85 : Nat) IntKind.u32 (1024 : Nat) tb qs [k.toNat]) ∧ (0 : Nat) = (0 : TypeId) ∧ (0 : Nat) = (0 : Nat) ∧ SV.ptr (3 : Nat) (0 : Nat) = SV.ptr (3 : Nat) (0 : Nat) ∧ True) ∧ (nat_lit 89 + (1 : Nat) = (90 : TypeId) ∧ (0 : Nat) = (0 : Nat) ∧ qs.getD k.toNat [] = qs.getD k.toNat [] ∧ True) ∧ True) (by kernel_rfl) ?_
  repeat' (first | with_reducible rfl | exact True.intro | apply And.intro)
  all_goals first | assumption | omega | rfl | exact lenP (by assumption) (by omega)
noncomputable def c_cpFF : ECon := ECon.or c_atF c_atFF
theorem c_cpFF_e : EEntry Try.prog 37 c_cpFF := EEntry.or c_atF_e c_atFF_e
noncomputable def pt_ccFF : List (Nat × (List SV → Option (List Prop × SV))) := []
theorem pt_ccFF_ok : PureOK Try.prog (fun f => List.lookup f pt_ccFF) := pure_list pt_ccFF trivial
noncomputable def et_ccFF : List (Nat × ECon) := [(37, c_cpFF)]
theorem et_ccFF_ok : ConOK Try.prog (fun f => List.lookup f et_ccFF) := con_list et_ccFF ⟨c_cpFF_e, trivial⟩
noncomputable abbrev cx_ccFF (must : Nat → Option Bool := fun _ => none) (loop : Nat → SS → Option LoopSpec := fun _ _ => none) : Ctx := ⟨tab, inlC tab (fun f => List.lookup f pt_ccFF) (fun f => List.lookup f et_ccFF) fns (fun _ => {}) 1000 4, fun f => List.lookup f pt_ccFF, must, loop, 0, 0, fun f => List.lookup f et_ccFF⟩
theorem cx_ccFF_ok (must : Nat → Option Bool) (loop : Nat → SS → Option LoopSpec) : CxOK Try.prog (cx_ccFF must loop) := inlC_ok mixed tab_ok pt_ccFF_ok et_ccFF_ok fns_ok 4 _ _ _ _
theorem CopyFFX_ok (t u : Bool) (k l : Int) (a b ta tb : Nat) (m : Int) (ps qs : List (List Int)) (h0 : a = ps.length) (h1 : b = qs.length) (h2 : 0 ≤ m) (h3 : m ≤ 4611686018427387904) (h4 : (∀ p ∈ ps, p.length = 1024)) (h5 : (∀ p ∈ qs, p.length = 1024)) (h6 : t = false) (h7 : 0 ≤ k) (h8 : k < qs.length) (h9 : u = false) (h10 : 0 ≤ l) (h11 : l < qs.length) (h12 : ¬ l = k) : SemCall Try.prog 21 [.ptr 0 0, .agg [.bool t, .int .i64 k], .agg [.bool u, .int .i64 l]] [some ⟨78, [.on 1 a false, .on 2 b false, .int .i64 m], 0, none⟩, some ⟨0, [], 0, some (.fam (.boxes 90 85 .u32 1024 ta ps []))⟩, some ⟨0, [], 0, some (.fam (.boxes 90 85 .u32 1024 tb qs []))⟩] (AltK [⟨none, .int .i64 0, [some ⟨78, [.on 1 a false, .on 2 b false, .int .i64 (m + 2048)], 0, none⟩, some ⟨1, [], 0, some (.fam (.boxes 90 85 .u32 1024 ta ps []))⟩, some ⟨0, [.ptr 4 0, .ptr 3 0], 0, some (.fam (.boxes 90 85 .u32 1024 tb qs [l.toNat, k.toNat]))⟩, some ⟨90, [.ints .u32 1024 (qs.getD l.toNat [])], 0, none⟩, some ⟨90, [.ints .u32 1024 (qs.getD l.toNat [])], 0, none⟩]⟩]) := by
  refine con_intro mixed (cx_ccFF_ok (fun _ => none) (fun _ _ => none)) Try.func21 1000 ?_
  refine of_nf (p := a = ps.length ∧ b = qs.length ∧ t = false ∧ (0 : Int) ≤ k ∧ k < ((qs.length : Nat) : Int) ∧ a = ps.length ∧ b = qs.length ∧ u = false ∧ (0 : Int) ≤ l ∧ l < ((qs.length : Nat) : Int) ∧ ¬l = ((k.toNat : Nat) : Int) ∧ ((-9223372036854775808 : Int) ≤ m + (2048 : Int) ∧ m + (2048 : Int) < (9223372036854775808 : Int)) ∧ ((0 : Int) = (0 : Int) ∧ True) ∧ (nat_lit 77 + (1 : Nat) = (78 : TypeId) ∧ (0 : Nat) = (0 : Nat) ∧ (a = a ∧ false = false) ∧ (b = b ∧ false = false) ∧ m + (2048 : Int) = m + (2048 : Int) ∧ True) ∧ (Ob.fam (FamT.boxes (90 : Nat) (85 : Nat) IntKind.u32 (1024 : Nat) ta ps []) = Ob.fam (FamT.boxes (90 : Nat) (85 : Nat) IntKind.u32 (1024 : Nat) ta ps []) ∧ nat_lit 0 + (1 : Nat) = (1 : TypeId) ∧ (0 : Nat) = (0 : Nat) ∧ True) ∧ (Ob.fam (FamT.boxes (90 : Nat) (85 : Nat) IntKind.u32 (1024 : Nat) tb qs [l.toNat, k.toNat]) = Ob.fam (FamT.boxes (90 : Nat) (85 : Nat) IntKind.u32 (1024 : Nat) tb qs [l.toNat, k.toNat]) ∧ (0 : Nat) = (0 : TypeId) ∧ (0 : Nat) = (0 : Nat) ∧ SV.ptr (4 : Nat) (0 : Nat) = SV.ptr (4 : Nat) (0 : Nat) ∧ SV.ptr (3 : Nat) (0 : Nat) = SV.ptr (3 : Nat) (0 : Nat) ∧ True) ∧ (nat_lit 89 + (1 : Nat) = (90 : TypeId) ∧ (0 : Nat) = (0 : Nat) ∧ qs.getD l.toNat [] = qs.getD l.toNat [] ∧ True) ∧ (nat_lit 89 + (1 : Nat) = (90 : TypeId) ∧ (0 : Nat) = (0 : Nat) ∧ qs.getD l.toNat [] = qs.getD l.toNat [] ∧ True) ∧ True) (by kernel_rfl) ?_
  repeat' (first | with_reducible rfl | exact True.intro | apply And.intro)
  all_goals first | assumption | omega | rfl | exact lenP (by assumption) (by omega)
noncomputable def c_cpFT : ECon := ECon.or c_atF c_atFT
theorem c_cpFT_e : EEntry Try.prog 37 c_cpFT := EEntry.or c_atF_e c_atFT_e
noncomputable def pt_ccFT : List (Nat × (List SV → Option (List Prop × SV))) := []
theorem pt_ccFT_ok : PureOK Try.prog (fun f => List.lookup f pt_ccFT) := pure_list pt_ccFT trivial
noncomputable def et_ccFT : List (Nat × ECon) := [(37, c_cpFT)]
theorem et_ccFT_ok : ConOK Try.prog (fun f => List.lookup f et_ccFT) := con_list et_ccFT ⟨c_cpFT_e, trivial⟩
noncomputable abbrev cx_ccFT (must : Nat → Option Bool := fun _ => none) (loop : Nat → SS → Option LoopSpec := fun _ _ => none) : Ctx := ⟨tab, inlC tab (fun f => List.lookup f pt_ccFT) (fun f => List.lookup f et_ccFT) fns (fun _ => {}) 1000 4, fun f => List.lookup f pt_ccFT, must, loop, 0, 0, fun f => List.lookup f et_ccFT⟩
theorem cx_ccFT_ok (must : Nat → Option Bool) (loop : Nat → SS → Option LoopSpec) : CxOK Try.prog (cx_ccFT must loop) := inlC_ok mixed tab_ok pt_ccFT_ok et_ccFT_ok fns_ok 4 _ _ _ _
theorem CopyFTX_ok (t u : Bool) (k l : Int) (a b ta tb : Nat) (m : Int) (ps qs : List (List Int)) (h0 : a = ps.length) (h1 : b = qs.length) (h2 : 0 ≤ m) (h3 : m ≤ 4611686018427387904) (h4 : (∀ p ∈ ps, p.length = 1024)) (h5 : (∀ p ∈ qs, p.length = 1024)) (h6 : t = false) (h7 : 0 ≤ k) (h8 : k < qs.length) (h9 : u = true) (h10 : 0 ≤ l) (h11 : l < ps.length) : SemCall Try.prog 21 [.ptr 0 0, .agg [.bool t, .int .i64 k], .agg [.bool u, .int .i64 l]] [some ⟨78, [.on 1 a false, .on 2 b false, .int .i64 m], 0, none⟩, some ⟨0, [], 0, some (.fam (.boxes 90 85 .u32 1024 ta ps []))⟩, some ⟨0, [], 0, some (.fam (.boxes 90 85 .u32 1024 tb qs []))⟩] (AltK [⟨none, .int .i64 0, [some ⟨78, [.on 1 a false, .on 2 b false, .int .i64 (m + 2048)], 0, none⟩, some ⟨1, [.ptr 4 0], 0, some (.fam (.boxes 90 85 .u32 1024 ta ps [l.toNat]))⟩, some ⟨0, [.ptr 3 0], 0, some (.fam (.boxes 90 85 .u32 1024 tb qs [k.toNat]))⟩, some ⟨90, [.ints .u32 1024 (ps.getD l.toNat [])], 0, none⟩, some ⟨90, [.ints .u32 1024 (ps.getD l.toNat [])], 0, none⟩]⟩]) := by
  refine con_intro mixed (cx_ccFT_ok (fun _ => none) (fun _ _ => none)) Try.func21 1000 ?_
  refine of_nf (p := a = ps.length ∧ b = qs.length ∧ t = false ∧ (0 : Int) ≤ k ∧ k < ((qs.length : Nat) : Int) ∧ a = ps.length ∧ b = qs.length ∧ u = true ∧ (0 : Int) ≤ l ∧ l < ((ps.length : Nat) : Int) ∧ ((-9223372036854775808 : Int) ≤ m + (2048 : Int) ∧ m + (2048 : Int) < (9223372036854775808 : Int)) ∧ ((0 : Int) = (0 : Int) ∧ True) ∧ (nat_lit 77 + (1 : Nat) = (78 : TypeId) ∧ (0 : Nat) = (0 : Nat) ∧ (a = a ∧ false = false) ∧ (b = b ∧ false = false) ∧ m + (2048 : Int) = m + (2048 : Int) ∧ True) ∧ (Ob.fam (FamT.boxes (90 : Nat) (85 : Nat) IntKind.u32 (1024 : Nat) ta ps [l.toNat]) = Ob.fam (FamT.boxes (90 : Nat) (85 : Nat) IntKind.u32 (1024 : Nat) ta ps [l.toNat]) ∧ nat_lit 0 + (1 : Nat) = (1 : TypeId) ∧ (0 : Nat) = (0 : Nat) ∧ SV.ptr (4 : Nat) (0 : Nat) = SV.ptr (4 : Nat) (0 : Nat) ∧ True) ∧ (Ob.fam (FamT.boxes (90 : Nat) (85 : Nat) IntKind.u32 (1024 : Nat) tb qs [k.toNat]) = Ob.fam (FamT.boxes (90 : Nat) (85 : Nat) IntKind.u32 (1024 : Nat) tb qs [k.toNat]) ∧ (0 : Nat) = (0 : TypeId) ∧ (0 : Nat) = (0 : Nat) ∧ SV.ptr (3 : Nat) (0 : Nat) = SV.ptr (3 : Nat) (0 : Nat) ∧ True) ∧ (nat_lit 89 + (1 : Nat) = (90 : TypeId) ∧ (0 : Nat) = (0 : Nat) ∧ ps.getD l.toNat [] = ps.getD l.toNat [] ∧ True) ∧ (nat_lit 89 + (1 : Nat) = (90 : TypeId) ∧ (0 : Nat) = (0 : Nat) ∧ ps.getD l.toNat [] = ps.getD l.toNat [] ∧ True) ∧ True) (by kernel_rfl) ?_
  repeat' (first | with_reducible rfl | exact True.intro | apply And.intro)
  all_goals first | assumption | omega | rfl | exact lenP (by assumption) (by omega)
noncomputable def c_cpFN : ECon := ECon.or c_atF c_atFN
theorem c_cpFN_e : EEntry Try.prog 37 c_cpFN := EEntry.or c_atF_e c_atFN_e
noncomputable def pt_ccFN : List (Nat × (List SV → Option (List Prop × SV))) := []
theorem pt_ccFN_ok : PureOK Try.prog (fun f => List.lookup f pt_ccFN) := pure_list pt_ccFN trivial
noncomputable def et_ccFN : List (Nat × ECon) := [(37, c_cpFN)]
theorem et_ccFN_ok : ConOK Try.prog (fun f => List.lookup f et_ccFN) := con_list et_ccFN ⟨c_cpFN_e, trivial⟩
noncomputable abbrev cx_ccFN (must : Nat → Option Bool := fun _ => none) (loop : Nat → SS → Option LoopSpec := fun _ _ => none) : Ctx := ⟨tab, inlC tab (fun f => List.lookup f pt_ccFN) (fun f => List.lookup f et_ccFN) fns (fun _ => {}) 1000 4, fun f => List.lookup f pt_ccFN, must, loop, 0, 0, fun f => List.lookup f et_ccFN⟩
theorem cx_ccFN_ok (must : Nat → Option Bool) (loop : Nat → SS → Option LoopSpec) : CxOK Try.prog (cx_ccFN must loop) := inlC_ok mixed tab_ok pt_ccFN_ok et_ccFN_ok fns_ok 4 _ _ _ _
theorem CopyFNX_ok (t u : Bool) (k l : Int) (a b ta tb : Nat) (m : Int) (ps qs : List (List Int)) (h0 : a = ps.length) (h1 : b = qs.length) (h2 : 0 ≤ m) (h3 : m ≤ 4611686018427387904) (h4 : (∀ p ∈ ps, p.length = 1024)) (h5 : (∀ p ∈ qs, p.length = 1024)) (h6 : t = false) (h7 : 0 ≤ k) (h8 : k < qs.length) (h9 : (u = true ∧ ¬ (0 ≤ l ∧ l < ps.length)) ∨ (u = false ∧ ¬ (0 ≤ l ∧ l < qs.length))) : SemCall Try.prog 21 [.ptr 0 0, .agg [.bool t, .int .i64 k], .agg [.bool u, .int .i64 l]] [some ⟨78, [.on 1 a false, .on 2 b false, .int .i64 m], 0, none⟩, some ⟨0, [], 0, some (.fam (.boxes 90 85 .u32 1024 ta ps []))⟩, some ⟨0, [], 0, some (.fam (.boxes 90 85 .u32 1024 tb qs []))⟩] (AltK [⟨none, .int .i64 5, [some ⟨78, [.on 1 a false, .on 2 b false, .int .i64 m], 0, none⟩, some ⟨1, [], 0, some (.fam (.boxes 90 85 .u32 1024 ta ps []))⟩, some ⟨0, [.ptr 3 0], 0, some (.fam (.boxes 90 85 .u32 1024 tb qs [k.toNat]))⟩, some ⟨90, [.ints .u32 1024 (qs.getD k.toNat [])], 0, none⟩]⟩]) := by
  refine con_intro mixed (cx_ccFN_ok (fun _ => none) (fun _ _ => none)) Try.func21 1000 ?_
  refine of_nf (p := a = ps.length ∧ b = qs.length ∧ t = false ∧ (0 : Int) ≤ k ∧ k < ((qs.length : Nat) : Int) ∧ a = ps.length ∧ b = qs.length ∧ (u = true ∧ ¬((0 : Int) ≤ l ∧ l < ((ps.length : Nat) : Int)) ∨ u = false ∧ ¬((0 : Int) ≤ l ∧ l < ((qs.length : Nat) : Int))) ∧ ((5 : Int) = (5 : Int) ∧ True) ∧ (nat_lit 77 + (1 : Nat) = (78 : TypeId) ∧ (0 : Nat) = (0 : Nat) ∧ (a = a ∧ false = false) ∧ (b = b ∧ false = false) ∧ m = m ∧ True) ∧ (Ob.fam (FamT.boxes (90 : Nat) (85 : Nat) IntKind.u32 (1024 : Nat) ta ps []) = Ob.fam (FamT.boxes (90 : Nat) (85 : Nat) IntKind.u32 (1024 : Nat) ta ps []) ∧ nat_lit 0 + (1 : Nat) = (1 : TypeId) ∧ (0 : Nat) = (0 : Nat) ∧ True) ∧ (Ob.fam (FamT.boxes (90 : Nat) (85 : Nat) IntKind.u32 (1024 : Nat) tb qs [k.toNat]) = Ob.fam (FamT.boxes (90 : Nat) (85 : Nat) IntKind.u32 (1024 : Nat) tb qs [k.toNat]) ∧ (0 : Nat) = (0 : TypeId) ∧ (0 : Nat) = (0 : Nat) ∧ SV.ptr (3 : Nat) (0 : Nat) = SV.ptr (3 : Nat) (0 : Nat) ∧ True) ∧ (nat_lit 89 + (1 : Nat) = (90 : TypeId) ∧ (0 : Nat) = (0 : Nat) ∧ qs.getD k.toNat [] = qs.getD k.toNat [] ∧ True) ∧ True) (by kernel_rfl) ?_
  repeat' (first | with_reducible rfl | exact True.intro | apply And.intro)
  all_goals first | assumption | omega | rfl | exact lenP (by assumption) (by omega)
noncomputable def c_cpNT : ECon := ECon.or c_atN c_atNT
theorem c_cpNT_e : EEntry Try.prog 37 c_cpNT := EEntry.or c_atN_e c_atNT_e
noncomputable def pt_ccNT : List (Nat × (List SV → Option (List Prop × SV))) := []
theorem pt_ccNT_ok : PureOK Try.prog (fun f => List.lookup f pt_ccNT) := pure_list pt_ccNT trivial
noncomputable def et_ccNT : List (Nat × ECon) := [(37, c_cpNT)]
theorem et_ccNT_ok : ConOK Try.prog (fun f => List.lookup f et_ccNT) := con_list et_ccNT ⟨c_cpNT_e, trivial⟩
noncomputable abbrev cx_ccNT (must : Nat → Option Bool := fun _ => none) (loop : Nat → SS → Option LoopSpec := fun _ _ => none) : Ctx := ⟨tab, inlC tab (fun f => List.lookup f pt_ccNT) (fun f => List.lookup f et_ccNT) fns (fun _ => {}) 1000 4, fun f => List.lookup f pt_ccNT, must, loop, 0, 0, fun f => List.lookup f et_ccNT⟩
theorem cx_ccNT_ok (must : Nat → Option Bool) (loop : Nat → SS → Option LoopSpec) : CxOK Try.prog (cx_ccNT must loop) := inlC_ok mixed tab_ok pt_ccNT_ok et_ccNT_ok fns_ok 4 _ _ _ _
theorem CopyNTX_ok (t u : Bool) (k l : Int) (a b ta tb : Nat) (m : Int) (ps qs : List (List Int)) (h0 : a = ps.length) (h1 : b = qs.length) (h2 : 0 ≤ m) (h3 : m ≤ 4611686018427387904) (h4 : (∀ p ∈ ps, p.length = 1024)) (h5 : (∀ p ∈ qs, p.length = 1024)) (h6 : (t = true ∧ ¬ (0 ≤ k ∧ k < ps.length)) ∨ (t = false ∧ ¬ (0 ≤ k ∧ k < qs.length))) (h7 : u = true) (h8 : 0 ≤ l) (h9 : l < ps.length) : SemCall Try.prog 21 [.ptr 0 0, .agg [.bool t, .int .i64 k], .agg [.bool u, .int .i64 l]] [some ⟨78, [.on 1 a false, .on 2 b false, .int .i64 m], 0, none⟩, some ⟨0, [], 0, some (.fam (.boxes 90 85 .u32 1024 ta ps []))⟩, some ⟨0, [], 0, some (.fam (.boxes 90 85 .u32 1024 tb qs []))⟩] (AltK [⟨none, .int .i64 5, [some ⟨78, [.on 1 a false, .on 2 b false, .int .i64 m], 0, none⟩, some ⟨1, [.ptr 3 0], 0, some (.fam (.boxes 90 85 .u32 1024 ta ps [l.toNat]))⟩, some ⟨0, [], 0, some (.fam (.boxes 90 85 .u32 1024 tb qs []))⟩, some ⟨90, [.ints .u32 1024 (ps.getD l.toNat [])], 0, none⟩]⟩]) := by
  refine con_intro mixed (cx_ccNT_ok (fun _ => none) (fun _ _ => none)) Try.func21 1000 ?_
  refine of_nf (p := a = ps.length ∧ b = qs.length ∧ (t = true ∧ ¬((0 : Int) ≤ k ∧ k < ((ps.length : Nat) : Int)) ∨ t = false ∧ ¬((0 : Int) ≤ k ∧ k < ((qs.length : Nat) : Int))) ∧ a = ps.length ∧ b = qs.length ∧ u = true ∧ (0 : Int) ≤ l ∧ l < ((ps.length : Nat) : Int) ∧ ((5 : Int) = (5 : Int) ∧ True) ∧ (nat_lit 77 + (1 : Nat) = (78 : TypeId) ∧ (0 : Nat) = (0 : Nat) ∧ (a = a ∧ false = false) ∧ (b = b ∧ false = false) ∧ m = m ∧ True) ∧ (Ob.fam (FamT.boxes (90 : Nat) (85 : Nat) IntKind.u32 (1024 : Nat) ta ps [l.toNat]) = Ob.fam (FamT.boxes (90 : Nat) (85 : Nat) IntKind.u32 (1024 : Nat) ta ps [l.toNat]) ∧ nat_lit 0 + (1 : Nat) = (1 : TypeId) ∧ (0 : Nat) = (0 : Nat) ∧ SV.ptr (3 : Nat) (0 : Nat) = SV.ptr (3 : Nat) (0 : Nat) ∧ True) ∧ (Ob.fam (FamT.boxes (90 : Nat) (85 : Nat) IntKind.u32 (1024 : Nat) tb qs []) = Ob.fam (FamT.boxes (90 : Nat) (85 : Nat) IntKind.u32 (1024 : Nat) tb qs []) ∧ (0 : Nat) = (0 : TypeId) ∧ (0 : Nat) = (0 : Nat) ∧ True) ∧ (nat_lit 89 + (1 : Nat) = (90 : TypeId) ∧ (0 : Nat) = (0 : Nat) ∧ ps.getD l.toNat [] = ps.getD l.toNat [] ∧ True) ∧ True) (by kernel_rfl) ?_
  repeat' (first | with_reducible rfl | exact True.intro | apply And.intro)
  all_goals first | assumption | omega | rfl | exact lenP (by assumption) (by omega)
noncomputable def c_cpNF : ECon := ECon.or c_atN c_atNF
theorem c_cpNF_e : EEntry Try.prog 37 c_cpNF := EEntry.or c_atN_e c_atNF_e
noncomputable def pt_ccNF : List (Nat × (List SV → Option (List Prop × SV))) := []
theorem pt_ccNF_ok : PureOK Try.prog (fun f => List.lookup f pt_ccNF) := pure_list pt_ccNF trivial
noncomputable def et_ccNF : List (Nat × ECon) := [(37, c_cpNF)]
theorem et_ccNF_ok : ConOK Try.prog (fun f => List.lookup f et_ccNF) := con_list et_ccNF ⟨c_cpNF_e, trivial⟩
noncomputable abbrev cx_ccNF (must : Nat → Option Bool := fun _ => none) (loop : Nat → SS → Option LoopSpec := fun _ _ => none) : Ctx := ⟨tab, inlC tab (fun f => List.lookup f pt_ccNF) (fun f => List.lookup f et_ccNF) fns (fun _ => {}) 1000 4, fun f => List.lookup f pt_ccNF, must, loop, 0, 0, fun f => List.lookup f et_ccNF⟩
theorem cx_ccNF_ok (must : Nat → Option Bool) (loop : Nat → SS → Option LoopSpec) : CxOK Try.prog (cx_ccNF must loop) := inlC_ok mixed tab_ok pt_ccNF_ok et_ccNF_ok fns_ok 4 _ _ _ _
theorem CopyNFX_ok (t u : Bool) (k l : Int) (a b ta tb : Nat) (m : Int) (ps qs : List (List Int)) (h0 : a = ps.length) (h1 : b = qs.length) (h2 : 0 ≤ m) (h3 : m ≤ 4611686018427387904) (h4 : (∀ p ∈ ps, p.length = 1024)) (h5 : (∀ p ∈ qs, p.length = 1024)) (h6 : (t = true ∧ ¬ (0 ≤ k ∧ k < ps.length)) ∨ (t = false ∧ ¬ (0 ≤ k ∧ k < qs.length))) (h7 : u = false) (h8 : 0 ≤ l) (h9 : l < qs.length) : SemCall Try.prog 21 [.ptr 0 0, .agg [.bool t, .int .i64 k], .agg [.bool u, .int .i64 l]] [some ⟨78, [.on 1 a false, .on 2 b false, .int .i64 m], 0, none⟩, some ⟨0, [], 0, some (.fam (.boxes 90 85 .u32 1024 ta ps []))⟩, some ⟨0, [], 0, some (.fam (.boxes 90 85 .u32 1024 tb qs []))⟩] (AltK [⟨none, .int .i64 5, [some ⟨78, [.on 1 a false, .on 2 b false, .int .i64 m], 0, none⟩, some ⟨1, [], 0, some (.fam (.boxes 90 85 .u32 1024 ta ps []))⟩, some ⟨0, [.ptr 3 0], 0, some (.fam (.boxes 90 85 .u32 1024 tb qs [l.toNat]))⟩, some ⟨90, [.ints .u32 1024 (qs.getD l.toNat [])], 0, none⟩]⟩]) := by
  refine con_intro mixed (cx_ccNF_ok (fun _ => none) (fun _ _ => none)) Try.func21 1000 ?_
  refine of_nf (p := a = ps.length ∧ b = qs.length ∧ (t = true ∧ ¬((0 : Int) ≤ k ∧ k < ((ps.length : Nat) : Int)) ∨ t = false ∧ ¬((0 : Int) ≤ k ∧ k < ((qs.length : Nat) : Int))) ∧ a = ps.length ∧ b = qs.length ∧ u = false ∧ (0 : Int) ≤ l ∧ l < ((qs.length : Nat) : Int) ∧ ((5 : Int) = (5 : Int) ∧ True) ∧ (nat_lit 77 + (1 : Nat) = (78 : TypeId) ∧ (0 : Nat) = (0 : Nat) ∧ (a = a ∧ false = false) ∧ (b = b ∧ false = false) ∧ m = m ∧ True) ∧ (Ob.fam (FamT.boxes (90 : Nat) (85 : Nat) IntKind.u32 (1024 : Nat) ta ps []) = Ob.fam (FamT.boxes (90 : Nat) (85 : Nat) IntKind.u32 (1024 : Nat) ta ps []) ∧ nat_lit 0 + (1 : Nat) = (1 : TypeId) ∧ (0 : Nat) = (0 : Nat) ∧ True) ∧ (Ob.fam (FamT.boxes (90 : Nat) (85 : Nat) IntKind.u32 (1024 : Nat) tb qs [l.toNat]) = Ob.fam (FamT.boxes (90 : Nat) (85 : Nat) IntKind.u32 (1024 : Nat) tb qs [l.toNat]) ∧ (0 : Nat) = (0 : TypeId) ∧ (0 : Nat) = (0 : Nat) ∧ SV.ptr (3 : Nat) (0 : Nat) = SV.ptr (3 : Nat) (0 : Nat) ∧ True) ∧ (nat_lit 89 + (1 : Nat) = (90 : TypeId) ∧ (0 : Nat) = (0 : Nat) ∧ qs.getD l.toNat [] = qs.getD l.toNat [] ∧ True) ∧ True) (by kernel_rfl) ?_
  repeat' (first | with_reducible rfl | exact True.intro | apply And.intro)
  all_goals first | assumption | omega | rfl | exact lenP (by assumption) (by omega)
noncomputable def c_cpNN : ECon := ECon.or c_atN c_atNN
theorem c_cpNN_e : EEntry Try.prog 37 c_cpNN := EEntry.or c_atN_e c_atNN_e
noncomputable def pt_ccNN : List (Nat × (List SV → Option (List Prop × SV))) := []
theorem pt_ccNN_ok : PureOK Try.prog (fun f => List.lookup f pt_ccNN) := pure_list pt_ccNN trivial
noncomputable def et_ccNN : List (Nat × ECon) := [(37, c_cpNN)]
theorem et_ccNN_ok : ConOK Try.prog (fun f => List.lookup f et_ccNN) := con_list et_ccNN ⟨c_cpNN_e, trivial⟩
noncomputable abbrev cx_ccNN (must : Nat → Option Bool := fun _ => none) (loop : Nat → SS → Option LoopSpec := fun _ _ => none) : Ctx := ⟨tab, inlC tab (fun f => List.lookup f pt_ccNN) (fun f => List.lookup f et_ccNN) fns (fun _ => {}) 1000 4, fun f => List.lookup f pt_ccNN, must, loop, 0, 0, fun f => List.lookup f et_ccNN⟩
theorem cx_ccNN_ok (must : Nat → Option Bool) (loop : Nat → SS → Option LoopSpec) : CxOK Try.prog (cx_ccNN must loop) := inlC_ok mixed tab_ok pt_ccNN_ok et_ccNN_ok fns_ok 4 _ _ _ _
theorem CopyNNX_ok (t u : Bool) (k l : Int) (a b ta tb : Nat) (m : Int) (ps qs : List (List Int)) (h0 : a = ps.length) (h1 : b = qs.length) (h2 : 0 ≤ m) (h3 : m ≤ 4611686018427387904) (h4 : (∀ p ∈ ps, p.length = 1024)) (h5 : (∀ p ∈ qs, p.length = 1024)) (h6 : (t = true ∧ ¬ (0 ≤ k ∧ k < ps.length)) ∨ (t = false ∧ ¬ (0 ≤ k ∧ k < qs.length))) (h7 : (u = true ∧ ¬ (0 ≤ l ∧ l < ps.length)) ∨ (u = false ∧ ¬ (0 ≤ l ∧ l < qs.length))) : SemCall Try.prog 21 [.ptr 0 0, .agg [.bool t, .int .i64 k], .agg [.bool u, .int .i64 l]] [some ⟨78, [.on 1 a false, .on 2 b false, .int .i64 m], 0, none⟩, some ⟨0, [], 0, some (.fam (.boxes 90 85 .u32 1024 ta ps []))⟩, some ⟨0, [], 0, some (.fam (.boxes 90 85 .u32 1024 tb qs []))⟩] (AltK [⟨none, .int .i64 5, [some ⟨78, [.on 1 a false, .on 2 b false, .int .i64 m], 0, none⟩, some ⟨1, [], 0, some (.fam (.boxes 90 85 .u32 1024 ta ps []))⟩, some ⟨0, [], 0, some (.fam (.boxes 90 85 .u32 1024 tb qs []))⟩]⟩]) := by
  refine con_intro mixed (cx_ccNN_ok (fun _ => none) (fun _ _ => none)) Try.func21 1000 ?_
  refine of_nf (p := a = ps.length ∧ b = qs.length ∧ (t = true ∧ ¬((0 : Int) ≤ k ∧ k < ((ps.length : Nat) : Int)) ∨ t = false ∧ ¬((0 : Int) ≤ k ∧ k < ((qs.length : Nat) : Int))) ∧ a = ps.length ∧ b = qs.length ∧ (u = true ∧ ¬((0 : Int) ≤ l ∧ l < ((ps.length : Nat) : Int)) ∨ u = false ∧ ¬((0 : Int) ≤ l ∧ l < ((qs.length : Nat) : Int))) ∧ ((5 : Int) = (5 : Int) ∧ True) ∧ (nat_lit 77 + (1 : Nat) = (78 : TypeId) ∧ (0 : Nat) = (0 : Nat) ∧ (a = a ∧ false = false) ∧ (b = b ∧ false = false) ∧ m = m ∧ True) ∧ (Ob.fam (FamT.boxes (90 : Nat) (85 : Nat) IntKind.u32 (1024 : Nat) ta ps []) = Ob.fam (FamT.boxes (90 : Nat) (85 : Nat) IntKind.u32 (1024 : Nat) ta ps []) ∧ nat_lit 0 + (1 : Nat) = (1 : TypeId) ∧ (0 : Nat) = (0 : Nat) ∧ True) ∧ (Ob.fam (FamT.boxes (90 : Nat) (85 : Nat) IntKind.u32 (1024 : Nat) tb qs []) = Ob.fam (FamT.boxes (90 : Nat) (85 : Nat) IntKind.u32 (1024 : Nat) tb qs []) ∧ (0 : Nat) = (0 : TypeId) ∧ (0 : Nat) = (0 : Nat) ∧ True) ∧ True) (by kernel_rfl) ?_
  repeat' (first | with_reducible rfl | exact True.intro | apply And.intro)
  all_goals first | assumption | omega | rfl | exact lenP (by assumption) (by omega)
theorem CopyO_ok (t u : Bool) (k l : Int) (a b ta tb : Nat) (m : Int) (ps qs : List (List Int)) (h0 : a = ps.length) (h1 : b = qs.length) (h2 : 0 ≤ m) (h3 : m ≤ 4611686018427387904) (h4 : (∀ p ∈ ps, p.length = 1024)) (h5 : (∀ p ∈ qs, p.length = 1024)) : SemCall Try.prog 21 [.ptr 0 0, .agg [.bool t, .int .i64 k], .agg [.bool u, .int .i64 l]] [some ⟨78, [.on 1 a false, .on 2 b false, .int .i64 m], 0, none⟩, some ⟨0, [], 0, some (.fam (.boxes 90 85 .u32 1024 ta ps []))⟩, some ⟨0, [], 0, some (.fam (.boxes 90 85 .u32 1024 tb qs []))⟩] (AltK [⟨none, .int .i64 (if (hasP t k ps qs && hasP u l ps qs) = true then 0 else 5), [some ⟨78, [.on 1 a false, .on 2 b false, .int .i64 (if (hasP t k ps qs && hasP u l ps qs) = true then m + 2048 else m)], 0, none⟩, some ⟨0, [], 0, some (.fam (.boxes 90 85 .u32 1024 ta (setP (t && (hasP t k ps qs && hasP u l ps qs)) k (pgAt u l ps qs) ps) []))⟩, some ⟨0, [], 0, some (.fam (.boxes 90 85 .u32 1024 tb (setP (!t && (hasP t k ps qs && hasP u l ps qs)) k (pgAt u l ps qs) qs) []))⟩]⟩]) := by
  have s1 : (t = true ∧ (0 ≤ k ∧ k < ps.length)) ∨ (t = false ∧ (0 ≤ k ∧ k < qs.length)) ∨ ((t = true ∧ ¬ (0 ≤ k ∧ k < ps.length)) ∨ (t = false ∧ ¬ (0 ≤ k ∧ k < qs.length))) := by cases t <;> simp <;> omega
  have s2 : (u = true ∧ (0 ≤ l ∧ l < ps.length)) ∨ (u = false ∧ (0 ≤ l ∧ l < qs.length)) ∨ ((u = true ∧ ¬ (0 ≤ l ∧ l < ps.length)) ∨ (u = false ∧ ¬ (0 ≤ l ∧ l < qs.length))) := by cases u <;> simp <;> omega
  rcases s1 with ⟨g1, g2⟩ | ⟨g1, g2⟩ | g1 <;> rcases s2 with ⟨g3, g4⟩ | ⟨g3, g4⟩ | g3
  · by_cases g5 : l = k
    · refine SemCall.closeBox (CopyTSX_ok t u k l a b ta tb m ps qs h0 h1 h2 h3 h4 h5 g1 g2.1 g2.2 g3 g5) fun x hx hh => ?_
      obtain rfl := List.mem_singleton.1 hx
      refine ⟨_, List.mem_singleton.2 rfl, trivial, ?_⟩
      subst g5
      subst g1
      subst g3
      have p1 := hasP_t (qs := qs) g2
      have p2 := p1
      refine ⟨by simp [p1, p2], rfl, by simp, by simp, fun W F ρ w hm => ?_⟩
      have m1 : MemOK W F ρ [some ⟨78, [.on 1 a false, .on 2 b false, .int .i64 (m + 2048)], 0, none⟩, some ⟨1, [], 0, some (.fam (.boxes 90 85 .u32 1024 ta (ps.set l.toNat (ps.getD l.toNat [])) []))⟩, some ⟨0, [], 0, some (.fam (.boxes 90 85 .u32 1024 tb qs []))⟩] w := MemOK.dropLast (rows := [some ⟨78, [.on 1 a false, .on 2 b false, .int .i64 (m + 2048)], 0, none⟩, some ⟨1, [], 0, some (.fam (.boxes 90 85 .u32 1024 ta (ps.set l.toNat (ps.getD l.toNat [])) []))⟩, some ⟨0, [], 0, some (.fam (.boxes 90 85 .u32 1024 tb qs []))⟩]) (hm.closeBox (i := 1) (b := 3) (e := l.toNat) rfl rfl (by simp; try omega)) rfl
      have z := reTy m1 (i := 1) rfl (by simp) 0
      simpa [p1, p2, setP, pgAt] using z
    · refine SemCall.closeBox (CopyTTX_ok t u k l a b ta tb m ps qs h0 h1 h2 h3 h4 h5 g1 g2.1 g2.2 g3 g4.1 g4.2 g5) fun x hx hh => ?_
      obtain rfl := List.mem_singleton.1 hx
      refine ⟨_, List.mem_singleton.2 rfl, trivial, ?_⟩
      subst g1
      subst g3
      have p1 := hasP_t (qs := qs) g2
      have p2 := hasP_t (qs := qs) g4
      refine ⟨by simp [p1, p2], rfl, by simp, by simp, fun W F ρ w hm => ?_⟩
      have m1 : MemOK W F ρ [some ⟨78, [.on 1 a false, .on 2 b false, .int .i64 (m + 2048)], 0, none⟩, some ⟨1, [.ptr 3 0], 0, some (.fam (.boxes 90 85 .u32 1024 ta (ps.set l.toNat (ps.getD l.toNat [])) [k.toNat]))⟩, some ⟨0, [], 0, some (.fam (.boxes 90 85 .u32 1024 tb qs []))⟩, some ⟨90, [.ints .u32 1024 (ps.getD l.toNat [])], 0, none⟩] w := MemOK.dropLast (rows := [some ⟨78, [.on 1 a false, .on 2 b false, .int .i64 (m + 2048)], 0, none⟩, some ⟨1, [.ptr 3 0], 0, some (.fam (.boxes 90 85 .u32 1024 ta (ps.set l.toNat (ps.getD l.toNat [])) [k.toNat]))⟩, some ⟨0, [], 0, some (.fam (.boxes 90 85 .u32 1024 tb qs []))⟩, some ⟨90, [.ints .u32 1024 (ps.getD l.toNat [])], 0, none⟩]) (hm.closeBox (i := 1) (b := 4) (e := l.toNat) rfl rfl (by simp; try omega)) rfl
      have m2 : MemOK W F ρ [some ⟨78, [.on 1 a false, .on 2 b false, .int .i64 (m + 2048)], 0, none⟩, some ⟨1, [], 0, some (.fam (.boxes 90 85 .u32 1024 ta ((ps.set l.toNat (ps.getD l.toNat [])).set k.toNat (ps.getD l.toNat [])) []))⟩, some ⟨0, [], 0, some (.fam (.boxes 90 85 .u32 1024 tb qs []))⟩] w := MemOK.dropLast (rows := [some ⟨78, [.on 1 a false, .on 2 b false, .int .i64 (m + 2048)], 0, none⟩, some ⟨1, [], 0, some (.fam (.boxes 90 85 .u32 1024 ta ((ps.set l.toNat (ps.getD l.toNat [])).set k.toNat (ps.getD l.toNat [])) []))⟩, some ⟨0, [], 0, some (.fam (.boxes 90 85 .u32 1024 tb qs []))⟩]) (m1.closeBox (i := 1) (b := 3) (e := k.toNat) rfl rfl (by simp; try omega)) rfl
      have z := reTy m2 (i := 1) rfl (by simp) 0
      try simp only [set_self] at z
      simpa [p1, p2, setP, pgAt] using z
  · refine SemCall.closeBox (CopyTFX_ok t u k l a b ta tb m ps qs h0 h1 h2 h3 h4 h5 g1 g2.1 g2.2 g3 g4.1 g4.2) fun x hx hh => ?_
    obtain rfl := List.mem_singleton.1 hx
    refine ⟨_, List.mem_singleton.2 rfl, trivial, ?_⟩
    subst g1
    subst g3
    have p1 := hasP_t (qs := qs) g2
    have p2 := hasP_f (ps := ps) g4
    refine ⟨by simp [p1, p2], rfl, by simp, by simp, fun W F ρ w hm => ?_⟩
    have m1 : MemOK W F ρ [some ⟨78, [.on 1 a false, .on 2 b false, .int .i64 (m + 2048)], 0, none⟩, some ⟨1, [.ptr 3 0], 0, some (.fam (.boxes 90 85 .u32 1024 ta ps [k.toNat]))⟩, some ⟨0, [], 0, some (.fam (.boxes 90 85 .u32 1024 tb (qs.set l.toNat (qs.getD l.toNat [])) []))⟩, some ⟨90, [.ints .u32 1024 (qs.getD l.toNat [])], 0, none⟩] w := MemOK.dropLast (rows := [some ⟨78, [.on 1 a false, .on 2 b false, .int .i64 (m + 2048)], 0, none⟩, some ⟨1, [.ptr 3 0], 0, some (.fam (.boxes 90 85 .u32 1024 ta ps [k.toNat]))⟩, some ⟨0, [], 0, some (.fam (.boxes 90 85 .u32 1024 tb (qs.set l.toNat (qs.getD l.toNat [])) []))⟩, some ⟨90, [.ints .u32 1024 (qs.getD l.toNat [])], 0, none⟩]) (hm.closeBox (i := 2) (b := 4) (e := l.toNat) rfl rfl (by simp; try omega)) rfl
    have m2 : MemOK W F ρ [some ⟨78, [.on 1 a false, .on 2 b false, .int .i64 (m + 2048)], 0, none⟩, some ⟨1, [], 0, some (.fam (.boxes 90 85 .u32 1024 ta (ps.set k.toNat (qs.getD l.toNat [])) []))⟩, some ⟨0, [], 0, some (.fam (.boxes 90 85 .u32 1024 tb (qs.set l.toNat (qs.getD l.toNat [])) []))⟩] w := MemOK.dropLast (rows := [some ⟨78, [.on 1 a false, .on 2 b false, .int .i64 (m + 2048)], 0, none⟩, some ⟨1, [], 0, some (.fam (.boxes 90 85 .u32 1024 ta (ps.set k.toNat (qs.getD l.toNat [])) []))⟩, some ⟨0, [], 0, some (.fam (.boxes 90 85 .u32 1024 tb (qs.set l.toNat (qs.getD l.toNat [])) []))⟩]) (m1.closeBox (i := 1) (b := 3) (e := k.toNat) rfl rfl (by simp; try omega)) rfl
    have z := reTy m2 (i := 1) rfl (by simp) 0
    try simp only [set_self] at z
    simpa [p1, p2, setP, pgAt] using z
  · refine SemCall.closeBox (CopyTNX_ok t u k l a b ta tb m ps qs h0 h1 h2 h3 h4 h5 g1 g2.1 g2.2 g3) fun x hx hh => ?_
    obtain rfl := List.mem_singleton.1 hx
    refine ⟨_, List.mem_singleton.2 rfl, trivial, ?_⟩
    subst g1
    have p1 := hasP_t (qs := qs) g2
    have p2 := hasP_in (ps := ps) (qs := qs) g3
    refine ⟨by simp [p1, p2], rfl, by simp, by simp, fun W F ρ w hm => ?_⟩
    have m1 : MemOK W F ρ [some ⟨78, [.on 1 a false, .on 2 b false, .int .i64 m], 0, none⟩, some ⟨1, [], 0, some (.fam (.boxes 90 85 .u32 1024 ta (ps.set k.toNat (ps.getD k.toNat [])) []))⟩, some ⟨0, [], 0, some (.fam (.boxes 90 85 .u32 1024 tb qs []))⟩] w := MemOK.dropLast (rows := [some ⟨78, [.on 1 a false, .on 2 b false, .int .i64 m], 0, none⟩, some ⟨1, [], 0, some (.fam (.boxes 90 85 .u32 1024 ta (ps.set k.toNat (ps.getD k.toNat [])) []))⟩, some ⟨0, [], 0, some (.fam (.boxes 90 85 .u32 1024 tb qs []))⟩]) (hm.closeBox (i := 1) (b := 3) (e := k.toNat) rfl rfl (by simp; try omega)) rfl
    have z := reTy m1 (i := 1) rfl (by simp) 0
    try simp only [set_self] at z
    simpa [p1, p2, setP, pgAt] using z
  · refine SemCall.closeBox (CopyFTX_ok t u k l a b ta tb m ps qs h0 h1 h2 h3 h4 h5 g1 g2.1 g2.2 g3 g4.1 g4.2) fun x hx hh => ?_
    obtain rfl := List.mem_singleton.1 hx
    refine ⟨_, List.mem_singleton.2 rfl, trivial, ?_⟩
    subst g1
    subst g3
    have p1 := hasP_f (ps := ps) g2
    have p2 := hasP_t (qs := qs) g4
    refine ⟨by simp [p1, p2], rfl, by simp, by simp, fun W F ρ w hm => ?_⟩
    have m1 : MemOK W F ρ [some ⟨78, [.on 1 a false, .on 2 b false, .int .i64 (m + 2048)], 0, none⟩, some ⟨1, [], 0, some (.fam (.boxes 90 85 .u32 1024 ta (ps.set l.toNat (ps.getD l.toNat [])) []))⟩, some ⟨0, [.ptr 3 0], 0, some (.fam (.boxes 90 85 .u32 1024 tb qs [k.toNat]))⟩, some ⟨90, [.ints .u32 1024 (ps.getD l.toNat [])], 0, none⟩] w := MemOK.dropLast (rows := [some ⟨78, [.on 1 a false, .on 2 b false, .int .i64 (m + 2048)], 0, none⟩, some ⟨1, [], 0, some (.fam (.boxes 90 85 .u32 1024 ta (ps.set l.toNat (ps.getD l.toNat [])) []))⟩, some ⟨0, [.ptr 3 0], 0, some (.fam (.boxes 90 85 .u32 1024 tb qs [k.toNat]))⟩, some ⟨90, [.ints .u32 1024 (ps.getD l.toNat [])], 0, none⟩]) (hm.closeBox (i := 1) (b := 4) (e := l.toNat) rfl rfl (by simp; try omega)) rfl
    have m2 : MemOK W F ρ [some ⟨78, [.on 1 a false, .on 2 b false, .int .i64 (m + 2048)], 0, none⟩, some ⟨1, [], 0, some (.fam (.boxes 90 85 .u32 1024 ta (ps.set l.toNat (ps.getD l.toNat [])) []))⟩, some ⟨0, [], 0, some (.fam (.boxes 90 85 .u32 1024 tb (qs.set k.toNat (ps.getD l.toNat [])) []))⟩] w := MemOK.dropLast (rows := [some ⟨78, [.on 1 a false, .on 2 b false, .int .i64 (m + 2048)], 0, none⟩, some ⟨1, [], 0, some (.fam (.boxes 90 85 .u32 1024 ta (ps.set l.toNat (ps.getD l.toNat [])) []))⟩, some ⟨0, [], 0, some (.fam (.boxes 90 85 .u32 1024 tb (qs.set k.toNat (ps.getD l.toNat [])) []))⟩]) (m1.closeBox (i := 2) (b := 3) (e := k.toNat) rfl rfl (by simp; try omega)) rfl
    have z := reTy m2 (i := 1) rfl (by simp) 0
    try simp only [set_self] at z
    simpa [p1, p2, setP, pgAt] using z
  · by_cases g5 : l = k
    · refine SemCall.closeBox (CopyFSX_ok t u k l a b ta tb m ps qs h0 h1 h2 h3 h4 h5 g1 g2.1 g2.2 g3 g5) fun x hx hh => ?_
      obtain rfl := List.mem_singleton.1 hx
      refine ⟨_, List.mem_singleton.2 rfl, trivial, ?_⟩
      subst g5
      subst g1
      subst g3
      have p1 := hasP_f (ps := ps) g2
      have p2 := p1
      refine ⟨by simp [p1, p2], rfl, by simp, by simp, fun W F ρ w hm => ?_⟩
      have m1 : MemOK W F ρ [some ⟨78, [.on 1 a false, .on 2 b false, .int .i64 (m + 2048)], 0, none⟩, some ⟨1, [], 0, some (.fam (.boxes 90 85 .u32 1024 ta ps []))⟩, some ⟨0, [], 0, some (.fam (.boxes 90 85 .u32 1024 tb (qs.set l.toNat (qs.getD l.toNat [])) []))⟩] w := MemOK.dropLast (rows := [some ⟨78, [.on 1 a false, .on 2 b false, .int .i64 (m + 2048)], 0, none⟩, some ⟨1, [], 0, some (.fam (.boxes 90 85 .u32 1024 ta ps []))⟩, some ⟨0, [], 0, some (.fam (.boxes 90 85 .u32 1024 tb (qs.set l.toNat (qs.getD l.toNat [])) []))⟩]) (hm.closeBox (i := 2) (b := 3) (e := l.toNat) rfl rfl (by simp; try omega)) rfl
      have z := reTy m1 (i := 1) rfl (by simp) 0
      simpa [p1, p2, setP, pgAt] using z
    · refine SemCall.closeBox (CopyFFX_ok t u k l a b ta tb m ps qs h0 h1 h2 h3 h4 h5 g1 g2.1 g2.2 g3 g4.1 g4.2 g5) fun x hx hh => ?_
      obtain rfl := List.mem_singleton.1 hx
      refine ⟨_, List.mem_singleton.2 rfl, trivial, ?_⟩
      subst g1
      subst g3
      have p1 := hasP_f (ps := ps) g2
      have p2 := hasP_f (ps := ps) g4
      refine ⟨by simp [p1, p2], rfl, by simp, by simp, fun W F ρ w hm => ?_⟩
      have m1 : MemOK W F ρ [some ⟨78, [.on 1 a false, .on 2 b false, .int .i64 (m + 2048)], 0, none⟩, some ⟨1, [], 0, some (.fam (.boxes 90 85 .u32 1024 ta ps []))⟩, some ⟨0, [.ptr 3 0], 0, some (.fam (.boxes 90 85 .u32 1024 tb (qs.set l.toNat (qs.getD l.toNat [])) [k.toNat]))⟩, some ⟨90, [.ints .u32 1024 (qs.getD l.toNat [])], 0, none⟩] w := MemOK.dropLast (rows := [some ⟨78, [.on 1 a false, .on 2 b false, .int .i64 (m + 2048)], 0, none⟩, some ⟨1, [], 0, some (.fam (.boxes 90 85 .u32 1024 ta ps []))⟩, some ⟨0, [.ptr 3 0], 0, some (.fam (.boxes 90 85 .u32 1024 tb (qs.set l.toNat (qs.getD l.toNat [])) [k.toNat]))⟩, some ⟨90, [.ints .u32 1024 (qs.getD l.toNat [])], 0, none⟩]) (hm.closeBox (i := 2) (b := 4) (e := l.toNat) rfl rfl (by simp; try omega)) rfl
      have m2 : MemOK W F ρ [some ⟨78, [.on 1 a false, .on 2 b false, .int .i64 (m + 2048)], 0, none⟩, some ⟨1, [], 0, some (.fam (.boxes 90 85 .u32 1024 ta ps []))⟩, some ⟨0, [], 0, some (.fam (.boxes 90 85 .u32 1024 tb ((qs.set l.toNat (qs.getD l.toNat [])).set k.toNat (qs.getD l.toNat [])) []))⟩] w := MemOK.dropLast (rows := [some ⟨78, [.on 1 a false, .on 2 b false, .int .i64 (m + 2048)], 0, none⟩, some ⟨1, [], 0, some (.fam (.boxes 90 85 .u32 1024 ta ps []))⟩, some ⟨0, [], 0, some (.fam (.boxes 90 85 .u32 1024 tb ((qs.set l.toNat (qs.getD l.toNat [])).set k.toNat (qs.getD l.toNat [])) []))⟩]) (m1.closeBox (i := 2) (b := 3) (e := k.toNat) rfl rfl (by simp; try omega)) rfl
      have z := reTy m2 (i := 1) rfl (by simp) 0
      try simp only [set_self] at z
      simpa [p1, p2, setP, pgAt] using z
  · refine SemCall.closeBox (CopyFNX_ok t u k l a b ta tb m ps qs h0 h1 h2 h3 h4 h5 g1 g2.1 g2.2 g3) fun x hx hh => ?_
    obtain rfl := List.mem_singleton.1 hx
    refine ⟨_, List.mem_singleton.2 rfl, trivial, ?_⟩
    subst g1
    have p1 := hasP_f (ps := ps) g2
    have p2 := hasP_in (ps := ps) (qs := qs) g3
    refine ⟨by simp [p1, p2], rfl, by simp, by simp, fun W F ρ w hm => ?_⟩
    have m1 : MemOK W F ρ [some ⟨78, [.on 1 a false, .on 2 b false, .int .i64 m], 0, none⟩, some ⟨1, [], 0, some (.fam (.boxes 90 85 .u32 1024 ta ps []))⟩, some ⟨0, [], 0, some (.fam (.boxes 90 85 .u32 1024 tb (qs.set k.toNat (qs.getD k.toNat [])) []))⟩] w := MemOK.dropLast (rows := [some ⟨78, [.on 1 a false, .on 2 b false, .int .i64 m], 0, none⟩, some ⟨1, [], 0, some (.fam (.boxes 90 85 .u32 1024 ta ps []))⟩, some ⟨0, [], 0, some (.fam (.boxes 90 85 .u32 1024 tb (qs.set k.toNat (qs.getD k.toNat [])) []))⟩]) (hm.closeBox (i := 2) (b := 3) (e := k.toNat) rfl rfl (by simp; try omega)) rfl
    have z := reTy m1 (i := 1) rfl (by simp) 0
    try simp only [set_self] at z
    simpa [p1, p2, setP, pgAt] using z
  · refine SemCall.closeBox (CopyNTX_ok t u k l a b ta tb m ps qs h0 h1 h2 h3 h4 h5 g1 g3 g4.1 g4.2) fun x hx hh => ?_
    obtain rfl := List.mem_singleton.1 hx
    refine ⟨_, List.mem_singleton.2 rfl, trivial, ?_⟩
    subst g3
    have p1 := hasP_in (ps := ps) (qs := qs) g1
    have p2 := hasP_t (qs := qs) g4
    refine ⟨by simp [p1, p2], rfl, by simp, by simp, fun W F ρ w hm => ?_⟩
    have m1 : MemOK W F ρ [some ⟨78, [.on 1 a false, .on 2 b false, .int .i64 m], 0, none⟩, some ⟨1, [], 0, some (.fam (.boxes 90 85 .u32 1024 ta (ps.set l.toNat (ps.getD l.toNat [])) []))⟩, some ⟨0, [], 0, some (.fam (.boxes 90 85 .u32 1024 tb qs []))⟩] w := MemOK.dropLast (rows := [some ⟨78, [.on 1 a false, .on 2 b false, .int .i64 m], 0, none⟩, some ⟨1, [], 0, some (.fam (.boxes 90 85 .u32 1024 ta (ps.set l.toNat (ps.getD l.toNat [])) []))⟩, some ⟨0, [], 0, some (.fam (.boxes 90 85 .u32 1024 tb qs []))⟩]) (hm.closeBox (i := 1) (b := 3) (e := l.toNat) rfl rfl (by simp; try omega)) rfl
    have z := reTy m1 (i := 1) rfl (by simp) 0
    try simp only [set_self] at z
    simpa [p1, p2, setP, pgAt] using z
  · refine SemCall.closeBox (CopyNFX_ok t u k l a b ta tb m ps qs h0 h1 h2 h3 h4 h5 g1 g3 g4.1 g4.2) fun x hx hh => ?_
    obtain rfl := List.mem_singleton.1 hx
    refine ⟨_, List.mem_singleton.2 rfl, trivial, ?_⟩
    subst g3
    have p1 := hasP_in (ps := ps) (qs := qs) g1
    have p2 := hasP_f (ps := ps) g4
    refine ⟨by simp [p1, p2], rfl, by simp, by simp, fun W F ρ w hm => ?_⟩
    have m1 : MemOK W F ρ [some ⟨78, [.on 1 a false, .on 2 b false, .int .i64 m], 0, none⟩, some ⟨1, [], 0, some (.fam (.boxes 90 85 .u32 1024 ta ps []))⟩, some ⟨0, [], 0, some (.fam (.boxes 90 85 .u32 1024 tb (qs.set l.toNat (qs.getD l.toNat [])) []))⟩] w := MemOK.dropLast (rows := [some ⟨78, [.on 1 a false, .on 2 b false, .int .i64 m], 0, none⟩, some ⟨1, [], 0, some (.fam (.boxes 90 85 .u32 1024 ta ps []))⟩, some ⟨0, [], 0, some (.fam (.boxes 90 85 .u32 1024 tb (qs.set l.toNat (qs.getD l.toNat [])) []))⟩]) (hm.closeBox (i := 2) (b := 3) (e := l.toNat) rfl rfl (by simp; try omega)) rfl
    have z := reTy m1 (i := 1) rfl (by simp) 0
    try simp only [set_self] at z
    simpa [p1, p2, setP, pgAt] using z
  · refine SemCall.closeBox (CopyNNX_ok t u k l a b ta tb m ps qs h0 h1 h2 h3 h4 h5 g1 g3) fun x hx hh => ?_
    obtain rfl := List.mem_singleton.1 hx
    refine ⟨_, List.mem_singleton.2 rfl, trivial, ?_⟩
    have p1 := hasP_in (ps := ps) (qs := qs) g1
    have p2 := hasP_in (ps := ps) (qs := qs) g3
    refine ⟨by simp [p1, p2], rfl, by simp, by simp, fun W F ρ w hm => ?_⟩
    have z := reTy hm (i := 1) rfl (by simp) 0
    try simp only [set_self] at z
    simpa [p1, p2, setP, pgAt] using z
def c_CopyO : ECon
  | [.ptr 0 0, .agg [.bool t, .int .i64 k], .agg [.bool u, .int .i64 l]], [some ⟨78, [.on 1 a false, .on 2 b false, .int .i64 m], 0, none⟩, some ⟨0, [], 0, some (.fam (.boxes 90 85 .u32 1024 ta ps []))⟩, some ⟨0, [], 0, some (.fam (.boxes 90 85 .u32 1024 tb qs []))⟩] => some ([a = ps.length, b = qs.length, 0 ≤ m, m ≤ 4611686018427387904, (∀ p ∈ ps, p.length = 1024), (∀ p ∈ qs, p.length = 1024)], [⟨none, .int .i64 (if (hasP t k ps qs && hasP u l ps qs) = true then 0 else 5), [some ⟨78, [.on 1 a false, .on 2 b false, .int .i64 (if (hasP t k ps qs && hasP u l ps qs) = true then m + 2048 else m)], 0, none⟩, some ⟨0, [], 0, some (.fam (.boxes 90 85 .u32 1024 ta (setP (t && (hasP t k ps qs && hasP u l ps qs)) k (pgAt u l ps qs) ps) []))⟩, some ⟨0, [], 0, some (.fam (.boxes 90 85 .u32 1024 tb (setP (!t && (hasP t k ps qs && hasP u l ps qs)) k (pgAt u l ps qs) qs) []))⟩]⟩])
  | _, _ => none
theorem c_CopyO_e : EEntry Try.prog 21 c_CopyO := by
  refine ⟨callFunc_ok Try.func21 (by kernel_rfl) (by kernel_rfl), fun args rows ps alts h hp => ?_⟩
  unfold c_CopyO at h
  split at h
  · cases h; exact CopyO_ok _ _ _ _ _ _ _ _ _ _ _ (hp _ (List.mem_of_getElem? (i := 0) rfl)) (hp _ (List.mem_of_getElem? (i := 1) rfl)) (hp _ (List.mem_of_getElem? (i := 2) rfl)) (hp _ (List.mem_of_getElem? (i := 3) rfl)) (hp _ (List.mem_of_getElem? (i := 4) rfl)) (hp _ (List.mem_of_getElem? (i := 5) rfl))
  · cases h
end Go.Proofs.Ytijgngiocmnakaa
