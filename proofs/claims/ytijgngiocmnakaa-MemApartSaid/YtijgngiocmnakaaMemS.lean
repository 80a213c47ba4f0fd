/- Acts over a memory of two and two pages. No condition beyond lengths. -/
import Derived.Test.YtijgngiocmnakaaMemQ
namespace Go.Proofs.Ytijgngiocmnakaa
open Go.RowKit Sx
set_option linter.unusedVariables false
set_option linter.unusedSimpArgs false
set_option maxRecDepth 100000
set_option maxHeartbeats 8000000
theorem mod1024 (n : Int) : (n.tmod 1024 + 1024).tmod 1024 = n % 1024 ∧ 0 ≤ n.tmod 1024 + 1024 ∧ n.tmod 1024 < 1024 := by
  have h1 : n.tmod 1024 = n % 1024 ∨ n.tmod 1024 = n % 1024 - 1024 := by
    by_cases hn : 0 ≤ n
    · exact .inl (Int.tmod_eq_emod_of_nonneg hn)
    · rw [Int.tmod_eq_emod]; simp only [show (1024 : Int).natAbs = 1024 from rfl]; split <;> omega
  obtain ⟨y, hy⟩ : ∃ y, y = n.tmod 1024 := ⟨_, rfl⟩
  rw [← hy] at h1 ⊢
  have hx : 0 ≤ y + 1024 := by omega
  rw [Int.tmod_eq_emod_of_nonneg hx]
  refine ⟨?_, ?_, ?_⟩
  · rcases h1 with rfl | rfl <;> omega
  · omega
  · omega
/-- V, V + 1, .. -/
theorem rowV_ex (v : Int) (n : Nat) : ∃ l : List Int, l = (List.range n).map fun (j : Nat) => IntKind.u32.wrap (v + IntKind.u32.wrap (j : Int)) := ⟨_, rfl⟩
noncomputable def rowV (v : Int) (n : Nat) : List Int := Classical.choose (rowV_ex v n)
theorem rowV_eq (v : Int) (n : Nat) : rowV v n = (List.range n).map fun (j : Nat) => IntKind.u32.wrap (v + IntKind.u32.wrap (j : Int)) := Classical.choose_spec (rowV_ex v n)
theorem rowV_len (v : Int) (n : Nat) : (rowV v n).length = n := by simp [rowV_eq]
theorem rowV_snoc (v : Int) (n : Nat) : rowV v n ++ [IntKind.u32.wrap (v + IntKind.u32.wrap (n : Int))] = rowV v (n + 1) := by
  simp [rowV_eq, List.range_succ]
theorem pieceEq' {p : Prop} {a b : Nat} (h : a = b) (hp : p) : (Bool.rec False p (true && Nat.beq a b) : Prop) := by
  subst h
  rw [Nat.beq_refl]
  exact hp
def costS (kind : Int) : Int := if kind = 1 then 1 else if kind = 2 ∨ kind = 4 then 1024 else if kind = 3 then 2048 else 0
noncomputable def pt_md : List (Nat × (List SV → Option (List Prop × SV))) := []
theorem pt_md_ok : PureOK Try.prog (fun f => List.lookup f pt_md) := pure_list pt_md trivial
noncomputable abbrev cx_md (must : Nat → Option Bool := fun _ => none) (loop : Nat → SS → Option LoopSpec := fun _ _ => none) : Ctx := ⟨tab, inl tab (fun f => List.lookup f pt_md) fns (fun _ => {}) 1000 4, fun f => List.lookup f pt_md, must, loop, 0, 0, fun _ => none⟩
theorem cx_md_ok (must : Nat → Option Bool) (loop : Nat → SS → Option LoopSpec) : CxOK Try.prog (cx_md must loop) := inl_ok mixed tab_ok pt_md_ok fns_ok 4 _ _ _ _
theorem offC_ok (n : Int) (h0 : InK .i64 n) : PureSem Try.prog 11 [.int .i64 n] (.int .i64 (n % 1024)) := by
  refine pure_intro mixed (cx_md_ok (fun _ => none) (fun _ _ => none)) Try.func11 1000 rfl rfl ?_
  refine of_nf (p := ((-9223372036854775808 : Int) ≤ n.tmod (1024 : Int) + (1024 : Int) ∧ n.tmod (1024 : Int) + (1024 : Int) < (9223372036854775808 : Int)) ∧ (n.tmod (1024 : Int) + (1024 : Int)).tmod (1024 : Int) = n % (1024 : Int)) (by kernel_rfl) ?_
  have h := mod1024 n
  rw [h.1]
  exact ⟨⟨by omega, by omega⟩, rfl⟩
def c_offC : List SV → Option (List Prop × SV)
  | [.int .i64 n] => some ([InK .i64 n], .int .i64 (n % 1024))
  | _ => none
theorem c_offC_e : PEntry Try.prog 11 c_offC := by
  refine ⟨callFunc_ok Try.func11 (by kernel_rfl) (by kernel_rfl), fun args ps v h hp => ?_⟩
  unfold c_offC at h
  split at h
  · cases h; exact offC_ok _ (hp _ (by simp))
  · cases h
theorem pageC_ok (n : Int) (h0 : InK .i64 n) : PureSem Try.prog 15 [.int .i64 n] (.int .i64 (n % 4)) := by
  refine pure_intro mixed (cx_md_ok (fun _ => none) (fun _ _ => none)) Try.func15 1000 rfl rfl ?_
  refine of_nf (p := ((-9223372036854775808 : Int) ≤ n.tmod (4 : Int) + (4 : Int) ∧ n.tmod (4 : Int) + (4 : Int) < (9223372036854775808 : Int)) ∧ (n.tmod (4 : Int) + (4 : Int)).tmod (4 : Int) = n % (4 : Int)) (by kernel_rfl) ?_
  have h := mod4 n
  rw [h.1]
  exact ⟨⟨by omega, by omega⟩, rfl⟩
def c_pageC : List SV → Option (List Prop × SV)
  | [.int .i64 n] => some ([InK .i64 n], .int .i64 (n % 4))
  | _ => none
theorem c_pageC_e : PEntry Try.prog 15 c_pageC := by
  refine ⟨callFunc_ok Try.func15 (by kernel_rfl) (by kernel_rfl), fun args ps v h hp => ?_⟩
  unfold c_pageC at h
  split at h
  · cases h; exact pageC_ok _ (hp _ (by simp))
  · cases h
theorem costC_ok (n : Int)  : PureSem Try.prog 10 [.int .i64 n] (.int .i64 (costS n)) := by
  refine pure_intro mixed (cx_md_ok (fun _ => none) (fun _ _ => none)) Try.func10 1000 rfl rfl ?_
  refine of_nf (p := ((n == (1 : Int)) = true → (1 : Int) = costS n) ∧ ((n == (1 : Int)) = false → ((n == (2 : Int)) = true → (1024 : Int) = costS n) ∧ ((n == (2 : Int)) = false → ((n == (4 : Int)) = true → (1024 : Int) = costS n) ∧ ((n == (4 : Int)) = false → ((n == (3 : Int)) = true → (2048 : Int) = costS n) ∧ ((n == (3 : Int)) = false → (0 : Int) = costS n))))) (by kernel_rfl) ?_
  simp only [beq_iff_eq, beq_eq_false_iff_ne, ne_eq, costS]
  refine ⟨fun h => by rw [if_pos h], fun h1 => ⟨fun h => by rw [if_neg h1, if_pos (.inl h)], fun h2 => ⟨fun h => by rw [if_neg h1, if_pos (.inr h)], fun h3 => ⟨fun h => by rw [if_neg h1, if_neg (by omega), if_pos h], fun h => by rw [if_neg h1, if_neg (by omega), if_neg h]⟩⟩⟩⟩
def c_costC : List SV → Option (List Prop × SV)
  | [.int .i64 n] => some ([], .int .i64 (costS n))
  | _ => none
theorem c_costC_e : PEntry Try.prog 10 c_costC := by
  refine ⟨callFunc_ok Try.func10 (by kernel_rfl) (by kernel_rfl), fun args ps v h hp => ?_⟩
  unfold c_costC at h
  split at h
  · cases h; exact costC_ok _ 
  · cases h
theorem rowC_ok (v : Int)  : SemCall Try.prog 34 [.int .u32 v] [] (AltK [⟨none, .on 0 1024 true, [some ⟨30, [.ints .u32 1024 (rowV v 1024)], 1, none⟩]⟩]) := by
  refine con_intro mixed (cx_md_ok (fun _ => none) (fun q s => bif Nat.beq q 3 then some ⟨Nat, fun k => ⟨[(0, .int .u32 v), (3, .on 0 k true), (4, .int .i64 (k : Int))], [some ⟨30, [.ints .u32 k (rowV v k)], 1, none⟩]⟩, fun k => k ≤ 1024, fun k => 1024 - k⟩ else none)) Try.func34 1000 ?_
  refine of_nf (p := ∃ (x : Nat), ((v = v ∧ ((0 : Nat) = x ∧ true = true) ∧ (0 : Int) = ((x : Nat) : Int) ∧ True) ∧ ((30 : TypeId) = (30 : TypeId) ∧ (1 : Nat) = (1 : Nat) ∧ @Bool.rec (fun _ => Prop) False ([] = rowV v x) (true && Nat.beq (0 : Nat) x) ∧ True) ∧ True) ∧ x.le (1024 : Nat) ∧ ∀ (x : Nat), x.le (1024 : Nat) → (decide (((x : Nat) : Int) < (1024 : Int)) = true → x = x ∧ (rowV v x).length = x ∧ x + (1 : Nat) ≤ (68719476736 : Nat) ∧ ((-9223372036854775808 : Int) ≤ ((x : Nat) : Int) + (1 : Int) ∧ ((x : Nat) : Int) + (1 : Int) < (9223372036854775808 : Int)) ∧ ∃ (y : Nat), ((v = v ∧ (x + (1 : Nat) = y ∧ true = true) ∧ ((x : Nat) : Int) + (1 : Int) = ((y : Nat) : Int) ∧ True) ∧ (nat_lit 29 + (1 : Nat) = (30 : TypeId) ∧ nat_lit 0 + (1 : Nat) = (1 : Nat) ∧ @Bool.rec (fun _ => Prop) False ((rowV v x).append [IntKind.u32.wrap (v + IntKind.u32.wrap ((x : Nat) : Int))] = rowV v y) (true && (x + (1 : Nat)).beq y) ∧ True) ∧ True) ∧ y.le (1024 : Nat) ∧ (1024 : Nat) - y < (1024 : Nat) - x) ∧ (decide (((x : Nat) : Int) < (1024 : Int)) = false → ((x = (1024 : Nat) ∧ true = true) ∧ True) ∧ ((30 : TypeId) = (30 : TypeId) ∧ (1 : Nat) = (1 : Nat) ∧ @Bool.rec (fun _ => Prop) False (rowV v x = rowV v (1024 : Nat)) (true && x.beq (1024 : Nat)) ∧ True) ∧ True)) (by kernel_rfl) ?_
  refine ⟨0, ?_, Nat.zero_le _, fun x hx => ⟨fun h => ?_, fun h => ?_⟩⟩
  · repeat' (first | with_reducible rfl | exact True.intro | apply And.intro | apply pieceEq')
    all_goals first | rfl | (simp [rowV_eq]; done)
  · have h := of_decide_eq_true h
    refine ⟨rfl, rowV_len v x, by omega, ⟨by omega, by omega⟩, x + 1, ?_, by show x + 1 ≤ 1024; omega, by omega⟩
    repeat' (first | with_reducible rfl | exact True.intro | apply And.intro | apply pieceEq')
    all_goals first | omega | exact rowV_snoc v x
  · have h := of_decide_eq_false h
    have hx : x ≤ 1024 := hx
    have h2 : x = 1024 := by omega
    repeat' (first | with_reducible rfl | exact True.intro | exact h2 | exact pieceEq' h2 (by rw [h2]) | apply And.intro)
noncomputable def c_rowC : ECon
  | [.int .u32 v], [] => some ([], [⟨none, .on 0 1024 true, [some ⟨30, [.ints .u32 1024 (rowV v 1024)], 1, none⟩]⟩])
  | _, _ => none
theorem c_rowC_e : EEntry Try.prog 34 c_rowC := by
  refine ⟨callFunc_ok Try.func34 (by kernel_rfl) (by kernel_rfl), fun args rows ps alts h hp => ?_⟩
  unfold c_rowC at h
  split at h
  · cases h; exact rowC_ok _ 
  · cases h
def fT (n : Int) : Bool := decide (n % 4 < 2)
def fK (n : Int) : Int := n % 2
/-- The secure pages behind an act, the insecure ones. -/
noncomputable def actA (kind F G off V : Int) (ps qs : List (List Int)) : List (List Int) :=
  if kind = 1 then setP (fT F) (fK F) ((pgAt (fT F) (fK F) ps qs).set (off % 1024).toNat V) ps else if kind = 2 then setP (fT F) (fK F) (List.replicate 1024 0) ps else
  if kind = 3 then setP (fT F) (fK F) (pgAt (fT G) (fK G) ps qs) ps else if kind = 4 then setP (fT F) (fK F) (rowV V 1024) ps else ps
noncomputable def actB (kind F G off V : Int) (ps qs : List (List Int)) : List (List Int) :=
  if kind = 1 then setP (!fT F) (fK F) ((pgAt (fT F) (fK F) ps qs).set (off % 1024).toNat V) qs else if kind = 2 then setP (!fT F) (fK F) (List.replicate 1024 0) qs else
  if kind = 3 then setP (!fT F) (fK F) (pgAt (fT G) (fK G) ps qs) qs else if kind = 4 then setP (!fT F) (fK F) (rowV V 1024) qs else qs
theorem has2 {F : Int} {ps qs : List (List Int)} (hp : ps.length = 2) (hq : qs.length = 2) : hasP (decide (F % 4 < 2)) (F % 2) ps qs = true := by
  unfold hasP
  split <;> simp [hp, hq] <;> omega
noncomputable def pt_mt : List (Nat × (List SV → Option (List Prop × SV))) := [(13, c_inC), (11, c_offC)]
theorem pt_mt_ok : PureOK Try.prog (fun f => List.lookup f pt_mt) := pure_list pt_mt ⟨c_inC_e, c_offC_e, trivial⟩
noncomputable def et_mt : List (Nat × ECon) := [(34, c_rowC), (18, c_WriteO), (20, c_ZeroO), (21, c_CopyO), (23, c_LayO)]
theorem et_mt_ok : ConOK Try.prog (fun f => List.lookup f et_mt) := con_list et_mt ⟨c_rowC_e, c_WriteO_e, c_ZeroO_e, c_CopyO_e, c_LayO_e, trivial⟩
noncomputable abbrev cx_mt (must : Nat → Option Bool := fun _ => none) (loop : Nat → SS → Option LoopSpec := fun _ _ => none) : Ctx := ⟨tab, inlG tab (fun f => List.lookup f pt_mt) (fun f => List.lookup f et_mt) fns (fun _ => {}) 1000 4, fun f => List.lookup f pt_mt, must, loop, 0, 0, fun f => List.lookup f et_mt⟩
theorem cx_mt_ok (must : Nat → Option Bool) (loop : Nat → SS → Option LoopSpec) : CxOK Try.prog (cx_mt must loop) := inlG_ok mixed tab_ok pt_mt_ok et_mt_ok fns_ok 4 _ _ _ _
theorem acted_ok (a b ta tb : Nat) (m : Int) (ps qs : List (List Int)) (kind F G off V : Int) (h0 : a = ps.length) (h1 : b = qs.length) (h2 : ps.length = 2) (h3 : qs.length = 2) (h4 : 0 ≤ m) (h5 : m ≤ 4611686018427387904) (h6 : (∀ p ∈ ps, p.length = 1024)) (h7 : (∀ p ∈ qs, p.length = 1024)) (h8 : InK .i64 F) (h9 : InK .i64 G) (h10 : InK .i64 off) : SemCall Try.prog 9 [.ptr 0 0, .agg [.int .i64 kind, .int .i64 F, .int .i64 G, .int .i64 off, .int .u32 V]] [some ⟨78, [.on 1 a false, .on 2 b false, .int .i64 m], 0, none⟩, some ⟨0, [], 0, some (.fam (.boxes 90 85 .u32 1024 ta ps []))⟩, some ⟨0, [], 0, some (.fam (.boxes 90 85 .u32 1024 tb qs []))⟩] (AltK [⟨none, .bool true, [some ⟨78, [.on 1 a false, .on 2 b false, .int .i64 (m + costS kind)], 0, none⟩, some ⟨0, [], 0, some (.fam (.boxes 90 85 .u32 1024 ta (actA kind F G off V ps qs) []))⟩, some ⟨0, [], 0, some (.fam (.boxes 90 85 .u32 1024 tb (actB kind F G off V ps qs) []))⟩]⟩]) := by
  refine con_intro mixed (cx_mt_ok (fun _ => none) (fun _ _ => none)) Try.func9 1000 ?_
  refine of_nf (p := ((kind == (1 : Int)) = true → ((-9223372036854775808 : Int) ≤ F ∧ F < (9223372036854775808 : Int)) ∧ ((-9223372036854775808 : Int) ≤ off ∧ off < (9223372036854775808 : Int)) ∧ a = ps.length ∧ b = qs.length ∧ (0 : Int) ≤ m ∧ m ≤ (4611686018427387904 : Int) ∧ (∀ (p : List Int), p ∈ ps → p.length = (1024 : Nat)) ∧ (∀ (p : List Int), p ∈ qs → p.length = (1024 : Nat)) ∧ ((errW (decide (F % (4 : Int) < (2 : Int))) (F % (2 : Int)) (off % (1024 : Int)) ps qs == (0 : Int)) = true ∧ True) ∧ (nat_lit 77 + (1 : Nat) = (78 : TypeId) ∧ (0 : Nat) = (0 : Nat) ∧ (a = a ∧ false = false) ∧ (b = b ∧ false = false) ∧ (if okW (decide (F % (4 : Int) < (2 : Int))) (F % (2 : Int)) (off % (1024 : Int)) ps qs = true then m + (1 : Int) else m) = m + costS kind ∧ True) ∧ (Ob.fam (FamT.boxes (90 : Nat) (85 : Nat) IntKind.u32 (1024 : Nat) ta (setP (decide (F % (4 : Int) < (2 : Int)) && okW (decide (F % (4 : Int) < (2 : Int))) (F % (2 : Int)) (off % (1024 : Int)) ps qs) (F % (2 : Int)) ((pgAt (decide (F % (4 : Int) < (2 : Int))) (F % (2 : Int)) ps qs).set (off % (1024 : Int)).toNat V) ps) []) = Ob.fam (FamT.boxes (90 : Nat) (85 : Nat) IntKind.u32 (1024 : Nat) ta (actA kind F G off V ps qs) []) ∧ (0 : Nat) = (0 : TypeId) ∧ (0 : Nat) = (0 : Nat) ∧ True) ∧ (Ob.fam (FamT.boxes (90 : Nat) (85 : Nat) IntKind.u32 (1024 : Nat) tb (setP (!decide (F % (4 : Int) < (2 : Int)) && okW (decide (F % (4 : Int) < (2 : Int))) (F % (2 : Int)) (off % (1024 : Int)) ps qs) (F % (2 : Int)) ((pgAt (decide (F % (4 : Int) < (2 : Int))) (F % (2 : Int)) ps qs).set (off % (1024 : Int)).toNat V) qs) []) = Ob.fam (FamT.boxes (90 : Nat) (85 : Nat) IntKind.u32 (1024 : Nat) tb (actB kind F G off V ps qs) []) ∧ (0 : Nat) = (0 : TypeId) ∧ (0 : Nat) = (0 : Nat) ∧ True) ∧ True) ∧ ((kind == (1 : Int)) = false → ((kind == (2 : Int)) = true → ((-9223372036854775808 : Int) ≤ F ∧ F < (9223372036854775808 : Int)) ∧ a = ps.length ∧ b = qs.length ∧ (0 : Int) ≤ m ∧ m ≤ (4611686018427387904 : Int) ∧ (∀ (p : List Int), p ∈ ps → p.length = (1024 : Nat)) ∧ (∀ (p : List Int), p ∈ qs → p.length = (1024 : Nat)) ∧ ∀ (m_1 : Int), (m_1 = if hasP (decide (F % (4 : Int) < (2 : Int))) (F % (2 : Int)) ps qs = true then (0 : Int) else (5 : Int)) → ∀ (m_2 : Int), (m_2 = if hasP (decide (F % (4 : Int) < (2 : Int))) (F % (2 : Int)) ps qs = true then m + (1024 : Int) else m) → ∀ (qs_1 : List (List Int)), qs_1 = setP (decide (F % (4 : Int) < (2 : Int)) && hasP (decide (F % (4 : Int) < (2 : Int))) (F % (2 : Int)) ps qs) (F % (2 : Int)) (List.replicate (1024 : Nat) (0 : Int)) ps → ∀ (qs_2 : List (List Int)), qs_2 = setP (!decide (F % (4 : Int) < (2 : Int)) && hasP (decide (F % (4 : Int) < (2 : Int))) (F % (2 : Int)) ps qs) (F % (2 : Int)) (List.replicate (1024 : Nat) (0 : Int)) qs → ∀ (m_3 : Int), m_3 = kind → ∀ (m_4 : Int), m_4 = F → ∀ (m_5 : Int), m_5 = G → ∀ (m_6 : Int), m_6 = off → ∀ (m_7 : Int), m_7 = V → ((m_1 == (0 : Int)) = true ∧ True) ∧ (nat_lit 77 + (1 : Nat) = (78 : TypeId) ∧ (0 : Nat) = (0 : Nat) ∧ (a = a ∧ false = false) ∧ (b = b ∧ false = false) ∧ m_2 = m + costS kind ∧ True) ∧ (Ob.fam (FamT.boxes (90 : Nat) (85 : Nat) IntKind.u32 (1024 : Nat) ta qs_1 []) = Ob.fam (FamT.boxes (90 : Nat) (85 : Nat) IntKind.u32 (1024 : Nat) ta (actA kind F G off V ps qs) []) ∧ (0 : Nat) = (0 : TypeId) ∧ (0 : Nat) = (0 : Nat) ∧ True) ∧ (Ob.fam (FamT.boxes (90 : Nat) (85 : Nat) IntKind.u32 (1024 : Nat) tb qs_2 []) = Ob.fam (FamT.boxes (90 : Nat) (85 : Nat) IntKind.u32 (1024 : Nat) tb (actB kind F G off V ps qs) []) ∧ (0 : Nat) = (0 : TypeId) ∧ (0 : Nat) = (0 : Nat) ∧ True) ∧ True) ∧ ((kind == (2 : Int)) = false → ((kind == (3 : Int)) = true → ((-9223372036854775808 : Int) ≤ F ∧ F < (9223372036854775808 : Int)) ∧ ((-9223372036854775808 : Int) ≤ G ∧ G < (9223372036854775808 : Int)) ∧ a = ps.length ∧ b = qs.length ∧ (0 : Int) ≤ m ∧ m ≤ (4611686018427387904 : Int) ∧ (∀ (p : List Int), p ∈ ps → p.length = (1024 : Nat)) ∧ (∀ (p : List Int), p ∈ qs → p.length = (1024 : Nat)) ∧ (((if (hasP (decide (F % (4 : Int) < (2 : Int))) (F % (2 : Int)) ps qs && hasP (decide (G % (4 : Int) < (2 : Int))) (G % (2 : Int)) ps qs) = true then (0 : Int) else (5 : Int)) == (0 : Int)) = true ∧ True) ∧ (nat_lit 77 + (1 : Nat) = (78 : TypeId) ∧ (0 : Nat) = (0 : Nat) ∧ (a = a ∧ false = false) ∧ (b = b ∧ false = false) ∧ (if (hasP (decide (F % (4 : Int) < (2 : Int))) (F % (2 : Int)) ps qs && hasP (decide (G % (4 : Int) < (2 : Int))) (G % (2 : Int)) ps qs) = true then m + (2048 : Int) else m) = m + costS kind ∧ True) ∧ (Ob.fam (FamT.boxes (90 : Nat) (85 : Nat) IntKind.u32 (1024 : Nat) ta (setP (decide (F % (4 : Int) < (2 : Int)) && (hasP (decide (F % (4 : Int) < (2 : Int))) (F % (2 : Int)) ps qs && hasP (decide (G % (4 : Int) < (2 : Int))) (G % (2 : Int)) ps qs)) (F % (2 : Int)) (pgAt (decide (G % (4 : Int) < (2 : Int))) (G % (2 : Int)) ps qs) ps) []) = Ob.fam (FamT.boxes (90 : Nat) (85 : Nat) IntKind.u32 (1024 : Nat) ta (actA kind F G off V ps qs) []) ∧ (0 : Nat) = (0 : TypeId) ∧ (0 : Nat) = (0 : Nat) ∧ True) ∧ (Ob.fam (FamT.boxes (90 : Nat) (85 : Nat) IntKind.u32 (1024 : Nat) tb (setP (!decide (F % (4 : Int) < (2 : Int)) && (hasP (decide (F % (4 : Int) < (2 : Int))) (F % (2 : Int)) ps qs && hasP (decide (G % (4 : Int) < (2 : Int))) (G % (2 : Int)) ps qs)) (F % (2 : Int)) (pgAt (decide (G % (4 : Int) < (2 : Int))) (G % (2 : Int)) ps qs) qs) []) = Ob.fam (FamT.boxes (90 : Nat) (85 : Nat) IntKind.u32 (1024 : Nat) tb (actB kind F G off V ps qs) []) ∧ (0 : Nat) = (0 : TypeId) ∧ (0 : Nat) = (0 : Nat) ∧ True) ∧ True) ∧ ((kind == (3 : Int)) = false → ((kind == (4 : Int)) = true → ((-9223372036854775808 : Int) ≤ F ∧ F < (9223372036854775808 : Int)) ∧ OwnSameE c_LayO [false, false, true] [SV.ptr (0 : Nat) (0 : Nat), SV.agg [SV.bool (decide (F % (4 : Int) < (2 : Int))), SV.int IntKind.i64 (F % (2 : Int))], SV.rd IntKind.u32 undef (List.take (1024 : Nat) (List.drop (0 : Nat) (rowV V (1024 : Nat))))] [some { ty := (78 : Nat), cs := [SV.on (1 : Nat) a false, SV.on (2 : Nat) b false, SV.int IntKind.i64 m] }, some { ty := (0 : Nat), cs := [], ob := some (Ob.fam (FamT.boxes (90 : Nat) (85 : Nat) IntKind.u32 (1024 : Nat) ta ps [])) }, some { ty := (0 : Nat), cs := [], ob := some (Ob.fam (FamT.boxes (90 : Nat) (85 : Nat) IntKind.u32 (1024 : Nat) tb qs [])) }] ∧ (1024 : Nat) ≤ (1024 : Nat) ∧ (rowV V (1024 : Nat)).length = (1024 : Nat) ∧ a = ps.length ∧ b = qs.length ∧ (0 : Int) ≤ m ∧ m ≤ (4611686018427387904 : Int) ∧ (∀ (p : List Int), p ∈ ps → p.length = (1024 : Nat)) ∧ (∀ (p : List Int), p ∈ qs → p.length = (1024 : Nat)) ∧ (((if hasP (decide (F % (4 : Int) < (2 : Int))) (F % (2 : Int)) ps qs = true then if (List.take (1024 : Nat) (List.drop (0 : Nat) (rowV V (1024 : Nat)))).length = (1024 : Nat) then (0 : Int) else (2 : Int) else (5 : Int)) == (0 : Int)) = true ∧ True) ∧ (nat_lit 77 + (1 : Nat) = (78 : TypeId) ∧ (0 : Nat) = (0 : Nat) ∧ (a = a ∧ false = false) ∧ (b = b ∧ false = false) ∧ (if hasP (decide (F % (4 : Int) < (2 : Int))) (F % (2 : Int)) ps qs = true ∧ (List.take (1024 : Nat) (List.drop (0 : Nat) (rowV V (1024 : Nat)))).length = (1024 : Nat) then m + (1024 : Int) else m) = m + costS kind ∧ True) ∧ (Ob.fam (FamT.boxes (90 : Nat) (85 : Nat) IntKind.u32 (1024 : Nat) ta (setP (decide (F % (4 : Int) < (2 : Int)) && (hasP (decide (F % (4 : Int) < (2 : Int))) (F % (2 : Int)) ps qs && decide ((List.take (1024 : Nat) (List.drop (0 : Nat) (rowV V (1024 : Nat)))).length = (1024 : Nat)))) (F % (2 : Int)) (List.take (1024 : Nat) (List.drop (0 : Nat) (rowV V (1024 : Nat)))) ps) []) = Ob.fam (FamT.boxes (90 : Nat) (85 : Nat) IntKind.u32 (1024 : Nat) ta (actA kind F G off V ps qs) []) ∧ (0 : Nat) = (0 : TypeId) ∧ (0 : Nat) = (0 : Nat) ∧ True) ∧ (Ob.fam (FamT.boxes (90 : Nat) (85 : Nat) IntKind.u32 (1024 : Nat) tb (setP (!decide (F % (4 : Int) < (2 : Int)) && (hasP (decide (F % (4 : Int) < (2 : Int))) (F % (2 : Int)) ps qs && decide ((List.take (1024 : Nat) (List.drop (0 : Nat) (rowV V (1024 : Nat)))).length = (1024 : Nat)))) (F % (2 : Int)) (List.take (1024 : Nat) (List.drop (0 : Nat) (rowV V (1024 : Nat)))) qs) []) = Ob.fam (FamT.boxes (90 : Nat) (85 : Nat) IntKind.u32 (1024 : Nat) tb (actB kind F G off V ps qs) []) ∧ (0 : Nat) = (0 : TypeId) ∧ (0 : Nat) = (0 : Nat) ∧ True) ∧ True) ∧ ((kind == (4 : Int)) = false → (true = true ∧ True) ∧ (nat_lit 77 + (1 : Nat) = (78 : TypeId) ∧ (0 : Nat) = (0 : Nat) ∧ (a = a ∧ false = false) ∧ (b = b ∧ false = false) ∧ m = m + costS kind ∧ True) ∧ (Ob.fam (FamT.boxes (90 : Nat) (85 : Nat) IntKind.u32 (1024 : Nat) ta ps []) = Ob.fam (FamT.boxes (90 : Nat) (85 : Nat) IntKind.u32 (1024 : Nat) ta (actA kind F G off V ps qs) []) ∧ (0 : Nat) = (0 : TypeId) ∧ (0 : Nat) = (0 : Nat) ∧ True) ∧ (Ob.fam (FamT.boxes (90 : Nat) (85 : Nat) IntKind.u32 (1024 : Nat) tb qs []) = Ob.fam (FamT.boxes (90 : Nat) (85 : Nat) IntKind.u32 (1024 : Nat) tb (actB kind F G off V ps qs) []) ∧ (0 : Nat) = (0 : TypeId) ∧ (0 : Nat) = (0 : Nat) ∧ True) ∧ True))))) (by kernel_rfl) ?_
  have hh := has2 (F := F) h2 h3
  have hg := has2 (F := G) h2 h3
  have hok : okW (decide (F % 4 < 2)) (F % 2) (off % 1024) ps qs = true := by unfold okW; rw [hh]; simp; omega
  have her : errW (decide (F % 4 < 2)) (F % 2) (off % 1024) ps qs = 0 := by unfold errW; rw [hh, if_pos rfl, if_pos (by omega)]
  have hv := rowV_len V 1024
  have htk : List.take 1024 (rowV V 1024) = rowV V 1024 := List.take_of_length_le (by omega)
  simp only [↓forall_eq, hh, hg, hok, her, hv, htk, beq_iff_eq, beq_eq_false_iff_ne, ne_eq, Bool.and_self, Bool.and_true, decide_true, if_true, reduceIte, and_self]
  repeat' (first | exact True.intro | exact OwnSameE.mk fun _ => rfl | assumption | apply And.intro | intro _h)
  all_goals first | omega | rfl | (simp [costS, *]; done) | (refine famEq ?_; simp [-List.reduceReplicate, actA, fT, fK, *]; done) | (refine famEq ?_; simp [-List.reduceReplicate, actB, fT, fK, *]; done) | (simp_all [costS]; done)
noncomputable def c_acted : ECon
  | [.ptr 0 0, .agg [.int .i64 kind, .int .i64 F, .int .i64 G, .int .i64 off, .int .u32 V]], [some ⟨78, [.on 1 a false, .on 2 b false, .int .i64 m], 0, none⟩, some ⟨0, [], 0, some (.fam (.boxes 90 85 .u32 1024 ta ps []))⟩, some ⟨0, [], 0, some (.fam (.boxes 90 85 .u32 1024 tb qs []))⟩] => some ([a = ps.length, b = qs.length, ps.length = 2, qs.length = 2, 0 ≤ m, m ≤ 4611686018427387904, (∀ p ∈ ps, p.length = 1024), (∀ p ∈ qs, p.length = 1024), InK .i64 F, InK .i64 G, InK .i64 off], [⟨none, .bool true, [some ⟨78, [.on 1 a false, .on 2 b false, .int .i64 (m + costS kind)], 0, none⟩, some ⟨0, [], 0, some (.fam (.boxes 90 85 .u32 1024 ta (actA kind F G off V ps qs) []))⟩, some ⟨0, [], 0, some (.fam (.boxes 90 85 .u32 1024 tb (actB kind F G off V ps qs) []))⟩]⟩])
  | _, _ => none
theorem c_acted_e : EEntry Try.prog 9 c_acted := by
  refine ⟨callFunc_ok Try.func9 (by kernel_rfl) (by kernel_rfl), fun args rows ps alts h hp => ?_⟩
  unfold c_acted at h
  split at h
  · cases h; exact acted_ok _ _ _ _ _ _ _ _ _ _ _ _ (hp _ (List.mem_of_getElem? (i := 0) rfl)) (hp _ (List.mem_of_getElem? (i := 1) rfl)) (hp _ (List.mem_of_getElem? (i := 2) rfl)) (hp _ (List.mem_of_getElem? (i := 3) rfl)) (hp _ (List.mem_of_getElem? (i := 4) rfl)) (hp _ (List.mem_of_getElem? (i := 5) rfl)) (hp _ (List.mem_of_getElem? (i := 6) rfl)) (hp _ (List.mem_of_getElem? (i := 7) rfl)) (hp _ (List.mem_of_getElem? (i := 8) rfl)) (hp _ (List.mem_of_getElem? (i := 9) rfl)) (hp _ (List.mem_of_getElem? (i := 10) rfl))
  · cases h

end Go.Proofs.Ytijgngiocmnakaa
