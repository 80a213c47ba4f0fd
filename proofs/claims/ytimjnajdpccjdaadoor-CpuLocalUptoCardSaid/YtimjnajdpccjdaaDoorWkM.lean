/- Walks through a memory. No condition beyond sizes. -/
import Derived.Test.YtimjnajdpccjdaaDoorWkCodes
import Derived.Test.YtimjnajdpccjdaaDoorMemO
namespace Go.Proofs.YtimjnajdpccjdaaDoor
set_option linter.unusedVariables false
set_option linter.unusedSimpArgs false
open Go.RowKit Sx
set_option maxRecDepth 100000
set_option maxHeartbeats 8000000
structure wfP (ps : List (List Int)) : Prop where
  out : ∀ p ∈ ps, p.length = 1024 ∧ ∀ x ∈ p, InK .u32 x
theorem wfP_len {ps : List (List Int)} (h : wfP ps) : ∀ p ∈ ps, p.length = 1024 := fun p hp => (h.out p hp).1
theorem rdW_in {t : Bool} {k off : Int} {ps qs : List (List Int)} (hp : wfP ps) (hq : wfP qs) : InK .u32 (rdW t k off ps qs) := by
  have h0 : InK .u32 0 := by simp [InK]
  unfold rdW pgAt
  split
  · have key : ∀ (l : List (List Int)) (i j : Nat), wfP l → InK .u32 ((l.getD i []).getD j 0) := fun l i j hl => by
      rw [List.getD_eq_getElem?_getD]
      cases e : (l.getD i [])[j]? with
      | none => simpa using h0
      | some x =>
        have hx := List.mem_of_getElem? e
        rw [List.getD_eq_getElem?_getD] at hx
        cases e2 : l[i]? with
        | none => rw [e2] at hx; simp at hx
        | some p => rw [e2] at hx; exact (hl.out p (List.mem_of_getElem? e2)).2 x hx
    cases t <;> exact key _ _ _ (by assumption)
  · exact h0
def tbE (ps qs : List (List Int)) (l i : Int) : Int :=
  if errW true l i ps qs = 0 then (if (pfS (rdW true l i ps qs)).2 = 0 then (if hasP true (pfS (rdW true l i ps qs)).1 ps qs = true then 0 else 90) else (pfS (rdW true l i ps qs)).2) else errW true l i ps qs
def tbP (ps qs : List (List Int)) (l i : Int) : Int := if tbE ps qs l i = 0 then (pfS (rdW true l i ps qs)).1 else 0
def tbL (ps qs : List (List Int)) (l i : Int) : Int := if errW true l i ps qs = 0 then 1 else 0
def plE (ps qs : List (List Int)) (l j : Int) : Int :=
  if errW true l j ps qs = 0 then (if (psS (rdW true l j ps qs)).2.2.2.2 = 0 then (if hasP (psS (rdW true l j ps qs)).1 (psS (rdW true l j ps qs)).2.1 ps qs = true then 0 else 90) else (psS (rdW true l j ps qs)).2.2.2.2) else errW true l j ps qs
def plS (ps qs : List (List Int)) (l j : Int) : Bool := if plE ps qs l j = 0 then (psS (rdW true l j ps qs)).1 else false
def plF (ps qs : List (List Int)) (l j : Int) : Int := if plE ps qs l j = 0 then (psS (rdW true l j ps qs)).2.1 else 0
def plW (ps qs : List (List Int)) (l j : Int) : Bool := if plE ps qs l j = 0 then (psS (rdW true l j ps qs)).2.2.1 else false
def plX (ps qs : List (List Int)) (l j : Int) : Bool := if plE ps qs l j = 0 then (psS (rdW true l j ps qs)).2.2.2.1 else false
theorem pfS_no {x : Int} (h : ¬ (pfS x).2 = 0) : (pfS x).1 = 0 := by
  unfold pfS at *; split <;> (try split) <;> simp_all
theorem psS_no0 {x : Int} (h : ¬ (psS x).2.2.2.2 = 0) : (psS x).1 = false ∧ (psS x).2.1 = 0 ∧ (psS x).2.2.1 = false ∧ (psS x).2.2.2.1 = false := by
  unfold psS at *; split <;> (try split) <;> simp_all
def wkE (ps qs : List (List Int)) (l va : Int) : Int :=
  if (splitS va).2.2.2 = 0 then (if tbE ps qs l (splitS va).1 = 0 then plE ps qs (tbP ps qs l (splitS va).1) (splitS va).2.1 else tbE ps qs l (splitS va).1) else 91
def wkG (va : Int) (ps qs : List (List Int)) (l : Int) : Bool := decide ((splitS va).2.2.2 = 0) && decide (tbE ps qs l (splitS va).1 = 0)
def wkS (ps qs : List (List Int)) (l va : Int) : Bool := if wkG va ps qs l = true then plS ps qs (tbP ps qs l (splitS va).1) (splitS va).2.1 else false
def wkF (ps qs : List (List Int)) (l va : Int) : Int := if wkG va ps qs l = true then plF ps qs (tbP ps qs l (splitS va).1) (splitS va).2.1 else 0
def wkW (ps qs : List (List Int)) (l va : Int) : Bool := if wkG va ps qs l = true then plW ps qs (tbP ps qs l (splitS va).1) (splitS va).2.1 else false
def wkX (ps qs : List (List Int)) (l va : Int) : Bool := if wkG va ps qs l = true then plX ps qs (tbP ps qs l (splitS va).1) (splitS va).2.1 else false
def wkL (ps qs : List (List Int)) (l va : Int) : Int :=
  if (splitS va).2.2.2 = 0 then tbL ps qs l (splitS va).1 + (if tbE ps qs l (splitS va).1 = 0 then tbL ps qs (tbP ps qs l (splitS va).1) (splitS va).2.1 else 0) else 0
def deny (a : Int) (w x : Bool) : Bool := decide (a ≠ 0) && ((decide (a ≠ 1) || !w) && (decide (a ≠ 2) || !x))
def trE (ps qs : List (List Int)) (l va a : Int) : Int := if wkE ps qs l va = 0 then (if deny a (wkW ps qs l va) (wkX ps qs l va) = true then 93 else 0) else wkE ps qs l va
def trS (ps qs : List (List Int)) (l va a : Int) : Bool := if trE ps qs l va a = 0 then wkS ps qs l va else false
def trF (ps qs : List (List Int)) (l va a : Int) : Int := if trE ps qs l va a = 0 then wkF ps qs l va else 0
def trO (ps qs : List (List Int)) (l va a : Int) : Int := if trE ps qs l va a = 0 then (splitS va).2.2.1 else 0
theorem ok_err (t : Bool) (k off : Int) (ps qs : List (List Int)) : okW t k off ps qs = decide (errW t k off ps qs = 0) := by
  unfold okW errW
  by_cases h : hasP t k ps qs = true
  · rw [if_pos h, h]
    by_cases h2 : 0 ≤ off ∧ off < 1024
    · rw [if_pos h2]; simp [h2]
    · rw [if_neg h2]; simp; omega
  · rw [if_neg h]; simp [h]
noncomputable def pt_Wa : List (Nat × (List SV → Option (List Prop × SV))) := [(102, c_ParseFirst), (139, c_ParseSecond), (91, c_Split)]
theorem pt_Wa_ok : PureOK Tryd.prog (fun f => List.lookup f pt_Wa) := pure_list pt_Wa ⟨c_ParseFirst_e, c_ParseSecond_e, c_Split_e, trivial⟩
noncomputable def et_Wa : List (Nat × ECon) := [(54, c_ReadM), (138, c_HasM)]
theorem et_Wa_ok : ConOK Tryd.prog (fun f => List.lookup f et_Wa) := con_list et_Wa ⟨c_ReadM_e, c_HasM_e, trivial⟩
noncomputable abbrev cx_Wa (must : Nat → Option Bool := fun _ => none) (loop : Nat → SS → Option LoopSpec := fun _ _ => none) (fz : Nat → SS → List Nat := fun _ _ => []) (on : Bool := false) : Ctx := ⟨tab, inlG tab (fun f => List.lookup f pt_Wa) (fun f => List.lookup f et_Wa) fns (fun _ => {}) 1000 4, fun f => List.lookup f pt_Wa, must, loop, 0, 0, fun f => List.lookup f et_Wa, fz, on⟩
theorem cx_Wa_ok (must : Nat → Option Bool) (loop : Nat → SS → Option LoopSpec) (fz : Nat → SS → List Nat) (on : Bool) : CxOK Tryd.prog (cx_Wa must loop fz on) := inlG_ok mixed tab_ok pt_Wa_ok et_Wa_ok fns_ok 4 _ _ _ _ _ _
theorem table_ok (m : Int) (ps qs : List (List Int)) (l i : Int) (h0 : 0 ≤ m) (h1 : m ≤ 4611686018427387903) (h2 : wfP ps) (h3 : wfP qs) (h4 : InK .i64 l) (h5 : InK .i64 i) : SemCall Tryd.prog 122 [.ptr 0 0, .int .i64 l, .int .i64 i] [some ⟨120, [], 0, some (.own (.mem ps qs m))⟩] (AltK [⟨none, .tup [.int .i64 (tbP ps qs l i), .int .i64 (tbE ps qs l i)], [some ⟨120, [], 0, some (.own (.mem ps qs (m + tbL ps qs l i)))⟩]⟩]) := by
  refine con_intro mixed (cx_Wa_ok (fun _ => none) (fun _ _ => none) (fun _ _ => []) false) Tryd.func122 1000 ?_
  refine of_nf (p := (0 : Int) <= m /\ m <= 4611686018427387904 /\ ∀ (m_1 : Int), m_1 = rdW true l i ps qs -> ∀ (m_2 : Int), m_2 = errW true l i ps qs -> ∀ (ps' : List (List Int)), ps' = ps -> ∀ (qs' : List (List Int)), qs' = qs -> ∀ (m' : Int), (m' = if okW true l i ps qs = true then m + 1 else m) -> ∀ (m_3 : Int), m_3 = l -> ((m_2 != 0) = true -> ((0 = tbP ps qs l i /\ m_2 = tbE ps qs l i /\ True) /\ True) /\ (Ob.own (OT.mem ps' qs' m') = Ob.own (OT.mem ps qs (m + tbL ps qs l i)) /\ nat_lit 119 + (1 : Nat) = (120 : TypeId) /\ (0 : Nat) = (0 : Nat) /\ True) /\ True) /\ ((m_2 != 0) = false -> (0 <= m_1 /\ m_1 < 4294967296) /\ (((pfS m_1).2 == 0) = true -> ∀ (c : Bool), c = hasP true (pfS m_1).1 ps' qs' -> ∀ (ps'_1 : List (List Int)), ps'_1 = ps' -> ∀ (qs'_1 : List (List Int)), qs'_1 = qs' -> ∀ (m'_1 : Int), m'_1 = m' -> ∀ (m_4 : Int), m_4 = m_3 -> ∀ (m_5 : Int), m_5 = (pfS m_1).1 -> ((!c) = true -> ((0 = tbP ps qs l i /\ 90 = tbE ps qs l i /\ True) /\ True) /\ (Ob.own (OT.mem ps'_1 qs'_1 m'_1) = Ob.own (OT.mem ps qs (m + tbL ps qs l i)) /\ nat_lit 119 + (1 : Nat) = (120 : TypeId) /\ (0 : Nat) = (0 : Nat) /\ True) /\ True) /\ ((!c) = false -> (((pfS m_1).1 = tbP ps qs l i /\ (pfS m_1).2 = tbE ps qs l i /\ True) /\ True) /\ (Ob.own (OT.mem ps'_1 qs'_1 m'_1) = Ob.own (OT.mem ps qs (m + tbL ps qs l i)) /\ nat_lit 119 + (1 : Nat) = (120 : TypeId) /\ (0 : Nat) = (0 : Nat) /\ True) /\ True)) /\ (((pfS m_1).2 == 0) = false -> (((pfS m_1).1 = tbP ps qs l i /\ (pfS m_1).2 = tbE ps qs l i /\ True) /\ True) /\ (Ob.own (OT.mem ps' qs' m') = Ob.own (OT.mem ps qs (m + tbL ps qs l i)) /\ nat_lit 119 + (1 : Nat) = (120 : TypeId) /\ (0 : Nat) = (0 : Nat) /\ True) /\ True))) (by kernel_rfl) ?_
  have hr := rdW_in (t := true) (k := l) (off := i) h2 h3
  simp only [↓forall_eq, bne_iff_ne, ne_eq, bne_eq_false_iff_eq, beq_iff_eq, beq_eq_false_iff_ne, Bool.not_eq_true', Bool.not_eq_false', and_true, ok_err, decide_eq_true_eq]
  simp only [InK] at *
  repeat' (first | with_reducible rfl | exact True.intro | with_reducible assumption | apply And.intro | intro _h)
  all_goals first | omega | (refine memEq rfl rfl ?_; simp [tbL, *]; done) | (simp [tbP, tbE, pfS_no, *]; done) 
noncomputable def c_table : ECon
  | [.ptr 0 0, .int .i64 l, .int .i64 i], [some ⟨120, [], 0, some (.own (.mem ps qs m))⟩] => some ([0 ≤ m, m ≤ 4611686018427387903, wfP ps, wfP qs, InK .i64 l, InK .i64 i], [⟨none, .tup [.int .i64 (tbP ps qs l i), .int .i64 (tbE ps qs l i)], [some ⟨120, [], 0, some (.own (.mem ps qs (m + tbL ps qs l i)))⟩]⟩])
  | _, _ => none
theorem c_table_e : EEntry Tryd.prog 122 c_table := by
  refine ⟨callFunc_ok Tryd.func122 (by kernel_rfl) (by kernel_rfl), fun args rows ps alts h hp => ?_⟩
  unfold c_table at h
  split at h
  · cases h; exact table_ok _ _ _ _ _ (hp.i 0) (hp.i 1) (hp.i 2) (hp.i 3) (hp.i 4) (hp.i 5)
  · cases h
theorem place_ok (m : Int) (ps qs : List (List Int)) (l j : Int) (h0 : 0 ≤ m) (h1 : m ≤ 4611686018427387903) (h2 : wfP ps) (h3 : wfP qs) (h4 : InK .i64 l) (h5 : InK .i64 j) : SemCall Tryd.prog 123 [.ptr 0 0, .int .i64 l, .int .i64 j] [some ⟨120, [], 0, some (.own (.mem ps qs m))⟩] (AltK [⟨none, .tup [.agg [.bool (plS ps qs l j), .int .i64 (plF ps qs l j), .bool (plW ps qs l j), .bool (plX ps qs l j)], .int .i64 (plE ps qs l j)], [some ⟨120, [], 0, some (.own (.mem ps qs (m + tbL ps qs l j)))⟩]⟩]) := by
  refine con_intro mixed (cx_Wa_ok (fun _ => none) (fun _ _ => none) (fun _ _ => []) false) Tryd.func123 1000 ?_
  refine of_nf (p := (0 : Int) <= m /\ m <= 4611686018427387904 /\ ∀ (m_1 : Int), m_1 = rdW true l j ps qs -> ∀ (m_2 : Int), m_2 = errW true l j ps qs -> ∀ (ps' : List (List Int)), ps' = ps -> ∀ (qs' : List (List Int)), qs' = qs -> ∀ (m' : Int), (m' = if okW true l j ps qs = true then m + 1 else m) -> ∀ (m_3 : Int), m_3 = l -> ((m_2 != 0) = true -> (((false = plS ps qs l j /\ 0 = plF ps qs l j /\ false = plW ps qs l j /\ false = plX ps qs l j /\ True) /\ m_2 = plE ps qs l j /\ True) /\ True) /\ (Ob.own (OT.mem ps' qs' m') = Ob.own (OT.mem ps qs (m + tbL ps qs l j)) /\ nat_lit 119 + (1 : Nat) = (120 : TypeId) /\ (0 : Nat) = (0 : Nat) /\ True) /\ True) /\ ((m_2 != 0) = false -> (0 <= m_1 /\ m_1 < 4294967296) /\ (((psS m_1).snd.snd.snd.2 == 0) = true -> ∀ (c : Bool), c = hasP (psS m_1).1 (psS m_1).snd.1 ps' qs' -> ∀ (ps'_1 : List (List Int)), ps'_1 = ps' -> ∀ (qs'_1 : List (List Int)), qs'_1 = qs' -> ∀ (m'_1 : Int), m'_1 = m' -> ∀ (m_4 : Int), m_4 = m_3 -> ∀ (c_1 : Bool), c_1 = (psS m_1).1 -> ∀ (m_5 : Int), m_5 = (psS m_1).snd.1 -> ∀ (c_2 : Bool), c_2 = (psS m_1).snd.snd.1 -> ∀ (c_3 : Bool), c_3 = (psS m_1).snd.snd.snd.1 -> ((!c) = true -> (((false = plS ps qs l j /\ 0 = plF ps qs l j /\ false = plW ps qs l j /\ false = plX ps qs l j /\ True) /\ 90 = plE ps qs l j /\ True) /\ True) /\ (Ob.own (OT.mem ps'_1 qs'_1 m'_1) = Ob.own (OT.mem ps qs (m + tbL ps qs l j)) /\ nat_lit 119 + (1 : Nat) = (120 : TypeId) /\ (0 : Nat) = (0 : Nat) /\ True) /\ True) /\ ((!c) = false -> (((c_1 = plS ps qs l j /\ m_5 = plF ps qs l j /\ c_2 = plW ps qs l j /\ c_3 = plX ps qs l j /\ True) /\ (psS m_1).snd.snd.snd.2 = plE ps qs l j /\ True) /\ True) /\ (Ob.own (OT.mem ps'_1 qs'_1 m'_1) = Ob.own (OT.mem ps qs (m + tbL ps qs l j)) /\ nat_lit 119 + (1 : Nat) = (120 : TypeId) /\ (0 : Nat) = (0 : Nat) /\ True) /\ True)) /\ (((psS m_1).snd.snd.snd.2 == 0) = false -> ((((psS m_1).1 = plS ps qs l j /\ (psS m_1).snd.1 = plF ps qs l j /\ (psS m_1).snd.snd.1 = plW ps qs l j /\ (psS m_1).snd.snd.snd.1 = plX ps qs l j /\ True) /\ (psS m_1).snd.snd.snd.2 = plE ps qs l j /\ True) /\ True) /\ (Ob.own (OT.mem ps' qs' m') = Ob.own (OT.mem ps qs (m + tbL ps qs l j)) /\ nat_lit 119 + (1 : Nat) = (120 : TypeId) /\ (0 : Nat) = (0 : Nat) /\ True) /\ True))) (by kernel_rfl) ?_
  have hr := rdW_in (t := true) (k := l) (off := j) h2 h3
  simp only [↓forall_eq, bne_iff_ne, ne_eq, bne_eq_false_iff_eq, beq_iff_eq, beq_eq_false_iff_ne, Bool.not_eq_true', Bool.not_eq_false', and_true, ok_err, decide_eq_true_eq]
  simp only [InK] at *
  repeat' (first | with_reducible rfl | exact True.intro | with_reducible assumption | apply And.intro | intro _h)
  all_goals first | omega | (refine memEq rfl rfl ?_; simp [tbL, *]; done) | (simp [plE, plS, plF, plW, plX, psS_no0, *]; done) 
noncomputable def c_place : ECon
  | [.ptr 0 0, .int .i64 l, .int .i64 j], [some ⟨120, [], 0, some (.own (.mem ps qs m))⟩] => some ([0 ≤ m, m ≤ 4611686018427387903, wfP ps, wfP qs, InK .i64 l, InK .i64 j], [⟨none, .tup [.agg [.bool (plS ps qs l j), .int .i64 (plF ps qs l j), .bool (plW ps qs l j), .bool (plX ps qs l j)], .int .i64 (plE ps qs l j)], [some ⟨120, [], 0, some (.own (.mem ps qs (m + tbL ps qs l j)))⟩]⟩])
  | _, _ => none
theorem c_place_e : EEntry Tryd.prog 123 c_place := by
  refine ⟨callFunc_ok Tryd.func123 (by kernel_rfl) (by kernel_rfl), fun args rows ps alts h hp => ?_⟩
  unfold c_place at h
  split at h
  · cases h; exact place_ok _ _ _ _ _ (hp.i 0) (hp.i 1) (hp.i 2) (hp.i 3) (hp.i 4) (hp.i 5)
  · cases h
theorem split_in {va : Int} (h : InK .u32 va) : ((splitS va).2.2.2 = 0 ∨ (splitS va).2.2.2 = 91) ∧ (0 ≤ (splitS va).1 ∧ (splitS va).1 < 256) ∧ (0 ≤ (splitS va).2.1 ∧ (splitS va).2.1 < 1024) ∧ (0 ≤ (splitS va).2.2.1 ∧ (splitS va).2.2.1 < 1024) := by
  simp only [InK] at h
  unfold splitS
  split <;> simp <;> omega
theorem tbL_in (ps qs : List (List Int)) (l i : Int) : 0 ≤ tbL ps qs l i ∧ tbL ps qs l i ≤ 1 := by unfold tbL; split <;> omega
theorem pfS_in {x : Int} (h : InK .u32 x) : 0 ≤ (pfS x).1 ∧ (pfS x).1 < 64 := by
  simp only [InK] at h
  unfold pfS; repeat' split
  all_goals simp
  all_goals omega
theorem tbP_in {ps qs : List (List Int)} (hp : wfP ps) (hq : wfP qs) (l i : Int) : 0 ≤ tbP ps qs l i ∧ tbP ps qs l i < 64 := by
  unfold tbP; split
  · exact pfS_in (rdW_in hp hq)
  · omega
noncomputable def pt_Wb : List (Nat × (List SV → Option (List Prop × SV))) := [(91, c_Split)]
theorem pt_Wb_ok : PureOK Tryd.prog (fun f => List.lookup f pt_Wb) := pure_list pt_Wb ⟨c_Split_e, trivial⟩
noncomputable def et_Wb : List (Nat × ECon) := [(122, c_table), (123, c_place)]
theorem et_Wb_ok : ConOK Tryd.prog (fun f => List.lookup f et_Wb) := con_list et_Wb ⟨c_table_e, c_place_e, trivial⟩
noncomputable abbrev cx_Wb (must : Nat → Option Bool := fun _ => none) (loop : Nat → SS → Option LoopSpec := fun _ _ => none) (fz : Nat → SS → List Nat := fun _ _ => []) (on : Bool := false) : Ctx := ⟨tab, inlG tab (fun f => List.lookup f pt_Wb) (fun f => List.lookup f et_Wb) fns (fun _ => {}) 1000 4, fun f => List.lookup f pt_Wb, must, loop, 0, 0, fun f => List.lookup f et_Wb, fz, on⟩
theorem cx_Wb_ok (must : Nat → Option Bool) (loop : Nat → SS → Option LoopSpec) (fz : Nat → SS → List Nat) (on : Bool) : CxOK Tryd.prog (cx_Wb must loop fz on) := inlG_ok mixed tab_ok pt_Wb_ok et_Wb_ok fns_ok 4 _ _ _ _ _ _
theorem Walk_ok (m : Int) (ps qs : List (List Int)) (l va : Int) (h0 : 0 ≤ m) (h1 : m ≤ 4611686018427387901) (h2 : wfP ps) (h3 : wfP qs) (h4 : InK .i64 l) (h5 : InK .u32 va) : SemCall Tryd.prog 90 [.ptr 0 0, .int .i64 l, .int .u32 va] [some ⟨120, [], 0, some (.own (.mem ps qs m))⟩] (AltK [⟨none, .tup [.agg [.bool (wkS ps qs l va), .int .i64 (wkF ps qs l va), .bool (wkW ps qs l va), .bool (wkX ps qs l va)], .int .i64 (wkE ps qs l va)], [some ⟨120, [], 0, some (.own (.mem ps qs (m + wkL ps qs l va)))⟩]⟩]) := by
  refine con_intro mixed (cx_Wb_ok (fun _ => none) (fun _ _ => none) (fun _ _ => []) false) Tryd.func90 1000 ?_
  refine of_nf (p := letI k0_ := (false = wkS ps qs l va /\ 0 = wkF ps qs l va /\ false = wkW ps qs l va /\ false = wkX ps qs l va /\ True); (0 <= va /\ va < 4294967296) /\ (((splitS va).snd.snd.2 != 0) = true -> ((k0_ /\ (splitS va).snd.snd.2 = wkE ps qs l va /\ True) /\ True) /\ (Ob.own (OT.mem ps qs m) = Ob.own (OT.mem ps qs (m + wkL ps qs l va)) /\ nat_lit 119 + (1 : Nat) = (120 : TypeId) /\ (0 : Nat) = (0 : Nat) /\ True) /\ True) /\ (((splitS va).snd.snd.2 != 0) = false -> 0 <= m /\ m <= 4611686018427387903 /\ wfP ps /\ wfP qs /\ ((-9223372036854775808 : Int) <= l /\ l < 9223372036854775808) /\ ((-9223372036854775808 : Int) <= (splitS va).1 /\ (splitS va).1 < 9223372036854775808) /\ ∀ (m_1 : Int), m_1 = tbP ps qs l (splitS va).1 -> ∀ (m_2 : Int), m_2 = tbE ps qs l (splitS va).1 -> ∀ (ps' : List (List Int)), ps' = ps -> ∀ (qs' : List (List Int)), qs' = qs -> ∀ (m' : Int), m' = m + tbL ps qs l (splitS va).1 -> ((m_2 != 0) = true -> ((k0_ /\ m_2 = wkE ps qs l va /\ True) /\ True) /\ (Ob.own (OT.mem ps' qs' m') = Ob.own (OT.mem ps qs (m + wkL ps qs l va)) /\ nat_lit 119 + (1 : Nat) = (120 : TypeId) /\ (0 : Nat) = (0 : Nat) /\ True) /\ True) /\ ((m_2 != 0) = false -> 0 <= m' /\ m' <= 4611686018427387903 /\ wfP ps' /\ wfP qs' /\ ((-9223372036854775808 : Int) <= m_1 /\ m_1 < 9223372036854775808) /\ ((-9223372036854775808 : Int) <= (splitS va).snd.1 /\ (splitS va).snd.1 < 9223372036854775808) /\ ∀ (c : Bool), c = plS ps' qs' m_1 (splitS va).snd.1 -> ∀ (m_3 : Int), m_3 = plF ps' qs' m_1 (splitS va).snd.1 -> ∀ (c_1 : Bool), c_1 = plW ps' qs' m_1 (splitS va).snd.1 -> ∀ (c_2 : Bool), c_2 = plX ps' qs' m_1 (splitS va).snd.1 -> ∀ (m_4 : Int), m_4 = plE ps' qs' m_1 (splitS va).snd.1 -> ∀ (ps'_1 : List (List Int)), ps'_1 = ps' -> ∀ (qs'_1 : List (List Int)), qs'_1 = qs' -> ∀ (m'_1 : Int), m'_1 = m' + tbL ps' qs' m_1 (splitS va).snd.1 -> (((c = wkS ps qs l va /\ m_3 = wkF ps qs l va /\ c_1 = wkW ps qs l va /\ c_2 = wkX ps qs l va /\ True) /\ m_4 = wkE ps qs l va /\ True) /\ True) /\ (Ob.own (OT.mem ps'_1 qs'_1 m'_1) = Ob.own (OT.mem ps qs (m + wkL ps qs l va)) /\ nat_lit 119 + (1 : Nat) = (120 : TypeId) /\ (0 : Nat) = (0 : Nat) /\ True) /\ True))) (by kernel_rfl) ?_
  have hs := split_in h5
  have hL := tbL_in ps qs l (splitS va).1
  have hP := tbP_in h2 h3 l (splitS va).1
  simp only [↓forall_eq, bne_iff_ne, ne_eq, bne_eq_false_iff_eq, beq_iff_eq, beq_eq_false_iff_ne, Bool.not_eq_true', Bool.not_eq_false', and_true, ok_err, decide_eq_true_eq]
  simp only [InK] at *
  repeat' (first | with_reducible rfl | exact True.intro | with_reducible assumption | apply And.intro | intro _h)
  all_goals first | omega | (refine memEq rfl rfl ?_; simp [wkL, *]; done) | (simp [wkE, wkG, wkS, wkF, wkW, wkX, *]; done) | (unfold wkE; rw [if_neg (by assumption)]; omega) | (refine memEq rfl rfl ?_; unfold wkL; rw [if_pos (by assumption), if_pos (by assumption)]; omega) 
noncomputable def c_Walk : ECon
  | [.ptr 0 0, .int .i64 l, .int .u32 va], [some ⟨120, [], 0, some (.own (.mem ps qs m))⟩] => some ([0 ≤ m, m ≤ 4611686018427387901, wfP ps, wfP qs, InK .i64 l, InK .u32 va], [⟨none, .tup [.agg [.bool (wkS ps qs l va), .int .i64 (wkF ps qs l va), .bool (wkW ps qs l va), .bool (wkX ps qs l va)], .int .i64 (wkE ps qs l va)], [some ⟨120, [], 0, some (.own (.mem ps qs (m + wkL ps qs l va)))⟩]⟩])
  | _, _ => none
theorem c_Walk_e : EEntry Tryd.prog 90 c_Walk := by
  refine ⟨callFunc_ok Tryd.func90 (by kernel_rfl) (by kernel_rfl), fun args rows ps alts h hp => ?_⟩
  unfold c_Walk at h
  split at h
  · cases h; exact Walk_ok _ _ _ _ _ (hp.i 0) (hp.i 1) (hp.i 2) (hp.i 3) (hp.i 4) (hp.i 5)
  · cases h
noncomputable def pt_Wc : List (Nat × (List SV → Option (List Prop × SV))) := [(91, c_Split)]
theorem pt_Wc_ok : PureOK Tryd.prog (fun f => List.lookup f pt_Wc) := pure_list pt_Wc ⟨c_Split_e, trivial⟩
noncomputable def et_Wc : List (Nat × ECon) := [(90, c_Walk)]
theorem et_Wc_ok : ConOK Tryd.prog (fun f => List.lookup f et_Wc) := con_list et_Wc ⟨c_Walk_e, trivial⟩
noncomputable abbrev cx_Wc (must : Nat → Option Bool := fun _ => none) (loop : Nat → SS → Option LoopSpec := fun _ _ => none) (fz : Nat → SS → List Nat := fun _ _ => []) (on : Bool := false) : Ctx := ⟨tab, inlG tab (fun f => List.lookup f pt_Wc) (fun f => List.lookup f et_Wc) fns (fun _ => {}) 1000 4, fun f => List.lookup f pt_Wc, must, loop, 0, 0, fun f => List.lookup f et_Wc, fz, on⟩
theorem cx_Wc_ok (must : Nat → Option Bool) (loop : Nat → SS → Option LoopSpec) (fz : Nat → SS → List Nat) (on : Bool) : CxOK Tryd.prog (cx_Wc must loop fz on) := inlG_ok mixed tab_ok pt_Wc_ok et_Wc_ok fns_ok 4 _ _ _ _ _ _
theorem Translate_ok (m : Int) (ps qs : List (List Int)) (l va a : Int) (h0 : 0 ≤ m) (h1 : m ≤ 4611686018427387900) (h2 : wfP ps) (h3 : wfP qs) (h4 : InK .i64 l) (h5 : InK .u32 va) : SemCall Tryd.prog 53 [.ptr 0 0, .int .i64 l, .int .u32 va, .int .i64 a] [some ⟨120, [], 0, some (.own (.mem ps qs m))⟩] (AltK [⟨none, .tup [.agg [.bool (trS ps qs l va a), .int .i64 (trF ps qs l va a)], .int .i64 (trO ps qs l va a), .int .i64 (trE ps qs l va a)], [some ⟨120, [], 0, some (.own (.mem ps qs (m + wkL ps qs l va)))⟩]⟩]) := by
  refine con_intro mixed (cx_Wc_ok (fun _ => none) (fun _ _ => none) (fun _ _ => []) false) Tryd.func53 1000 ?_
  refine of_nf (p := letI k0_ := (((false = trS ps qs l va a /\ 0 = trF ps qs l va a /\ True) /\ 0 = trO ps qs l va a /\ 93 = trE ps qs l va a /\ True) /\ True); letI k1_ := (OT.mem ps qs (m + wkL ps qs l va)); (0 : Int) <= m /\ m <= 4611686018427387901 /\ wfP ps /\ wfP qs /\ ((-9223372036854775808 : Int) <= l /\ l < 9223372036854775808) /\ (0 <= va /\ va < 4294967296) /\ ∀ (c : Bool), c = wkS ps qs l va -> ∀ (m_1 : Int), m_1 = wkF ps qs l va -> ∀ (c_1 : Bool), c_1 = wkW ps qs l va -> ∀ (c_2 : Bool), c_2 = wkX ps qs l va -> ∀ (m_2 : Int), m_2 = wkE ps qs l va -> ∀ (ps' : List (List Int)), ps' = ps -> ∀ (qs' : List (List Int)), qs' = qs -> ∀ (m' : Int), m' = m + wkL ps qs l va -> ((m_2 != 0) = true -> (((false = trS ps qs l va a /\ 0 = trF ps qs l va a /\ True) /\ 0 = trO ps qs l va a /\ m_2 = trE ps qs l va a /\ True) /\ True) /\ (Ob.own (OT.mem ps' qs' m') = Ob.own k1_ /\ nat_lit 119 + (1 : Nat) = (120 : TypeId) /\ (0 : Nat) = (0 : Nat) /\ True) /\ True) /\ ((m_2 != 0) = false -> ((a != 0) = true -> ((a != 1) = true -> ((a != 2) = true -> k0_ /\ (Ob.own (OT.mem ps' qs' m') = Ob.own k1_ /\ nat_lit 119 + (1 : Nat) = (120 : TypeId) /\ (0 : Nat) = (0 : Nat) /\ True) /\ True) /\ ((a != 2) = false -> ((!c_2) = true -> k0_ /\ (Ob.own (OT.mem ps' qs' m') = Ob.own k1_ /\ nat_lit 119 + (1 : Nat) = (120 : TypeId) /\ (0 : Nat) = (0 : Nat) /\ True) /\ True) /\ ((!c_2) = false -> (0 <= va /\ va < 4294967296) /\ (((c = trS ps qs l va a /\ m_1 = trF ps qs l va a /\ True) /\ (splitS va).snd.snd.1 = trO ps qs l va a /\ 0 = trE ps qs l va a /\ True) /\ True) /\ (Ob.own (OT.mem ps' qs' m') = Ob.own k1_ /\ nat_lit 119 + (1 : Nat) = (120 : TypeId) /\ (0 : Nat) = (0 : Nat) /\ True) /\ True))) /\ ((a != 1) = false -> ((!c_1) = true -> ((a != 2) = true -> k0_ /\ (Ob.own (OT.mem ps' qs' m') = Ob.own k1_ /\ nat_lit 119 + (1 : Nat) = (120 : TypeId) /\ (0 : Nat) = (0 : Nat) /\ True) /\ True) /\ ((a != 2) = false -> ((!c_2) = true -> k0_ /\ (Ob.own (OT.mem ps' qs' m') = Ob.own k1_ /\ nat_lit 119 + (1 : Nat) = (120 : TypeId) /\ (0 : Nat) = (0 : Nat) /\ True) /\ True) /\ ((!c_2) = false -> (0 <= va /\ va < 4294967296) /\ (((c = trS ps qs l va a /\ m_1 = trF ps qs l va a /\ True) /\ (splitS va).snd.snd.1 = trO ps qs l va a /\ 0 = trE ps qs l va a /\ True) /\ True) /\ (Ob.own (OT.mem ps' qs' m') = Ob.own k1_ /\ nat_lit 119 + (1 : Nat) = (120 : TypeId) /\ (0 : Nat) = (0 : Nat) /\ True) /\ True))) /\ ((!c_1) = false -> (0 <= va /\ va < 4294967296) /\ (((c = trS ps qs l va a /\ m_1 = trF ps qs l va a /\ True) /\ (splitS va).snd.snd.1 = trO ps qs l va a /\ 0 = trE ps qs l va a /\ True) /\ True) /\ (Ob.own (OT.mem ps' qs' m') = Ob.own k1_ /\ nat_lit 119 + (1 : Nat) = (120 : TypeId) /\ (0 : Nat) = (0 : Nat) /\ True) /\ True))) /\ ((a != 0) = false -> (0 <= va /\ va < 4294967296) /\ (((c = trS ps qs l va a /\ m_1 = trF ps qs l va a /\ True) /\ (splitS va).snd.snd.1 = trO ps qs l va a /\ 0 = trE ps qs l va a /\ True) /\ True) /\ (Ob.own (OT.mem ps' qs' m') = Ob.own k1_ /\ nat_lit 119 + (1 : Nat) = (120 : TypeId) /\ (0 : Nat) = (0 : Nat) /\ True) /\ True))) (by kernel_rfl) ?_
  simp only [↓forall_eq, bne_iff_ne, ne_eq, bne_eq_false_iff_eq, beq_iff_eq, beq_eq_false_iff_ne, Bool.not_eq_true', Bool.not_eq_false', and_true, ok_err, decide_eq_true_eq]
  simp only [InK] at *
  repeat' (first | with_reducible rfl | exact True.intro | with_reducible assumption | apply And.intro | intro _h)
  all_goals first | omega | (refine memEq rfl rfl ?_; simp [wkL, *]; done) | (simp [trE, trS, trF, trO, deny, *]; done) 
noncomputable def c_Translate : ECon
  | [.ptr 0 0, .int .i64 l, .int .u32 va, .int .i64 a], [some ⟨120, [], 0, some (.own (.mem ps qs m))⟩] => some ([0 ≤ m, m ≤ 4611686018427387900, wfP ps, wfP qs, InK .i64 l, InK .u32 va], [⟨none, .tup [.agg [.bool (trS ps qs l va a), .int .i64 (trF ps qs l va a)], .int .i64 (trO ps qs l va a), .int .i64 (trE ps qs l va a)], [some ⟨120, [], 0, some (.own (.mem ps qs (m + wkL ps qs l va)))⟩]⟩])
  | _, _ => none
theorem c_Translate_e : EEntry Tryd.prog 53 c_Translate := by
  refine ⟨callFunc_ok Tryd.func53 (by kernel_rfl) (by kernel_rfl), fun args rows ps alts h hp => ?_⟩
  unfold c_Translate at h
  split at h
  · cases h; exact Translate_ok _ _ _ _ _ _ (hp.i 0) (hp.i 1) (hp.i 2) (hp.i 3) (hp.i 4) (hp.i 5)
  · cases h
end Go.Proofs.YtimjnajdpccjdaaDoor
