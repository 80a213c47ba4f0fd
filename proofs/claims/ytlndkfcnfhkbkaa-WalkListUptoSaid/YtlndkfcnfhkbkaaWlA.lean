/- Tables that are laid mapping by mapping. No condition beyond sizes. -/
import Derived.Test.YtlndkfcnfhkbkaaWkU
namespace Go.Proofs.Ytlndkfcnfhkbkaa
open Go.RowKit Sx
set_option linter.unusedVariables false
set_option linter.unusedSimpArgs false
set_option maxRecDepth 100000
set_option maxHeartbeats 8000000
def bl0 (a b : Nat) (T : Nat → Bool) (K O V : Nat → Int) : Nat → List (List Int) × List (List Int) × Int
  | 0 => (List.replicate a (List.replicate 1024 0), List.replicate b (List.replicate 1024 0), 0)
  | k + 1 => (setP (T k && okW (T k) (K k) (O k) (bl0 a b T K O V k).1 (bl0 a b T K O V k).2.1) (K k) ((pgAt (T k) (K k) (bl0 a b T K O V k).1 (bl0 a b T K O V k).2.1).set (O k).toNat (V k)) (bl0 a b T K O V k).1,
    setP (!T k && okW (T k) (K k) (O k) (bl0 a b T K O V k).1 (bl0 a b T K O V k).2.1) (K k) ((pgAt (T k) (K k) (bl0 a b T K O V k).1 (bl0 a b T K O V k).2.1).set (O k).toNat (V k)) (bl0 a b T K O V k).2.1,
    if okW (T k) (K k) (O k) (bl0 a b T K O V k).1 (bl0 a b T K O V k).2.1 = true then (bl0 a b T K O V k).2.2 + 1 else (bl0 a b T K O V k).2.2)
section
variable (a b : Nat) (T : Nat → Bool) (K O V : Nat → Int)
theorem bP_ex : ∃ f : Nat → List (List Int), ∀ n, f n = (bl0 a b T K O V n).1 := ⟨_, fun _ => rfl⟩
theorem bQ_ex : ∃ f : Nat → List (List Int), ∀ n, f n = (bl0 a b T K O V n).2.1 := ⟨_, fun _ => rfl⟩
theorem bM_ex : ∃ f : Nat → Int, ∀ n, f n = (bl0 a b T K O V n).2.2 := ⟨_, fun _ => rfl⟩
noncomputable def bP : Nat → List (List Int) := Classical.choose (bP_ex a b T K O V)
noncomputable def bQ : Nat → List (List Int) := Classical.choose (bQ_ex a b T K O V)
noncomputable def bM : Nat → Int := Classical.choose (bM_ex a b T K O V)
theorem bP_eq (n : Nat) : bP a b T K O V n = (bl0 a b T K O V n).1 := Classical.choose_spec (bP_ex a b T K O V) n
theorem bQ_eq (n : Nat) : bQ a b T K O V n = (bl0 a b T K O V n).2.1 := Classical.choose_spec (bQ_ex a b T K O V) n
theorem bM_eq (n : Nat) : bM a b T K O V n = (bl0 a b T K O V n).2.2 := Classical.choose_spec (bM_ex a b T K O V) n
theorem b_s (k : Nat) : bP a b T K O V (k + 1) = setP (T k && okW (T k) (K k) (O k) (bP a b T K O V k) (bQ a b T K O V k)) (K k) ((pgAt (T k) (K k) (bP a b T K O V k) (bQ a b T K O V k)).set (O k).toNat (V k)) (bP a b T K O V k) ∧
    bQ a b T K O V (k + 1) = setP (!T k && okW (T k) (K k) (O k) (bP a b T K O V k) (bQ a b T K O V k)) (K k) ((pgAt (T k) (K k) (bP a b T K O V k) (bQ a b T K O V k)).set (O k).toNat (V k)) (bQ a b T K O V k) ∧
    bM a b T K O V (k + 1) = if okW (T k) (K k) (O k) (bP a b T K O V k) (bQ a b T K O V k) = true then bM a b T K O V k + 1 else bM a b T K O V k := by
  rw [bP_eq, bQ_eq, bM_eq, bP_eq, bQ_eq, bM_eq]
  exact ⟨rfl, rfl, rfl⟩
theorem b_0 : bP a b T K O V 0 = List.replicate a (List.replicate 1024 0) ∧ bQ a b T K O V 0 = List.replicate b (List.replicate 1024 0) ∧ bM a b T K O V 0 = 0 := by
  rw [bP_eq, bQ_eq, bM_eq]; exact ⟨rfl, rfl, rfl⟩
theorem b_len : ∀ n, (bP a b T K O V n).length = a ∧ (bQ a b T K O V n).length = b
  | 0 => by rw [(b_0 a b T K O V).1, (b_0 a b T K O V).2.1]; simp
  | n + 1 => by rw [(b_s a b T K O V n).1, (b_s a b T K O V n).2.1, setP_len, setP_len]; exact b_len n
theorem bM_in : ∀ n, 0 ≤ bM a b T K O V n ∧ bM a b T K O V n ≤ n
  | 0 => by rw [(b_0 a b T K O V).2.2]; omega
  | n + 1 => by
    have h := bM_in n
    rw [(b_s a b T K O V n).2.2]; split <;> omega
end
theorem wf_rep (a : Nat) : wfP (List.replicate a (List.replicate 1024 0)) := ⟨fun p hp => by
  rw [List.eq_of_mem_replicate hp]
  exact ⟨by simp, fun x hx => by rw [List.eq_of_mem_replicate hx]; simp [InK]⟩⟩
theorem pgAt_wf {t : Bool} {k : Int} {ps qs : List (List Int)} (h1 : wfP ps) (h2 : wfP qs) (h : hasP t k ps qs = true) : (pgAt t k ps qs).length = 1024 ∧ ∀ x ∈ pgAt t k ps qs, InK .u32 x := by
  unfold hasP at h
  simp only [Bool.and_eq_true, decide_eq_true_eq] at h
  have key : ∀ l : List (List Int), wfP l → k < l.length → (l.getD k.toNat []).length = 1024 ∧ ∀ x ∈ l.getD k.toNat [], InK .u32 x := fun l hl hk => by
    rw [List.getD_eq_getElem?_getD, List.getElem?_eq_getElem (show k.toNat < l.length by omega)]
    exact hl.out _ (List.getElem_mem _)
  unfold pgAt
  cases t with
  | true => exact key _ h1 h.2
  | false => exact key _ h2 h.2
theorem set_wf {ps : List (List Int)} {on : Bool} {k : Int} {xs : List Int} (h : wfP ps) (hx : on = true → xs.length = 1024 ∧ ∀ x ∈ xs, InK .u32 x) : wfP (setP on k xs ps) := ⟨fun p hp => by
  unfold setP at hp
  split at hp
  · rename_i ho
    rcases List.mem_or_eq_of_mem_set hp with h1 | rfl
    · exact h.out p h1
    · exact hx ho
  · exact h.out p hp⟩
theorem write_wf {t : Bool} {k off v : Int} {ps qs : List (List Int)} (h1 : wfP ps) (h2 : wfP qs) (hv : InK .u32 v) :
    wfP (setP (t && okW t k off ps qs) k ((pgAt t k ps qs).set off.toNat v) ps) ∧ wfP (setP (!t && okW t k off ps qs) k ((pgAt t k ps qs).set off.toNat v) qs) := by
  have key : okW t k off ps qs = true → ((pgAt t k ps qs).set off.toNat v).length = 1024 ∧ ∀ x ∈ (pgAt t k ps qs).set off.toNat v, InK .u32 x := fun ho => by
    have hh : hasP t k ps qs = true := by unfold okW at ho; simp only [Bool.and_eq_true] at ho; exact ho.1
    have hp := pgAt_wf h1 h2 hh
    refine ⟨by rw [List.length_set]; exact hp.1, fun x hx => ?_⟩
    rcases List.mem_or_eq_of_mem_set hx with h | rfl
    · exact hp.2 x h
    · exact hv
  exact ⟨set_wf h1 fun h => key (by simp at h; exact h.2), set_wf h2 fun h => key (by simp at h; exact h.2)⟩
theorem b_wf (a b : Nat) (T : Nat → Bool) (K O V : Nat → Int) {n : Nat} (h : ∀ e, e < n → InK .u32 (V e)) : ∀ k, k ≤ n → wfP (bP a b T K O V k) ∧ wfP (bQ a b T K O V k)
  | 0, _ => by rw [(b_0 a b T K O V).1, (b_0 a b T K O V).2.1]; exact ⟨wf_rep a, wf_rep b⟩
  | k + 1, hk => by
    have hw := b_wf a b T K O V h k (by omega)
    rw [(b_s a b T K O V k).1, (b_s a b T K O V k).2.1]
    exact write_wf hw.1 hw.2 (h k (by omega))
noncomputable def pt_Mla : List (Nat × (List SV → Option (List Prop × SV))) := []
theorem pt_Mla_ok : PureOK Try.prog (fun f => List.lookup f pt_Mla) := pure_list pt_Mla trivial
noncomputable abbrev cx_Mla (must : Nat → Option Bool := fun _ => none) (loop : Nat → SS → Option LoopSpec := fun _ _ => none) (fz : Nat → SS → List Nat := fun _ _ => []) (on : Bool := false) : Ctx := ⟨tab, inl tab (fun f => List.lookup f pt_Mla) fns (fun _ => {}) 1000 4, fun f => List.lookup f pt_Mla, must, loop, 0, 0, fun _ => none, fz, on⟩
theorem cx_Mla_ok (must : Nat → Option Bool) (loop : Nat → SS → Option LoopSpec) (fz : Nat → SS → List Nat) (on : Bool) : CxOK Try.prog (cx_Mla must loop fz on) := inl_ok mixed tab_ok pt_Mla_ok fns_ok 4 _ _ _ _ _ _
theorem within_ok (x lo hi : Int) (h0 : lo ≤ hi) (h1 : -1000000 ≤ lo) (h2 : hi ≤ 1000000) : PureSem Try.prog 16 [.int .i64 x, .int .i64 lo, .int .i64 hi] (.int .i64 (lo + x % (hi - lo + 1))) := by
  refine pure_intro mixed (cx_Mla_ok (fun _ => none) (fun _ _ => none) (fun _ _ => []) false) Try.func16 1000 rfl rfl ?_
  refine of_nf (p := ((-9223372036854775808 : Int) <= hi - lo /\ hi - lo < 9223372036854775808) /\ ((-9223372036854775808 : Int) <= hi - lo + 1 /\ hi - lo + 1 < (9223372036854775808 : Int)) /\ hi - lo + 1 ≠ (0 : Int) /\ (decide (x.tmod (hi - lo + 1) < 0) = true -> ((-9223372036854775808 : Int) <= x.tmod (hi - lo + 1) + hi /\ x.tmod (hi - lo + 1) + hi < 9223372036854775808) /\ ((-9223372036854775808 : Int) <= x.tmod (hi - lo + 1) + hi - lo /\ x.tmod (hi - lo + 1) + hi - lo < 9223372036854775808) /\ ((-9223372036854775808 : Int) <= x.tmod (hi - lo + 1) + hi - lo + 1 /\ x.tmod (hi - lo + 1) + hi - lo + 1 < (9223372036854775808 : Int)) /\ ((-9223372036854775808 : Int) <= lo + (x.tmod (hi - lo + 1) + hi - lo + 1) /\ lo + (x.tmod (hi - lo + 1) + hi - lo + 1) < 9223372036854775808) /\ lo + (x.tmod (hi - lo + 1) + hi - lo + 1) = lo + x % (hi - lo + 1)) /\ (decide (x.tmod (hi - lo + 1) < 0) = false -> ((-9223372036854775808 : Int) <= lo + x.tmod (hi - lo + 1) /\ lo + x.tmod (hi - lo + 1) < 9223372036854775808) /\ lo + x.tmod (hi - lo + 1) = lo + x % (hi - lo + 1))) (by kernel_rfl) ?_
  have hm := Int.emod_nonneg x (show hi - lo + 1 ≠ 0 by omega)
  have hlt := Int.emod_lt_of_pos x (show 0 < hi - lo + 1 by omega)
  have hb : (0 ≤ x.tmod (hi - lo + 1) ∧ x.tmod (hi - lo + 1) = x % (hi - lo + 1)) ∨ (x.tmod (hi - lo + 1) < 0 ∧ x.tmod (hi - lo + 1) + (hi - lo + 1) = x % (hi - lo + 1)) := by
    rw [Int.tmod_eq_emod]
    have habs : ((hi - lo + 1).natAbs : Int) = hi - lo + 1 := by omega
    split
    · exact .inl ⟨by omega, by omega⟩
    · by_cases hz : x % (hi - lo + 1) = 0
      · rename_i hne
        exact absurd (.inr (Int.dvd_of_emod_eq_zero hz)) hne
      · exact .inr ⟨by omega, by omega⟩
  repeat' (first | with_reducible rfl | exact True.intro | apply And.intro | intro _h)
  all_goals first | omega | (have _h := of_decide_eq_true (by assumption); omega) | (have _h := of_decide_eq_false (by assumption); omega)
noncomputable def c_within : List SV → Option (List Prop × SV)
  | [.int .i64 x, .int .i64 lo, .int .i64 hi] => some ([lo ≤ hi, -1000000 ≤ lo, hi ≤ 1000000], .int .i64 (lo + x % (hi - lo + 1)))
  | _ => none
theorem c_within_e : PEntry Try.prog 16 c_within := by
  refine ⟨callFunc_ok Try.func16 (by kernel_rfl) (by kernel_rfl), fun args ps v h hp => ?_⟩
  unfold c_within at h
  split at h
  · cases h; exact within_ok _ _ _ (hp _ (List.mem_of_getElem? (i := 0) rfl)) (hp _ (List.mem_of_getElem? (i := 1) rfl)) (hp _ (List.mem_of_getElem? (i := 2) rfl))
  · cases h
def mpP (S : Bool) (P : Int) : Int := if S = true then P % 8 else P % 4
def ixT (t : Int) : Int := if t = 0 then 5 else if t = 1 then 9 else 255
noncomputable section
variable (I J : Nat → Int) (S : Nat → Bool) (P : Nat → Int) (X Y : Nat → Bool)
def pkK (e : Nat) : Int := if e < 3 then 0 else I (e - 3) % 3 + 1
def pkO (e : Nat) : Int := if e < 3 then ixT (e : Int) else J (e - 3) % 1024
def pkV (e : Nat) : Int := if e < 3 then ((e : Int) + 1) * 256 + 1 else (secS (S (e - 3)) (mpP (S (e - 3)) (P (e - 3))) (X (e - 3)) (S (e - 3) && Y (e - 3))).1
theorem mP_ex : ∃ f : Nat → List (List Int), ∀ k, f k = bP 8 4 (fun _ => true) (pkK I) (pkO J) (pkV S P X Y) (k + 3) := ⟨_, fun _ => rfl⟩
theorem mQ_ex : ∃ f : Nat → List (List Int), ∀ k, f k = bQ 8 4 (fun _ => true) (pkK I) (pkO J) (pkV S P X Y) (k + 3) := ⟨_, fun _ => rfl⟩
theorem mM_ex : ∃ f : Nat → Int, ∀ k, f k = bM 8 4 (fun _ => true) (pkK I) (pkO J) (pkV S P X Y) (k + 3) := ⟨_, fun _ => rfl⟩
def mP : Nat → List (List Int) := Classical.choose (mP_ex I J S P X Y)
def mQ : Nat → List (List Int) := Classical.choose (mQ_ex I J S P X Y)
def mM : Nat → Int := Classical.choose (mM_ex I J S P X Y)
theorem mP_eq (k : Nat) : mP I J S P X Y k = bP 8 4 (fun _ => true) (pkK I) (pkO J) (pkV S P X Y) (k + 3) := Classical.choose_spec (mP_ex I J S P X Y) k
theorem mQ_eq (k : Nat) : mQ I J S P X Y k = bQ 8 4 (fun _ => true) (pkK I) (pkO J) (pkV S P X Y) (k + 3) := Classical.choose_spec (mQ_ex I J S P X Y) k
theorem mM_eq (k : Nat) : mM I J S P X Y k = bM 8 4 (fun _ => true) (pkK I) (pkO J) (pkV S P X Y) (k + 3) := Classical.choose_spec (mM_ex I J S P X Y) k
end
noncomputable def pt_Mlc : List (Nat × (List SV → Option (List Prop × SV))) := [(16, c_within)]
theorem pt_Mlc_ok : PureOK Try.prog (fun f => List.lookup f pt_Mlc) := pure_list pt_Mlc ⟨c_within_e, trivial⟩
noncomputable abbrev cx_Mlc (must : Nat → Option Bool := fun _ => none) (loop : Nat → SS → Option LoopSpec := fun _ _ => none) (fz : Nat → SS → List Nat := fun _ _ => []) (on : Bool := false) : Ctx := ⟨tab, inl tab (fun f => List.lookup f pt_Mlc) fns (fun _ => {}) 1000 4, fun f => List.lookup f pt_Mlc, must, loop, 0, 0, fun _ => none, fz, on⟩
theorem cx_Mlc_ok (must : Nat → Option Bool) (loop : Nat → SS → Option LoopSpec) (fz : Nat → SS → List Nat) (on : Bool) : CxOK Try.prog (cx_Mlc must loop fz on) := inl_ok mixed tab_ok pt_Mlc_ok fns_ok 4 _ _ _ _ _ _
theorem said_ok (I J : Int) (S : Bool) (P : Int) (X Y : Bool)  : PureSem Try.prog 20 [.agg [.int .i64 I, .int .i64 J, .bool S, .int .i64 P, .bool X, .bool Y]] (.agg [.bool S, .int .i64 (mpP S P), .bool X, .bool (S && Y)]) := by
  refine pure_intro mixed (cx_Mlc_ok (fun _ => none) (fun _ _ => none) (fun _ _ => []) false) Try.func20 1000 rfl rfl ?_
  refine of_nf (p := (S = true -> (0 : Int) <= (7 : Int) /\ (-1000000 : Int) <= (0 : Int) /\ (7 : Int) <= (1000000 : Int) /\ true = S /\ (0 : Int) + P % 8 = mpP S P /\ X = X /\ Y = (S && Y) /\ True) /\ (S = false -> (0 : Int) <= (3 : Int) /\ (-1000000 : Int) <= (0 : Int) /\ (3 : Int) <= (1000000 : Int) /\ false = S /\ (0 : Int) + P % 4 = mpP S P /\ X = X /\ false = (S && Y) /\ True)) (by kernel_rfl) ?_
  cases S
  all_goals (repeat' (first | with_reducible rfl | exact True.intro | apply And.intro | intro _h))
  all_goals first | omega | (cases _h; done) | (simp [mpP]; done) | (simp [mpP]; omega) | (simp_all [mpP]; done) | trace_state
noncomputable def c_said : List SV → Option (List Prop × SV)
  | [.agg [.int .i64 I, .int .i64 J, .bool S, .int .i64 P, .bool X, .bool Y]] => some ([], .agg [.bool S, .int .i64 (mpP S P), .bool X, .bool (S && Y)])
  | _ => none
theorem c_said_e : PEntry Try.prog 20 c_said := by
  refine ⟨callFunc_ok Try.func20 (by kernel_rfl) (by kernel_rfl), fun args ps v h hp => ?_⟩
  unfold c_said at h
  split at h
  · cases h; exact said_ok _ _ _ _ _ _ 
  · cases h
theorem index9_ok (t : Int) (h0 : 0 ≤ t) (h1 : t < 3) : PureSem Try.prog 84 [.int .i64 t] (.int .i64 (ixT t)) := by
  refine pure_intro mixed (cx_Mlc_ok (fun _ => none) (fun _ _ => none) (fun _ _ => []) false) Try.func84 1000 rfl rfl ?_
  refine of_nf (p := (0 : Int) <= t /\ t < 3 /\ 0 <= t /\ t < 3 /\ [(5 : Int), 9, 255].getD t.toNat 0 = ixT t) (by kernel_rfl) ?_
  rcases (by omega : t = 0 ∨ t = 1 ∨ t = 2) with rfl | rfl | rfl
  all_goals (repeat' (first | with_reducible rfl | exact True.intro | apply And.intro | intro _h))
  all_goals first | omega | (simp_all [ixT]; done) | trace_state
noncomputable def c_index9 : List SV → Option (List Prop × SV)
  | [.int .i64 t] => some ([0 ≤ t, t < 3], .int .i64 (ixT t))
  | _ => none
theorem c_index9_e : PEntry Try.prog 84 c_index9 := by
  refine ⟨callFunc_ok Try.func84 (by kernel_rfl) (by kernel_rfl), fun args ps v h hp => ?_⟩
  unfold c_index9 at h
  split at h
  · cases h; exact index9_ok _ (hp _ (List.mem_of_getElem? (i := 0) rfl)) (hp _ (List.mem_of_getElem? (i := 1) rfl))
  · cases h
structure mpI (n : Nat) (I J : Nat → Int) (P : Nat → Int) : Prop where
  out : ∀ e, e < n → InK .i64 (I e) ∧ InK .i64 (J e) ∧ InK .i64 (P e)
theorem pkK_3 (I : Nat → Int) (x : Nat) : pkK I (x + 3) = 0 + I x % 3 + 1 := by unfold pkK; rw [if_neg (by omega), Nat.add_sub_cancel]; omega
theorem pkO_3 (J : Nat → Int) (x : Nat) : pkO J (x + 3) = 0 + J x % 1024 := by unfold pkO; rw [if_neg (by omega), Nat.add_sub_cancel]; omega
theorem pkV_3 (S : Nat → Bool) (P : Nat → Int) (X Y : Nat → Bool) (x : Nat) : pkV S P X Y (x + 3) = (secS (S x) (mpP (S x) (P x)) (X x) (S x && Y x)).1 := by unfold pkV; rw [if_neg (by omega), Nat.add_sub_cancel]
theorem mpP_in (s : Bool) (p : Int) : 0 ≤ mpP s p ∧ mpP s p < 8 := by unfold mpP; split <;> omega
theorem mp_sec (s x y : Bool) (p : Int) : (secS s (mpP s p) x (s && y)).2 = 0 := by
  have h1 := mpP_in s p
  unfold secS
  rw [if_neg (by omega), if_neg (by intro h; obtain ⟨h2, h3⟩ := h; rw [h2] at h3; cases h3)]
theorem pkV_in (S : Nat → Bool) (P : Nat → Int) (X Y : Nat → Bool) (e : Nat) : InK .u32 (pkV S P X Y e) := by
  show 0 ≤ pkV S P X Y e ∧ pkV S P X Y e < 4294967296
  unfold pkV
  split
  · omega
  · have h1 : 0 ≤ mpP (S (e - 3)) (P (e - 3)) ∧ mpP (S (e - 3)) (P (e - 3)) < 8 := by unfold mpP; split <;> omega
    unfold secS
    rw [if_neg (by omega)]
    split
    · simp
    · unfold fl
      simp only
      split <;> split <;> split <;> omega
noncomputable def pt_Lmb : List (Nat × (List SV → Option (List Prop × SV))) := [(20, c_said), (84, c_index9), (16, c_within), (83, c_First), (85, c_Second)]
theorem pt_Lmb_ok : PureOK Try.prog (fun f => List.lookup f pt_Lmb) := pure_list pt_Lmb ⟨c_said_e, c_index9_e, c_within_e, c_First_e, c_Second_e, trivial⟩
noncomputable def et_Lmb : List (Nat × ECon) := [(82, c_New1), (32, c_WriteM)]
theorem et_Lmb_ok : ConOK Try.prog (fun f => List.lookup f et_Lmb) := con_list et_Lmb ⟨c_New1_e, c_WriteM_e, trivial⟩
noncomputable abbrev cx_Lmb (must : Nat → Option Bool := fun _ => none) (loop : Nat → SS → Option LoopSpec := fun _ _ => none) (fz : Nat → SS → List Nat := fun _ _ => []) (on : Bool := false) : Ctx := ⟨tab, inlG tab (fun f => List.lookup f pt_Lmb) (fun f => List.lookup f et_Lmb) fns (fun _ => {}) 1000 4, fun f => List.lookup f pt_Lmb, must, loop, 0, 0, fun f => List.lookup f et_Lmb, fz, on⟩
theorem cx_Lmb_ok (must : Nat → Option Bool) (loop : Nat → SS → Option LoopSpec) (fz : Nat → SS → List Nat) (on : Bool) : CxOK Try.prog (cx_Lmb must loop fz on) := inlG_ok mixed tab_ok pt_Lmb_ok et_Lmb_ok fns_ok 4 _ _ _ _ _ _
theorem mapped9X_ok (v : Value) (n : Nat) (I J : Nat → Int) (S : Nat → Bool) (P : Nat → Int) (X Y : Nat → Bool) (h0 : (n : Int) ≤ 4000000000000000000) (h1 : mpI n I J P) : SemCall Try.prog 14 [.rs 6 v n (fun e => [.int .i64 (I e), .int .i64 (J e), .bool (S e), .int .i64 (P e), .bool (X e), .bool (Y e)])] [] (AltK [⟨none, .tup [.ptr 0 0, .bool true], [some ⟨181, [], 0, some (.own (.mem (mP I J S P X Y (min n 60)) (mQ I J S P X Y (min n 60)) (mM I J S P X Y (min n 60))))⟩]⟩]) := by
  refine con_intro mixed (cx_Lmb_ok (fun _ => none) (fun q _ => bif Nat.beq q 12 then some ⟨Nat, fun k => ⟨[(0, .rs 6 v n (fun e => [.int .i64 (I e), .int .i64 (J e), .bool (S e), .int .i64 (P e), .bool (X e), .bool (Y e)])), (4, .ptr 0 0), (10, .int .i64 (k : Int))], [some ⟨181, [], 0, some (.own (.mem (mP I J S P X Y k) (mQ I J S P X Y k) (mM I J S P X Y k)))⟩]⟩, fun k => k ≤ n ∧ k ≤ 60, fun k => 60 - k⟩ else none) (fun _ _ => []) false) Try.func14 1000 ?_
  refine of_nf (p := true = true /\ ∀ (m : Int), m = 0 -> ∀ (ps' : List (List Int)), ps' = [List.replicate (1024 : Nat) (0 : Int), List.replicate (1024 : Nat) (0 : Int), List.replicate (1024 : Nat) (0 : Int), List.replicate (1024 : Nat) (0 : Int), List.replicate (1024 : Nat) (0 : Int), List.replicate (1024 : Nat) (0 : Int), List.replicate (1024 : Nat) (0 : Int), List.replicate (1024 : Nat) (0 : Int)] -> ∀ (qs' : List (List Int)), qs' = [List.replicate (1024 : Nat) (0 : Int), List.replicate (1024 : Nat) (0 : Int), List.replicate (1024 : Nat) (0 : Int), List.replicate (1024 : Nat) (0 : Int)] -> ∀ (m' : Int), m' = 0 -> ((m != 0) = true -> ((SV.val (Value.pointer none) = SV.ptr (0 : Nat) (0 : Nat) /\ false = true /\ True) /\ True) /\ (Ob.own (OT.mem ps' qs' m') = Ob.own (OT.mem (mP I J S P X Y (min n (60 : Nat))) (mQ I J S P X Y (min n (60 : Nat))) (mM I J S P X Y (min n (60 : Nat)))) /\ nat_lit 180 + (1 : Nat) = (181 : TypeId) /\ (0 : Nat) = (0 : Nat) /\ True) /\ True) /\ ((m != 0) = false -> (0 : Int) <= (0 : Int) /\ (0 : Int) < (3 : Int) /\ 0 <= m' /\ m' <= 4611686018427387904 /\ (∀ (p : List Int), p ∈ ps' -> p.length = 1024) /\ (∀ (p : List Int), p ∈ qs' -> p.length = 1024) /\ ∀ (m : Int), m = errW true (0 : Int) (5 : Int) ps' qs' -> ∀ (ps'_1 : List (List Int)), ps'_1 = setP (true && okW true (0 : Int) (5 : Int) ps' qs') (0 : Int) ((pgAt true (0 : Int) ps' qs').set (5 : Nat) (257 : Int)) ps' -> ∀ (qs'_1 : List (List Int)), qs'_1 = setP (false && okW true (0 : Int) (5 : Int) ps' qs') (0 : Int) ((pgAt true (0 : Int) ps' qs').set (5 : Nat) (257 : Int)) qs' -> ∀ (m'_1 : Int), (m'_1 = if okW true (0 : Int) (5 : Int) ps' qs' = true then m' + 1 else m') -> (false = true -> ((SV.val (Value.pointer none) = SV.ptr (0 : Nat) (0 : Nat) /\ false = true /\ True) /\ True) /\ (Ob.own (OT.mem ps'_1 qs'_1 m'_1) = Ob.own (OT.mem (mP I J S P X Y (min n (60 : Nat))) (mQ I J S P X Y (min n (60 : Nat))) (mM I J S P X Y (min n (60 : Nat)))) /\ nat_lit 180 + (1 : Nat) = (181 : TypeId) /\ (0 : Nat) = (0 : Nat) /\ True) /\ True) /\ (false = false -> ((m != 0) = true -> ((SV.val (Value.pointer none) = SV.ptr (0 : Nat) (0 : Nat) /\ false = true /\ True) /\ True) /\ (Ob.own (OT.mem ps'_1 qs'_1 m'_1) = Ob.own (OT.mem (mP I J S P X Y (min n (60 : Nat))) (mQ I J S P X Y (min n (60 : Nat))) (mM I J S P X Y (min n (60 : Nat)))) /\ nat_lit 180 + (1 : Nat) = (181 : TypeId) /\ (0 : Nat) = (0 : Nat) /\ True) /\ True) /\ ((m != 0) = false -> (0 : Int) <= (1 : Int) /\ (1 : Int) < (3 : Int) /\ 0 <= m'_1 /\ m'_1 <= 4611686018427387904 /\ (∀ (p : List Int), p ∈ ps'_1 -> p.length = 1024) /\ (∀ (p : List Int), p ∈ qs'_1 -> p.length = 1024) /\ ∀ (m : Int), m = errW true (0 : Int) (9 : Int) ps'_1 qs'_1 -> ∀ (ps' : List (List Int)), ps' = setP (true && okW true (0 : Int) (9 : Int) ps'_1 qs'_1) (0 : Int) ((pgAt true (0 : Int) ps'_1 qs'_1).set (9 : Nat) (513 : Int)) ps'_1 -> ∀ (qs' : List (List Int)), qs' = setP (false && okW true (0 : Int) (9 : Int) ps'_1 qs'_1) (0 : Int) ((pgAt true (0 : Int) ps'_1 qs'_1).set (9 : Nat) (513 : Int)) qs'_1 -> ∀ (m' : Int), (m' = if okW true (0 : Int) (9 : Int) ps'_1 qs'_1 = true then m'_1 + 1 else m'_1) -> (false = true -> ((SV.val (Value.pointer none) = SV.ptr (0 : Nat) (0 : Nat) /\ false = true /\ True) /\ True) /\ (Ob.own (OT.mem ps' qs' m') = Ob.own (OT.mem (mP I J S P X Y (min n (60 : Nat))) (mQ I J S P X Y (min n (60 : Nat))) (mM I J S P X Y (min n (60 : Nat)))) /\ nat_lit 180 + (1 : Nat) = (181 : TypeId) /\ (0 : Nat) = (0 : Nat) /\ True) /\ True) /\ (false = false -> ((m != 0) = true -> ((SV.val (Value.pointer none) = SV.ptr (0 : Nat) (0 : Nat) /\ false = true /\ True) /\ True) /\ (Ob.own (OT.mem ps' qs' m') = Ob.own (OT.mem (mP I J S P X Y (min n (60 : Nat))) (mQ I J S P X Y (min n (60 : Nat))) (mM I J S P X Y (min n (60 : Nat)))) /\ nat_lit 180 + (1 : Nat) = (181 : TypeId) /\ (0 : Nat) = (0 : Nat) /\ True) /\ True) /\ ((m != 0) = false -> (0 : Int) <= (2 : Int) /\ (2 : Int) < (3 : Int) /\ 0 <= m' /\ m' <= 4611686018427387904 /\ (∀ (p : List Int), p ∈ ps' -> p.length = 1024) /\ (∀ (p : List Int), p ∈ qs' -> p.length = 1024) /\ ∀ (m : Int), m = errW true (0 : Int) (255 : Int) ps' qs' -> ∀ (ps'_2 : List (List Int)), ps'_2 = setP (true && okW true (0 : Int) (255 : Int) ps' qs') (0 : Int) ((pgAt true (0 : Int) ps' qs').set (255 : Nat) (769 : Int)) ps' -> ∀ (qs'_2 : List (List Int)), qs'_2 = setP (false && okW true (0 : Int) (255 : Int) ps' qs') (0 : Int) ((pgAt true (0 : Int) ps' qs').set (255 : Nat) (769 : Int)) qs' -> ∀ (m'_2 : Int), (m'_2 = if okW true (0 : Int) (255 : Int) ps' qs' = true then m' + 1 else m') -> (false = true -> ((SV.val (Value.pointer none) = SV.ptr (0 : Nat) (0 : Nat) /\ false = true /\ True) /\ True) /\ (Ob.own (OT.mem ps'_2 qs'_2 m'_2) = Ob.own (OT.mem (mP I J S P X Y (min n (60 : Nat))) (mQ I J S P X Y (min n (60 : Nat))) (mM I J S P X Y (min n (60 : Nat)))) /\ nat_lit 180 + (1 : Nat) = (181 : TypeId) /\ (0 : Nat) = (0 : Nat) /\ True) /\ True) /\ (false = false -> ((m != 0) = true -> ((SV.val (Value.pointer none) = SV.ptr (0 : Nat) (0 : Nat) /\ false = true /\ True) /\ True) /\ (Ob.own (OT.mem ps'_2 qs'_2 m'_2) = Ob.own (OT.mem (mP I J S P X Y (min n (60 : Nat))) (mQ I J S P X Y (min n (60 : Nat))) (mM I J S P X Y (min n (60 : Nat)))) /\ nat_lit 180 + (1 : Nat) = (181 : TypeId) /\ (0 : Nat) = (0 : Nat) /\ True) /\ True) /\ ((m != 0) = false -> ∃ (x : Nat), ((((SV.rs (6 : Nat) v n fun (e : Nat) => [SV.int IntKind.i64 (I e), SV.int IntKind.i64 (J e), SV.bool (S e), SV.int IntKind.i64 (P e), SV.bool (X e), SV.bool (Y e)]) = SV.rs (6 : Nat) v n fun (e : Nat) => [SV.int IntKind.i64 (I e), SV.int IntKind.i64 (J e), SV.bool (S e), SV.int IntKind.i64 (P e), SV.bool (X e), SV.bool (Y e)]) /\ SV.ptr (0 : Nat) 0 = SV.ptr (0 : Nat) (0 : Nat) /\ (0 : Int) = ((x : Nat) : Int) /\ True) /\ (Ob.own (OT.mem ps'_2 qs'_2 m'_2) = Ob.own (OT.mem (mP I J S P X Y x) (mQ I J S P X Y x) (mM I J S P X Y x)) /\ nat_lit 180 + (1 : Nat) = (181 : TypeId) /\ (0 : Nat) = (0 : Nat) /\ True) /\ True) /\ (x <= n /\ x <= 60) /\ ∀ (x : Nat), x <= n /\ x <= 60 -> (decide (((x : Nat) : Int) < ((n : Nat) : Int)) = true -> (decide (((x : Nat) : Int) < 60) = true -> (0 : Int) <= ((x : Nat) : Int) /\ ((x : Nat) : Int) < ((n : Nat) : Int) /\ ((-9223372036854775808 : Int) <= mpP (S (((x : Nat) : Int)).toNat) (P (((x : Nat) : Int)).toNat) /\ mpP (S (((x : Nat) : Int)).toNat) (P (((x : Nat) : Int)).toNat) < 9223372036854775808) /\ (0 : Int) <= ((x : Nat) : Int) /\ ((x : Nat) : Int) < ((n : Nat) : Int) /\ (0 : Int) <= (2 : Int) /\ (-1000000 : Int) <= (0 : Int) /\ (2 : Int) <= (1000000 : Int) /\ ((-9223372036854775808 : Int) <= (0 : Int) + I (((x : Nat) : Int)).toNat % 3 + (1 : Int) /\ (0 : Int) + I (((x : Nat) : Int)).toNat % 3 + (1 : Int) < (9223372036854775808 : Int)) /\ (0 : Int) <= ((x : Nat) : Int) /\ ((x : Nat) : Int) < ((n : Nat) : Int) /\ (0 : Int) <= (1023 : Int) /\ (-1000000 : Int) <= (0 : Int) /\ (1023 : Int) <= (1000000 : Int) /\ 0 <= mM I J S P X Y x /\ mM I J S P X Y x <= 4611686018427387904 /\ (∀ (p : List Int), p ∈ mP I J S P X Y x -> p.length = 1024) /\ (∀ (p : List Int), p ∈ mQ I J S P X Y x -> p.length = 1024) /\ (((secS (S (IntKind.i64, ((x : Nat) : Int), false).snd.fst.toNat) (mpP (S (IntKind.i64, ((x : Nat) : Int), false).snd.fst.toNat) (P (IntKind.i64, ((x : Nat) : Int), false).snd.fst.toNat)) (X (IntKind.i64, ((x : Nat) : Int), false).snd.fst.toNat) (S (IntKind.i64, ((x : Nat) : Int), false).snd.fst.toNat && Y (IntKind.i64, ((x : Nat) : Int), false).snd.fst.toNat)).2 != 0) = true -> ((SV.val (Value.pointer none) = SV.ptr (0 : Nat) (0 : Nat) /\ false = true /\ True) /\ True) /\ (Ob.own (OT.mem (setP (true && okW true ((0 : Int) + I (((x : Nat) : Int)).toNat % 3 + (1 : Int)) ((0 : Int) + J (((x : Nat) : Int)).toNat % 1024) (mP I J S P X Y x) (mQ I J S P X Y x)) ((0 : Int) + I (((x : Nat) : Int)).toNat % 3 + (1 : Int)) ((pgAt true ((0 : Int) + I (((x : Nat) : Int)).toNat % 3 + (1 : Int)) (mP I J S P X Y x) (mQ I J S P X Y x)).set ((0 : Int) + J (((x : Nat) : Int)).toNat % 1024).toNat (secS (S (IntKind.i64, ((x : Nat) : Int), false).snd.fst.toNat) (mpP (S (IntKind.i64, ((x : Nat) : Int), false).snd.fst.toNat) (P (IntKind.i64, ((x : Nat) : Int), false).snd.fst.toNat)) (X (IntKind.i64, ((x : Nat) : Int), false).snd.fst.toNat) (S (IntKind.i64, ((x : Nat) : Int), false).snd.fst.toNat && Y (IntKind.i64, ((x : Nat) : Int), false).snd.fst.toNat)).1) (mP I J S P X Y x)) (setP (false && okW true ((0 : Int) + I (((x : Nat) : Int)).toNat % 3 + (1 : Int)) ((0 : Int) + J (((x : Nat) : Int)).toNat % 1024) (mP I J S P X Y x) (mQ I J S P X Y x)) ((0 : Int) + I (((x : Nat) : Int)).toNat % 3 + (1 : Int)) ((pgAt true ((0 : Int) + I (((x : Nat) : Int)).toNat % 3 + (1 : Int)) (mP I J S P X Y x) (mQ I J S P X Y x)).set ((0 : Int) + J (((x : Nat) : Int)).toNat % 1024).toNat (secS (S (IntKind.i64, ((x : Nat) : Int), false).snd.fst.toNat) (mpP (S (IntKind.i64, ((x : Nat) : Int), false).snd.fst.toNat) (P (IntKind.i64, ((x : Nat) : Int), false).snd.fst.toNat)) (X (IntKind.i64, ((x : Nat) : Int), false).snd.fst.toNat) (S (IntKind.i64, ((x : Nat) : Int), false).snd.fst.toNat && Y (IntKind.i64, ((x : Nat) : Int), false).snd.fst.toNat)).1) (mQ I J S P X Y x)) (if okW true ((0 : Int) + I (((x : Nat) : Int)).toNat % 3 + (1 : Int)) ((0 : Int) + J (((x : Nat) : Int)).toNat % 1024) (mP I J S P X Y x) (mQ I J S P X Y x) = true then mM I J S P X Y x + 1 else mM I J S P X Y x)) = Ob.own (OT.mem (mP I J S P X Y (min n (60 : Nat))) (mQ I J S P X Y (min n (60 : Nat))) (mM I J S P X Y (min n (60 : Nat)))) /\ nat_lit 180 + (1 : Nat) = (181 : TypeId) /\ (0 : Nat) = (0 : Nat) /\ True) /\ True) /\ (((secS (S (IntKind.i64, ((x : Nat) : Int), false).snd.fst.toNat) (mpP (S (IntKind.i64, ((x : Nat) : Int), false).snd.fst.toNat) (P (IntKind.i64, ((x : Nat) : Int), false).snd.fst.toNat)) (X (IntKind.i64, ((x : Nat) : Int), false).snd.fst.toNat) (S (IntKind.i64, ((x : Nat) : Int), false).snd.fst.toNat && Y (IntKind.i64, ((x : Nat) : Int), false).snd.fst.toNat)).2 != 0) = false -> ((errW true ((0 : Int) + I (((x : Nat) : Int)).toNat % 3 + (1 : Int)) ((0 : Int) + J (((x : Nat) : Int)).toNat % 1024) (mP I J S P X Y x) (mQ I J S P X Y x) != 0) = true -> ((SV.val (Value.pointer none) = SV.ptr (0 : Nat) (0 : Nat) /\ false = true /\ True) /\ True) /\ (Ob.own (OT.mem (setP (true && okW true ((0 : Int) + I (((x : Nat) : Int)).toNat % 3 + (1 : Int)) ((0 : Int) + J (((x : Nat) : Int)).toNat % 1024) (mP I J S P X Y x) (mQ I J S P X Y x)) ((0 : Int) + I (((x : Nat) : Int)).toNat % 3 + (1 : Int)) ((pgAt true ((0 : Int) + I (((x : Nat) : Int)).toNat % 3 + (1 : Int)) (mP I J S P X Y x) (mQ I J S P X Y x)).set ((0 : Int) + J (((x : Nat) : Int)).toNat % 1024).toNat (secS (S (IntKind.i64, ((x : Nat) : Int), false).snd.fst.toNat) (mpP (S (IntKind.i64, ((x : Nat) : Int), false).snd.fst.toNat) (P (IntKind.i64, ((x : Nat) : Int), false).snd.fst.toNat)) (X (IntKind.i64, ((x : Nat) : Int), false).snd.fst.toNat) (S (IntKind.i64, ((x : Nat) : Int), false).snd.fst.toNat && Y (IntKind.i64, ((x : Nat) : Int), false).snd.fst.toNat)).1) (mP I J S P X Y x)) (setP (false && okW true ((0 : Int) + I (((x : Nat) : Int)).toNat % 3 + (1 : Int)) ((0 : Int) + J (((x : Nat) : Int)).toNat % 1024) (mP I J S P X Y x) (mQ I J S P X Y x)) ((0 : Int) + I (((x : Nat) : Int)).toNat % 3 + (1 : Int)) ((pgAt true ((0 : Int) + I (((x : Nat) : Int)).toNat % 3 + (1 : Int)) (mP I J S P X Y x) (mQ I J S P X Y x)).set ((0 : Int) + J (((x : Nat) : Int)).toNat % 1024).toNat (secS (S (IntKind.i64, ((x : Nat) : Int), false).snd.fst.toNat) (mpP (S (IntKind.i64, ((x : Nat) : Int), false).snd.fst.toNat) (P (IntKind.i64, ((x : Nat) : Int), false).snd.fst.toNat)) (X (IntKind.i64, ((x : Nat) : Int), false).snd.fst.toNat) (S (IntKind.i64, ((x : Nat) : Int), false).snd.fst.toNat && Y (IntKind.i64, ((x : Nat) : Int), false).snd.fst.toNat)).1) (mQ I J S P X Y x)) (if okW true ((0 : Int) + I (((x : Nat) : Int)).toNat % 3 + (1 : Int)) ((0 : Int) + J (((x : Nat) : Int)).toNat % 1024) (mP I J S P X Y x) (mQ I J S P X Y x) = true then mM I J S P X Y x + 1 else mM I J S P X Y x)) = Ob.own (OT.mem (mP I J S P X Y (min n (60 : Nat))) (mQ I J S P X Y (min n (60 : Nat))) (mM I J S P X Y (min n (60 : Nat)))) /\ nat_lit 180 + (1 : Nat) = (181 : TypeId) /\ (0 : Nat) = (0 : Nat) /\ True) /\ True) /\ ((errW true ((0 : Int) + I (((x : Nat) : Int)).toNat % 3 + (1 : Int)) ((0 : Int) + J (((x : Nat) : Int)).toNat % 1024) (mP I J S P X Y x) (mQ I J S P X Y x) != 0) = false -> ((-9223372036854775808 : Int) <= ((x : Nat) : Int) + 1 /\ ((x : Nat) : Int) + 1 < (9223372036854775808 : Int)) /\ ∃ (y : Nat), ((((SV.rs (6 : Nat) v n fun (e : Nat) => [SV.int IntKind.i64 (I e), SV.int IntKind.i64 (J e), SV.bool (S e), SV.int IntKind.i64 (P e), SV.bool (X e), SV.bool (Y e)]) = SV.rs (6 : Nat) v n fun (e : Nat) => [SV.int IntKind.i64 (I e), SV.int IntKind.i64 (J e), SV.bool (S e), SV.int IntKind.i64 (P e), SV.bool (X e), SV.bool (Y e)]) /\ SV.ptr (0 : Nat) 0 = SV.ptr (0 : Nat) (0 : Nat) /\ ((x : Nat) : Int) + 1 = ((y : Nat) : Int) /\ True) /\ (Ob.own (OT.mem (setP (true && okW true ((0 : Int) + I (((x : Nat) : Int)).toNat % 3 + (1 : Int)) ((0 : Int) + J (((x : Nat) : Int)).toNat % 1024) (mP I J S P X Y x) (mQ I J S P X Y x)) ((0 : Int) + I (((x : Nat) : Int)).toNat % 3 + (1 : Int)) ((pgAt true ((0 : Int) + I (((x : Nat) : Int)).toNat % 3 + (1 : Int)) (mP I J S P X Y x) (mQ I J S P X Y x)).set ((0 : Int) + J (((x : Nat) : Int)).toNat % 1024).toNat (secS (S (IntKind.i64, ((x : Nat) : Int), false).snd.fst.toNat) (mpP (S (IntKind.i64, ((x : Nat) : Int), false).snd.fst.toNat) (P (IntKind.i64, ((x : Nat) : Int), false).snd.fst.toNat)) (X (IntKind.i64, ((x : Nat) : Int), false).snd.fst.toNat) (S (IntKind.i64, ((x : Nat) : Int), false).snd.fst.toNat && Y (IntKind.i64, ((x : Nat) : Int), false).snd.fst.toNat)).1) (mP I J S P X Y x)) (setP (false && okW true ((0 : Int) + I (((x : Nat) : Int)).toNat % 3 + (1 : Int)) ((0 : Int) + J (((x : Nat) : Int)).toNat % 1024) (mP I J S P X Y x) (mQ I J S P X Y x)) ((0 : Int) + I (((x : Nat) : Int)).toNat % 3 + (1 : Int)) ((pgAt true ((0 : Int) + I (((x : Nat) : Int)).toNat % 3 + (1 : Int)) (mP I J S P X Y x) (mQ I J S P X Y x)).set ((0 : Int) + J (((x : Nat) : Int)).toNat % 1024).toNat (secS (S (IntKind.i64, ((x : Nat) : Int), false).snd.fst.toNat) (mpP (S (IntKind.i64, ((x : Nat) : Int), false).snd.fst.toNat) (P (IntKind.i64, ((x : Nat) : Int), false).snd.fst.toNat)) (X (IntKind.i64, ((x : Nat) : Int), false).snd.fst.toNat) (S (IntKind.i64, ((x : Nat) : Int), false).snd.fst.toNat && Y (IntKind.i64, ((x : Nat) : Int), false).snd.fst.toNat)).1) (mQ I J S P X Y x)) (if okW true ((0 : Int) + I (((x : Nat) : Int)).toNat % 3 + (1 : Int)) ((0 : Int) + J (((x : Nat) : Int)).toNat % 1024) (mP I J S P X Y x) (mQ I J S P X Y x) = true then mM I J S P X Y x + 1 else mM I J S P X Y x)) = Ob.own (OT.mem (mP I J S P X Y y) (mQ I J S P X Y y) (mM I J S P X Y y)) /\ nat_lit 180 + (1 : Nat) = (181 : TypeId) /\ (0 : Nat) = (0 : Nat) /\ True) /\ True) /\ (y <= n /\ y <= 60) /\ (60 : Nat) - y < 60 - x))) /\ (decide (((x : Nat) : Int) < 60) = false -> ((SV.ptr (0 : Nat) 0 = SV.ptr (0 : Nat) (0 : Nat) /\ true = true /\ True) /\ True) /\ (Ob.own (OT.mem (mP I J S P X Y x) (mQ I J S P X Y x) (mM I J S P X Y x)) = Ob.own (OT.mem (mP I J S P X Y (min n (60 : Nat))) (mQ I J S P X Y (min n (60 : Nat))) (mM I J S P X Y (min n (60 : Nat)))) /\ (181 : TypeId) = (181 : TypeId) /\ (0 : Nat) = (0 : Nat) /\ True) /\ True)) /\ (decide (((x : Nat) : Int) < ((n : Nat) : Int)) = false -> ((SV.ptr (0 : Nat) 0 = SV.ptr (0 : Nat) (0 : Nat) /\ true = true /\ True) /\ True) /\ (Ob.own (OT.mem (mP I J S P X Y x) (mQ I J S P X Y x) (mM I J S P X Y x)) = Ob.own (OT.mem (mP I J S P X Y (min n (60 : Nat))) (mQ I J S P X Y (min n (60 : Nat))) (mM I J S P X Y (min n (60 : Nat)))) /\ (181 : TypeId) = (181 : TypeId) /\ (0 : Nat) = (0 : Nat) /\ True) /\ True))))))))) (by kernel_rfl) ?_
  obtain ⟨h1⟩ := h1
  have hv : ∀ e, e < min n 60 + 3 → InK .u32 (pkV S P X Y e) := fun e he => pkV_in S P X Y e
  obtain ⟨p, hp⟩ : ∃ p : Nat → List (List Int), ∀ k, bP 8 4 (fun _ => true) (pkK I) (pkO J) (pkV S P X Y) k = p k := ⟨_, fun _ => rfl⟩
  obtain ⟨q, hq⟩ : ∃ q : Nat → List (List Int), ∀ k, bQ 8 4 (fun _ => true) (pkK I) (pkO J) (pkV S P X Y) k = q k := ⟨_, fun _ => rfl⟩
  obtain ⟨mm, hmm⟩ : ∃ mm : Nat → Int, ∀ k, bM 8 4 (fun _ => true) (pkK I) (pkO J) (pkV S P X Y) k = mm k := ⟨_, fun _ => rfl⟩
  have hlen := fun k => b_len 8 4 (fun _ => true) (pkK I) (pkO J) (pkV S P X Y) k
  have hb0 := b_0 8 4 (fun _ => true) (pkK I) (pkO J) (pkV S P X Y)
  have hbs := b_s 8 4 (fun _ => true) (pkK I) (pkO J) (pkV S P X Y)
  have hM := bM_in 8 4 (fun _ => true) (pkK I) (pkO J) (pkV S P X Y)
  have hw := fun k => b_wf 8 4 (fun _ => true) (pkK I) (pkO J) (pkV S P X Y) (n := k + 1) (fun e _ => pkV_in S P X Y e) k (by omega)
  simp only [hp, hq, hmm] at hlen hb0 hbs hM hw
  have er : ∀ k (j o : Int), 0 ≤ j → j < 8 → 0 ≤ o → o < 1024 → errW true j o (p k) (q k) = 0 := fun k j o a1 a2 a3 a4 => by
    unfold errW hasP
    have := (hlen k).1
    simp only [if_true]
    rw [if_pos (by simp; omega), if_pos ⟨a3, a4⟩]
  have z1 : [List.replicate 1024 0, List.replicate 1024 0, List.replicate 1024 0, List.replicate 1024 0, List.replicate 1024 0, List.replicate 1024 0, List.replicate 1024 0, List.replicate 1024 0] = p 0 := hb0.1.symm
  have z2 : [List.replicate 1024 0, List.replicate 1024 0, List.replicate 1024 0, List.replicate 1024 0] = q 0 := hb0.2.1.symm
  have z3 : mm 0 = 0 := hb0.2.2
  have s0 := hbs 0
  have s1 := hbs 1
  have s2 := hbs 2
  simp only [show pkK I 0 = 0 from rfl, show pkO J 0 = 5 from rfl, show pkV S P X Y 0 = 257 from rfl, Bool.not_true, show Int.toNat 5 = 5 from rfl, Nat.zero_add] at s0
  simp only [show pkK I 1 = 0 from rfl, show pkO J 1 = 9 from rfl, show pkV S P X Y 1 = 513 from rfl, Bool.not_true, show Int.toNat 9 = 9 from rfl, Nat.reduceAdd] at s1
  simp only [show pkK I 2 = 0 from rfl, show pkO J 2 = 255 from rfl, show pkV S P X Y 2 = 769 from rfl, Bool.not_true, show Int.toNat 255 = 255 from rfl, Nat.reduceAdd] at s2
  have gP : ∀ k, mP I J S P X Y k = p (k + 3) := fun k => by rw [mP_eq, hp]
  have gQ : ∀ k, mQ I J S P X Y k = q (k + 3) := fun k => by rw [mQ_eq, hq]
  have gM : ∀ k, mM I J S P X Y k = mm (k + 3) := fun k => by rw [mM_eq, hmm]
  simp only [gP, gQ, gM]
  have no : ∀ {x : Prop}, ((0 : Int) != 0) = true → x := fun h => by simp at h
  have w0 := hw 0
  have w1 := hw 1
  have w2 := hw 2
  have M0 := hM 0
  have M1 := hM 1
  have M2 := hM 2
  refine ⟨trivial, fun e0 he0 ps0 hps0 qs0 hqs0 m0 hm0 => ?_⟩
  rw [z1] at hps0
  rw [z2] at hqs0
  rw [← z3] at hm0
  subst he0 hps0 hqs0 hm0
  refine ⟨no, fun _ => ⟨by omega, by omega, by omega, by omega, wfP_len w0.1, wfP_len w0.2, fun e1 he1 ps1 hps1 qs1 hqs1 m1 hm1 => ?_⟩⟩
  have hps1 := hps1.trans s0.1.symm
  have hqs1 := hqs1.trans s0.2.1.symm
  have hm1 := hm1.trans s0.2.2.symm
  have he1 := he1.trans (er 0 0 5 (by omega) (by omega) (by omega) (by omega))
  subst he1 hps1 hqs1 hm1
  refine ⟨fun h => (by cases h), fun _ => ⟨no, fun _ => ⟨by omega, by omega, by omega, by omega, wfP_len w1.1, wfP_len w1.2, fun e2 he2 ps2 hps2 qs2 hqs2 m2 hm2 => ?_⟩⟩⟩
  have hps2 := hps2.trans s1.1.symm
  have hqs2 := hqs2.trans s1.2.1.symm
  have hm2 := hm2.trans s1.2.2.symm
  have he2 := he2.trans (er 1 0 9 (by omega) (by omega) (by omega) (by omega))
  subst he2 hps2 hqs2 hm2
  refine ⟨fun h => (by cases h), fun _ => ⟨no, fun _ => ⟨by omega, by omega, by omega, by omega, wfP_len w2.1, wfP_len w2.2, fun e3 he3 ps3 hps3 qs3 hqs3 m3 hm3 => ?_⟩⟩⟩
  have hps3 := hps3.trans s2.1.symm
  have hqs3 := hqs3.trans s2.2.1.symm
  have hm3 := hm3.trans s2.2.2.symm
  have he3 := he3.trans (er 2 0 255 (by omega) (by omega) (by omega) (by omega))
  subst he3 hps3 hqs3 hm3
  refine ⟨fun h => (by cases h), fun _ => ⟨no, fun _ => ?_⟩⟩
  clear s0 s1 s2 w0 w1 w2 M0 M1 M2 z1 z2 hb0
  refine ⟨0, ⟨⟨trivial, trivial, rfl, trivial⟩, ⟨rfl, trivial, trivial, trivial⟩, trivial⟩, ⟨Nat.zero_le _, by omega⟩, fun x hx => ?_⟩
  obtain ⟨hx1, hx2⟩ := hx
  have st := hbs (x + 3)
  rw [pkK_3, pkO_3, pkV_3] at st
  simp only [Int.toNat_natCast]
  have fin : ¬ ((x : Int) < n ∧ (x : Int) < 60) → x = min n 60 := fun h => by omega
  refine ⟨fun c => ⟨fun d => ?_, fun d => ?_⟩, fun c => ?_⟩
  · have c := of_decide_eq_true c
    have d := of_decide_eq_true d
    have e1 := mpP_in (S x) (P x)
    have e2 := mp_sec (S x) (X x) (Y x) (P x)
    have e3 := er (x + 3) (0 + I x % 3 + 1) (0 + J x % 1024) (by omega) (by omega) (by omega) (by omega)
    have e4 := hM (x + 3)
    refine ⟨by omega, by omega, by omega, by omega, by omega, by omega, by omega, by omega, by omega, by omega, by omega, by omega, by omega, by omega, by omega, by omega, wfP_len (hw (x + 3)).1, wfP_len (hw (x + 3)).2, ?_, fun _ => ⟨?_, fun _ => ⟨by omega, x + 1, ⟨⟨trivial, trivial, by omega, trivial⟩, ⟨?_, trivial, trivial, trivial⟩, trivial⟩, ⟨by omega, by omega⟩, by omega⟩⟩⟩
    · rw [e2]; exact no
    · rw [e3]; exact no
    · exact memEq st.1.symm st.2.1.symm st.2.2.symm
  · have d := of_decide_eq_false d
    rw [← fin (by omega)]
    exact ⟨⟨⟨trivial, trivial, trivial⟩, trivial⟩, ⟨rfl, trivial, trivial, trivial⟩, trivial⟩
  · have c := of_decide_eq_false c
    rw [← fin (by omega)]
    exact ⟨⟨⟨trivial, trivial, trivial⟩, trivial⟩, ⟨rfl, trivial, trivial, trivial⟩, trivial⟩
end Go.Proofs.Ytlndkfcnfhkbkaa
