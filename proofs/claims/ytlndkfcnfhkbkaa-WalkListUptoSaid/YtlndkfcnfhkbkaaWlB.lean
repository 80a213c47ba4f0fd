/- Tables as a contract; an address; what is listed; what is allowed. No condition beyond sizes. -/
import Derived.Test.YtlndkfcnfhkbkaaWlA
namespace Go.Proofs.Ytlndkfcnfhkbkaa
open Go.RowKit Sx
set_option linter.unusedVariables false
set_option linter.unusedSimpArgs false
set_option maxRecDepth 100000
set_option maxHeartbeats 8000000
def gI (g : Nat → List SV) (k : Nat) (e : Nat) : Int := match (g e)[k]? with
  | some (.int _ x) => x
  | _ => 0
def gB (g : Nat → List SV) (k : Nat) (e : Nat) : Bool := match (g e)[k]? with
  | some (.bool x) => x
  | _ => false
structure PE (g : Nat → List SV) : Prop where
  out : g = fun e => [.int .i64 (gI g 0 e), .int .i64 (gI g 1 e), .bool (gB g 2 e), .int .i64 (gI g 3 e), .bool (gB g 4 e), .bool (gB g 5 e)]
structure PV (g : Nat → List SV) (n : Nat) : Prop where
  out : mpI n (gI g 0) (gI g 1) (gI g 3)
noncomputable def c_mapped : ECon
  | [.rs 6 v n g], [] => some ([PE g, PV g n, (n : Int) ≤ 4000000000000000000], [⟨none, .tup [.ptr 0 0, .bool true], [some ⟨181, [], 0, some (.own (.mem (mP (gI g 0) (gI g 1) (gB g 2) (gI g 3) (gB g 4) (gB g 5) (min n 60)) (mQ (gI g 0) (gI g 1) (gB g 2) (gI g 3) (gB g 4) (gB g 5) (min n 60)) (mM (gI g 0) (gI g 1) (gB g 2) (gI g 3) (gB g 4) (gB g 5) (min n 60))))⟩]⟩])
  | _, _ => none
theorem c_mapped_e : EEntry Try.prog 14 c_mapped := by
  refine ⟨callFunc_ok Try.func14 (by kernel_rfl) (by kernel_rfl), fun args rows ps alts h hp => ?_⟩
  unfold c_mapped at h
  split at h
  · cases h
    rename_i v n g
    have hg : g = _ := (hp (PE g) (List.mem_of_getElem? (i := 0) rfl)).out
    have hv := (hp (PV g n) (List.mem_of_getElem? (i := 1) rfl)).out
    have key := mapped9X_ok v n (gI g 0) (gI g 1) (gB g 2) (gI g 3) (gB g 4) (gB g 5) (hp _ (List.mem_of_getElem? (i := 2) rfl)) hv
    rw [← hg] at key
    exact key
  · cases h
section
variable (I J : Nat → Int) (S : Nat → Bool) (P : Nat → Int) (X Y : Nat → Bool)
theorem gI_0 : gI (fun e => [.int .i64 (I e), .int .i64 (J e), .bool (S e), .int .i64 (P e), .bool (X e), .bool (Y e)]) 0 = I := rfl
theorem gI_1 : gI (fun e => [.int .i64 (I e), .int .i64 (J e), .bool (S e), .int .i64 (P e), .bool (X e), .bool (Y e)]) 1 = J := rfl
theorem gB_2 : gB (fun e => [.int .i64 (I e), .int .i64 (J e), .bool (S e), .int .i64 (P e), .bool (X e), .bool (Y e)]) 2 = S := rfl
theorem gI_3 : gI (fun e => [.int .i64 (I e), .int .i64 (J e), .bool (S e), .int .i64 (P e), .bool (X e), .bool (Y e)]) 3 = P := rfl
theorem gB_4 : gB (fun e => [.int .i64 (I e), .int .i64 (J e), .bool (S e), .int .i64 (P e), .bool (X e), .bool (Y e)]) 4 = X := rfl
theorem gB_5 : gB (fun e => [.int .i64 (I e), .int .i64 (J e), .bool (S e), .int .i64 (P e), .bool (X e), .bool (Y e)]) 5 = Y := rfl
end
def adT (I J off : Int) : Int := ixT (I % 3) * 4194304 + J % 1024 * 4096 + off % 1024 * 4
theorem ixT_in (t : Int) : 0 ≤ ixT t ∧ ixT t ≤ 255 := by unfold ixT; split <;> (try split) <;> omega
theorem adT_in (I J off : Int) : 0 ≤ adT I J off ∧ adT I J off < 1073741824 := by
  have := ixT_in (I % 3)
  unfold adT
  omega
theorem wr32 {x : Int} (h : 0 ≤ x) (h2 : x < 4294967296) : IntKind.u32.wrap x = x := by
  simp [IntKind.wrap, IntKind.signed, IntKind.bits]; omega
noncomputable def pt_Mle : List (Nat × (List SV → Option (List Prop × SV))) := [(16, c_within), (84, c_index9)]
theorem pt_Mle_ok : PureOK Try.prog (fun f => List.lookup f pt_Mle) := pure_list pt_Mle ⟨c_within_e, c_index9_e, trivial⟩
noncomputable abbrev cx_Mle (must : Nat → Option Bool := fun _ => none) (loop : Nat → SS → Option LoopSpec := fun _ _ => none) (fz : Nat → SS → List Nat := fun _ _ => []) (on : Bool := false) : Ctx := ⟨tab, inl tab (fun f => List.lookup f pt_Mle) fns (fun _ => {}) 1000 4, fun f => List.lookup f pt_Mle, must, loop, 0, 0, fun _ => none, fz, on⟩
theorem cx_Mle_ok (must : Nat → Option Bool) (loop : Nat → SS → Option LoopSpec) (fz : Nat → SS → List Nat) (on : Bool) : CxOK Try.prog (cx_Mle must loop fz on) := inl_ok mixed tab_ok pt_Mle_ok fns_ok 4 _ _ _ _ _ _
theorem address_ok (I J : Int) (S : Bool) (P : Int) (X Y : Bool) (off : Int)  : PureSem Try.prog 19 [.agg [.int .i64 I, .int .i64 J, .bool S, .int .i64 P, .bool X, .bool Y], .int .i64 off] (.int .u32 (adT I J off)) := by
  refine pure_intro mixed (cx_Mle_ok (fun _ => none) (fun _ _ => none) (fun _ _ => []) false) Try.func19 1000 rfl rfl ?_
  refine of_nf (p := (0 : Int) <= (2 : Int) /\ (-1000000 : Int) <= (0 : Int) /\ (2 : Int) <= (1000000 : Int) /\ (0 : Int) <= (0 : Int) + I % 3 /\ (0 : Int) + I % 3 < (3 : Int) /\ (0 : Int) <= (1023 : Int) /\ (-1000000 : Int) <= (0 : Int) /\ (1023 : Int) <= (1000000 : Int) /\ (0 : Int) <= (1023 : Int) /\ (-1000000 : Int) <= (0 : Int) /\ (1023 : Int) <= (1000000 : Int) /\ IntKind.u32.wrap (IntKind.u32.wrap (IntKind.u32.wrap (IntKind.u32.wrap (ixT ((0 : Int) + I % 3)) * 4194304) + IntKind.u32.wrap (IntKind.u32.wrap ((0 : Int) + J % 1024) * 4096)) + IntKind.u32.wrap (IntKind.u32.wrap ((0 : Int) + off % 1024) * 4)) = adT I J off) (by kernel_rfl) ?_
  have := ixT_in (I % 3)
  simp only [Int.zero_add] at *
  unfold adT
  repeat' (first | with_reducible rfl | exact True.intro | apply And.intro | intro _h)
  all_goals first | omega | skip
  rw [wr32 (x := ixT _) (by omega) (by omega), wr32 (x := _ % 1024) (by omega) (by omega), wr32 (x := ixT _ * _) (by omega) (by omega), wr32 (x := _ % 1024) (by omega) (by omega), wr32 (x := J % 1024 * _) (by omega) (by omega), wr32 (x := off % 1024 * _) (by omega) (by omega), wr32 (x := ixT _ * _ + _) (by omega) (by omega), wr32 (by omega) (by omega)]
noncomputable def c_address : List SV → Option (List Prop × SV)
  | [.agg [.int .i64 I, .int .i64 J, .bool S, .int .i64 P, .bool X, .bool Y], .int .i64 off] => some ([], .int .u32 (adT I J off))
  | _ => none
theorem c_address_e : PEntry Try.prog 19 c_address := by
  refine ⟨callFunc_ok Try.func19 (by kernel_rfl) (by kernel_rfl), fun args ps v h hp => ?_⟩
  unfold c_address at h
  split at h
  · cases h; exact address_ok _ _ _ _ _ _ _ 
  · cases h
structure HasL (n : Nat) (V : Nat → Int) (S : Nat → Bool) (F : Nat → Int) (W X : Nat → Bool) (a : Int) (s : Bool) (f : Int) (w x : Bool) : Prop where
  out : ∃ e, e < n ∧ V e = a ∧ S e = s ∧ F e = f ∧ W e = w ∧ X e = x ∧ ∀ k, k < e → V k ≠ a
structure NoL (V : Nat → Int) (a : Int) (k : Nat) : Prop where
  out : ∀ j, j < k → V j ≠ a
theorem listedX_ok (v : Value) (n : Nat) (V : Nat → Int) (S : Nat → Bool) (F : Nat → Int) (W X : Nat → Bool) (a : Int) (s : Bool) (f : Int) (w x : Bool) (h0 : (n : Int) ≤ 4000000000000000000) (h1 : HasL n V S F W X a s f w x) : PureSem Try.prog 23 [.rs 5 v n (fun e => [.int .u32 (V e), .bool (S e), .int .i64 (F e), .bool (W e), .bool (X e)]), .int .u32 a, .agg [.bool s, .int .i64 f, .bool w, .bool x]] (.bool true) := by
  refine pure_intro mixed (cx_Mle_ok (fun _ => none) (fun q s_ => bif Nat.beq q 2 then some ⟨Nat, fun k => s_.upd [] [(7, .int .i64 (k : Int))] [], fun k => k ≤ n ∧ NoL V a k, fun k => n - k⟩ else none) (fun _ _ => []) false) Try.func23 1000 rfl rfl ?_
  refine of_nf (p := ∃ (x_1 : Nat), (((0 : Int) = ((x_1 : Nat) : Int) /\ SV.litb false = SV.litb false /\ SV.ptr (0 : Nat) 0 = SV.ptr (0 : Nat) (0 : Nat) /\ ((SV.rs (5 : Nat) v n fun (e : Nat) => [SV.int IntKind.u32 (V e), SV.bool (S e), SV.int IntKind.i64 (F e), SV.bool (W e), SV.bool (X e)]) = SV.rs (5 : Nat) v n fun (e : Nat) => [SV.int IntKind.u32 (V e), SV.bool (S e), SV.int IntKind.i64 (F e), SV.bool (W e), SV.bool (X e)]) /\ a = a /\ (s = s /\ f = f /\ w = w /\ x = x /\ True) /\ True) /\ (nat_lit 37 + (1 : Nat) = nat_lit 37 + (1 : Nat) /\ (0 : Nat) = (0 : Nat) /\ s = s /\ f = f /\ w = w /\ x = x /\ True) /\ True) /\ (x_1 <= n /\ NoL V a x_1) /\ ∀ (x_2 : Nat), x_2 <= n /\ NoL V a x_2 -> (decide (((x_2 : Nat) : Int) < ((n : Nat) : Int)) = true -> (0 : Int) <= ((x_2 : Nat) : Int) /\ ((x_2 : Nat) : Int) < ((n : Nat) : Int) /\ ((V (((x_2 : Nat) : Int)).toNat == a) = true -> (0 : Int) <= ((x_2 : Nat) : Int) /\ ((x_2 : Nat) : Int) < ((n : Nat) : Int) /\ (S (((x_2 : Nat) : Int)).toNat == s && (F (((x_2 : Nat) : Int)).toNat == f && (W (((x_2 : Nat) : Int)).toNat == w && (X (((x_2 : Nat) : Int)).toNat == x && true)))) = true) /\ ((V (((x_2 : Nat) : Int)).toNat == a) = false -> ((-9223372036854775808 : Int) <= ((x_2 : Nat) : Int) + 1 /\ ((x_2 : Nat) : Int) + 1 < (9223372036854775808 : Int)) /\ ∃ (y : Nat), ((((x_2 : Nat) : Int) + 1 = ((y : Nat) : Int) /\ SV.litb false = SV.litb false /\ SV.ptr (0 : Nat) 0 = SV.ptr (0 : Nat) (0 : Nat) /\ ((SV.rs (5 : Nat) v n fun (e : Nat) => [SV.int IntKind.u32 (V e), SV.bool (S e), SV.int IntKind.i64 (F e), SV.bool (W e), SV.bool (X e)]) = SV.rs (5 : Nat) v n fun (e : Nat) => [SV.int IntKind.u32 (V e), SV.bool (S e), SV.int IntKind.i64 (F e), SV.bool (W e), SV.bool (X e)]) /\ a = a /\ (s = s /\ f = f /\ w = w /\ x = x /\ True) /\ True) /\ (nat_lit 37 + (1 : Nat) = nat_lit 37 + (1 : Nat) /\ (0 : Nat) = (0 : Nat) /\ s = s /\ f = f /\ w = w /\ x = x /\ True) /\ True) /\ (y <= n /\ NoL V a y) /\ n - y < n - x_2)) /\ (decide (((x_2 : Nat) : Int) < ((n : Nat) : Int)) = false -> false = true)) (by kernel_rfl) ?_
  obtain ⟨e, e1, e2, e3, e4, e5, e6, e7⟩ := h1
  simp only [Int.toNat_natCast, Bool.and_true, Bool.and_eq_true, beq_iff_eq, beq_eq_false_iff_ne, ne_eq]
  refine ⟨0, (by repeat' (first | exact True.intro | with_reducible rfl | omega | apply And.intro)), ⟨Nat.zero_le _, ⟨fun j hj => absurd hj (Nat.not_lt_zero _)⟩⟩, fun k hk => ?_⟩
  obtain ⟨hk1, ⟨hk2⟩⟩ := hk
  have hke : k ≤ e := by
    rcases Nat.lt_or_ge e k with h | h
    · exact absurd e2 (hk2 e h)
    · exact h
  refine ⟨fun h => ⟨by omega, of_decide_eq_true h, fun hv => ⟨by omega, of_decide_eq_true h, ?_⟩, fun hv => ⟨by omega, k + 1, ?_, ⟨by omega, ⟨fun j hj => ?_⟩⟩, by omega⟩⟩, fun h => absurd (of_decide_eq_false h) (by omega)⟩
  · have : k = e := by
      rcases Nat.lt_or_ge k e with h | h
      · exact absurd hv (e7 k h)
      · omega
    subst this
    exact ⟨e3, e4, e5, e6⟩
  · exact (by repeat' (first | exact True.intro | with_reducible rfl | omega | apply And.intro))
  · rcases Nat.lt_or_ge j k with h | h
    · exact hk2 j h
    · obtain rfl : j = k := by omega
      exact hv
structure PL (g : Nat → List SV) : Prop where
  out : g = fun e => [.int .u32 (gI g 0 e), .bool (gB g 1 e), .int .i64 (gI g 2 e), .bool (gB g 3 e), .bool (gB g 4 e)]
noncomputable def c_listed : List SV → Option (List Prop × SV)
  | [.rs 5 v n g, .int .u32 a, .agg [.bool s, .int .i64 f, .bool w, .bool x]] => some ([PL g, (n : Int) ≤ 4000000000000000000, HasL n (gI g 0) (gB g 1) (gI g 2) (gB g 3) (gB g 4) a s f w x], .bool true)
  | _ => none
theorem c_listed_e : PEntry Try.prog 23 c_listed := by
  refine ⟨callFunc_ok Try.func23 (by kernel_rfl) (by kernel_rfl), fun args ps v h hp => ?_⟩
  unfold c_listed at h
  split at h
  · cases h
    rename_i v n g a s f w x
    have hg : g = _ := (hp (PL g) (List.mem_of_getElem? (i := 0) rfl)).out
    have key := listedX_ok v n (gI g 0) (gB g 1) (gI g 2) (gB g 3) (gB g 4) a s f w x (hp _ (List.mem_of_getElem? (i := 1) rfl)) (hp _ (List.mem_of_getElem? (i := 2) rfl))
    rw [← hg] at key
    exact key
  · cases h
structure AlO (ps qs : List (List Int)) (va : Int) (s : Bool) (f : Int) (w x : Bool) (off : Int) : Prop where
  out : wkE ps qs 0 va = 0 ∧ wkS ps qs 0 va = s ∧ wkF ps qs 0 va = f ∧ wkW ps qs 0 va = w ∧ wkX ps qs 0 va = x ∧ (splitS va).2.2.1 = off % 1024
theorem AlO.tr {ps qs : List (List Int)} {va : Int} {s : Bool} {f : Int} {w x : Bool} {off : Int} (h : AlO ps qs va s f w x off) :
    (trE ps qs 0 va 0 = 0 ∧ trS ps qs 0 va 0 = s ∧ trF ps qs 0 va 0 = f ∧ trO ps qs 0 va 0 = off % 1024) ∧
    (trE ps qs 0 va 1 = (if w = true then 0 else 93) ∧ (w = true → trS ps qs 0 va 1 = s ∧ trF ps qs 0 va 1 = f ∧ trO ps qs 0 va 1 = off % 1024)) ∧
    (trE ps qs 0 va 2 = (if x = true then 0 else 93) ∧ (x = true → trS ps qs 0 va 2 = s ∧ trF ps qs 0 va 2 = f ∧ trO ps qs 0 va 2 = off % 1024)) := by
  obtain ⟨a1, a2, a3, a4, a5, a6⟩ := h
  cases w <;> cases x <;> simp [trE, trS, trF, trO, deny, a1, a2, a3, a4, a5, a6]
theorem wkL_in9 (ps qs : List (List Int)) (l va : Int) : 0 ≤ wkL ps qs l va ∧ wkL ps qs l va ≤ 2 := by
  have h1 := tbL_in ps qs l (splitS va).1
  have h2 := tbL_in ps qs (tbP ps qs l (splitS va).1) (splitS va).2.1
  unfold wkL; split
  · split <;> omega
  · omega
noncomputable def pt_Mlf : List (Nat × (List SV → Option (List Prop × SV))) := [(16, c_within)]
theorem pt_Mlf_ok : PureOK Try.prog (fun f => List.lookup f pt_Mlf) := pure_list pt_Mlf ⟨c_within_e, trivial⟩
noncomputable def et_Mlf : List (Nat × ECon) := [(27, c_Translate)]
theorem et_Mlf_ok : ConOK Try.prog (fun f => List.lookup f et_Mlf) := con_list et_Mlf ⟨c_Translate_e, trivial⟩
noncomputable abbrev cx_Mlf (must : Nat → Option Bool := fun _ => none) (loop : Nat → SS → Option LoopSpec := fun _ _ => none) (fz : Nat → SS → List Nat := fun _ _ => []) (on : Bool := false) : Ctx := ⟨tab, inlG tab (fun f => List.lookup f pt_Mlf) (fun f => List.lookup f et_Mlf) fns (fun _ => {}) 1000 4, fun f => List.lookup f pt_Mlf, must, loop, 0, 0, fun f => List.lookup f et_Mlf, fz, on⟩
theorem cx_Mlf_ok (must : Nat → Option Bool) (loop : Nat → SS → Option LoopSpec) (fz : Nat → SS → List Nat) (on : Bool) : CxOK Try.prog (cx_Mlf must loop fz on) := inlG_ok mixed tab_ok pt_Mlf_ok et_Mlf_ok fns_ok 4 _ _ _ _ _ _
theorem allowed9_ok (m : Int) (ps qs : List (List Int)) (va : Int) (s : Bool) (f : Int) (w x : Bool) (off : Int) (h0 : 0 ≤ m) (h1 : m ≤ 4611686018427387000) (h2 : wfP ps) (h3 : wfP qs) (h4 : InK .u32 va) (h5 : AlO ps qs va s f w x off) : SemCall Try.prog 22 [.ptr 0 0, .int .u32 va, .agg [.bool s, .int .i64 f, .bool w, .bool x], .int .i64 off] [some ⟨181, [], 0, some (.own (.mem ps qs m))⟩] (AltK [⟨none, .bool true, [some ⟨181, [], 0, some (.own (.mem ps qs (m + wkL ps qs 0 va + wkL ps qs 0 va + wkL ps qs 0 va)))⟩]⟩]) := by
  refine con_intro mixed (cx_Mlf_ok (fun _ => none) (fun _ _ => none) (fun _ _ => []) false) Try.func22 1000 ?_
  refine of_nf (p := letI k0_ := (OT.mem ps qs (m + wkL ps qs (0 : Int) va + wkL ps qs (0 : Int) va + wkL ps qs (0 : Int) va)); letI k1_ := ((-9223372036854775808 : Int) <= (0 : Int) /\ (0 : Int) < (9223372036854775808 : Int)); letI k2_ := (0 <= va /\ va < 4294967296); (0 : Int) <= m /\ m <= 4611686018427387900 /\ wfP ps /\ wfP qs /\ k1_ /\ k2_ /\ ∀ (c : Bool), c = trS ps qs (0 : Int) va (0 : Int) -> ∀ (m_1 : Int), m_1 = trF ps qs (0 : Int) va (0 : Int) -> ∀ (m_2 : Int), m_2 = trO ps qs (0 : Int) va (0 : Int) -> ∀ (m_3 : Int), m_3 = trE ps qs (0 : Int) va (0 : Int) -> ∀ (ps' : List (List Int)), ps' = ps -> ∀ (qs' : List (List Int)), qs' = qs -> ∀ (m' : Int), m' = m + wkL ps qs (0 : Int) va -> ∀ (c_1 : Bool), c_1 = s -> ∀ (m_4 : Int), m_4 = f -> ∀ (c_2 : Bool), c_2 = w -> ∀ (c_3 : Bool), c_3 = x -> ((m_3 != 0) = true -> (false = true /\ True) /\ (Ob.own (OT.mem ps' qs' m') = Ob.own k0_ /\ nat_lit 180 + (1 : Nat) = (181 : TypeId) /\ (0 : Nat) = (0 : Nat) /\ True) /\ True) /\ ((m_3 != 0) = false -> ((!(c == c_1 && (m_1 == m_4 && true))) = true -> (false = true /\ True) /\ (Ob.own (OT.mem ps' qs' m') = Ob.own k0_ /\ nat_lit 180 + (1 : Nat) = (181 : TypeId) /\ (0 : Nat) = (0 : Nat) /\ True) /\ True) /\ ((!(c == c_1 && (m_1 == m_4 && true))) = false -> (0 : Int) <= (1023 : Int) /\ (-1000000 : Int) <= (0 : Int) /\ (1023 : Int) <= (1000000 : Int) /\ ((m_2 != 0 + off % 1024) = true -> (false = true /\ True) /\ (Ob.own (OT.mem ps' qs' m') = Ob.own k0_ /\ nat_lit 180 + (1 : Nat) = (181 : TypeId) /\ (0 : Nat) = (0 : Nat) /\ True) /\ True) /\ ((m_2 != 0 + off % 1024) = false -> 0 <= m' /\ m' <= 4611686018427387900 /\ wfP ps' /\ wfP qs' /\ k1_ /\ k2_ /\ ∀ (c_4 : Bool), c_4 = trS ps' qs' (0 : Int) va (1 : Int) -> ∀ (m_5 : Int), m_5 = trF ps' qs' (0 : Int) va (1 : Int) -> ∀ (m_6 : Int), m_6 = trO ps' qs' (0 : Int) va (1 : Int) -> ∀ (m_7 : Int), m_7 = trE ps' qs' (0 : Int) va (1 : Int) -> ∀ (ps'_1 : List (List Int)), ps'_1 = ps' -> ∀ (qs'_1 : List (List Int)), qs'_1 = qs' -> ∀ (m'_1 : Int), m'_1 = m' + wkL ps' qs' (0 : Int) va -> ∀ (c_5 : Bool), c_5 = c_1 -> ∀ (m_8 : Int), m_8 = m_4 -> ∀ (c_6 : Bool), c_6 = c_2 -> ∀ (c_7 : Bool), c_7 = c_3 -> ∀ (c_8 : Bool), c_8 = c -> ∀ (m_9 : Int), m_9 = m_1 -> (c_6 = true -> ((m_7 != 0) = true -> (false = true /\ True) /\ (Ob.own (OT.mem ps'_1 qs'_1 m'_1) = Ob.own k0_ /\ nat_lit 180 + (1 : Nat) = (181 : TypeId) /\ (0 : Nat) = (0 : Nat) /\ True) /\ True) /\ ((m_7 != 0) = false -> ((!(c_4 == c_5 && (m_5 == m_8 && true))) = true -> (false = true /\ True) /\ (Ob.own (OT.mem ps'_1 qs'_1 m'_1) = Ob.own k0_ /\ nat_lit 180 + (1 : Nat) = (181 : TypeId) /\ (0 : Nat) = (0 : Nat) /\ True) /\ True) /\ ((!(c_4 == c_5 && (m_5 == m_8 && true))) = false -> ((m_6 != m_2) = true -> (false = true /\ True) /\ (Ob.own (OT.mem ps'_1 qs'_1 m'_1) = Ob.own k0_ /\ nat_lit 180 + (1 : Nat) = (181 : TypeId) /\ (0 : Nat) = (0 : Nat) /\ True) /\ True) /\ ((m_6 != m_2) = false -> ((!c_6) = true -> ((m_7 != 93) = true -> (false = true /\ True) /\ (Ob.own (OT.mem ps'_1 qs'_1 m'_1) = Ob.own k0_ /\ nat_lit 180 + (1 : Nat) = (181 : TypeId) /\ (0 : Nat) = (0 : Nat) /\ True) /\ True) /\ ((m_7 != 93) = false -> 0 <= m'_1 /\ m'_1 <= 4611686018427387900 /\ wfP ps'_1 /\ wfP qs'_1 /\ k1_ /\ k2_ /\ ∀ (c : Bool), c = trS ps'_1 qs'_1 (0 : Int) va (2 : Int) -> ∀ (m_10 : Int), m_10 = trF ps'_1 qs'_1 (0 : Int) va (2 : Int) -> ∀ (m_11 : Int), m_11 = trO ps'_1 qs'_1 (0 : Int) va (2 : Int) -> ∀ (m_12 : Int), m_12 = trE ps'_1 qs'_1 (0 : Int) va (2 : Int) -> ∀ (ps' : List (List Int)), ps' = ps'_1 -> ∀ (qs' : List (List Int)), qs' = qs'_1 -> ∀ (m' : Int), m' = m'_1 + wkL ps'_1 qs'_1 (0 : Int) va -> ∀ (c_9 : Bool), c_9 = c_5 -> ∀ (m_13 : Int), m_13 = m_8 -> ∀ (c_10 : Bool), c_10 = c_6 -> ∀ (c_11 : Bool), c_11 = c_7 -> ∀ (c_12 : Bool), c_12 = c_8 -> ∀ (m_14 : Int), m_14 = m_9 -> ∀ (c_13 : Bool), c_13 = c_4 -> ∀ (m_15 : Int), m_15 = m_5 -> (c_11 = true -> ((m_12 == 0) = true -> ((c == c_9 && (m_10 == m_13 && true)) = true -> ((m_11 == m_2) = true -> (true = true /\ True) /\ (Ob.own (OT.mem ps' qs' m') = Ob.own k0_ /\ nat_lit 180 + (1 : Nat) = (181 : TypeId) /\ (0 : Nat) = (0 : Nat) /\ True) /\ True) /\ ((m_11 == m_2) = false -> ((!c_11) = true -> ((m_12 == 93) = true /\ True) /\ (Ob.own (OT.mem ps' qs' m') = Ob.own k0_ /\ nat_lit 180 + (1 : Nat) = (181 : TypeId) /\ (0 : Nat) = (0 : Nat) /\ True) /\ True) /\ ((!c_11) = false -> (false = true /\ True) /\ (Ob.own (OT.mem ps' qs' m') = Ob.own k0_ /\ nat_lit 180 + (1 : Nat) = (181 : TypeId) /\ (0 : Nat) = (0 : Nat) /\ True) /\ True))) /\ ((c == c_9 && (m_10 == m_13 && true)) = false -> ((!c_11) = true -> ((m_12 == 93) = true /\ True) /\ (Ob.own (OT.mem ps' qs' m') = Ob.own k0_ /\ nat_lit 180 + (1 : Nat) = (181 : TypeId) /\ (0 : Nat) = (0 : Nat) /\ True) /\ True) /\ ((!c_11) = false -> (false = true /\ True) /\ (Ob.own (OT.mem ps' qs' m') = Ob.own k0_ /\ nat_lit 180 + (1 : Nat) = (181 : TypeId) /\ (0 : Nat) = (0 : Nat) /\ True) /\ True))) /\ ((m_12 == 0) = false -> ((!c_11) = true -> ((m_12 == 93) = true /\ True) /\ (Ob.own (OT.mem ps' qs' m') = Ob.own k0_ /\ nat_lit 180 + (1 : Nat) = (181 : TypeId) /\ (0 : Nat) = (0 : Nat) /\ True) /\ True) /\ ((!c_11) = false -> (false = true /\ True) /\ (Ob.own (OT.mem ps' qs' m') = Ob.own k0_ /\ nat_lit 180 + (1 : Nat) = (181 : TypeId) /\ (0 : Nat) = (0 : Nat) /\ True) /\ True))) /\ (c_11 = false -> ((!c_11) = true -> ((m_12 == 93) = true /\ True) /\ (Ob.own (OT.mem ps' qs' m') = Ob.own k0_ /\ nat_lit 180 + (1 : Nat) = (181 : TypeId) /\ (0 : Nat) = (0 : Nat) /\ True) /\ True) /\ ((!c_11) = false -> (false = true /\ True) /\ (Ob.own (OT.mem ps' qs' m') = Ob.own k0_ /\ nat_lit 180 + (1 : Nat) = (181 : TypeId) /\ (0 : Nat) = (0 : Nat) /\ True) /\ True)))) /\ ((!c_6) = false -> 0 <= m'_1 /\ m'_1 <= 4611686018427387900 /\ wfP ps'_1 /\ wfP qs'_1 /\ k1_ /\ k2_ /\ ∀ (c : Bool), c = trS ps'_1 qs'_1 (0 : Int) va (2 : Int) -> ∀ (m_10 : Int), m_10 = trF ps'_1 qs'_1 (0 : Int) va (2 : Int) -> ∀ (m_11 : Int), m_11 = trO ps'_1 qs'_1 (0 : Int) va (2 : Int) -> ∀ (m_12 : Int), m_12 = trE ps'_1 qs'_1 (0 : Int) va (2 : Int) -> ∀ (ps' : List (List Int)), ps' = ps'_1 -> ∀ (qs' : List (List Int)), qs' = qs'_1 -> ∀ (m' : Int), m' = m'_1 + wkL ps'_1 qs'_1 (0 : Int) va -> ∀ (c_9 : Bool), c_9 = c_5 -> ∀ (m_13 : Int), m_13 = m_8 -> ∀ (c_10 : Bool), c_10 = c_6 -> ∀ (c_11 : Bool), c_11 = c_7 -> ∀ (c_12 : Bool), c_12 = c_8 -> ∀ (m_14 : Int), m_14 = m_9 -> ∀ (c_13 : Bool), c_13 = c_4 -> ∀ (m_15 : Int), m_15 = m_5 -> (c_11 = true -> ((m_12 == 0) = true -> ((c == c_9 && (m_10 == m_13 && true)) = true -> ((m_11 == m_2) = true -> (true = true /\ True) /\ (Ob.own (OT.mem ps' qs' m') = Ob.own k0_ /\ nat_lit 180 + (1 : Nat) = (181 : TypeId) /\ (0 : Nat) = (0 : Nat) /\ True) /\ True) /\ ((m_11 == m_2) = false -> ((!c_11) = true -> ((m_12 == 93) = true /\ True) /\ (Ob.own (OT.mem ps' qs' m') = Ob.own k0_ /\ nat_lit 180 + (1 : Nat) = (181 : TypeId) /\ (0 : Nat) = (0 : Nat) /\ True) /\ True) /\ ((!c_11) = false -> (false = true /\ True) /\ (Ob.own (OT.mem ps' qs' m') = Ob.own k0_ /\ nat_lit 180 + (1 : Nat) = (181 : TypeId) /\ (0 : Nat) = (0 : Nat) /\ True) /\ True))) /\ ((c == c_9 && (m_10 == m_13 && true)) = false -> ((!c_11) = true -> ((m_12 == 93) = true /\ True) /\ (Ob.own (OT.mem ps' qs' m') = Ob.own k0_ /\ nat_lit 180 + (1 : Nat) = (181 : TypeId) /\ (0 : Nat) = (0 : Nat) /\ True) /\ True) /\ ((!c_11) = false -> (false = true /\ True) /\ (Ob.own (OT.mem ps' qs' m') = Ob.own k0_ /\ nat_lit 180 + (1 : Nat) = (181 : TypeId) /\ (0 : Nat) = (0 : Nat) /\ True) /\ True))) /\ ((m_12 == 0) = false -> ((!c_11) = true -> ((m_12 == 93) = true /\ True) /\ (Ob.own (OT.mem ps' qs' m') = Ob.own k0_ /\ nat_lit 180 + (1 : Nat) = (181 : TypeId) /\ (0 : Nat) = (0 : Nat) /\ True) /\ True) /\ ((!c_11) = false -> (false = true /\ True) /\ (Ob.own (OT.mem ps' qs' m') = Ob.own k0_ /\ nat_lit 180 + (1 : Nat) = (181 : TypeId) /\ (0 : Nat) = (0 : Nat) /\ True) /\ True))) /\ (c_11 = false -> ((!c_11) = true -> ((m_12 == 93) = true /\ True) /\ (Ob.own (OT.mem ps' qs' m') = Ob.own k0_ /\ nat_lit 180 + (1 : Nat) = (181 : TypeId) /\ (0 : Nat) = (0 : Nat) /\ True) /\ True) /\ ((!c_11) = false -> (false = true /\ True) /\ (Ob.own (OT.mem ps' qs' m') = Ob.own k0_ /\ nat_lit 180 + (1 : Nat) = (181 : TypeId) /\ (0 : Nat) = (0 : Nat) /\ True) /\ True))))))) /\ (c_6 = false -> ((!c_6) = true -> ((m_7 != 93) = true -> (false = true /\ True) /\ (Ob.own (OT.mem ps'_1 qs'_1 m'_1) = Ob.own k0_ /\ nat_lit 180 + (1 : Nat) = (181 : TypeId) /\ (0 : Nat) = (0 : Nat) /\ True) /\ True) /\ ((m_7 != 93) = false -> 0 <= m'_1 /\ m'_1 <= 4611686018427387900 /\ wfP ps'_1 /\ wfP qs'_1 /\ k1_ /\ k2_ /\ ∀ (c : Bool), c = trS ps'_1 qs'_1 (0 : Int) va (2 : Int) -> ∀ (m_10 : Int), m_10 = trF ps'_1 qs'_1 (0 : Int) va (2 : Int) -> ∀ (m_11 : Int), m_11 = trO ps'_1 qs'_1 (0 : Int) va (2 : Int) -> ∀ (m_12 : Int), m_12 = trE ps'_1 qs'_1 (0 : Int) va (2 : Int) -> ∀ (ps' : List (List Int)), ps' = ps'_1 -> ∀ (qs' : List (List Int)), qs' = qs'_1 -> ∀ (m' : Int), m' = m'_1 + wkL ps'_1 qs'_1 (0 : Int) va -> ∀ (c_9 : Bool), c_9 = c_5 -> ∀ (m_13 : Int), m_13 = m_8 -> ∀ (c_10 : Bool), c_10 = c_6 -> ∀ (c_11 : Bool), c_11 = c_7 -> ∀ (c_12 : Bool), c_12 = c_8 -> ∀ (m_14 : Int), m_14 = m_9 -> ∀ (c_13 : Bool), c_13 = c_4 -> ∀ (m_15 : Int), m_15 = m_5 -> (c_11 = true -> ((m_12 == 0) = true -> ((c == c_9 && (m_10 == m_13 && true)) = true -> ((m_11 == m_2) = true -> (true = true /\ True) /\ (Ob.own (OT.mem ps' qs' m') = Ob.own k0_ /\ nat_lit 180 + (1 : Nat) = (181 : TypeId) /\ (0 : Nat) = (0 : Nat) /\ True) /\ True) /\ ((m_11 == m_2) = false -> ((!c_11) = true -> ((m_12 == 93) = true /\ True) /\ (Ob.own (OT.mem ps' qs' m') = Ob.own k0_ /\ nat_lit 180 + (1 : Nat) = (181 : TypeId) /\ (0 : Nat) = (0 : Nat) /\ True) /\ True) /\ ((!c_11) = false -> (false = true /\ True) /\ (Ob.own (OT.mem ps' qs' m') = Ob.own k0_ /\ nat_lit 180 + (1 : Nat) = (181 : TypeId) /\ (0 : Nat) = (0 : Nat) /\ True) /\ True))) /\ ((c == c_9 && (m_10 == m_13 && true)) = false -> ((!c_11) = true -> ((m_12 == 93) = true /\ True) /\ (Ob.own (OT.mem ps' qs' m') = Ob.own k0_ /\ nat_lit 180 + (1 : Nat) = (181 : TypeId) /\ (0 : Nat) = (0 : Nat) /\ True) /\ True) /\ ((!c_11) = false -> (false = true /\ True) /\ (Ob.own (OT.mem ps' qs' m') = Ob.own k0_ /\ nat_lit 180 + (1 : Nat) = (181 : TypeId) /\ (0 : Nat) = (0 : Nat) /\ True) /\ True))) /\ ((m_12 == 0) = false -> ((!c_11) = true -> ((m_12 == 93) = true /\ True) /\ (Ob.own (OT.mem ps' qs' m') = Ob.own k0_ /\ nat_lit 180 + (1 : Nat) = (181 : TypeId) /\ (0 : Nat) = (0 : Nat) /\ True) /\ True) /\ ((!c_11) = false -> (false = true /\ True) /\ (Ob.own (OT.mem ps' qs' m') = Ob.own k0_ /\ nat_lit 180 + (1 : Nat) = (181 : TypeId) /\ (0 : Nat) = (0 : Nat) /\ True) /\ True))) /\ (c_11 = false -> ((!c_11) = true -> ((m_12 == 93) = true /\ True) /\ (Ob.own (OT.mem ps' qs' m') = Ob.own k0_ /\ nat_lit 180 + (1 : Nat) = (181 : TypeId) /\ (0 : Nat) = (0 : Nat) /\ True) /\ True) /\ ((!c_11) = false -> (false = true /\ True) /\ (Ob.own (OT.mem ps' qs' m') = Ob.own k0_ /\ nat_lit 180 + (1 : Nat) = (181 : TypeId) /\ (0 : Nat) = (0 : Nat) /\ True) /\ True)))) /\ ((!c_6) = false -> 0 <= m'_1 /\ m'_1 <= 4611686018427387900 /\ wfP ps'_1 /\ wfP qs'_1 /\ k1_ /\ k2_ /\ ∀ (c : Bool), c = trS ps'_1 qs'_1 (0 : Int) va (2 : Int) -> ∀ (m_10 : Int), m_10 = trF ps'_1 qs'_1 (0 : Int) va (2 : Int) -> ∀ (m_11 : Int), m_11 = trO ps'_1 qs'_1 (0 : Int) va (2 : Int) -> ∀ (m_12 : Int), m_12 = trE ps'_1 qs'_1 (0 : Int) va (2 : Int) -> ∀ (ps' : List (List Int)), ps' = ps'_1 -> ∀ (qs' : List (List Int)), qs' = qs'_1 -> ∀ (m' : Int), m' = m'_1 + wkL ps'_1 qs'_1 (0 : Int) va -> ∀ (c_9 : Bool), c_9 = c_5 -> ∀ (m_13 : Int), m_13 = m_8 -> ∀ (c_10 : Bool), c_10 = c_6 -> ∀ (c_11 : Bool), c_11 = c_7 -> ∀ (c_12 : Bool), c_12 = c_8 -> ∀ (m_14 : Int), m_14 = m_9 -> ∀ (c_13 : Bool), c_13 = c_4 -> ∀ (m_15 : Int), m_15 = m_5 -> (c_11 = true -> ((m_12 == 0) = true -> ((c == c_9 && (m_10 == m_13 && true)) = true -> ((m_11 == m_2) = true -> (true = true /\ True) /\ (Ob.own (OT.mem ps' qs' m') = Ob.own k0_ /\ nat_lit 180 + (1 : Nat) = (181 : TypeId) /\ (0 : Nat) = (0 : Nat) /\ True) /\ True) /\ ((m_11 == m_2) = false -> ((!c_11) = true -> ((m_12 == 93) = true /\ True) /\ (Ob.own (OT.mem ps' qs' m') = Ob.own k0_ /\ nat_lit 180 + (1 : Nat) = (181 : TypeId) /\ (0 : Nat) = (0 : Nat) /\ True) /\ True) /\ ((!c_11) = false -> (false = true /\ True) /\ (Ob.own (OT.mem ps' qs' m') = Ob.own k0_ /\ nat_lit 180 + (1 : Nat) = (181 : TypeId) /\ (0 : Nat) = (0 : Nat) /\ True) /\ True))) /\ ((c == c_9 && (m_10 == m_13 && true)) = false -> ((!c_11) = true -> ((m_12 == 93) = true /\ True) /\ (Ob.own (OT.mem ps' qs' m') = Ob.own k0_ /\ nat_lit 180 + (1 : Nat) = (181 : TypeId) /\ (0 : Nat) = (0 : Nat) /\ True) /\ True) /\ ((!c_11) = false -> (false = true /\ True) /\ (Ob.own (OT.mem ps' qs' m') = Ob.own k0_ /\ nat_lit 180 + (1 : Nat) = (181 : TypeId) /\ (0 : Nat) = (0 : Nat) /\ True) /\ True))) /\ ((m_12 == 0) = false -> ((!c_11) = true -> ((m_12 == 93) = true /\ True) /\ (Ob.own (OT.mem ps' qs' m') = Ob.own k0_ /\ nat_lit 180 + (1 : Nat) = (181 : TypeId) /\ (0 : Nat) = (0 : Nat) /\ True) /\ True) /\ ((!c_11) = false -> (false = true /\ True) /\ (Ob.own (OT.mem ps' qs' m') = Ob.own k0_ /\ nat_lit 180 + (1 : Nat) = (181 : TypeId) /\ (0 : Nat) = (0 : Nat) /\ True) /\ True))) /\ (c_11 = false -> ((!c_11) = true -> ((m_12 == 93) = true /\ True) /\ (Ob.own (OT.mem ps' qs' m') = Ob.own k0_ /\ nat_lit 180 + (1 : Nat) = (181 : TypeId) /\ (0 : Nat) = (0 : Nat) /\ True) /\ True) /\ ((!c_11) = false -> (false = true /\ True) /\ (Ob.own (OT.mem ps' qs' m') = Ob.own k0_ /\ nat_lit 180 + (1 : Nat) = (181 : TypeId) /\ (0 : Nat) = (0 : Nat) /\ True) /\ True)))))))) (by kernel_rfl) ?_
  obtain ⟨⟨t1, t2, t3, t4⟩, ⟨t5, t6⟩, t7, t8⟩ := h5.tr
  have hL := wkL_in9 ps qs 0 va
  simp only [InK] at h4
  simp only [↓forall_eq, t1, t2, t3, t4, t5, t7]
  clear h5
  cases w <;> cases x <;> simp only [if_true, Bool.false_eq_true, if_false, true_implies, false_implies, forall_const] at t6 t8
  · simp [h2, h3]
    omega
  · simp [h2, h3, t8]
    omega
  · simp [h2, h3, t6]
    omega
  · simp [h2, h3, t6, t8]
    omega
noncomputable def c_allowed9 : ECon
  | [.ptr 0 0, .int .u32 va, .agg [.bool s, .int .i64 f, .bool w, .bool x], .int .i64 off], [some ⟨181, [], 0, some (.own (.mem ps qs m))⟩] => some ([0 ≤ m, m ≤ 4611686018427387000, wfP ps, wfP qs, InK .u32 va, AlO ps qs va s f w x off], [⟨none, .bool true, [some ⟨181, [], 0, some (.own (.mem ps qs (m + wkL ps qs 0 va + wkL ps qs 0 va + wkL ps qs 0 va)))⟩]⟩])
  | _, _ => none
theorem c_allowed9_e : EEntry Try.prog 22 c_allowed9 := by
  refine ⟨callFunc_ok Try.func22 (by kernel_rfl) (by kernel_rfl), fun args rows ps alts h hp => ?_⟩
  unfold c_allowed9 at h
  split at h
  · cases h; exact allowed9_ok _ _ _ _ _ _ _ _ _ (hp _ (List.mem_of_getElem? (i := 0) rfl)) (hp _ (List.mem_of_getElem? (i := 1) rfl)) (hp _ (List.mem_of_getElem? (i := 2) rfl)) (hp _ (List.mem_of_getElem? (i := 3) rfl)) (hp _ (List.mem_of_getElem? (i := 4) rfl)) (hp _ (List.mem_of_getElem? (i := 5) rfl))
  · cases h
end Go.Proofs.Ytlndkfcnfhkbkaa
