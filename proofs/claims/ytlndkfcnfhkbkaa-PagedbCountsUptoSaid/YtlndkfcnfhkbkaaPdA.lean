/- The database of pages: its entries. No condition beyond sizes. -/
import Derived.Test.YtlndkfcnfhkbkaaMemO
import Derived.Test.YtlndkfcnfhkbkaaEnA
namespace Go.Proofs.Ytlndkfcnfhkbkaa
open Go.RowKit Sx
set_option linter.unusedVariables false
set_option linter.unusedSimpArgs false
set_option maxRecDepth 100000
set_option maxHeartbeats 8000000
structure wfD (len L : Nat) (b : Int) (ps qs : List (List Int)) (m : Int) (ws : List Int) : Prop where
  l1 : len = 2 * ps.length
  l2 : L = 2 * ps.length
  l3 : ws.length = 2 * ps.length
  n1 : 1 ≤ ps.length
  n2 : ps.length ≤ 64
  q1 : 1 ≤ qs.length
  q2 : qs.length ≤ 64
  w1 : ∀ x ∈ ws, InK .u32 x
  b0 : 0 ≤ b
  b1 : b ≤ 64
  p1 : ∀ p ∈ ps, p.length = 1024
  p2 : ∀ p ∈ qs, p.length = 1024
  m0 : 0 ≤ m
  m1 : m ≤ 4000000000000000000
def hs (ps : List (List Int)) (p : Int) : Bool := decide (0 ≤ p) && decide (p < (ps.length : Int))
theorem hs_t {ps : List (List Int)} {p : Int} (h : hs ps p = true) : 0 ≤ p ∧ p < ps.length := by unfold hs at h; simpa using h
theorem dT_ex : ∃ F0 : Int → Int → Int, ∀ w v, F0 w v = zB (okD w v) (w % 8) := ⟨_, fun _ _ => rfl⟩
noncomputable def dT : Int → Int → Int := Classical.choose dT_ex
theorem dT_eq (w : Int) (v : Int) : dT w v = zB (okD w v) (w % 8) := Classical.choose_spec dT_ex w v
theorem dO_ex : ∃ F0 : Int → Int → Int, ∀ w v, F0 w v = zB (okD w v) (w / 65536 % 64) := ⟨_, fun _ _ => rfl⟩
noncomputable def dO : Int → Int → Int := Classical.choose dO_ex
theorem dO_eq (w : Int) (v : Int) : dO w v = zB (okD w v) (w / 65536 % 64) := Classical.choose_spec dO_ex w v
theorem dR_ex : ∃ F0 : Int → Int → Int, ∀ w v, F0 w v = zB (okD w v) (v % 64) := ⟨_, fun _ _ => rfl⟩
noncomputable def dR : Int → Int → Int := Classical.choose dR_ex
theorem dR_eq (w : Int) (v : Int) : dR w v = zB (okD w v) (v % 64) := Classical.choose_spec dR_ex w v
theorem dS_ex : ∃ F0 : Int → Int → Int, ∀ w v, F0 w v = zB (okD w v) (w / 16 % 4) := ⟨_, fun _ _ => rfl⟩
noncomputable def dS : Int → Int → Int := Classical.choose dS_ex
theorem dS_eq (w : Int) (v : Int) : dS w v = zB (okD w v) (w / 16 % 4) := Classical.choose_spec dS_ex w v
theorem dE_ex : ∃ F0 : Int → Int → Int, ∀ w v, F0 w v = if okD w v then 0 else 110 := ⟨_, fun _ _ => rfl⟩
noncomputable def dE : Int → Int → Int := Classical.choose dE_ex
theorem dE_eq (w : Int) (v : Int) : dE w v = if okD w v then 0 else 110 := Classical.choose_spec dE_ex w v
theorem dN_ex : ∃ F0 : Int → Int → Bool, ∀ w v, F0 w v = (okD w v && w / 256 % 2 == 1) := ⟨_, fun _ _ => rfl⟩
noncomputable def dN : Int → Int → Bool := Classical.choose dN_ex
theorem dN_eq (w : Int) (v : Int) : dN w v = (okD w v && w / 256 % 2 == 1) := Classical.choose_spec dN_ex w v
theorem nW_ex : ∃ F0 : Int → Int → Int → Int → Bool → Int, ∀ t o r s n, F0 t o r s n = zB (goodB t o r s n) (wordE t o s n) := ⟨_, fun _ _ _ _ _ => rfl⟩
noncomputable def nW : Int → Int → Int → Int → Bool → Int := Classical.choose nW_ex
theorem nW_eq (t : Int) (o : Int) (r : Int) (s : Int) (n : Bool) : nW t o r s n = zB (goodB t o r s n) (wordE t o s n) := Classical.choose_spec nW_ex t o r s n
theorem nR_ex : ∃ F0 : Int → Int → Int → Int → Bool → Int, ∀ t o r s n, F0 t o r s n = zB (goodB t o r s n) r := ⟨_, fun _ _ _ _ _ => rfl⟩
noncomputable def nR : Int → Int → Int → Int → Bool → Int := Classical.choose nR_ex
theorem nR_eq (t : Int) (o : Int) (r : Int) (s : Int) (n : Bool) : nR t o r s n = zB (goodB t o r s n) r := Classical.choose_spec nR_ex t o r s n
theorem gT_ex : ∃ F0 : (List Int) → Int → Int, ∀ ws p, F0 ws p = dT (ws.getD (2 * p).toNat 0) (ws.getD (2 * p + 1).toNat 0) := ⟨_, fun _ _ => rfl⟩
noncomputable def gT : (List Int) → Int → Int := Classical.choose gT_ex
theorem gT_eq (ws : List Int) (p : Int) : gT ws p = dT (ws.getD (2 * p).toNat 0) (ws.getD (2 * p + 1).toNat 0) := Classical.choose_spec gT_ex ws p
theorem gO_ex : ∃ F0 : (List Int) → Int → Int, ∀ ws p, F0 ws p = dO (ws.getD (2 * p).toNat 0) (ws.getD (2 * p + 1).toNat 0) := ⟨_, fun _ _ => rfl⟩
noncomputable def gO : (List Int) → Int → Int := Classical.choose gO_ex
theorem gO_eq (ws : List Int) (p : Int) : gO ws p = dO (ws.getD (2 * p).toNat 0) (ws.getD (2 * p + 1).toNat 0) := Classical.choose_spec gO_ex ws p
theorem gR_ex : ∃ F0 : (List Int) → Int → Int, ∀ ws p, F0 ws p = dR (ws.getD (2 * p).toNat 0) (ws.getD (2 * p + 1).toNat 0) := ⟨_, fun _ _ => rfl⟩
noncomputable def gR : (List Int) → Int → Int := Classical.choose gR_ex
theorem gR_eq (ws : List Int) (p : Int) : gR ws p = dR (ws.getD (2 * p).toNat 0) (ws.getD (2 * p + 1).toNat 0) := Classical.choose_spec gR_ex ws p
theorem gS_ex : ∃ F0 : (List Int) → Int → Int, ∀ ws p, F0 ws p = dS (ws.getD (2 * p).toNat 0) (ws.getD (2 * p + 1).toNat 0) := ⟨_, fun _ _ => rfl⟩
noncomputable def gS : (List Int) → Int → Int := Classical.choose gS_ex
theorem gS_eq (ws : List Int) (p : Int) : gS ws p = dS (ws.getD (2 * p).toNat 0) (ws.getD (2 * p + 1).toNat 0) := Classical.choose_spec gS_ex ws p
theorem gN_ex : ∃ F0 : (List Int) → Int → Bool, ∀ ws p, F0 ws p = dN (ws.getD (2 * p).toNat 0) (ws.getD (2 * p + 1).toNat 0) := ⟨_, fun _ _ => rfl⟩
noncomputable def gN : (List Int) → Int → Bool := Classical.choose gN_ex
theorem gN_eq (ws : List Int) (p : Int) : gN ws p = dN (ws.getD (2 * p).toNat 0) (ws.getD (2 * p + 1).toNat 0) := Classical.choose_spec gN_ex ws p
theorem sW_ex : ∃ F0 : (List Int) → Int → Int → Int → Int → Int → Bool → List Int, ∀ ws p t o r s n, F0 ws p t o r s n = (ws.set (2 * p).toNat (nW t o r s n)).set (2 * p + 1).toNat (nR t o r s n) := ⟨_, fun _ _ _ _ _ _ _ => rfl⟩
noncomputable def sW : (List Int) → Int → Int → Int → Int → Int → Bool → List Int := Classical.choose sW_ex
theorem sW_eq (ws : List Int) (p : Int) (t : Int) (o : Int) (r : Int) (s : Int) (n : Bool) : sW ws p t o r s n = (ws.set (2 * p).toNat (nW t o r s n)).set (2 * p + 1).toNat (nR t o r s n) := Classical.choose_spec sW_ex ws p t o r s n
theorem sW_len (ws : List Int) (p t o r s : Int) (n : Bool) : (sW ws p t o r s n).length = ws.length := by rw [sW_eq]; simp
theorem nW_in (t o r s : Int) (n : Bool) : InK .u32 (nW t o r s n) := by
  rw [nW_eq]
  simp only [InK]
  unfold zB
  split
  · rename_i h
    have g := goodB_iff.1 h
    unfold goodE at g
    unfold wordE
    split <;> omega
  · omega
theorem nR_in (t o r s : Int) (n : Bool) : InK .u32 (nR t o r s n) := by
  rw [nR_eq]
  simp only [InK]
  unfold zB
  split
  · rename_i h
    have g := goodB_iff.1 h
    unfold goodE at g
    omega
  · omega
theorem sW_in {ws : List Int} (h : ∀ x ∈ ws, InK .u32 x) (p t o r s : Int) (n : Bool) : ∀ x ∈ sW ws p t o r s n, InK .u32 x := by
  intro x hx
  rw [sW_eq] at hx
  rcases List.mem_or_eq_of_mem_set hx with hx | rfl
  · rcases List.mem_or_eq_of_mem_set hx with hx | rfl
    · exact h x hx
    · exact nW_in _ _ _ _ _
  · exact nR_in _ _ _ _ _
theorem getD_in {ws : List Int} (h : ∀ x ∈ ws, InK .u32 x) (i : Nat) : InK .u32 (ws.getD i 0) := by
  rw [List.getD_eq_getElem?_getD]
  by_cases hi : i < ws.length
  · rw [List.getElem?_eq_getElem hi]; exact h _ (List.getElem_mem hi)
  · rw [List.getElem?_eq_none (by omega)]; simp [InK]
theorem lay2 {ws : List Int} {k : Nat} (a c : Int) (h : k + 2 ≤ ws.length) : List.take k ws ++ [a, c] ++ List.drop (k + 2) ws = (ws.set k a).set (k + 1) c := by
  have e : ws = List.take k ws ++ List.drop k ws := (List.take_append_drop k ws).symm
  have e2 : List.drop k ws = ws.getD k 0 :: ws.getD (k + 1) 0 :: List.drop (k + 2) ws := by
    rw [List.drop_eq_getElem_cons (show k < ws.length by omega), List.drop_eq_getElem_cons (show k + 1 < ws.length by omega)]
    simp only [List.getD_eq_getElem?_getD, List.getElem?_eq_getElem (show k < ws.length by omega), List.getElem?_eq_getElem (show k + 1 < ws.length by omega), Option.getD_some]
  have hl : (List.take k ws).length = k := by rw [List.length_take]; omega
  have e3 : ws.set k a = List.take k ws ++ (a :: ws.getD (k + 1) 0 :: List.drop (k + 2) ws) := by
    conv => lhs; rw [e, e2]
    rw [List.set_append_right _ _ (by omega), hl, Nat.sub_self, List.set_cons_zero]
  rw [e3, List.set_append_right _ _ (by omega), hl, Nat.add_sub_cancel_left, List.set_cons_succ, List.set_cons_zero]
  simp
theorem DecodeH_ok (w v : Int) (h0 : InK .u32 w) (h1 : InK .u32 v) : PureSem Try.prog 118 [.agg [.int .u32 w, .int .u32 v]] (.tup [.agg [.int .i64 (dT w v), .int .i64 (dO w v), .int .i64 (dR w v), .int .i64 (dS w v), .bool (dN w v)], .int .i64 (dE w v)]) := by
  rw [dT_eq, dO_eq, dR_eq, dS_eq, dN_eq, dE_eq]
  exact Decode_ok w v h0 h1
noncomputable def c_DecodeH : List SV → Option (List Prop × SV)
  | [.agg [.int .u32 w, .int .u32 v]] => some ([InK .u32 w, InK .u32 v], .tup [.agg [.int .i64 (dT w v), .int .i64 (dO w v), .int .i64 (dR w v), .int .i64 (dS w v), .bool (dN w v)], .int .i64 (dE w v)])
  | _ => none
theorem c_DecodeH_e : PEntry Try.prog 118 c_DecodeH := by
  refine ⟨callFunc_ok Try.func118 (by kernel_rfl) (by kernel_rfl), fun args ps v h hp => ?_⟩
  unfold c_DecodeH at h
  split at h
  · cases h; exact DecodeH_ok _ _ (hp _ (List.mem_of_getElem? (i := 0) rfl)) (hp _ (List.mem_of_getElem? (i := 1) rfl))
  · cases h
theorem EncodeH_ok (t o r s : Int) (n : Bool)  : PureSem Try.prog 157 [.agg [.int .i64 t, .int .i64 o, .int .i64 r, .int .i64 s, .bool n]] (.tup [.agg [.int .u32 (nW t o r s n), .int .u32 (nR t o r s n)], .int .i64 (chkE t o r s n)]) := by
  rw [nW_eq, nR_eq]
  exact Encode_ok t o r s n
noncomputable def c_EncodeH : List SV → Option (List Prop × SV)
  | [.agg [.int .i64 t, .int .i64 o, .int .i64 r, .int .i64 s, .bool n]] => some ([], .tup [.agg [.int .u32 (nW t o r s n), .int .u32 (nR t o r s n)], .int .i64 (chkE t o r s n)])
  | _ => none
theorem c_EncodeH_e : PEntry Try.prog 157 c_EncodeH := by
  refine ⟨callFunc_ok Try.func157 (by kernel_rfl) (by kernel_rfl), fun args ps v h hp => ?_⟩
  unfold c_EncodeH at h
  split at h
  · cases h; exact EncodeH_ok _ _ _ _ _ 
  · cases h
noncomputable def pt_Pa : List (Nat × (List SV → Option (List Prop × SV))) := [(118, c_DecodeH), (157, c_EncodeH)]
theorem pt_Pa_ok : PureOK Try.prog (fun f => List.lookup f pt_Pa) := pure_list pt_Pa ⟨c_DecodeH_e, c_EncodeH_e, trivial⟩
noncomputable def et_Pa : List (Nat × ECon) := [(117, c_SecureM)]
theorem et_Pa_ok : ConOK Try.prog (fun f => List.lookup f et_Pa) := con_list et_Pa ⟨c_SecureM_e, trivial⟩
noncomputable abbrev cx_Pa (must : Nat → Option Bool := fun _ => none) (loop : Nat → SS → Option LoopSpec := fun _ _ => none) : Ctx := ⟨tab, inlG tab (fun f => List.lookup f pt_Pa) (fun f => List.lookup f et_Pa) fns (fun _ => {}) 1000 6, fun f => List.lookup f pt_Pa, must, loop, 0, 0, fun f => List.lookup f et_Pa⟩
theorem cx_Pa_ok (must : Nat → Option Bool) (loop : Nat → SS → Option LoopSpec) : CxOK Try.prog (cx_Pa must loop) := inlG_ok mixed tab_ok pt_Pa_ok et_Pa_ok fns_ok 6 _ _ _ _
theorem dbHas_ok (b : Int) (len L : Nat) (ps qs : List (List Int)) (m : Int) (ws : List Int) (p : Int) (h0 : wfD len L b ps qs m ws) : SemCall Try.prog 110 [.ptr 0 0, .int .i64 p] [some ⟨205, [.ptr 1 0, .int .i64 b, .on 2 len false], 0, none⟩, some ⟨181, [], 0, some (.own (.mem ps qs m))⟩, some ⟨34, [.ints .u32 L ws], 1, none⟩] (AltK [⟨none, .bool (hs ps p), [some ⟨205, [.ptr 1 0, .int .i64 b, .on 2 len false], 0, none⟩, some ⟨181, [], 0, some (.own (.mem ps qs m))⟩, some ⟨34, [.ints .u32 L ws], 1, none⟩]⟩]) := by
  refine con_intro mixed (cx_Pa_ok (fun _ => none) (fun _ _ => none)) Try.func110 1000 ?_
  refine of_nf (p := (decide (0 <= p) = true -> ((-9223372036854775808 : Int) <= (((len : Nat) : Int)).tdiv (2 : Int) /\ (((len : Nat) : Int)).tdiv (2 : Int) < (9223372036854775808 : Int)) /\ (decide (p < (((len : Nat) : Int)).tdiv (2 : Int)) = hs ps p /\ True) /\ (nat_lit 204 + (1 : Nat) = (205 : TypeId) /\ (0 : Nat) = (0 : Nat) /\ SV.ptr (1 : Nat) 0 = SV.ptr (1 : Nat) (0 : Nat) /\ b = b /\ (len = len /\ false = false) /\ True) /\ (Ob.own (OT.mem ps qs m) = Ob.own (OT.mem ps qs m) /\ nat_lit 180 + (1 : Nat) = (181 : TypeId) /\ (0 : Nat) = (0 : Nat) /\ True) /\ (nat_lit 33 + (1 : Nat) = (34 : TypeId) /\ nat_lit 0 + (1 : Nat) = (1 : Nat) /\ @Bool.rec (fun _ => Prop) False (ws = ws) (true && L.beq L) /\ True) /\ True) /\ (decide (0 <= p) = false -> (false = hs ps p /\ True) /\ ((205 : TypeId) = (205 : TypeId) /\ (0 : Nat) = (0 : Nat) /\ SV.ptr (1 : Nat) 0 = SV.ptr (1 : Nat) (0 : Nat) /\ b = b /\ (len = len /\ false = false) /\ True) /\ (Ob.own (OT.mem ps qs m) = Ob.own (OT.mem ps qs m) /\ (181 : TypeId) = (181 : TypeId) /\ (0 : Nat) = (0 : Nat) /\ True) /\ ((34 : TypeId) = (34 : TypeId) /\ (1 : Nat) = (1 : Nat) /\ @Bool.rec (fun _ => Prop) False (ws = ws) (true && L.beq L) /\ True) /\ True)) (by kernel_rfl) ?_
  have H := h0
  obtain ⟨l1, l2, l3, n1, n2, q1, q2, w1, b0, b1, p1, p2, m0, m1⟩ := h0
  have e2 : (len : Int).tdiv 2 = (ps.length : Int) := by rw [Int.tdiv_eq_ediv_of_nonneg (by omega)]; omega
  simp only [e2]
  refine ⟨fun h => ?_, fun h => ?_⟩
  · have hh : decide (p < (ps.length : Int)) = hs ps p := by unfold hs; rw [h]; rfl
    rw [hh]
    repeat' (first | with_reducible rfl | exact True.intro | with_reducible assumption | exact OwnSame.mk fun _ => rfl | exact OwnSameE.mk fun _ => rfl | apply And.intro | apply pieceEq | intro _)
    all_goals first | omega | rfl | (simp; done)
  · have hh : false = hs ps p := by unfold hs; rw [h]; rfl
    rw [← hh]
    repeat' (first | with_reducible rfl | exact True.intro | with_reducible assumption | exact OwnSame.mk fun _ => rfl | exact OwnSameE.mk fun _ => rfl | apply And.intro | apply pieceEq | intro _)
    all_goals first | omega | rfl | (simp; done)
noncomputable def c_dbHas : ECon
  | [.ptr 0 0, .int .i64 p], [some ⟨205, [.ptr 1 0, .int .i64 b, .on 2 len false], 0, none⟩, some ⟨181, [], 0, some (.own (.mem ps qs m))⟩, some ⟨34, [.ints .u32 L ws], 1, none⟩] => some ([wfD len L b ps qs m ws], [⟨none, .bool (hs ps p), [some ⟨205, [.ptr 1 0, .int .i64 b, .on 2 len false], 0, none⟩, some ⟨181, [], 0, some (.own (.mem ps qs m))⟩, some ⟨34, [.ints .u32 L ws], 1, none⟩]⟩])
  | _, _ => none
theorem c_dbHas_e : EEntry Try.prog 110 c_dbHas := by
  refine ⟨callFunc_ok Try.func110 (by kernel_rfl) (by kernel_rfl), fun args rows ps alts h hp => ?_⟩
  unfold c_dbHas at h
  split at h
  · cases h; exact dbHas_ok _ _ _ _ _ _ _ _ (hp _ (List.mem_of_getElem? (i := 0) rfl))
  · cases h
theorem dbAt_ok (b : Int) (len L : Nat) (ps qs : List (List Int)) (m : Int) (ws : List Int) (p : Int) (h0 : wfD len L b ps qs m ws) (h1 : hs ps p = true) : SemCall Try.prog 111 [.ptr 0 0, .int .i64 p] [some ⟨205, [.ptr 1 0, .int .i64 b, .on 2 len false], 0, none⟩, some ⟨181, [], 0, some (.own (.mem ps qs m))⟩, some ⟨34, [.ints .u32 L ws], 1, none⟩] (AltK [⟨none, .agg [.int .i64 (gT ws p), .int .i64 (gO ws p), .int .i64 (gR ws p), .int .i64 (gS ws p), .bool (gN ws p)], [some ⟨205, [.ptr 1 0, .int .i64 b, .on 2 len false], 0, none⟩, some ⟨181, [], 0, some (.own (.mem ps qs m))⟩, some ⟨34, [.ints .u32 L ws], 1, none⟩]⟩]) := by
  refine con_intro mixed (cx_Pa_ok (fun _ => none) (fun _ _ => none)) Try.func111 1000 ?_
  refine of_nf (p := letI k0_ := (List.take (2 : Nat) (List.drop (((((2 : Int) * p).toNat : Nat) : Int)).toNat ws)); letI k1_ := (k0_.getD (nat_lit 0) (0 : Int)); letI k2_ := (k0_.getD (nat_lit 1) (0 : Int)); ((-9223372036854775808 : Int) <= (2 : Int) * p /\ (2 : Int) * p < 9223372036854775808) /\ (0 : Int) <= (2 : Int) * p /\ (2 : Int) * p <= ((len : Nat) : Int) /\ ((len : Nat) : Int) <= (((L + 0) : Nat) : Int) /\ (2 : Nat) <= (((len : Nat) : Int) - 2 * p).toNat /\ ((2 : Int) * p).toNat + (((len : Nat) : Int) - 2 * p).toNat <= L + 0 /\ (0 : Int) <= ((((2 : Int) * p).toNat : Nat) : Int) /\ ((((2 : Int) * p).toNat : Nat) : Int) + 2 <= ((L : Nat) : Int) /\ ws.length = L /\ ((0 : Int) <= k0_.getD (nat_lit 0) (0 : Int) /\ k0_.getD (nat_lit 0) (0 : Int) < (4294967296 : Int)) /\ ((0 : Int) <= k0_.getD (nat_lit 1) (0 : Int) /\ k0_.getD (nat_lit 1) (0 : Int) < (4294967296 : Int)) /\ ((dT k1_ k2_ = gT ws p /\ dO k1_ k2_ = gO ws p /\ dR k1_ k2_ = gR ws p /\ dS k1_ k2_ = gS ws p /\ dN k1_ k2_ = gN ws p /\ True) /\ True) /\ (nat_lit 204 + (1 : Nat) = (205 : TypeId) /\ (0 : Nat) = (0 : Nat) /\ SV.ptr (1 : Nat) 0 = SV.ptr (1 : Nat) (0 : Nat) /\ b = b /\ (len = len /\ false = false) /\ True) /\ (Ob.own (OT.mem ps qs m) = Ob.own (OT.mem ps qs m) /\ nat_lit 180 + (1 : Nat) = (181 : TypeId) /\ (0 : Nat) = (0 : Nat) /\ True) /\ (nat_lit 33 + (1 : Nat) = (34 : TypeId) /\ nat_lit 0 + (1 : Nat) = (1 : Nat) /\ @Bool.rec (fun _ => Prop) False (ws = ws) (true && L.beq L) /\ True) /\ True) (by kernel_rfl) ?_
  have H := h0
  obtain ⟨l1, l2, l3, n1, n2, q1, q2, w1, b0, b1, p1, p2, m0, m1⟩ := h0
  have e2 : (len : Int).tdiv 2 = (ps.length : Int) := by rw [Int.tdiv_eq_ediv_of_nonneg (by omega)]; omega
  have hp := hs_t h1
  have f0 : (List.take 2 (List.drop (2 * p).toNat ws)).getD 0 0 = ws.getD (2 * p).toNat 0 := by
    rw [List.getD_eq_getElem?_getD, List.getElem?_take_of_lt (by omega), List.getElem?_drop, Nat.add_zero, ← List.getD_eq_getElem?_getD]
  have f1 : (List.take 2 (List.drop (2 * p).toNat ws)).getD 1 0 = ws.getD (2 * p + 1).toNat 0 := by
    rw [List.getD_eq_getElem?_getD, List.getElem?_take_of_lt (by omega), List.getElem?_drop, ← List.getD_eq_getElem?_getD, show (2 * p).toNat + 1 = (2 * p + 1).toNat by omega]
  have i0 := getD_in w1 (2 * p).toNat
  have i1 := getD_in w1 (2 * p + 1).toNat
  simp only [InK] at i0 i1
  simp only [Int.toNat_natCast, f0, f1, ← gT_eq, ← gO_eq, ← gR_eq, ← gS_eq, ← gN_eq]
  repeat' (first | with_reducible rfl | exact True.intro | with_reducible assumption | exact OwnSame.mk fun _ => rfl | exact OwnSameE.mk fun _ => rfl | apply And.intro | apply pieceEq | intro _)
  all_goals first | omega | rfl | (simp; done) | trace_state
noncomputable def c_dbAt : ECon
  | [.ptr 0 0, .int .i64 p], [some ⟨205, [.ptr 1 0, .int .i64 b, .on 2 len false], 0, none⟩, some ⟨181, [], 0, some (.own (.mem ps qs m))⟩, some ⟨34, [.ints .u32 L ws], 1, none⟩] => some ([wfD len L b ps qs m ws, hs ps p = true], [⟨none, .agg [.int .i64 (gT ws p), .int .i64 (gO ws p), .int .i64 (gR ws p), .int .i64 (gS ws p), .bool (gN ws p)], [some ⟨205, [.ptr 1 0, .int .i64 b, .on 2 len false], 0, none⟩, some ⟨181, [], 0, some (.own (.mem ps qs m))⟩, some ⟨34, [.ints .u32 L ws], 1, none⟩]⟩])
  | _, _ => none
theorem c_dbAt_e : EEntry Try.prog 111 c_dbAt := by
  refine ⟨callFunc_ok Try.func111 (by kernel_rfl) (by kernel_rfl), fun args rows ps alts h hp => ?_⟩
  unfold c_dbAt at h
  split at h
  · cases h; exact dbAt_ok _ _ _ _ _ _ _ _ (hp _ (List.mem_of_getElem? (i := 0) rfl)) (hp _ (List.mem_of_getElem? (i := 1) rfl))
  · cases h
theorem dbSet_ok (b : Int) (len L : Nat) (ps qs : List (List Int)) (m : Int) (ws : List Int) (p t o r s : Int) (n : Bool) (h0 : wfD len L b ps qs m ws) (h1 : hs ps p = true) : SemCall Try.prog 112 [.ptr 0 0, .int .i64 p, .agg [.int .i64 t, .int .i64 o, .int .i64 r, .int .i64 s, .bool n]] [some ⟨205, [.ptr 1 0, .int .i64 b, .on 2 len false], 0, none⟩, some ⟨181, [], 0, some (.own (.mem ps qs m))⟩, some ⟨34, [.ints .u32 L ws], 1, none⟩] (AltK [⟨none, .tup [], [some ⟨205, [.ptr 1 0, .int .i64 b, .on 2 len false], 0, none⟩, some ⟨181, [], 0, some (.own (.mem ps qs m))⟩, some ⟨34, [.ints .u32 L (sW ws p t o r s n)], 1, none⟩]⟩]) := by
  refine con_intro mixed (cx_Pa_ok (fun _ => none) (fun _ _ => none)) Try.func112 1000 ?_
  refine of_nf (p := ((-9223372036854775808 : Int) <= (2 : Int) * p /\ (2 : Int) * p < 9223372036854775808) /\ (0 : Int) <= (2 : Int) * p /\ (2 : Int) * p <= ((len : Nat) : Int) /\ ((len : Nat) : Int) <= (((L + 0) : Nat) : Int) /\ (List.take (((len : Nat) : Int) - 2 * p).toNat [nW t o r s n, nR t o r s n]).length <= (((len : Nat) : Int) - 2 * p).toNat /\ (0 : Nat) < (List.take (((len : Nat) : Int) - 2 * p).toNat [nW t o r s n, nR t o r s n]).length /\ ws.length = L /\ ((2 : Int) * p).toNat + (List.take (((len : Nat) : Int) - 2 * p).toNat [nW t o r s n, nR t o r s n]).length <= L /\ (True /\ True) /\ (nat_lit 204 + (1 : Nat) = (205 : TypeId) /\ (0 : Nat) = (0 : Nat) /\ SV.ptr (1 : Nat) 0 = SV.ptr (1 : Nat) (0 : Nat) /\ b = b /\ (len = len /\ false = false) /\ True) /\ (Ob.own (OT.mem ps qs m) = Ob.own (OT.mem ps qs m) /\ nat_lit 180 + (1 : Nat) = (181 : TypeId) /\ (0 : Nat) = (0 : Nat) /\ True) /\ (nat_lit 33 + (1 : Nat) = (34 : TypeId) /\ nat_lit 0 + (1 : Nat) = (1 : Nat) /\ @Bool.rec (fun _ => Prop) False (((List.take ((2 : Int) * p).toNat ws).append (List.take (((len : Nat) : Int) - 2 * p).toNat [nW t o r s n, nR t o r s n])).append (List.drop (((2 : Int) * p).toNat + (List.take (((len : Nat) : Int) - 2 * p).toNat [nW t o r s n, nR t o r s n]).length) ws) = sW ws p t o r s n) (true && L.beq L) /\ True) /\ True) (by kernel_rfl) ?_
  have H := h0
  obtain ⟨l1, l2, l3, n1, n2, q1, q2, w1, b0, b1, p1, p2, m0, m1⟩ := h0
  have e2 : (len : Int).tdiv 2 = (ps.length : Int) := by rw [Int.tdiv_eq_ediv_of_nonneg (by omega)]; omega
  have hp := hs_t h1
  have f0 : List.take ((len : Int) - 2 * p).toNat [nW t o r s n, nR t o r s n] = [nW t o r s n, nR t o r s n] := List.take_of_length_le (by simp; omega)
  have f1 := lay2 (ws := ws) (k := (2 * p).toNat) (nW t o r s n) (nR t o r s n) (by omega)
  have f2 : sW ws p t o r s n = (ws.set (2 * p).toNat (nW t o r s n)).set ((2 * p).toNat + 1) (nR t o r s n) := by rw [sW_eq, show (2 * p + 1).toNat = (2 * p).toNat + 1 by omega]
  have happ : ∀ a b : List Int, a.append b = a ++ b := fun _ _ => rfl
  have hl2 : [nW t o r s n, nR t o r s n].length = 2 := rfl
  simp only [f0, happ, hl2, f1, f2]
  repeat' (first | with_reducible rfl | exact True.intro | with_reducible assumption | exact OwnSame.mk fun _ => rfl | exact OwnSameE.mk fun _ => rfl | apply And.intro | apply pieceEq | intro _)
  all_goals first | omega | rfl | (simp; done) | trace_state
noncomputable def c_dbSet : ECon
  | [.ptr 0 0, .int .i64 p, .agg [.int .i64 t, .int .i64 o, .int .i64 r, .int .i64 s, .bool n]], [some ⟨205, [.ptr 1 0, .int .i64 b, .on 2 len false], 0, none⟩, some ⟨181, [], 0, some (.own (.mem ps qs m))⟩, some ⟨34, [.ints .u32 L ws], 1, none⟩] => some ([wfD len L b ps qs m ws, hs ps p = true], [⟨none, .tup [], [some ⟨205, [.ptr 1 0, .int .i64 b, .on 2 len false], 0, none⟩, some ⟨181, [], 0, some (.own (.mem ps qs m))⟩, some ⟨34, [.ints .u32 L (sW ws p t o r s n)], 1, none⟩]⟩])
  | _, _ => none
theorem c_dbSet_e : EEntry Try.prog 112 c_dbSet := by
  refine ⟨callFunc_ok Try.func112 (by kernel_rfl) (by kernel_rfl), fun args rows ps alts h hp => ?_⟩
  unfold c_dbSet at h
  split at h
  · cases h; exact dbSet_ok _ _ _ _ _ _ _ _ _ _ _ _ _ (hp _ (List.mem_of_getElem? (i := 0) rfl)) (hp _ (List.mem_of_getElem? (i := 1) rfl))
  · cases h
theorem dbMemory_ok (b : Int) (len L : Nat) (ps qs : List (List Int)) (m : Int) (ws : List Int) (h0 : wfD len L b ps qs m ws) : SemCall Try.prog 58 [.ptr 0 0] [some ⟨205, [.ptr 1 0, .int .i64 b, .on 2 len false], 0, none⟩, some ⟨181, [], 0, some (.own (.mem ps qs m))⟩, some ⟨34, [.ints .u32 L ws], 1, none⟩] (AltK [⟨none, .ptr 1 0, [some ⟨205, [.ptr 1 0, .int .i64 b, .on 2 len false], 0, none⟩, some ⟨181, [], 0, some (.own (.mem ps qs m))⟩, some ⟨34, [.ints .u32 L ws], 1, none⟩]⟩]) := by
  refine con_intro mixed (cx_Pa_ok (fun _ => none) (fun _ _ => none)) Try.func58 1000 ?_
  refine of_nf (p := (SV.ptr (1 : Nat) 0 = SV.ptr (1 : Nat) (0 : Nat) /\ True) /\ ((205 : TypeId) = (205 : TypeId) /\ (0 : Nat) = (0 : Nat) /\ SV.ptr (1 : Nat) 0 = SV.ptr (1 : Nat) (0 : Nat) /\ b = b /\ (len = len /\ false = false) /\ True) /\ (Ob.own (OT.mem ps qs m) = Ob.own (OT.mem ps qs m) /\ (181 : TypeId) = (181 : TypeId) /\ (0 : Nat) = (0 : Nat) /\ True) /\ ((34 : TypeId) = (34 : TypeId) /\ (1 : Nat) = (1 : Nat) /\ @Bool.rec (fun _ => Prop) False (ws = ws) (true && L.beq L) /\ True) /\ True) (by kernel_rfl) ?_
  have H := h0
  obtain ⟨l1, l2, l3, n1, n2, q1, q2, w1, b0, b1, p1, p2, m0, m1⟩ := h0
  have e2 : (len : Int).tdiv 2 = (ps.length : Int) := by rw [Int.tdiv_eq_ediv_of_nonneg (by omega)]; omega
  repeat' (first | with_reducible rfl | exact True.intro | with_reducible assumption | exact OwnSame.mk fun _ => rfl | exact OwnSameE.mk fun _ => rfl | apply And.intro | apply pieceEq | intro _)
  all_goals first | omega | rfl | (simp; done) | trace_state
noncomputable def c_dbMemory : ECon
  | [.ptr 0 0], [some ⟨205, [.ptr 1 0, .int .i64 b, .on 2 len false], 0, none⟩, some ⟨181, [], 0, some (.own (.mem ps qs m))⟩, some ⟨34, [.ints .u32 L ws], 1, none⟩] => some ([wfD len L b ps qs m ws], [⟨none, .ptr 1 0, [some ⟨205, [.ptr 1 0, .int .i64 b, .on 2 len false], 0, none⟩, some ⟨181, [], 0, some (.own (.mem ps qs m))⟩, some ⟨34, [.ints .u32 L ws], 1, none⟩]⟩])
  | _, _ => none
theorem c_dbMemory_e : EEntry Try.prog 58 c_dbMemory := by
  refine ⟨callFunc_ok Try.func58 (by kernel_rfl) (by kernel_rfl), fun args rows ps alts h hp => ?_⟩
  unfold c_dbMemory at h
  split at h
  · cases h; exact dbMemory_ok _ _ _ _ _ _ _ (hp _ (List.mem_of_getElem? (i := 0) rfl))
  · cases h
theorem dbBirths_ok (b : Int) (len L : Nat) (ps qs : List (List Int)) (m : Int) (ws : List Int) (h0 : wfD len L b ps qs m ws) : SemCall Try.prog 42 [.ptr 0 0] [some ⟨205, [.ptr 1 0, .int .i64 b, .on 2 len false], 0, none⟩, some ⟨181, [], 0, some (.own (.mem ps qs m))⟩, some ⟨34, [.ints .u32 L ws], 1, none⟩] (AltK [⟨none, .int .i64 b, [some ⟨205, [.ptr 1 0, .int .i64 b, .on 2 len false], 0, none⟩, some ⟨181, [], 0, some (.own (.mem ps qs m))⟩, some ⟨34, [.ints .u32 L ws], 1, none⟩]⟩]) := by
  refine con_intro mixed (cx_Pa_ok (fun _ => none) (fun _ _ => none)) Try.func42 1000 ?_
  refine of_nf (p := (b = b /\ True) /\ ((205 : TypeId) = (205 : TypeId) /\ (0 : Nat) = (0 : Nat) /\ SV.ptr (1 : Nat) 0 = SV.ptr (1 : Nat) (0 : Nat) /\ b = b /\ (len = len /\ false = false) /\ True) /\ (Ob.own (OT.mem ps qs m) = Ob.own (OT.mem ps qs m) /\ (181 : TypeId) = (181 : TypeId) /\ (0 : Nat) = (0 : Nat) /\ True) /\ ((34 : TypeId) = (34 : TypeId) /\ (1 : Nat) = (1 : Nat) /\ @Bool.rec (fun _ => Prop) False (ws = ws) (true && L.beq L) /\ True) /\ True) (by kernel_rfl) ?_
  have H := h0
  obtain ⟨l1, l2, l3, n1, n2, q1, q2, w1, b0, b1, p1, p2, m0, m1⟩ := h0
  have e2 : (len : Int).tdiv 2 = (ps.length : Int) := by rw [Int.tdiv_eq_ediv_of_nonneg (by omega)]; omega
  repeat' (first | with_reducible rfl | exact True.intro | with_reducible assumption | exact OwnSame.mk fun _ => rfl | exact OwnSameE.mk fun _ => rfl | apply And.intro | apply pieceEq | intro _)
  all_goals first | omega | rfl | (simp; done) | trace_state
noncomputable def c_dbBirths : ECon
  | [.ptr 0 0], [some ⟨205, [.ptr 1 0, .int .i64 b, .on 2 len false], 0, none⟩, some ⟨181, [], 0, some (.own (.mem ps qs m))⟩, some ⟨34, [.ints .u32 L ws], 1, none⟩] => some ([wfD len L b ps qs m ws], [⟨none, .int .i64 b, [some ⟨205, [.ptr 1 0, .int .i64 b, .on 2 len false], 0, none⟩, some ⟨181, [], 0, some (.own (.mem ps qs m))⟩, some ⟨34, [.ints .u32 L ws], 1, none⟩]⟩])
  | _, _ => none
theorem c_dbBirths_e : EEntry Try.prog 42 c_dbBirths := by
  refine ⟨callFunc_ok Try.func42 (by kernel_rfl) (by kernel_rfl), fun args rows ps alts h hp => ?_⟩
  unfold c_dbBirths at h
  split at h
  · cases h; exact dbBirths_ok _ _ _ _ _ _ _ (hp _ (List.mem_of_getElem? (i := 0) rfl))
  · cases h
noncomputable def pt_Pb : List (Nat × (List SV → Option (List Prop × SV))) := []
theorem pt_Pb_ok : PureOK Try.prog (fun f => List.lookup f pt_Pb) := pure_list pt_Pb trivial
noncomputable def et_Pb : List (Nat × ECon) := [(110, c_dbHas), (111, c_dbAt)]
theorem et_Pb_ok : ConOK Try.prog (fun f => List.lookup f et_Pb) := con_list et_Pb ⟨c_dbHas_e, c_dbAt_e, trivial⟩
noncomputable abbrev cx_Pb (must : Nat → Option Bool := fun _ => none) (loop : Nat → SS → Option LoopSpec := fun _ _ => none) : Ctx := ⟨tab, inlG tab (fun f => List.lookup f pt_Pb) (fun f => List.lookup f et_Pb) fns (fun _ => {}) 1000 6, fun f => List.lookup f pt_Pb, must, loop, 0, 0, fun f => List.lookup f et_Pb⟩
theorem cx_Pb_ok (must : Nat → Option Bool) (loop : Nat → SS → Option LoopSpec) : CxOK Try.prog (cx_Pb must loop) := inlG_ok mixed tab_ok pt_Pb_ok et_Pb_ok fns_ok 6 _ _ _ _
theorem dbEntry_ok (b : Int) (len L : Nat) (ps qs : List (List Int)) (m : Int) (ws : List Int) (p : Int) (h0 : wfD len L b ps qs m ws) : SemCall Try.prog 109 [.ptr 0 0, .int .i64 p] [some ⟨205, [.ptr 1 0, .int .i64 b, .on 2 len false], 0, none⟩, some ⟨181, [], 0, some (.own (.mem ps qs m))⟩, some ⟨34, [.ints .u32 L ws], 1, none⟩] (AltK [⟨none, .tup [.agg [.int .i64 (zB (hs ps p) (gT ws p)), .int .i64 (zB (hs ps p) (gO ws p)), .int .i64 (zB (hs ps p) (gR ws p)), .int .i64 (zB (hs ps p) (gS ws p)), .bool (hs ps p && gN ws p)], .int .i64 (if hs ps p = true then 0 else 5)], [some ⟨205, [.ptr 1 0, .int .i64 b, .on 2 len false], 0, none⟩, some ⟨181, [], 0, some (.own (.mem ps qs m))⟩, some ⟨34, [.ints .u32 L ws], 1, none⟩]⟩]) := by
  refine con_intro mixed (cx_Pb_ok (fun _ => none) (fun _ _ => none)) Try.func109 1000 ?_
  refine of_nf (p := wfD len L b ps qs m ws /\ ∀ (c : Bool), c = hs ps p -> ∀ (m_1 : Int), m_1 = b -> ∀ (ps' : List (List Int)), ps' = ps -> ∀ (qs' : List (List Int)), qs' = qs -> ∀ (m' : Int), m' = m -> ∀ (ys : List Int), ys = ws -> ((!c) = true -> (((0 = zB (hs ps p) (gT ws p) /\ 0 = zB (hs ps p) (gO ws p) /\ 0 = zB (hs ps p) (gR ws p) /\ 0 = zB (hs ps p) (gS ws p) /\ false = (hs ps p && gN ws p) /\ True) /\ (5 = if hs ps p = true then (0 : Int) else (5 : Int)) /\ True) /\ True) /\ (nat_lit 204 + (1 : Nat) = (205 : TypeId) /\ (0 : Nat) = (0 : Nat) /\ SV.ptr (1 : Nat) 0 = SV.ptr (1 : Nat) (0 : Nat) /\ m_1 = b /\ (len = len /\ false = false) /\ True) /\ (Ob.own (OT.mem ps' qs' m') = Ob.own (OT.mem ps qs m) /\ nat_lit 180 + (1 : Nat) = (181 : TypeId) /\ (0 : Nat) = (0 : Nat) /\ True) /\ (nat_lit 33 + (1 : Nat) = (34 : TypeId) /\ nat_lit 0 + (1 : Nat) = (1 : Nat) /\ @Bool.rec (fun _ => Prop) False (ys = ws) (true && L.beq L) /\ True) /\ True) /\ ((!c) = false -> wfD len L m_1 ps' qs' m' ys /\ hs ps' p = true /\ ∀ (m_2 : Int), m_2 = gT ys p -> ∀ (m_3 : Int), m_3 = gO ys p -> ∀ (m_4 : Int), m_4 = gR ys p -> ∀ (m_5 : Int), m_5 = gS ys p -> ∀ (c : Bool), c = gN ys p -> ∀ (m_6 : Int), m_6 = m_1 -> ∀ (ps'_1 : List (List Int)), ps'_1 = ps' -> ∀ (qs'_1 : List (List Int)), qs'_1 = qs' -> ∀ (m'_1 : Int), m'_1 = m' -> ∀ (ys_1 : List Int), ys_1 = ys -> (((m_2 = zB (hs ps p) (gT ws p) /\ m_3 = zB (hs ps p) (gO ws p) /\ m_4 = zB (hs ps p) (gR ws p) /\ m_5 = zB (hs ps p) (gS ws p) /\ c = (hs ps p && gN ws p) /\ True) /\ (0 = if hs ps p = true then (0 : Int) else (5 : Int)) /\ True) /\ True) /\ (nat_lit 204 + (1 : Nat) = (205 : TypeId) /\ (0 : Nat) = (0 : Nat) /\ SV.ptr (1 : Nat) 0 = SV.ptr (1 : Nat) (0 : Nat) /\ m_6 = b /\ (len = len /\ false = false) /\ True) /\ (Ob.own (OT.mem ps'_1 qs'_1 m'_1) = Ob.own (OT.mem ps qs m) /\ nat_lit 180 + (1 : Nat) = (181 : TypeId) /\ (0 : Nat) = (0 : Nat) /\ True) /\ (nat_lit 33 + (1 : Nat) = (34 : TypeId) /\ nat_lit 0 + (1 : Nat) = (1 : Nat) /\ @Bool.rec (fun _ => Prop) False (ys_1 = ws) (true && L.beq L) /\ True) /\ True)) (by kernel_rfl) ?_
  have H := h0
  simp only [↓forall_eq]
  refine ⟨H, fun h => ?_, fun h => ?_⟩
  · have h : hs ps p = false := by simpa using h
    rw [h]
    repeat' (first | with_reducible rfl | exact True.intro | with_reducible assumption | exact OwnSame.mk fun _ => rfl | exact OwnSameE.mk fun _ => rfl | apply And.intro | apply pieceEq | intro _)
    all_goals first | rfl | (simp; done)
  · have h : hs ps p = true := by simpa using h
    rw [h]
    repeat' (first | with_reducible rfl | exact True.intro | with_reducible assumption | exact OwnSame.mk fun _ => rfl | exact OwnSameE.mk fun _ => rfl | apply And.intro | apply pieceEq | intro _)
    all_goals first | rfl | (simp; done)
noncomputable def c_dbEntry : ECon
  | [.ptr 0 0, .int .i64 p], [some ⟨205, [.ptr 1 0, .int .i64 b, .on 2 len false], 0, none⟩, some ⟨181, [], 0, some (.own (.mem ps qs m))⟩, some ⟨34, [.ints .u32 L ws], 1, none⟩] => some ([wfD len L b ps qs m ws], [⟨none, .tup [.agg [.int .i64 (zB (hs ps p) (gT ws p)), .int .i64 (zB (hs ps p) (gO ws p)), .int .i64 (zB (hs ps p) (gR ws p)), .int .i64 (zB (hs ps p) (gS ws p)), .bool (hs ps p && gN ws p)], .int .i64 (if hs ps p = true then 0 else 5)], [some ⟨205, [.ptr 1 0, .int .i64 b, .on 2 len false], 0, none⟩, some ⟨181, [], 0, some (.own (.mem ps qs m))⟩, some ⟨34, [.ints .u32 L ws], 1, none⟩]⟩])
  | _, _ => none
theorem c_dbEntry_e : EEntry Try.prog 109 c_dbEntry := by
  refine ⟨callFunc_ok Try.func109 (by kernel_rfl) (by kernel_rfl), fun args rows ps alts h hp => ?_⟩
  unfold c_dbEntry at h
  split at h
  · cases h; exact dbEntry_ok _ _ _ _ _ _ _ _ (hp _ (List.mem_of_getElem? (i := 0) rfl))
  · cases h
theorem dbIsSpace_ok (b : Int) (len L : Nat) (ps qs : List (List Int)) (m : Int) (ws : List Int) (p : Int) (h0 : wfD len L b ps qs m ws) : SemCall Try.prog 115 [.ptr 0 0, .int .i64 p] [some ⟨205, [.ptr 1 0, .int .i64 b, .on 2 len false], 0, none⟩, some ⟨181, [], 0, some (.own (.mem ps qs m))⟩, some ⟨34, [.ints .u32 L ws], 1, none⟩] (AltK [⟨none, .bool (hs ps p && gT ws p == 1), [some ⟨205, [.ptr 1 0, .int .i64 b, .on 2 len false], 0, none⟩, some ⟨181, [], 0, some (.own (.mem ps qs m))⟩, some ⟨34, [.ints .u32 L ws], 1, none⟩]⟩]) := by
  refine con_intro mixed (cx_Pb_ok (fun _ => none) (fun _ _ => none)) Try.func115 1000 ?_
  refine of_nf (p := wfD len L b ps qs m ws /\ ∀ (c : Bool), c = hs ps p -> ∀ (m_1 : Int), m_1 = b -> ∀ (ps' : List (List Int)), ps' = ps -> ∀ (qs' : List (List Int)), qs' = qs -> ∀ (m' : Int), m' = m -> ∀ (ys : List Int), ys = ws -> (c = true -> wfD len L m_1 ps' qs' m' ys /\ hs ps' p = true /\ ∀ (m_2 : Int), m_2 = gT ys p -> ∀ (m_3 : Int), m_3 = gO ys p -> ∀ (m_4 : Int), m_4 = gR ys p -> ∀ (m_5 : Int), m_5 = gS ys p -> ∀ (c : Bool), c = gN ys p -> ∀ (m_6 : Int), m_6 = m_1 -> ∀ (ps'_1 : List (List Int)), ps'_1 = ps' -> ∀ (qs'_1 : List (List Int)), qs'_1 = qs' -> ∀ (m'_1 : Int), m'_1 = m' -> ∀ (ys_1 : List Int), ys_1 = ys -> ((m_2 == 1) = (hs ps p && gT ws p == 1) /\ True) /\ (nat_lit 204 + (1 : Nat) = (205 : TypeId) /\ (0 : Nat) = (0 : Nat) /\ SV.ptr (1 : Nat) 0 = SV.ptr (1 : Nat) (0 : Nat) /\ m_6 = b /\ (len = len /\ false = false) /\ True) /\ (Ob.own (OT.mem ps'_1 qs'_1 m'_1) = Ob.own (OT.mem ps qs m) /\ nat_lit 180 + (1 : Nat) = (181 : TypeId) /\ (0 : Nat) = (0 : Nat) /\ True) /\ (nat_lit 33 + (1 : Nat) = (34 : TypeId) /\ nat_lit 0 + (1 : Nat) = (1 : Nat) /\ @Bool.rec (fun _ => Prop) False (ys_1 = ws) (true && L.beq L) /\ True) /\ True) /\ (c = false -> (false = (hs ps p && gT ws p == 1) /\ True) /\ (nat_lit 204 + (1 : Nat) = (205 : TypeId) /\ (0 : Nat) = (0 : Nat) /\ SV.ptr (1 : Nat) 0 = SV.ptr (1 : Nat) (0 : Nat) /\ m_1 = b /\ (len = len /\ false = false) /\ True) /\ (Ob.own (OT.mem ps' qs' m') = Ob.own (OT.mem ps qs m) /\ nat_lit 180 + (1 : Nat) = (181 : TypeId) /\ (0 : Nat) = (0 : Nat) /\ True) /\ (nat_lit 33 + (1 : Nat) = (34 : TypeId) /\ nat_lit 0 + (1 : Nat) = (1 : Nat) /\ @Bool.rec (fun _ => Prop) False (ys = ws) (true && L.beq L) /\ True) /\ True)) (by kernel_rfl) ?_
  have H := h0
  simp only [↓forall_eq]
  refine ⟨H, fun h => ?_, fun h => ?_⟩
  · rw [h]
    repeat' (first | with_reducible rfl | exact True.intro | with_reducible assumption | exact OwnSame.mk fun _ => rfl | exact OwnSameE.mk fun _ => rfl | apply And.intro | apply pieceEq | intro _)
    all_goals first | rfl | (simp; done)
  · rw [h]
    repeat' (first | with_reducible rfl | exact True.intro | with_reducible assumption | exact OwnSame.mk fun _ => rfl | exact OwnSameE.mk fun _ => rfl | apply And.intro | apply pieceEq | intro _)
    all_goals first | rfl | (simp; done)
noncomputable def c_dbIsSpace : ECon
  | [.ptr 0 0, .int .i64 p], [some ⟨205, [.ptr 1 0, .int .i64 b, .on 2 len false], 0, none⟩, some ⟨181, [], 0, some (.own (.mem ps qs m))⟩, some ⟨34, [.ints .u32 L ws], 1, none⟩] => some ([wfD len L b ps qs m ws], [⟨none, .bool (hs ps p && gT ws p == 1), [some ⟨205, [.ptr 1 0, .int .i64 b, .on 2 len false], 0, none⟩, some ⟨181, [], 0, some (.own (.mem ps qs m))⟩, some ⟨34, [.ints .u32 L ws], 1, none⟩]⟩])
  | _, _ => none
theorem c_dbIsSpace_e : EEntry Try.prog 115 c_dbIsSpace := by
  refine ⟨callFunc_ok Try.func115 (by kernel_rfl) (by kernel_rfl), fun args rows ps alts h hp => ?_⟩
  unfold c_dbIsSpace at h
  split at h
  · cases h; exact dbIsSpace_ok _ _ _ _ _ _ _ _ (hp _ (List.mem_of_getElem? (i := 0) rfl))
  · cases h
end Go.Proofs.Ytlndkfcnfhkbkaa
