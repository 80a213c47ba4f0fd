/- Words that are a database's, and Load of them. No condition beyond sizes. -/
import Derived.Test.YtlndkfcnfhkbkaaPdH
namespace Go.Proofs.Ytlndkfcnfhkbkaa
open Go.RowKit Sx
set_option linter.unusedVariables false
set_option linter.unusedSimpArgs false
set_option maxRecDepth 100000
set_option maxHeartbeats 8000000
theorem okD_enc (t o r s : Int) (n : Bool) : okD (nW t o r s n) (nR t o r s n) = true := by
  rw [nW_eq, nR_eq]
  by_cases h : goodB t o r s n = true
  · have g := goodB_iff.1 h
    unfold goodE at g
    obtain ⟨g1, g2, g3, g4, g5, g6, g7⟩ := g
    have gs : 0 ≤ s ∧ s ≤ 3 := by omega
    have e : ∀ x : Int, zB (goodB t o r s n) x = x := fun x => zB_t h
    rw [e, e]
    have w8 : wordE t o s n % 8 = t := by unfold wordE; cases n <;> simp <;> omega
    have w16 : wordE t o s n / 16 % 4 = s := by unfold wordE; cases n <;> simp <;> omega
    have w65 : wordE t o s n / 65536 % 64 = o := by unfold wordE; cases n <;> simp <;> omega
    have w256 : (wordE t o s n / 256 % 2 == 1) = n := by unfold wordE; cases n <;> simp <;> omega
    have v64 : r % 64 = r := by omega
    unfold okD
    rw [w8, w16, w65, w256, v64, h]
    simp
  · have h : goodB t o r s n = false := by simpa using h
    have e : ∀ x : Int, zB (goodB t o r s n) x = 0 := fun x => zB_f h
    rw [e, e]
    decide
theorem dO_enc (t o r s : Int) (n : Bool) : dO (nW t o r s n) (nR t o r s n) = zB (goodB t o r s n) o := by
  rw [dO_eq, okD_enc, zB_t rfl, nW_eq]
  by_cases h : goodB t o r s n = true
  · have g := goodB_iff.1 h
    unfold goodE at g
    obtain ⟨g1, g2, g3, g4, g5, g6, g7⟩ := g
    have gs : 0 ≤ s ∧ s ≤ 3 := by omega
    rw [zB_t h, zB_t h]
    unfold wordE; cases n <;> simp <;> omega
  · have h : goodB t o r s n = false := by simpa using h
    rw [zB_f h, zB_f h]
    decide
structure okWs (n : Nat) (ws : List Int) : Prop where
  out : ∀ p : Nat, p < n → okD (ws.getD (2 * p) 0) (ws.getD (2 * p + 1) 0) = true ∧ dO (ws.getD (2 * p) 0) (ws.getD (2 * p + 1) 0) < (n : Int)
theorem gO_nat (ws : List Int) (p : Nat) : gO ws (p : Int) = dO (ws.getD (2 * p) 0) (ws.getD (2 * p + 1) 0) := by
  rw [gO_eq]
  congr 2
theorem getD_set2 (ws : List Int) (k j : Nat) (a c : Int) (hk : k + 1 < ws.length) : ((ws.set k a).set (k + 1) c).getD j 0 = if j = k then a else if j = k + 1 then c else ws.getD j 0 := by
  simp only [List.getD_eq_getElem?_getD]
  by_cases h1 : j = k + 1
  · subst h1
    rw [List.getElem?_set_self (by simpa using hk), if_neg (by omega), if_pos rfl]
    rfl
  · rw [List.getElem?_set_ne (by omega)]
    by_cases h2 : j = k
    · subst h2
      rw [List.getElem?_set_self (by omega), if_pos rfl]
      rfl
    · rw [List.getElem?_set_ne (by omega), if_neg h2, if_neg h1]
theorem okWs.set {n : Nat} {ws : List Int} (h : okWs n ws) (hl : ws.length = 2 * n) {p t o r s : Int} {nn : Bool} (hp : 0 ≤ p ∧ p < n) (ho : o < n) : okWs n (sW ws p t o r s nn) := ⟨fun q hq => by
  have e : sW ws p t o r s nn = (ws.set (2 * p.toNat) (nW t o r s nn)).set (2 * p.toNat + 1) (nR t o r s nn) := by
    rw [sW_eq, show (2 * p).toNat = 2 * p.toNat by omega, show (2 * p + 1).toNat = 2 * p.toNat + 1 by omega]
  rw [e, getD_set2 _ _ _ _ _ (by omega), getD_set2 _ _ _ _ _ (by omega)]
  by_cases hqp : q = p.toNat
  · subst hqp
    rw [if_pos rfl, if_neg (by omega), if_pos rfl]
    refine ⟨okD_enc _ _ _ _ _, ?_⟩
    rw [dO_enc]
    unfold zB
    split <;> omega
  · rw [if_neg (by omega), if_neg (by omega), if_neg (by omega), if_neg (by omega)]
    exact h.out q hq⟩
theorem okWs.zero (n : Nat) (hn : 0 < n) : okWs n (List.replicate (2 * n) 0) := ⟨fun p hp => by
  have e : ∀ j, (List.replicate (2 * n) (0 : Int)).getD j 0 = 0 := fun j => by
    rw [List.getD_eq_getElem?_getD, List.getElem?_replicate]; split <;> rfl
  rw [e, e, dO_eq]
  have : okD 0 0 = true := by decide
  rw [this]
  refine ⟨rfl, ?_⟩
  simp [zB]
  omega⟩
noncomputable def pt_Pi : List (Nat × (List SV → Option (List Prop × SV))) := [(118, c_DecodeH)]
theorem pt_Pi_ok : PureOK Try.prog (fun f => List.lookup f pt_Pi) := pure_list pt_Pi ⟨c_DecodeH_e, trivial⟩
noncomputable def et_Pi : List (Nat × ECon) := [(117, c_SecureM), (77, c_dbPages), (110, c_dbHas)]
theorem et_Pi_ok : ConOK Try.prog (fun f => List.lookup f et_Pi) := con_list et_Pi ⟨c_SecureM_e, c_dbPages_e, c_dbHas_e, trivial⟩
noncomputable abbrev cx_Pi (must : Nat → Option Bool := fun _ => none) (loop : Nat → SS → Option LoopSpec := fun _ _ => none) : Ctx := ⟨tab, inlG tab (fun f => List.lookup f pt_Pi) (fun f => List.lookup f et_Pi) fns (fun _ => {}) 1000 6, fun f => List.lookup f pt_Pi, must, loop, 0, 0, fun f => List.lookup f et_Pi⟩
theorem cx_Pi_ok (must : Nat → Option Bool) (loop : Nat → SS → Option LoopSpec) : CxOK Try.prog (cx_Pi must loop) := inlG_ok mixed tab_ok pt_Pi_ok et_Pi_ok fns_ok 6 _ _ _ _
theorem Load1_ok (v : Value) (xs : List Int) (ps qs : List (List Int)) (m : Int) (h0 : xs.length = 1 + 2 * ps.length) (h1 : (0 ≤ xs.getD 0 0 ∧ xs.getD 0 0 ≤ 64)) (h2 : okWs ps.length (xs.drop 1)) (h3 : wfD (2 * ps.length) (2 * ps.length) (xs.getD 0 0) ps qs m (xs.drop 1)) (h4 : (∀ x ∈ xs, InK .u32 x)) : SemCall Try.prog 55 [.ptr 0 0, .rd .u32 v xs] [some ⟨181, [], 0, some (.own (.mem ps qs m))⟩] (AltK [⟨none, .tup [.ptr 1 0, .int .i64 0], [some ⟨181, [], 0, some (.own (.mem ps qs m))⟩, some ⟨205, [.ptr 0 0, .int .i64 (xs.getD 0 0), .on 2 (2 * ps.length) false], 0, none⟩, some ⟨34, [.ints .u32 (2 * ps.length) (xs.drop 1)], 1, none⟩]⟩]) := by
  refine con_intro mixed (cx_Pi_ok (fun _ => none) (fun q s => bif Nat.beq q 6 then some ⟨Nat, fun k => ⟨[(6, .ptr 1 0), (46, .int .i64 (ps.length : Nat)), (47, .int .i64 (k : Int))], [some ⟨181, [], 0, some (.own (.mem ps qs m))⟩, some ⟨205, [.ptr 0 0, .int .i64 (xs.getD 0 0), .on 2 (2 * ps.length) false], 0, none⟩, some ⟨34, [.ints .u32 (2 * ps.length) (xs.drop 1)], 1, none⟩]⟩, fun k => k ≤ ps.length, fun k => ps.length - k⟩ else none)) Try.func55 1000 ?_
  refine of_nf (p := letI k2_ := ((xs.length : Nat) : Int); letI k0_ := (k2_ - (1 : Int)); letI k1_ := (List.take k0_.toNat (List.take k0_.toNat (List.drop (1 : Nat) xs))); letI k3_ := (true && ((2 : Nat) * ps.length).beq ((2 : Nat) * ps.length)); letI k4_ := ((((2 : Nat) * ps.length) : Nat) : Int); letI k5_ := ((ps.length : Nat) : Int); ∀ (m_1 : Int), m_1 = k5_ → ∀ (ps' : List (List Int)), ps' = ps → ∀ (qs' : List (List Int)), qs' = qs → ∀ (m' : Int), m' = m → ((-9223372036854775808 : Int) ≤ (2 : Int) * m_1 ∧ (2 : Int) * m_1 < (9223372036854775808 : Int)) ∧ ((-9223372036854775808 : Int) ≤ (1 : Int) + (2 : Int) * m_1 ∧ (1 : Int) + (2 : Int) * m_1 < (9223372036854775808 : Int)) ∧ ((k2_ != (1 : Int) + (2 : Int) * m_1) = true → ((SV.val (Value.pointer none) = SV.ptr (1 : Nat) (0 : Nat) ∧ (110 : Int) = (0 : Int) ∧ True) ∧ True) ∧ (Ob.own (OT.mem ps' qs' m') = Ob.own (OT.mem ps qs m) ∧ nat_lit 180 + (1 : Nat) = (181 : TypeId) ∧ (0 : Nat) = (0 : Nat) ∧ True) ∧ False) ∧ ((k2_ != (1 : Int) + (2 : Int) * m_1) = false → (0 : Int) ≤ (0 : Int) ∧ (0 : Int) < k2_ ∧ (decide ((64 : Int) < xs.getD (0 : Nat) (0 : Int)) = true → ((SV.val (Value.pointer none) = SV.ptr (1 : Nat) (0 : Nat) ∧ (110 : Int) = (0 : Int) ∧ True) ∧ True) ∧ (Ob.own (OT.mem ps' qs' m') = Ob.own (OT.mem ps qs m) ∧ nat_lit 180 + (1 : Nat) = (181 : TypeId) ∧ (0 : Nat) = (0 : Nat) ∧ True) ∧ False) ∧ (decide ((64 : Int) < xs.getD (0 : Nat) (0 : Int)) = false → (0 : Int) ≤ (0 : Int) ∧ (0 : Int) < k2_ ∧ ((0 : Int) ≤ xs.getD (0 : Nat) (0 : Int) ∧ xs.getD (0 : Nat) (0 : Int) < (4294967296 : Int)) ∧ ((-9223372036854775808 : Int) ≤ k2_ - (1 : Int) ∧ k2_ - (1 : Int) < (9223372036854775808 : Int)) ∧ (0 : Int) ≤ k2_ - (1 : Int) ∧ k2_ - (1 : Int) ≤ k2_ - (1 : Int) ∧ k2_ - (1 : Int) ≤ (68719476736 : Int) ∧ (0 : Int) ≤ (1 : Int) ∧ (1 : Int) ≤ k2_ ∧ k2_ ≤ k2_ ∧ k1_.length ≤ k0_.toNat ∧ (List.replicate k0_.toNat (0 : Int)).length = k0_.toNat ∧ (0 : Nat) + k1_.length ≤ k0_.toNat ∧ wfD k0_.toNat k0_.toNat (xs.getD (0 : Nat) (0 : Int)) ps' qs' m' (k1_.append (List.drop ((0 : Nat) + k1_.length) (List.replicate k0_.toNat (0 : Int)))) ∧ ∀ (m_2 : Int), m_2 = ((ps'.length : Nat) : Int) → ∀ (ps'_1 : List (List Int)), ps'_1 = ps' → ∀ (qs'_1 : List (List Int)), qs'_1 = qs' → ∀ (m'_1 : Int), m'_1 = m' → ∀ (ys : List Int), ys = k1_.append (List.drop ((0 : Nat) + k1_.length) (List.replicate k0_.toNat (0 : Int))) → ∀ (m_3 : Int), m_3 = xs.getD (0 : Nat) (0 : Int) → ∃ (x : Nat), ((SV.ptr (1 : Nat) (0 : Nat) = SV.ptr (1 : Nat) (0 : Nat) ∧ m_2 = k5_ ∧ (0 : Int) = ((x : Nat) : Int) ∧ True) ∧ (Ob.own (OT.mem ps'_1 qs'_1 m'_1) = Ob.own (OT.mem ps qs m) ∧ nat_lit 180 + (1 : Nat) = (181 : TypeId) ∧ (0 : Nat) = (0 : Nat) ∧ True) ∧ (nat_lit 204 + (1 : Nat) = (205 : TypeId) ∧ (0 : Nat) = (0 : Nat) ∧ SV.ptr (nat_lit 0) (0 : Nat) = SV.ptr (0 : Nat) (0 : Nat) ∧ m_3 = xs.getD (0 : Nat) (0 : Int) ∧ (k0_.toNat = (2 : Nat) * ps.length ∧ false = false) ∧ True) ∧ (nat_lit 33 + (1 : Nat) = (34 : TypeId) ∧ nat_lit 0 + (1 : Nat) = (1 : Nat) ∧ @Bool.rec (fun _ => Prop) False (ys = List.drop (1 : Nat) xs) (true && k0_.toNat.beq ((2 : Nat) * ps.length)) ∧ True) ∧ True) ∧ x.le ps.length ∧ ∀ (x : Nat), x.le ps.length → (decide (((x : Nat) : Int) < k5_) = true → ((-9223372036854775808 : Int) ≤ (2 : Int) * ((x : Nat) : Int) ∧ (2 : Int) * ((x : Nat) : Int) < (9223372036854775808 : Int)) ∧ (0 : Int) ≤ (2 : Int) * ((x : Nat) : Int) ∧ (2 : Int) * ((x : Nat) : Int) ≤ k4_ ∧ k4_ ≤ ((((2 : Nat) * ps.length + (0 : Nat)) : Nat) : Int) ∧ (2 : Nat) ≤ (k4_ - (2 : Int) * ((x : Nat) : Int)).toNat ∧ ((2 : Int) * ((x : Nat) : Int)).toNat + (k4_ - (2 : Int) * ((x : Nat) : Int)).toNat ≤ (2 : Nat) * ps.length + (0 : Nat) ∧ (0 : Int) ≤ ((((2 : Int) * ((x : Nat) : Int)).toNat : Nat) : Int) ∧ ((((2 : Int) * ((x : Nat) : Int)).toNat : Nat) : Int) + (2 : Int) ≤ k4_ ∧ (List.drop (1 : Nat) xs).length = (2 : Nat) * ps.length ∧ ((0 : Int) ≤ (List.take (2 : Nat) (List.drop (((((2 : Int) * ((x : Nat) : Int)).toNat : Nat) : Int)).toNat (List.drop (1 : Nat) xs))).getD (nat_lit 0) (0 : Int) ∧ (List.take (2 : Nat) (List.drop (((((2 : Int) * ((x : Nat) : Int)).toNat : Nat) : Int)).toNat (List.drop (1 : Nat) xs))).getD (nat_lit 0) (0 : Int) < (4294967296 : Int)) ∧ ((0 : Int) ≤ (List.take (2 : Nat) (List.drop (((((2 : Int) * ((x : Nat) : Int)).toNat : Nat) : Int)).toNat (List.drop (1 : Nat) xs))).getD (nat_lit 1) (0 : Int) ∧ (List.take (2 : Nat) (List.drop (((((2 : Int) * ((x : Nat) : Int)).toNat : Nat) : Int)).toNat (List.drop (1 : Nat) xs))).getD (nat_lit 1) (0 : Int) < (4294967296 : Int)) ∧ ((dE ((List.take (2 : Nat) (List.drop (((((2 : Int) * ((x : Nat) : Int)).toNat : Nat) : Int)).toNat (List.drop (1 : Nat) xs))).getD (nat_lit 0) (0 : Int)) ((List.take (2 : Nat) (List.drop (((((2 : Int) * ((x : Nat) : Int)).toNat : Nat) : Int)).toNat (List.drop (1 : Nat) xs))).getD (nat_lit 1) (0 : Int)) != (0 : Int)) = true → ((SV.val (Value.pointer none) = SV.ptr (1 : Nat) (0 : Nat) ∧ (110 : Int) = (0 : Int) ∧ True) ∧ True) ∧ (Ob.own (OT.mem ps qs m) = Ob.own (OT.mem ps qs m) ∧ nat_lit 180 + (1 : Nat) = (181 : TypeId) ∧ (0 : Nat) = (0 : Nat) ∧ True) ∧ (nat_lit 204 + (1 : Nat) = (205 : TypeId) ∧ (0 : Nat) = (0 : Nat) ∧ SV.ptr (0 : Nat) (0 : Nat) = SV.ptr (0 : Nat) (0 : Nat) ∧ xs.getD (0 : Nat) (0 : Int) = xs.getD (0 : Nat) (0 : Int) ∧ ((2 : Nat) * ps.length = (2 : Nat) * ps.length ∧ false = false) ∧ True) ∧ (nat_lit 33 + (1 : Nat) = (34 : TypeId) ∧ nat_lit 0 + (1 : Nat) = (1 : Nat) ∧ @Bool.rec (fun _ => Prop) False (List.drop (1 : Nat) xs = List.drop (1 : Nat) xs) k3_ ∧ True) ∧ True) ∧ ((dE ((List.take (2 : Nat) (List.drop (((((2 : Int) * ((x : Nat) : Int)).toNat : Nat) : Int)).toNat (List.drop (1 : Nat) xs))).getD (nat_lit 0) (0 : Int)) ((List.take (2 : Nat) (List.drop (((((2 : Int) * ((x : Nat) : Int)).toNat : Nat) : Int)).toNat (List.drop (1 : Nat) xs))).getD (nat_lit 1) (0 : Int)) != (0 : Int)) = false → wfD ((2 : Nat) * ps.length) ((2 : Nat) * ps.length) (xs.getD (0 : Nat) (0 : Int)) ps qs m (List.drop (1 : Nat) xs) ∧ ∀ (c : Bool), c = hs ps (dO ((List.take (2 : Nat) (List.drop (((((2 : Int) * ((x : Nat) : Int)).toNat : Nat) : Int)).toNat (List.drop (1 : Nat) xs))).getD (nat_lit 0) (0 : Int)) ((List.take (2 : Nat) (List.drop (((((2 : Int) * ((x : Nat) : Int)).toNat : Nat) : Int)).toNat (List.drop (1 : Nat) xs))).getD (nat_lit 1) (0 : Int))) → ∀ (ps' : List (List Int)), ps' = ps → ∀ (qs' : List (List Int)), qs' = qs → ∀ (m' : Int), m' = m → ∀ (m_4 : Int), m_4 = xs.getD (0 : Nat) (0 : Int) → ∀ (ys : List Int), ys = List.drop (1 : Nat) xs → ∀ (m_5 : Int), m_5 = dT ((List.take (2 : Nat) (List.drop (((((2 : Int) * ((x : Nat) : Int)).toNat : Nat) : Int)).toNat (List.drop (1 : Nat) xs))).getD (nat_lit 0) (0 : Int)) ((List.take (2 : Nat) (List.drop (((((2 : Int) * ((x : Nat) : Int)).toNat : Nat) : Int)).toNat (List.drop (1 : Nat) xs))).getD (nat_lit 1) (0 : Int)) → ∀ (m_6 : Int), m_6 = dO ((List.take (2 : Nat) (List.drop (((((2 : Int) * ((x : Nat) : Int)).toNat : Nat) : Int)).toNat (List.drop (1 : Nat) xs))).getD (nat_lit 0) (0 : Int)) ((List.take (2 : Nat) (List.drop (((((2 : Int) * ((x : Nat) : Int)).toNat : Nat) : Int)).toNat (List.drop (1 : Nat) xs))).getD (nat_lit 1) (0 : Int)) → ∀ (m_7 : Int), m_7 = dR ((List.take (2 : Nat) (List.drop (((((2 : Int) * ((x : Nat) : Int)).toNat : Nat) : Int)).toNat (List.drop (1 : Nat) xs))).getD (nat_lit 0) (0 : Int)) ((List.take (2 : Nat) (List.drop (((((2 : Int) * ((x : Nat) : Int)).toNat : Nat) : Int)).toNat (List.drop (1 : Nat) xs))).getD (nat_lit 1) (0 : Int)) → ∀ (m_8 : Int), m_8 = dS ((List.take (2 : Nat) (List.drop (((((2 : Int) * ((x : Nat) : Int)).toNat : Nat) : Int)).toNat (List.drop (1 : Nat) xs))).getD (nat_lit 0) (0 : Int)) ((List.take (2 : Nat) (List.drop (((((2 : Int) * ((x : Nat) : Int)).toNat : Nat) : Int)).toNat (List.drop (1 : Nat) xs))).getD (nat_lit 1) (0 : Int)) → ∀ (c_1 : Bool), c_1 = dN ((List.take (2 : Nat) (List.drop (((((2 : Int) * ((x : Nat) : Int)).toNat : Nat) : Int)).toNat (List.drop (1 : Nat) xs))).getD (nat_lit 0) (0 : Int)) ((List.take (2 : Nat) (List.drop (((((2 : Int) * ((x : Nat) : Int)).toNat : Nat) : Int)).toNat (List.drop (1 : Nat) xs))).getD (nat_lit 1) (0 : Int)) → ((!c) = true → ((SV.val (Value.pointer none) = SV.ptr (1 : Nat) (0 : Nat) ∧ (110 : Int) = (0 : Int) ∧ True) ∧ True) ∧ (Ob.own (OT.mem ps' qs' m') = Ob.own (OT.mem ps qs m) ∧ nat_lit 180 + (1 : Nat) = (181 : TypeId) ∧ (0 : Nat) = (0 : Nat) ∧ True) ∧ (nat_lit 204 + (1 : Nat) = (205 : TypeId) ∧ (0 : Nat) = (0 : Nat) ∧ SV.ptr (0 : Nat) (0 : Nat) = SV.ptr (0 : Nat) (0 : Nat) ∧ m_4 = xs.getD (0 : Nat) (0 : Int) ∧ ((2 : Nat) * ps.length = (2 : Nat) * ps.length ∧ false = false) ∧ True) ∧ (nat_lit 33 + (1 : Nat) = (34 : TypeId) ∧ nat_lit 0 + (1 : Nat) = (1 : Nat) ∧ @Bool.rec (fun _ => Prop) False (ys = List.drop (1 : Nat) xs) k3_ ∧ True) ∧ True) ∧ ((!c) = false → ((-9223372036854775808 : Int) ≤ ((x : Nat) : Int) + (1 : Int) ∧ ((x : Nat) : Int) + (1 : Int) < (9223372036854775808 : Int)) ∧ ∃ (y : Nat), ((SV.ptr (1 : Nat) (0 : Nat) = SV.ptr (1 : Nat) (0 : Nat) ∧ k5_ = k5_ ∧ ((x : Nat) : Int) + (1 : Int) = ((y : Nat) : Int) ∧ True) ∧ (Ob.own (OT.mem ps' qs' m') = Ob.own (OT.mem ps qs m) ∧ nat_lit 180 + (1 : Nat) = (181 : TypeId) ∧ (0 : Nat) = (0 : Nat) ∧ True) ∧ (nat_lit 204 + (1 : Nat) = (205 : TypeId) ∧ (0 : Nat) = (0 : Nat) ∧ SV.ptr (0 : Nat) (0 : Nat) = SV.ptr (0 : Nat) (0 : Nat) ∧ m_4 = xs.getD (0 : Nat) (0 : Int) ∧ ((2 : Nat) * ps.length = (2 : Nat) * ps.length ∧ false = false) ∧ True) ∧ (nat_lit 33 + (1 : Nat) = (34 : TypeId) ∧ nat_lit 0 + (1 : Nat) = (1 : Nat) ∧ @Bool.rec (fun _ => Prop) False (ys = List.drop (1 : Nat) xs) k3_ ∧ True) ∧ True) ∧ y.le ps.length ∧ ps.length - y < ps.length - x))) ∧ (decide (((x : Nat) : Int) < k5_) = false → ((SV.ptr (1 : Nat) (0 : Nat) = SV.ptr (1 : Nat) (0 : Nat) ∧ (0 : Int) = (0 : Int) ∧ True) ∧ True) ∧ (Ob.own (OT.mem ps qs m) = Ob.own (OT.mem ps qs m) ∧ (181 : TypeId) = (181 : TypeId) ∧ (0 : Nat) = (0 : Nat) ∧ True) ∧ ((205 : TypeId) = (205 : TypeId) ∧ (0 : Nat) = (0 : Nat) ∧ SV.ptr (0 : Nat) (0 : Nat) = SV.ptr (0 : Nat) (0 : Nat) ∧ xs.getD (0 : Nat) (0 : Int) = xs.getD (0 : Nat) (0 : Int) ∧ ((2 : Nat) * ps.length = (2 : Nat) * ps.length ∧ false = false) ∧ True) ∧ ((34 : TypeId) = (34 : TypeId) ∧ (1 : Nat) = (1 : Nat) ∧ @Bool.rec (fun _ => Prop) False (List.drop (1 : Nat) xs = List.drop (1 : Nat) xs) k3_ ∧ True) ∧ True)))) (by kernel_rfl) ?_
  have H := h3
  obtain ⟨l1, l2, l3, n1, n2, q1, q2, w1, b0, b1, p1, p2, m0, m1⟩ := h3
  have hx : (((xs.length : Int) != 1 + 2 * (ps.length : Int)) : Bool) = false := by simp; omega
  have hb : decide (64 < xs.getD 0 0) = false := decide_eq_false (by omega)
  have f1 : ((xs.length : Int) - 1).toNat = 2 * ps.length := by omega
  have f2 : List.take (2 * ps.length) (List.drop 1 xs) = List.drop 1 xs := List.take_of_length_le (by omega)
  have f3 : List.drop (0 + (List.drop 1 xs).length) (List.replicate (2 * ps.length) (0 : Int)) = [] := List.drop_eq_nil_of_le (by simp; omega)
  have f8 : (List.replicate (2 * ps.length) (0 : Int)).length = 2 * ps.length := by simp
  have happ : ∀ a b : List Int, a.append b = a ++ b := fun _ _ => rfl
  simp only [↓forall_eq, hx, hb, f1, f2, f3, f8, happ, List.append_nil, Bool.false_eq_true, false_implies, true_and, true_implies]
  repeat' (first | with_reducible rfl | exact True.intro | with_reducible assumption | exact OwnSame.mk fun _ => rfl | exact OwnSameE.mk fun _ => rfl | apply And.intro | apply pieceEq | intro _)
  all_goals try omega
  refine ⟨0, ?_, Nat.zero_le _, fun x hx2 => ⟨fun h => ?_, fun h => ?_⟩⟩
  · repeat' (first | with_reducible rfl | exact True.intro | with_reducible assumption | exact OwnSame.mk fun _ => rfl | exact OwnSameE.mk fun _ => rfl | apply And.intro | apply pieceEq | intro _)
    all_goals first | omega | rfl | (simp; done) | trace_state
  · have h := of_decide_eq_true h
    have hx2 : x ≤ ps.length := hx2
    obtain ⟨o1, o2⟩ := h2.out x (by omega)
    have f4 : (2 * (x : Int)).toNat = 2 * x := by omega
    have g0 : (List.take 2 (List.drop (2 * x) (List.drop 1 xs))).getD 0 0 = (List.drop 1 xs).getD (2 * x) 0 := by
      rw [List.getD_eq_getElem?_getD, List.getElem?_take_of_lt (by omega), List.getElem?_drop, Nat.add_zero, ← List.getD_eq_getElem?_getD]
    have g1 : (List.take 2 (List.drop (2 * x) (List.drop 1 xs))).getD 1 0 = (List.drop 1 xs).getD (2 * x + 1) 0 := by
      rw [List.getD_eq_getElem?_getD, List.getElem?_take_of_lt (by omega), List.getElem?_drop, ← List.getD_eq_getElem?_getD]
    have i0 := getD_in w1 (2 * x)
    have i1 := getD_in w1 (2 * x + 1)
    simp only [InK] at i0 i1
    have hE : (dE ((List.drop 1 xs).getD (2 * x) 0) ((List.drop 1 xs).getD (2 * x + 1) 0) != 0) = false := by rw [dE_eq, o1]; rfl
    have hO : hs ps (dO ((List.drop 1 xs).getD (2 * x) 0) ((List.drop 1 xs).getD (2 * x + 1) 0)) = true := by
      have : 0 ≤ dO ((List.drop 1 xs).getD (2 * x) 0) ((List.drop 1 xs).getD (2 * x + 1) 0) := by rw [dO_eq]; unfold zB; split <;> omega
      unfold hs
      simp only [Bool.and_eq_true, decide_eq_true_eq]
      omega
    simp only [↓forall_eq, f4, Int.toNat_natCast, g0, g1, hE, hO, Bool.not_true, Bool.false_eq_true, false_implies, true_and, true_implies]
    repeat' (first | with_reducible rfl | exact True.intro | with_reducible assumption | apply And.intro | apply pieceEq | refine Exists.intro (x + 1) ?_ | intro _)
    all_goals first | omega | rfl | (show x + 1 ≤ ps.length; omega) | (simp; done) | trace_state
  · repeat' (first | with_reducible rfl | exact True.intro | with_reducible assumption | exact OwnSame.mk fun _ => rfl | exact OwnSameE.mk fun _ => rfl | apply And.intro | apply pieceEq | intro _)
    all_goals first | omega | rfl | (simp; done) | trace_state
noncomputable def c_Load1 : ECon
  | [.ptr 0 0, .rd .u32 v xs], [some ⟨181, [], 0, some (.own (.mem ps qs m))⟩] => some ([xs.length = 1 + 2 * ps.length, (0 ≤ xs.getD 0 0 ∧ xs.getD 0 0 ≤ 64), okWs ps.length (xs.drop 1), wfD (2 * ps.length) (2 * ps.length) (xs.getD 0 0) ps qs m (xs.drop 1), (∀ x ∈ xs, InK .u32 x)], [⟨none, .tup [.ptr 1 0, .int .i64 0], [some ⟨181, [], 0, some (.own (.mem ps qs m))⟩, some ⟨205, [.ptr 0 0, .int .i64 (xs.getD 0 0), .on 2 (2 * ps.length) false], 0, none⟩, some ⟨34, [.ints .u32 (2 * ps.length) (xs.drop 1)], 1, none⟩]⟩])
  | _, _ => none
theorem c_Load1_e : EEntry Try.prog 55 c_Load1 := by
  refine ⟨callFunc_ok Try.func55 (by kernel_rfl) (by kernel_rfl), fun args rows ps alts h hp => ?_⟩
  unfold c_Load1 at h
  split at h
  · cases h; exact Load1_ok _ _ _ _ _ (hp _ (List.mem_of_getElem? (i := 0) rfl)) (hp _ (List.mem_of_getElem? (i := 1) rfl)) (hp _ (List.mem_of_getElem? (i := 2) rfl)) (hp _ (List.mem_of_getElem? (i := 3) rfl)) (hp _ (List.mem_of_getElem? (i := 4) rfl))
  · cases h
end Go.Proofs.Ytlndkfcnfhkbkaa
