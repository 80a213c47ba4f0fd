/- The operations that leave the memory alone do what the executor says. No condition. -/
import Derived.Test.YtmmejomalfjcnaaSxTab
import Derived.Laws.Sem
import Derived.WalkSpells
namespace Go.Proofs.Ytmmejomalfjcnaa
open Go.RowKit
set_option linter.unusedVariables false
set_option linter.unusedSimpArgs false
namespace Sx
variable {P : Program} {T : Tab} {W : World} {F : Nat → Prop} {nt : Nat} {ρ : Num} {s : SS} {a : Act} {w : World}

theorem ofConst_ok (ρ : Num) (v : Value) : den ρ (ofConst v) = v := by cases v <;> rfl
theorem ofConst_okd (n : Nat) (v : Value) : okd W F n (ofConst v) := by cases v <;> trivial
theorem ofConst_top (v : Value) : ofConst v ≠ .top := by cases v <;> exact fun h => by cases h

theorem ev_ok (st : Sat W F nt ρ s a w) {x : Operand} {v : SV} (h : ev s.tm x = some v) : a.eval x = den ρ v ∧ okd W F s.rows.length v ∧ v ≠ .top := by
  cases x with
  | tmp t =>
    simp only [ev] at h
    cases hl : s.tm.lookup t with
    | none => simp [hl] at h
    | some sv =>
      have hne : sv ≠ .top := by rintro rfl; simp [hl] at h
      have hv : sv = v := by
        rw [hl] at h
        cases sv <;> first | exact (Option.some.inj h) | exact absurd rfl hne
      subst hv
      rcases st.tm t sv hl with h1 | ⟨h1, h2⟩
      · exact absurd h1 hne
      · exact ⟨by simp [Act.eval, h1], h2, hne⟩
  | const u =>
    simp [ev] at h; subst h
    exact ⟨by simp [Act.eval, ofConst_ok], ofConst_okd _ _, ofConst_top _⟩
  | global g => simp [ev] at h; subst h; exact ⟨rfl, trivial, fun h => by cases h⟩
  | func f => simp [ev] at h; subst h; exact ⟨by simp [Act.eval, den, denL], ⟨trivial, trivial⟩, fun h => by cases h⟩

theorem evL_ok (st : Sat W F nt ρ s a w) : ∀ {xs : List Operand} {vs : List SV}, evL s.tm xs = some vs → xs.map a.eval = denL ρ vs ∧ okdL W F s.rows.length vs
  | [], vs, h => by simp [evL] at h; subst h; exact ⟨rfl, trivial⟩
  | x :: xs, vs, h => by
    simp only [evL] at h
    cases h1 : ev s.tm x with
    | none => simp [h1] at h
    | some v =>
      cases h2 : evL s.tm xs with
      | none => simp [h1, h2] at h
      | some us =>
        simp [h1, h2] at h; subst h
        obtain ⟨i1, i2, _⟩ := ev_ok st h1
        obtain ⟨j1, j2⟩ := evL_ok st h2
        exact ⟨by simp [denL, i1, j1], i2, j2⟩

theorem evP_ok (st : Sat W F nt ρ s a w) : ∀ {xs : List (Nat × Operand)} {vs : List (Nat × SV)}, evP s.tm xs = some vs → xs.map (fun p => (p.1, a.eval p.2)) = vs.map (fun p => (p.1, den ρ p.2)) ∧ ∀ p ∈ vs, okd W F s.rows.length p.2
  | [], vs, h => by simp [evP] at h; subst h; exact ⟨rfl, fun p hp => by cases hp⟩
  | (i, x) :: xs, vs, h => by
    simp only [evP] at h
    cases h1 : ev s.tm x with
    | none => simp [h1] at h
    | some v =>
      cases h2 : evP s.tm xs with
      | none => simp [h1, h2] at h
      | some us =>
        simp [h1, h2] at h; subst h
        obtain ⟨i1, i2, _⟩ := ev_ok st h1
        obtain ⟨j1, j2⟩ := evP_ok st h2
        refine ⟨by simp [i1, j1], fun p hp => ?_⟩
        rcases List.mem_cons.1 hp with rfl | hp
        · exact i2
        · exact j2 p hp

theorem asI_ok {x : SV} {k : IntKind} {n : Int} {c : Bool} (h : asI x = some (k, n, c)) (ρ : Num) : den ρ x = .int k n := by
  cases x <;> simp [asI] at h <;> obtain ⟨rfl, rfl, rfl⟩ := h <;> rfl
theorem asB_ok {x : SV} {b c : Bool} (h : asB x = some (b, c)) (ρ : Num) : den ρ x = .bool b := by
  cases x <;> simp [asB] at h <;> obtain ⟨rfl, rfl⟩ := h <;> rfl
theorem mkI_den (c : Bool) (k : IntKind) (n : Int) (ρ : Num) : den ρ (mkI c k n) = .int k n := by cases c <;> rfl
theorem mkB_den (c b : Bool) (ρ : Num) : den ρ (mkB c b) = .bool b := by cases c <;> rfl
theorem mkI_okd (c : Bool) (k : IntKind) (n : Int) (m : Nat) : okd W F m (mkI c k n) := by cases c <;> trivial
theorem mkB_okd (c b : Bool) (m : Nat) : okd W F m (mkB c b) := by cases c <;> trivial
theorem mkI_top (c : Bool) (k : IntKind) (n : Int) : mkI c k n ≠ .top := by cases c <;> exact fun h => by cases h
theorem mkB_top (c b : Bool) : mkB c b ≠ .top := by cases c <;> exact fun h => by cases h

theorem wrap_in {k : IntKind} {n : Int} (h : InK k n) : k.wrap n = n := by
  cases k <;> simp only [InK] at h <;> simp [IntKind.wrap, IntKind.bits, IntKind.signed] <;> (try split) <;> omega

/-- What is owed is given. -/
def All (ps : List Prop) : Prop := ∀ p ∈ ps, p

/-- A value that is all right: what the operation yields. -/
def Good (W : World) (F : Nat → Prop) (ρ : Num) (n : Nat) (v : SV) (x : Value) : Prop := x = den ρ v ∧ okd W F n v ∧ v ≠ .top

theorem arith_ok {c : Bool} {k : IntKind} {n : Int} {m : Nat} (hp : All (arith c k n).1) : Good W F ρ m (arith c k n).2 (.int k (k.wrap n)) := by
  cases c with
  | true => exact ⟨rfl, trivial, fun h => by cases h⟩
  | false =>
    cases k
    case i64 =>
      have : InK .i64 n := hp _ (by simp [arith])
      refine ⟨?_, trivial, fun h => by cases h⟩
      simp [arith, den, wrap_in this]
    all_goals exact ⟨rfl, trivial, fun h => by cases h⟩

theorem arith_ok' {c : Bool} {k : IntKind} {n : Int} {m : Nat} {ps : List Prop} {v : SV} (h : arith c k n = (ps, v)) (hp : All ps) : Good W F ρ m v (.int k (k.wrap n)) := by
  have h1 := congrArg Prod.fst h
  have h2 := congrArg Prod.snd h
  subst h1 h2
  exact arith_ok hp

def isBits : BinOp → Bool
  | .and | .or | .xor | .andNot => true
  | _ => false
theorem bits_run {op : BinOp} {k : IntKind} {x y : Int} {t : TypeId} (h : isBits op = true) : (binOp op t (.int k x) (.int k y)).run P w = .ok (.int k (bits op k x y)) w := by
  have e : binOp op t (.int k x) (.int k y) = Op.intBits op k x y := by cases op <;> first | (simp [binOp]; done) | (simp [isBits] at h; done)
  rw [e]
  cases op <;> first | rfl | simp [isBits] at h

theorem binI_ok {op : BinOp} {k : IntKind} {x y : Int} {cx cy : Bool} {ps : List Prop} {v : SV} {m : Nat} {t : TypeId} (h : binI op k x y cx cy = some (ps, v)) (hp : All ps) :
    ∃ u, (binOp op t (.int k x) (.int k y)).run P w = .ok u w ∧ Good W F ρ m v u := by
  cases op <;> simp only [binI, Option.some.injEq, reduceCtorEq] at h
  case add => exact ⟨.int k (k.wrap (x + y)), by simp [binOp, Op.intArith], arith_ok' h hp⟩
  case sub => exact ⟨.int k (k.wrap (x - y)), by simp [binOp, Op.intArith], arith_ok' h hp⟩
  case mul => exact ⟨.int k (k.wrap (x * y)), by simp [binOp, Op.intArith], arith_ok' h hp⟩
  case quo =>
    have uns : 0 < y → InK k x → k.signed = false → ∃ u, (binOp .quo t (.int k x) (.int k y)).run P w = .ok u w ∧ Good W F ρ m (.int k (x / y)) u := by
      intro h1 hk hs
      have h3 : y ≠ 0 := by omega
      have h0 : 0 ≤ x := by cases k <;> simp [IntKind.signed] at hs <;> exact hk.1
      have h4 : x / y ≤ x := Int.ediv_le_self y h0
      have h5 : 0 ≤ x / y := Int.ediv_nonneg h0 (by omega)
      have h2 : InK k (x / y) := by cases k <;> simp [IntKind.signed] at hs <;> simp only [InK] at hk ⊢ <;> omega
      exact ⟨.int k (k.wrap (x.tdiv y)), by simp [binOp, Op.intDiv, h3], by simp [den, Int.tdiv_eq_ediv_of_nonneg h0, wrap_in h2], trivial, fun h => by cases h⟩
    have sig : y ≠ 0 → InK k (x.tdiv y) → ∃ u, (binOp .quo t (.int k x) (.int k y)).run P w = .ok u w ∧ Good W F ρ m (.int k (x.tdiv y)) u := fun h0 h1 =>
      ⟨.int k (k.wrap (x.tdiv y)), by simp [binOp, Op.intDiv, h0], by simp [den, wrap_in h1], trivial, fun h => by cases h⟩
    cases hc : (cx && cy) with
    | true =>
      simp only [hc, cond_true] at h
      rcases cond_some h with ⟨e, h⟩ | ⟨e, h⟩
      · cases h
        have h0 : y ≠ 0 := by simpa using e
        exact ⟨.int k (k.wrap (x.tdiv y)), by simp [binOp, Op.intDiv, h0], by simp [den], trivial, fun h => by cases h⟩
      · cases h
    | false =>
      simp only [hc, cond_false] at h
      cases hy : cy with
      | true =>
        simp only [hy, cond_true] at h
        cases hs : k.signed with
        | true =>
          simp only [hs, cond_true] at h
          rcases cond_some h with ⟨e, h⟩ | ⟨e, h⟩
          · cases h; exact sig (by simpa using e) (hp _ (by simp))
          · cases h
        | false =>
          simp only [hs, cond_false] at h
          rcases cond_some h with ⟨e, h⟩ | ⟨e, h⟩
          · cases h; exact uns (by simpa using e) (hp (InK k x) (by simp)) hs
          · cases h
      | false =>
        simp only [hy, cond_false] at h
        cases hs : k.signed with
        | true => simp only [hs, cond_true] at h; cases h; exact sig (hp _ (by simp)) (hp (InK k (x.tdiv y)) (by simp))
        | false => simp only [hs, cond_false] at h; cases h; exact uns (hp (0 < y) (by simp)) (hp (InK k x) (by simp)) hs
  case rem =>
    have uns : 0 < y → 0 ≤ x → ∃ u, (binOp .rem t (.int k x) (.int k y)).run P w = .ok u w ∧ Good W F ρ m (.int k (x % y)) u := by
      intro h1 h0
      have h3 : y ≠ 0 := by omega
      exact ⟨.int k (x.tmod y), by simp [binOp, Op.intDiv, h3], by simp [den, Int.tmod_eq_emod_of_nonneg h0], trivial, fun h => by cases h⟩
    have sig : y ≠ 0 → ∃ u, (binOp .rem t (.int k x) (.int k y)).run P w = .ok u w ∧ Good W F ρ m (.int k (x.tmod y)) u := fun h0 =>
      ⟨.int k (x.tmod y), by simp [binOp, Op.intDiv, h0], by simp [den], trivial, fun h => by cases h⟩
    cases hc : (cx && cy) with
    | true =>
      simp only [hc, cond_true] at h
      rcases cond_some h with ⟨e, h⟩ | ⟨e, h⟩
      · cases h
        have h0 : y ≠ 0 := by simpa using e
        exact ⟨.int k (x.tmod y), by simp [binOp, Op.intDiv, h0], by simp [den], trivial, fun h => by cases h⟩
      · cases h
    | false =>
      simp only [hc, cond_false] at h
      cases hy : cy with
      | true =>
        simp only [hy, cond_true] at h
        cases hs : k.signed with
        | true =>
          simp only [hs, cond_true] at h
          rcases cond_some h with ⟨e, h⟩ | ⟨e, h⟩
          · cases h; exact sig (by simpa using e)
          · cases h
        | false =>
          simp only [hs, cond_false] at h
          rcases cond_some h with ⟨e, h⟩ | ⟨e, h⟩
          · cases h; exact uns (by simpa using e) (hp (0 ≤ x) (by simp))
          · cases h
      | false =>
        simp only [hy, cond_false] at h
        cases hs : k.signed with
        | true => simp only [hs, cond_true] at h; cases h; exact sig (hp _ (by simp))
        | false => simp only [hs, cond_false] at h; cases h; exact uns (hp (0 < y) (by simp)) (hp (0 ≤ x) (by simp))
  case and => obtain ⟨rfl, rfl⟩ := Prod.mk.inj h; exact ⟨_, bits_run rfl, by rw [mkI_den], mkI_okd .., mkI_top _ _ _⟩
  case or => obtain ⟨rfl, rfl⟩ := Prod.mk.inj h; exact ⟨_, bits_run rfl, by rw [mkI_den], mkI_okd .., mkI_top _ _ _⟩
  case xor => obtain ⟨rfl, rfl⟩ := Prod.mk.inj h; exact ⟨_, bits_run rfl, by rw [mkI_den], mkI_okd .., mkI_top _ _ _⟩
  case andNot => obtain ⟨rfl, rfl⟩ := Prod.mk.inj h; exact ⟨_, bits_run rfl, by rw [mkI_den], mkI_okd .., mkI_top _ _ _⟩
  case eql => obtain ⟨rfl, rfl⟩ := Prod.mk.inj h; exact ⟨_, by simp [binOp, Op.intCmp]; rfl, by rw [mkB_den], mkB_okd .., mkB_top _ _⟩
  case neq => obtain ⟨rfl, rfl⟩ := Prod.mk.inj h; exact ⟨_, by simp [binOp, Op.intCmp]; rfl, by rw [mkB_den], mkB_okd .., mkB_top _ _⟩
  case lss => obtain ⟨rfl, rfl⟩ := Prod.mk.inj h; exact ⟨_, by simp [binOp, Op.intCmp]; rfl, by rw [mkB_den], mkB_okd .., mkB_top _ _⟩
  case leq => obtain ⟨rfl, rfl⟩ := Prod.mk.inj h; exact ⟨_, by simp [binOp, Op.intCmp]; rfl, by rw [mkB_den], mkB_okd .., mkB_top _ _⟩
  case gtr => obtain ⟨rfl, rfl⟩ := Prod.mk.inj h; exact ⟨_, by simp [binOp, Op.intCmp]; rfl, by rw [mkB_den], mkB_okd .., mkB_top _ _⟩
  case geq => obtain ⟨rfl, rfl⟩ := Prod.mk.inj h; exact ⟨_, by simp [binOp, Op.intCmp]; rfl, by rw [mkB_den], mkB_okd .., mkB_top _ _⟩

theorem fdiv_pow (x : Int) (n : Nat) : x.fdiv (2 ^ n) = x / 2 ^ n := by
  rw [Int.fdiv_eq_ediv_of_nonneg]
  exact Int.le_of_lt (Int.pow_pos (by decide))

theorem shiftI_ok {op : BinOp} {k k' : IntKind} {x y : Int} {cx cy : Bool} {ps : List Prop} {v : SV} {m : Nat} {t : TypeId} (h : shiftI op k x y cx cy = some (ps, v)) (hp : All ps) :
    ∃ u, (binOp op t (.int k x) (.int k' y)).run P w = .ok u w ∧ Good W F ρ m v u := by
  cases op <;> simp only [shiftI, Option.some.injEq, reduceCtorEq] at h
  case shl =>
    cases cy with
    | true =>
      simp only [cond_true] at h
      obtain ⟨h1, h2⟩ := Prod.mk.inj h
      by_cases h0 : 0 ≤ y
      · have h3 : ¬ y < 0 := by omega
        simp [h0] at h1
        exact ⟨.int k (k.wrap (x * 2 ^ (Nat.min y.toNat k.bits))), by simp [binOp, Op.shift, h3], by rw [← h2]; exact arith_ok (by rw [h1]; exact hp)⟩
      · simp [h0] at h1
        subst h1
        exact absurd (hp _ (by simp)) id
    | false =>
      simp only [cond_false] at h
      obtain ⟨h1, h2⟩ := Prod.mk.inj h
      subst h1
      have h0 : 0 ≤ y := hp _ (by simp)
      have h3 : ¬ y < 0 := by omega
      exact ⟨.int k (k.wrap (x * 2 ^ (Nat.min y.toNat k.bits))), by simp [binOp, Op.shift, h3], by rw [← h2]; exact arith_ok (fun p hq => hp p (by simp [hq]))⟩
  case shr =>
    cases cy with
    | true =>
      simp only [cond_true] at h
      obtain ⟨h1, h2⟩ := Prod.mk.inj h
      by_cases h0 : 0 ≤ y
      · have h3 : ¬ y < 0 := by omega
        exact ⟨.int k (x / 2 ^ (Nat.min y.toNat k.bits)), by simp [binOp, Op.shift, h3, fdiv_pow], by rw [← h2, mkI_den], by rw [← h2]; exact mkI_okd .., by rw [← h2]; exact mkI_top _ _ _⟩
      · simp [h0] at h1
        subst h1
        exact absurd (hp _ (by simp)) id
    | false =>
      simp only [cond_false] at h
      obtain ⟨h1, h2⟩ := Prod.mk.inj h
      subst h1
      have h0 : 0 ≤ y := hp _ (by simp)
      have h3 : ¬ y < 0 := by omega
      exact ⟨.int k (x / 2 ^ (Nat.min y.toNat k.bits)), by simp [binOp, Op.shift, h3, fdiv_pow], by rw [← h2]; rfl, by rw [← h2]; trivial, by rw [← h2]; exact fun h => by cases h⟩
end Sx
end Go.Proofs.Ytmmejomalfjcnaa
