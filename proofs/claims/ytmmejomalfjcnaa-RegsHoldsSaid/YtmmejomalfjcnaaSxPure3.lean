/- The operations that leave the memory alone do what the executor says: loads, addresses, conversions. No condition. -/
import Derived.Test.YtmmejomalfjcnaaSxPure2
namespace Go.Proofs.Ytmmejomalfjcnaa
open Go.RowKit
set_option linter.unusedVariables false
set_option linter.unusedSimpArgs false
namespace Sx
variable {P : Program} {T : Tab} {W : World} {F : Nat → Prop} {nt : Nat} {ρ : Num} {s : SS} {a : Act} {w : World}

theorem run_eqGuard (op : BinOp) (t : TypeId) (x y : Operand) (u v : Value) (hn : u ≠ .nilIface ∨ v ≠ .nilIface) (ha : (∃ c d, u = .agg c ∧ v = .agg d) → P.eqGuardType P.depth t = false) :
    (eqGuard op t x y u v).run P w = .ok () w := by
  unfold eqGuard
  cases op <;> simp only [Bool.not_true, Bool.not_false, if_true, Bool.false_eq_true, if_false] <;> (try rfl)
  all_goals
    cases u <;> cases v <;> first
      | rfl
      | (simp at hn; done)
      | (have := ha ⟨_, _, rfl, rfl⟩; simp [this])

theorem run_bin_of (op : BinOp) (t : TypeId) (x y : Operand) (yt : TypeId) (o : Oper) (ho : o.op = .binOp op t x y yt) {u : Value} (hg : (eqGuard op t x y (a.eval x) (a.eval y)).run P w = .ok () w)
    (h : (binOp op t (a.eval x) (a.eval y)).run P w = .ok u w) : (execOp a.eval o).run P w = .ok (.value u) w := by
  simp [execOp, ho, hg, h]

theorem tab_at (hT : TabOK P T) {t : TypeId} {i : TyI} (h : T.at t = some i) : TyOK P t i := hT t i h

theorem isNil_ok {v : SV} {r : Bool} (h : isNil v = some r) (ρ : Num) : ∃ q, den ρ v = .pointer q ∧ q.isNone = r := by
  cases v <;> simp [isNil] at h
  · split at h <;> rename_i e <;> first
      | (cases e; simp at h; subst h; exact ⟨none, rfl, rfl⟩)
      | cases e
      | cases h
  all_goals (subst h; exact ⟨_, rfl, rfl⟩)

theorem not_iface {x : SV} {k : IntKind} {n : Int} {c : Bool} (h : asI x = some (k, n, c)) : den ρ x ≠ .nilIface := by rw [asI_ok h ρ]; exact fun h => by cases h

/-- What a comparison of two values yields: both ways. -/
theorem bin_ok (hT : TabOK P T) {op : BinOp} {t : TypeId} {x y : SV} {ps : List Prop} {v : SV} {m : Nat} (h : bin T op t x y = some (ps, v)) (hp : All ps) (xo yo : Operand) :
    ∃ u, (eqGuard op t xo yo (den ρ x) (den ρ y)).run P w = .ok () w ∧ (binOp op t (den ρ x) (den ρ y)).run P w = .ok u w ∧ Good W F ρ m v u := by
  unfold bin at h
  cases h1 : asI x with
  | some q1 =>
    obtain ⟨k, p, c⟩ := q1
    cases h2 : asI y with
    | none => simp [h1, h2] at h
    | some q2 =>
      obtain ⟨k', q, d⟩ := q2
      simp only [h1, h2] at h
      have hg : (eqGuard op t xo yo (den ρ x) (den ρ y)).run P w = .ok () w := run_eqGuard _ _ _ _ _ _ (.inl (not_iface h1)) (by rw [asI_ok h1 ρ]; rintro ⟨_, _, h, _⟩; cases h)
      rcases cond_some h with ⟨e, h⟩ | ⟨e, h⟩
      · obtain ⟨u, hu, hgd⟩ := shiftI_ok (P := P) (w := w) (t := t) (k' := k') (W := W) (F := F) (ρ := ρ) (m := m) h hp
        exact ⟨u, hg, by rw [asI_ok h1 ρ, asI_ok h2 ρ]; exact hu, hgd⟩
      · rcases cond_some h with ⟨e, hx⟩ | ⟨e, hx⟩ <;> clear h
        · have e : k = k' := by simpa using e
          subst e
          obtain ⟨u, hu, hgd⟩ := binI_ok (P := P) (w := w) (t := t) (W := W) (F := F) (ρ := ρ) (m := m) hx hp
          exact ⟨u, hg, by rw [asI_ok h1 ρ, asI_ok h2 ρ]; exact hu, hgd⟩
        · cases hx
  | none =>
    cases h2 : asI y with
    | some q2 => simp [h1, h2] at h
    | none =>
      simp only [h1, h2, Option.bind_eq_some_iff] at h
      obtain ⟨i, hi, h⟩ := h
      have ty := hT t i hi
      obtain ⟨td, hu, _, hd⟩ := ty.desc
      have aggs : binAgg i op x y = some (ps, v) → ∃ u, (eqGuard op t xo yo (den ρ x) (den ρ y)).run P w = .ok () w ∧ (binOp op t (den ρ x) (den ρ y)).run P w = .ok u w ∧ Good W F ρ m v u := by
        intro h0
        simp only [binAgg, Option.bind_eq_some_iff] at h0
        obtain ⟨⟨qs, r⟩, he, h0⟩ := h0
        have hps : qs = ps := by cases op <;> simp at h0 <;> exact h0.1
        subst hps
        unfold eqAgg at he
        split at he
        · rename_i ks ca cb hf
          rcases cond_some he with ⟨e, he⟩ | ⟨e, he⟩
          · obtain ⟨f1, f2, f3⟩ := fitsCells (W := ρ) he hp
            rw [sameKinds_eq e] at f1 f2
            obtain ⟨g1, n, g2, g3⟩ := ty.flat ks hf
            have hgd := ty.guard (by rw [hf]; simp)
            simp only [den]
            cases op <;> simp at h0 <;> subst h0
            · exact ⟨_, run_eqGuard _ _ _ _ _ _ (.inl (fun h => by cases h)) (fun _ => hgd), run_eql_flat w g1 g2 g3 f1 f2 r f3, rfl, trivial, fun h => by cases h⟩
            · exact ⟨_, run_eqGuard _ _ _ _ _ _ (.inl (fun h => by cases h)) (fun _ => hgd), run_neq_flat w g1 g2 g3 f1 f2 r f3, rfl, trivial, fun h => by cases h⟩
          · cases he
        · cases he
      unfold binV at h
      split at h
      · rename_i hdd
        simp only [binBool, Option.bind_eq_some_iff] at h
        obtain ⟨⟨p, c⟩, hb1, ⟨q, d⟩, hb2, h⟩ := h
        rw [hdd] at hd
        have hu' : P.underlying t = some .bool := by cases td <;> simp [DescOK] at hd; exact hu
        rw [asB_ok hb1 ρ, asB_ok hb2 ρ]
        have hg : (eqGuard op t xo yo (.bool p) (.bool q)).run P w = .ok () w := run_eqGuard _ _ _ _ _ _ (.inl (fun h => by cases h)) (by rintro ⟨_, _, h, _⟩; cases h)
        cases op <;> simp at h <;> obtain ⟨rfl, rfl⟩ := h
        · exact ⟨.bool (p == q), hg, by simp only [binOp]; simp [Op.equal, Op.maxDepth, run_equalIn_bool' w 9999 t p q hu'], by rw [mkB_den], mkB_okd .., mkB_top _ _⟩
        · exact ⟨.bool (p != q), hg, by simp only [binOp]; simp [Op.equal, Op.maxDepth, run_equalIn_bool' w 9999 t p q hu', bne], by rw [mkB_den], mkB_okd .., mkB_top _ _⟩
      · simp only [binStr, Option.bind_eq_some_iff] at h
        obtain ⟨p, hb1, q, hb2, h⟩ := h
        have e1 : x = .str p := by cases x <;> simp [asS] at hb1; rw [hb1]
        have e2 : y = .str q := by cases y <;> simp [asS] at hb2; rw [hb2]
        subst e1 e2
        have hg : (eqGuard op t xo yo (.string p) (.string q)).run P w = .ok () w := run_eqGuard _ _ _ _ _ _ (.inl (fun h => by cases h)) (by rintro ⟨_, _, h, _⟩; cases h)
        cases op <;> simp at h <;> obtain ⟨rfl, rfl⟩ := h
        · exact ⟨.bool (p.toList == q.toList), hg, rfl, rfl, trivial, fun h => by cases h⟩
        · exact ⟨.bool (!(p.toList == q.toList)), hg, rfl, rfl, trivial, fun h => by cases h⟩
      · exact aggs h
      · exact aggs h
      · rename_i e hdd
        simp only [binPtr] at h
        rcases cond_some h with ⟨hn, h⟩ | ⟨hn, h⟩
        · simp only [Option.bind_eq_some_iff] at h
          obtain ⟨r, hr, h⟩ := h
          obtain ⟨p, hp1, hp2⟩ := isNil_ok hr ρ
          have ey : den ρ y = .pointer none := by
            unfold isNilP at hn
            split at hn
            · rfl
            · cases hn
          rw [hdd] at hd
          have hu' : P.underlying t = some (.pointer (P.pointee t)) := by cases td <;> simp [DescOK] at hd; rw [hu]; simp [Program.pointee, hu]
          rw [hp1, ey]
          have hg : (eqGuard op t xo yo (.pointer p) (.pointer none)).run P w = .ok () w := run_eqGuard _ _ _ _ _ _ (.inl (fun h => by cases h)) (by rintro ⟨_, _, h, _⟩; cases h)
          cases op <;> simp at h <;> obtain ⟨rfl, rfl⟩ := h
          · exact ⟨.bool r, hg, by rw [run_eql_pointer_nil _ _ _ hu', hp2], rfl, trivial, fun h => by cases h⟩
          · exact ⟨.bool !r, hg, by rw [run_neq_pointer_nil _ _ _ hu', hp2], rfl, trivial, fun h => by cases h⟩
        · cases h
      · cases h
end Sx
end Go.Proofs.Ytmmejomalfjcnaa
