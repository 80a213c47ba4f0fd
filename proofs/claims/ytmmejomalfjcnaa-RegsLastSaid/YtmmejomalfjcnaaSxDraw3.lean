/- Regions that draw their order: one operation in a state behind some of the others. No condition. -/
import Derived.Test.YtmmejomalfjcnaaSxDraw2
namespace Go.Proofs.Ytmmejomalfjcnaa
open Go.RowKit
set_option linter.unusedVariables false
set_option linter.unusedSimpArgs false
namespace Sx
variable {P : Program} {W : World} {F : Nat → Prop} {ρ ρ' ρ0 : Num} {s : SS} {a : Act} {w : World} {cx : Ctx}

theorem Sat.putRec {nt : Nat} (st : Sat W F nt ρ s a w) {r : Rec} {x : Value} (hp : r.puts = []) (hd : ∀ d, r.dst = some d → d < nt) (hx : x = den ρ r.v) (ho : okd W F s.rows.length r.v) : Sat W F nt ρ (applyRec s r) (a.put r.dst x) w := by
  unfold applyRec
  rw [hp]
  cases hd' : r.dst with
  | none => exact st
  | some d =>
    have := Sat.put (cx := ⟨[], fun _ => none, fun _ => none, fun _ => none, fun _ => none, nt, 0⟩) st (hd d hd') hx ho
    exact this

/-- Rows that are written, or that get their blocks. -/
theorem Sat.putRow {nt : Nat} (st : Sat W F nt ρ s a w) {r : Rec} {v : Value} {ρ' : Num} {w' : World} (hd : ∀ d, r.dst = some d → d < nt)
    (hm : MemOK W F ρ' (putsL r.puts s.rows) w') (hold : ∀ d sv, s.tm.lookup d = some sv → sv = .top ∨ den ρ' sv = den ρ sv) (hx : v = den ρ' r.v) (ho : okd W F s.rows.length r.v) : Sat W F nt ρ' (applyRec s r) (a.put r.dst v) w' := by
  have st' : Sat W F nt ρ' ⟨s.tm, putsL r.puts s.rows⟩ a w' := by
    refine ⟨st.size, st.defers, fun d sv h => ?_, hm⟩
    rcases st.tm d sv h with h1 | ⟨h1, h2⟩
    · exact .inl h1
    · rcases hold d sv h with h3 | h3
      · exact .inl h3
      · exact .inr ⟨by rw [h1, h3], by rw [putsL_len]; exact h2⟩
  unfold applyRec
  cases hd' : r.dst with
  | none => exact st'
  | some d =>
    have := Sat.put (cx := ⟨[], fun _ => none, fun _ => none, fun _ => none, fun _ => none, nt, 0⟩) st' (hd d hd') hx (by rw [putsL_len]; exact ho)
    exact this

/-- One operation, in a state in which its guard, its operands and its rows read as they should. -/
theorem draw_step (hx : CxOK P cx) {all : Array Oper} {i : Nat} {o : Oper} {r : Rec} {b : Nat} (ho : all[i]? = some o) (st : Sat W F cx.nt ρ s a w) (hf : Fact cx all b s o r)
    (hnew : r.new ≠ none → Free s.rows b ∧ ∀ d sv, s.tm.lookup d = some sv → sv = .top ∨ noM b sv = true)
    {K : Act → World → Prop} {Q : Exit → Act → World → Prop} (hK : ∀ ρ' a' w', Sat W F cx.nt ρ' (applyRec s r) a' w' → (∀ j, j ≠ b ∨ r.new = none → ρ' j = ρ j) → K a' w') : wpOp P all Q i K a w := by
  obtain ⟨hdst, hdb, hcase⟩ := hf
  have hd : ∀ d, r.dst = some d → d < cx.nt := by
    intro d h
    rw [hdst] at h
    rw [h] at hdb
    exact Nat.le_of_ble_eq_true (show Nat.ble (d + 1) cx.nt = true from hdb)
  have guard : ∀ q, GuardIs all s o q → Region.wanted o (yielded all a.tmps) = q := by
    intro q hg
    unfold GuardIs at hg
    unfold Region.wanted
    split at hg
    · rename_i h; rw [h]; simp [hg]
    · rename_i j want h
      obtain ⟨d, sv, h1, h2, ⟨x, c, h3, h4⟩ | ⟨rfl, h4⟩⟩ := hg
      · rw [h]
        rcases st.tm d sv h2 with h5 | ⟨h5, _⟩
        · subst h5; simp [asB] at h3
        · rw [asB_ok h3 ρ] at h5
          simp [yielded, h1, h5, h4]
      · rw [h]
        rcases st.tm d _ h2 with h5 | ⟨h5, _⟩
        · cases h5
        · simp [yielded, h1, h5, h4, den, denL]
  unfold wpOp
  rw [ho]
  simp only
  rcases hcase with ⟨hg, hs⟩ | ⟨hg, rfl⟩
  · rw [guard true hg, if_pos rfl]
    left
    rcases hs with ⟨ps, h1, h2, h3, h4, h5⟩ | ⟨c, x, y, sv, q, cl, h1, h2, h3, h4, h5, h6⟩ | ⟨e, h1, h2, h3, h4, h5, h6⟩
    · have key := quietOp_ok hx st h1 h2 (K := fun _ _ => True) (Q := Q) fun _ _ => trivial
      refine (quietOp_ok hx st h1 h2 (K := K) (Q := Q) fun w' hm => ?_).1
      rw [← hdst]
      exact hK ρ _ _ (Sat.putRec (s := s) ⟨st.size, st.defers, st.tm, hm⟩ h3 hd rfl key.2.1) fun _ _ => rfl
    · obtain ⟨e1, e2, e3⟩ := ev_ok st h4
      have hq : a.eval (.tmp c) = .bool q := by
        rcases st.tm c sv h2 with h | ⟨g1, _⟩
        · subst h; simp [asB] at h3
        · rw [asB_ok h3 ρ] at g1
          simp [Act.eval, g1]
      unfold Oper.wp
      have hrun : (execOp a.eval o).run P w = .ok (.value (den ρ r.v)) w := by
        cases q <;> simp at e1 <;> simp [execOp, h1, hq, asBool, e1]
      rw [hrun]
      simp only [Oper.upon]
      rw [← hdst]
      exact hK ρ _ _ (Sat.putRec st h5 hd rfl e2) fun _ _ => rfl
    · have hnn : isNew o.op = true → r.new ≠ none := fun h => by rw [h6, h]; simp
      obtain ⟨ρ', w', g1, g2, g3, g4, g5⟩ := effOp_ok hx.tab st h1 h2 (fun h => (hnew (hnn h)).1) (fun h => (hnew (hnn h)).2)
      refine g1 K Q ?_
      rw [← hdst, ← h3]
      rw [← h4] at g2
      rw [← h3] at g4
      have hoff : ∀ j, j ≠ b ∨ r.new = none → ρ' j = ρ j := by
        intro j hj
        refine g3 j (hj.imp_right fun h => ?_)
        cases hq : isNew o.op with
        | false => rfl
        | true => exact absurd h (hnn hq)
      refine hK ρ' _ _ (Sat.putRow st hd g2 (fun d sv h => ?_) rfl g4) hoff
      cases hq : isNew o.op with
      | true =>
        rcases (hnew (hnn hq)).2 d sv h with h | h
        · exact .inl h
        · exact .inr (den_off (fun j hj => hoff j (.inl hj)) h)
      | false =>
        have : ρ' = ρ := funext fun j => g3 j (.inr hq)
        exact .inr (by rw [this])
  · rw [guard false hg, if_neg (by decide)]
    exact hK ρ _ _ (Sat.putRec (r := skipRec o) st rfl hd rfl trivial) fun _ _ => rfl
end Sx
end Go.Proofs.Ytmmejomalfjcnaa
