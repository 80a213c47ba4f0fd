/- Regions that draw their order: one operation in a state behind some of the others. No condition. -/
import Derived.Test.YtmmejomalfjcnaaSxDraw2
namespace Go.Proofs.Ytmmejomalfjcnaa
open Go.RowKit
set_option linter.unusedVariables false
set_option linter.unusedSimpArgs false
namespace Sx
variable {P : Program} {W : World} {F : Nat → Prop} {ρ ρ' ρ0 : Nat → Nat} {s : SS} {a : Act} {w : World} {cx : Ctx}

mutual
theorem den_off {b : Nat} (h : ∀ i, i ≠ b → ρ' i = ρ i) : ∀ {c : SV}, noM b c = true → den ρ' c = den ρ c
  | .ptr i _, hc => by simp only [noM, Bool.not_eq_true'] at hc; simp [den, h i (Nat.ne_of_beq_eq_false hc)]
  | .pte i _ _, hc => by simp only [noM, Bool.not_eq_true'] at hc; simp [den, h i (Nat.ne_of_beq_eq_false hc)]
  | .sl i _ _ _, hc => by simp only [noM, Bool.not_eq_true'] at hc; simp [den, h i (Nat.ne_of_beq_eq_false hc)]
  | .agg cs, hc => by simp only [noM] at hc; simp [den, cellsL_off h (l := cs) hc]
  | .tup cs, hc => by simp only [noM] at hc; simp [den, denL_off h (l := cs) hc]
  | .fn _ x y, hc => by simp only [noM, Bool.and_eq_true] at hc; simp [den, denL_off h (l := x) hc.1, denL_off h (l := y) hc.2]
  | .rd _ _ _, _ | .rda _ _ _ _, _ | .top, _ | .lit _ _, _ | .int _ _, _ | .litb _, _ | .bool _, _ | .str _, _ | .val _, _ | .hnd _, _ | .ints _ _ _, _ => rfl
theorem denL_off {b : Nat} (h : ∀ i, i ≠ b → ρ' i = ρ i) : ∀ {l : List SV}, noML b l = true → denL ρ' l = denL ρ l
  | [], _ => rfl
  | c :: l, hc => by simp only [noML, Bool.and_eq_true] at hc; simp [denL, den_off h hc.1, denL_off h hc.2]
theorem cellsL_off {b : Nat} (h : ∀ i, i ≠ b → ρ' i = ρ i) : ∀ {l : List SV}, noML b l = true → cellsL ρ' l = cellsL ρ l
  | [], _ => rfl
  | c :: l, hc => by
    simp only [noML, Bool.and_eq_true] at hc
    have h1 := den_off h hc.1
    have h2 := cellsL_off h hc.2
    cases c <;> simp_all [cellsL, den]
end
theorem CellsOK.off {b : Nat} (h : ∀ i, i ≠ b → ρ' i = ρ i) : ∀ {l : List SV} {vs : List Value}, noML b l = true → CellsOK ρ l vs → CellsOK ρ' l vs
  | [], vs, _, hc => hc
  | c :: l, vs, ho, hc => by
    simp only [noML, Bool.and_eq_true] at ho
    cases hs : single c with
    | true =>
      obtain ⟨t, rfl, h2⟩ := hc.one hs
      rw [← den_off h ho.1]
      exact .mk_one hs (h2.off h ho.2)
    | false =>
      cases c <;> simp [single] at hs
      · obtain ⟨v, t, rfl, h2⟩ := hc
        exact ⟨v, t, rfl, h2.off h ho.2⟩
      · obtain ⟨t, rfl, h2⟩ := hc
        exact ⟨t, rfl, h2.off h ho.2⟩
theorem beq_ne {i b : Nat} (h : i ≠ b) : (!(Nat.beq i b)) = true := by
  cases hb : Nat.beq i b with
  | false => rfl
  | true => exact absurd (Nat.eq_of_beq_eq_true hb) h
mutual
theorem okd_noM {n b : Nat} (h : n ≤ b) : ∀ {c : SV}, okd W F n c → noM b c = true
  | .ptr i _, hc => by have hc : i < n := hc; exact beq_ne (by omega)
  | .pte i _ _, hc => by have hc : i < n := hc; exact beq_ne (by omega)
  | .sl i _ _ _, hc => by have hc : i < n := hc; exact beq_ne (by omega)
  | .agg cs, hc => okdL_noM h (l := cs) hc
  | .tup cs, hc => okdL_noM h (l := cs) hc
  | .fn _ x y, hc => by simp only [noM, Bool.and_eq_true]; exact ⟨okdL_noM h (l := x) hc.1, okdL_noM h (l := y) hc.2⟩
  | .rd _ _ _, _ | .rda _ _ _ _, _ | .top, _ | .lit _ _, _ | .int _ _, _ | .litb _, _ | .bool _, _ | .str _, _ | .val _, _ | .hnd _, _ | .ints _ _ _, _ => rfl
theorem okdL_noM {n b : Nat} (h : n ≤ b) : ∀ {l : List SV}, okdL W F n l → noML b l = true
  | [], _ => rfl
  | c :: l, hc => by simp only [noML, Bool.and_eq_true]; exact ⟨okd_noM h hc.1, okdL_noM h hc.2⟩
end

theorem ext_off (ρ : Nat → Nat) (n b : Nat) : ∀ i, i ≠ n → ext ρ n b i = ρ i := fun i h => by simp [ext, h]

/-- A row that had no block gets one. -/
theorem MemOK.fill {rows : List (Option Row)} (hm : MemOK W F ρ rows w) {b : Nat} {r : Row} {c : Array Value} (hb : b < rows.length) (hd : rows[b]? = some none) (hc : CellsOK ρ r.cs c.toList) (ho : okdL W F rows.length r.cs) (hn : noML b r.cs = true)
    (hall : ∀ (i : Nat) (x : Row), rows[i]? = some (some x) → noML b x.cs = true) : MemOK W F (ext ρ b w.heap.size) (rows.set b (some r)) (w.alloc (.cells c r.ty)) := by
  have hoff := ext_off ρ b w.heap.size
  refine ⟨hm.frame.trans ⟨rfl, rfl, rfl, by simp, fun b hb _ => Below.heap_alloc _ _ _ hb⟩, ?_, ?_, ?_⟩
  · intro i r' hi
    rcases get_set hi with ⟨rfl, rfl⟩ | ⟨hib, hi⟩
    · refine ⟨c, ?_, hc.off hoff hn, by simpa using ho⟩
      rw [ext_new]
      exact heap_alloc_new w _
    · obtain ⟨c', h1, h2, h3⟩ := hm.row i r' hi
      refine ⟨c', ?_, h2.off hoff (hall i r' hi), by simpa using h3⟩
      rw [hoff i hib, Below.heap_alloc _ _ _ (hm.lt hi)]
      exact h1
  · intro i j r1 r2 hi hj he
    rcases get_set hi with ⟨e1, _⟩ | ⟨hib, hi'⟩ <;> rcases get_set hj with ⟨e2, _⟩ | ⟨hjb, hj'⟩
    · omega
    · rw [e1, ext_new, hoff j hjb] at he
      have := hm.lt hj'; omega
    · rw [e2, ext_new, hoff i hib] at he
      have := hm.lt hi'; omega
    · rw [hoff i hib, hoff j hjb] at he
      exact hm.inj i j _ _ hi' hj' he
  · intro i r' hi
    rcases get_set hi with ⟨rfl, rfl⟩ | ⟨hib, hi⟩
    · rw [ext_new]; exact .inr hm.frame.size
    · rw [hoff i hib]; exact hm.mine i _ hi

theorem Sat.putRec {nt : Nat} (st : Sat W F nt ρ s a w) {r : Rec} {x : Value} (hp : r.put = none) (hd : ∀ d, r.dst = some d → d < nt) (hx : x = den ρ r.v) (ho : okd W F s.rows.length r.v) : Sat W F nt ρ (applyRec s r) (a.put r.dst x) w := by
  unfold applyRec
  rw [hp]
  cases hd' : r.dst with
  | none => exact st
  | some d =>
    have := Sat.put (cx := ⟨[], fun _ => none, fun _ => none, fun _ => none, fun _ => none, nt, 0⟩) st (hd d hd') hx ho
    exact this

/-- A row that is written, or that gets its block. -/
theorem Sat.putRow {nt : Nat} (st : Sat W F nt ρ s a w) {r : Rec} {b : Nat} {x : Row} {v : Value} {ρ' : Nat → Nat} {w' : World} (hp : r.put = some (b, x)) (hd : ∀ d, r.dst = some d → d < nt)
    (hm : MemOK W F ρ' (s.rows.set b (some x)) w') (hold : ∀ d sv, s.tm.lookup d = some sv → sv = .top ∨ den ρ' sv = den ρ sv) (hx : v = den ρ' r.v) (ho : okd W F s.rows.length r.v) : Sat W F nt ρ' (applyRec s r) (a.put r.dst v) w' := by
  have st' : Sat W F nt ρ' ⟨s.tm, s.rows.set b (some x)⟩ a w' := by
    refine ⟨st.size, st.defers, fun d sv h => ?_, hm⟩
    rcases st.tm d sv h with h1 | ⟨h1, h2⟩
    · exact .inl h1
    · rcases hold d sv h with h3 | h3
      · exact .inl h3
      · exact .inr ⟨by rw [h1, h3], by simpa using h2⟩
  unfold applyRec
  rw [hp]
  cases hd' : r.dst with
  | none => exact st'
  | some d =>
    have := Sat.put (cx := ⟨[], fun _ => none, fun _ => none, fun _ => none, fun _ => none, nt, 0⟩) st' (hd d hd') hx (by simpa using ho)
    exact this

theorem isNew_of {T : Tab} {op : Op} {q : (Nat → SV) × Row} (h : newOp T s op = some q) : isNew op = true := by
  cases op <;> first | rfl | (simp [newOp] at h)

/-- One operation, in a state in which its guard, its operands and its row read as they should. -/
theorem draw_step (hx : CxOK P cx) {all : Array Oper} {i : Nat} {o : Oper} {r : Rec} {b : Nat} (ho : all[i]? = some o) (st : Sat W F cx.nt ρ s a w) (hf : Fact cx all b s o r)
    (hnew : r.new = true → b < s.rows.length ∧ s.rows[b]? = some none ∧ (∀ x, r.put = some (b, x) → noML b x.cs = true) ∧ (∀ (j : Nat) (x : Row), s.rows[j]? = some (some x) → noML b x.cs = true) ∧ ∀ d sv, s.tm.lookup d = some sv → sv = .top ∨ noM b sv = true)
    {K : Act → World → Prop} {Q : Exit → Act → World → Prop} (hK : ∀ ρ' a' w', Sat W F cx.nt ρ' (applyRec s r) a' w' → (∀ j, j ≠ b ∨ r.new = false → ρ' j = ρ j) → K a' w') : wpOp P all Q i K a w := by
  obtain ⟨hdst, hdb, hcase⟩ := hf
  have hd : ∀ d, r.dst = some d → d < cx.nt := by
    intro d h
    rw [hdst] at h
    rw [h] at hdb
    exact Nat.le_of_ble_eq_true (show Nat.ble (d + 1) cx.nt = true from hdb)
  have guard : ∀ q, GuardIs all s o q → Region.wanted o (yielded all a.tmps) = q := by
    intro q hg
    unfold GuardIs at hg
    unfold Region.wanted
    split at hg
    · rename_i h; rw [h]; simp [hg]
    · rename_i j want h
      obtain ⟨d, sv, h1, h2, ⟨x, c, h3, h4⟩ | ⟨rfl, h4⟩⟩ := hg
      · rw [h]
        rcases st.tm d sv h2 with h5 | ⟨h5, _⟩
        · subst h5; simp [asB] at h3
        · rw [asB_ok h3 ρ] at h5
          simp [yielded, h1, h5, h4]
      · rw [h]
        rcases st.tm d _ h2 with h5 | ⟨h5, _⟩
        · cases h5
        · simp [yielded, h1, h5, h4, den, denL]
  unfold wpOp
  rw [ho]
  simp only
  rcases hcase with ⟨hg, hs⟩ | ⟨hg, rfl⟩
  · rw [guard true hg, if_pos rfl]
    left
    rcases hs with ⟨ps, h1, h2, h3, h4, h5⟩ | ⟨c, x, y, sv, q, cl, h1, h2, h3, h4, h5, h6⟩ | ⟨mk, x, h1, h2, h3, h4⟩ | ⟨ps, c, x, h1, h2, h3, h4, h5, h6⟩
    · have key := quietOp_ok hx st h1 h2 (K := fun _ _ => True) (Q := Q) fun _ _ => trivial
      refine (quietOp_ok hx st h1 h2 (K := K) (Q := Q) fun w' hm => ?_).1
      rw [← hdst]
      exact hK ρ _ _ (Sat.putRec (s := s) ⟨st.size, st.defers, st.tm, hm⟩ h3 hd rfl key.2.1) fun _ _ => rfl
    · obtain ⟨e1, e2, e3⟩ := ev_ok st h4
      have hq : a.eval (.tmp c) = .bool q := by
        rcases st.tm c sv h2 with h | ⟨g1, _⟩
        · subst h; simp [asB] at h3
        · rw [asB_ok h3 ρ] at g1
          simp [Act.eval, g1]
      unfold Oper.wp
      have hrun : (execOp a.eval o).run P w = .ok (.value (den ρ r.v)) w := by
        cases q <;> simp at e1 <;> simp [execOp, h1, hq, asBool, e1]
      rw [hrun]
      simp only [Oper.upon]
      rw [← hdst]
      exact hK ρ _ _ (Sat.putRec st h5 hd rfl e2) fun _ _ => rfl
    · obtain ⟨n1, n2, n3, n4, n5⟩ := hnew h4
      obtain ⟨⟨c, c1, c2, c3⟩, c4⟩ := newOp_ok hx.tab st h1
      unfold Oper.wp
      rw [c3 b (ext ρ b w.heap.size) (ext_new _ _ _)]
      simp only [Oper.upon]
      rw [← hdst]
      refine hK (ext ρ b w.heap.size) _ _ (Sat.putRow st h3 hd (st.mem.fill n1 n2 c1 c2 (n3 x h3) n4) (fun d sv h => ?_) (by rw [h2]) (by rw [h2]; exact (c4 _ _ n1).1)) (fun j hj => ?_)
      · rcases n5 d sv h with h | h
        · exact .inl h
        · exact .inr (den_off (ext_off _ _ _) h)
      · rcases hj with hj | hj
        · exact ext_off _ _ _ j hj
        · rw [h4] at hj; cases hj
    · obtain ⟨w', g1, g2⟩ := storeOp_ok hx.tab st h1 h2
      unfold Oper.wp
      rw [g1]
      simp only [Oper.upon]
      rw [← hdst]
      exact hK ρ _ _ (Sat.putRow st h4 hd g2 (fun _ _ _ => .inr rfl) (by rw [h3]; rfl) (by rw [h3]; trivial)) fun _ _ => rfl
  · rw [guard false hg, if_neg (by decide)]
    exact hK ρ _ _ (Sat.putRec (r := skipRec o) st rfl hd rfl trivial) fun _ _ => rfl
end Sx
end Go.Proofs.Ytmmejomalfjcnaa
