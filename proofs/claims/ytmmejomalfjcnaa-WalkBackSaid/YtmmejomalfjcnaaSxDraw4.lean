/- Regions that draw their order: an operation looks at its operands and at its row alone. No condition. -/
import Derived.Test.YtmmejomalfjcnaaSxDraw3
namespace Go.Proofs.Ytmmejomalfjcnaa
open Go.RowKit
set_option linter.unusedVariables false
set_option linter.unusedSimpArgs false
namespace Sx
variable {P : Program} {W : World} {F : Nat → Prop} {ρ ρ' ρ0 : Nat → Nat} {s s' : SS} {a : Act} {w : World} {cx : Ctx}

theorem ev_congr {tm tm' : List (Nat × SV)} {x : Operand} (h : ∀ t, x = .tmp t → tm.lookup t = tm'.lookup t) : ev tm x = ev tm' x := by
  cases x with
  | tmp t => simp only [ev]; rw [h t rfl]
  | _ => rfl
theorem evL_congr {tm tm' : List (Nat × SV)} : ∀ {l : List Operand}, (∀ x ∈ l, ev tm x = ev tm' x) → evL tm l = evL tm' l
  | [], _ => rfl
  | x :: l, h => by simp only [evL]; rw [h x (by simp), evL_congr (fun y hy => h y (by simp [hy]))]
theorem evP_congr {tm tm' : List (Nat × SV)} : ∀ {l : List (Nat × Operand)}, (∀ x ∈ l.map (·.2), ev tm x = ev tm' x) → evP tm l = evP tm' l
  | [], _ => rfl
  | (i, x) :: l, h => by simp only [evP]; rw [h x (by simp), evP_congr (fun y hy => h y (by simp only [List.map_cons, List.mem_cons]; exact .inr hy))]

theorem callOf_congr {op : Op} (h : ∀ x ∈ op.operands.toList, ev s.tm x = ev s'.tm x) : callOf s op = callOf s' op := by
  unfold callOf
  split
  · rename_i f args tys
    have hf : ev s.tm f = ev s'.tm f := h f (by simp [Op.operands, Call.operands])
    have ha : evL s.tm args.toList = evL s'.tm args.toList := evL_congr fun x hx => h x (by simp [Op.operands, Call.operands]; exact .inr (by simpa using hx))
    rw [hf, ha]
  · rfl

theorem readRow_congr {op : Op} (h : ∀ x ∈ op.operands.toList, ev s.tm x = ev s'.tm x) : readRow s op = readRow s' op := by
  unfold readRow
  split
  · rename_i t x
    rw [h x (by simp [Op.operands])]
  · rfl

theorem pureOp_congr {T : Tab} {op : Op} (h : ∀ x ∈ op.operands.toList, ev s.tm x = ev s'.tm x) (hr : ∀ b, readRow s op = some b → rowOf s.rows b = rowOf s'.rows b) : pureOp T s op = pureOp T s' op := by
  cases op <;> simp only [pureOp]
  case move x => rw [h x (by simp [Op.operands])]
  case assign x => rw [h x (by simp [Op.operands])]
  case pick c x y =>
    rw [h c (by simp [Op.operands]), h x (by simp [Op.operands]), h y (by simp [Op.operands])]
    congr 1
    funext q
    congr 1
    funext q
    have : ∀ b : Bool, ev s.tm (bif b then x else y) = ev s'.tm (bif b then x else y) := by
      intro b; cases b
      · exact h y (by simp [Op.operands])
      · exact h x (by simp [Op.operands])
    rw [this]
  case build t parts =>
    rw [evP_congr (tm := s.tm) (tm' := s'.tm) fun x hx => h x (by simpa [Op.operands] using hx)]
  case load t x =>
    have hx := h x (by simp [Op.operands])
    rw [← hx]
    cases hv : ev s.tm x with
    | none => rfl
    | some v =>
      simp only [Option.bind_some, loadS]
      cases v <;> try rfl
      case ptr b off =>
        have e := hr b (by simp [readRow, hv])
        simp only [e]
      case pte b off e' =>
        have e := hr b (by simp [readRow, hv])
        simp only [e]
  case binOp op t x y yt => rw [h x (by simp [Op.operands]), h y (by simp [Op.operands])]
  case unOp op t x => rw [h x (by simp [Op.operands])]
  case convert src dst x => rw [h x (by simp [Op.operands])]
  case sliceToArrayPointer t x => rw [h x (by simp [Op.operands])]
  case makeFunc f first cap =>
    rw [evL_congr (tm := s.tm) (tm' := s'.tm) (l := first.toList) fun x hx => h x (by simp [Op.operands]; exact .inl (by simpa using hx)),
      evL_congr (tm := s.tm) (tm' := s'.tm) (l := cap.toList) fun x hx => h x (by simp [Op.operands]; exact .inr (by simpa using hx))]
  case fieldAddr t x f => rw [h x (by simp [Op.operands])]
  case field t x f => rw [h x (by simp [Op.operands])]
  case indexAddr t x i => rw [h x (by simp [Op.operands]), h i (by simp [Op.operands])]
  case index t x i => rw [h x (by simp [Op.operands]), h i (by simp [Op.operands])]
  case extract x i => rw [h x (by simp [Op.operands])]
  case nilCheck x => rw [h x (by simp [Op.operands])]
  case call c =>
    unfold lenCall
    split
    · rename_i x t
      rw [h x (by simp [Op.operands, Call.operands])]
    · rfl

theorem quietOp_congr {op : Op} (h : ∀ x ∈ op.operands.toList, ev s.tm x = ev s'.tm x) (hr : ∀ b, readRow s op = some b → rowOf s.rows b = rowOf s'.rows b) : quietOp cx s op = quietOp cx s' op := by
  unfold quietOp pureCall
  rw [pureOp_congr h hr, callOf_congr h]

theorem newOp_congr {T : Tab} {op : Op} (h : ∀ x ∈ op.operands.toList, ev s.tm x = ev s'.tm x) : newOp T s op = newOp T s' op := by
  cases op <;> simp only [newOp]
  case box t x => rw [h x (by simp [Op.operands])]
  case buildSlice t len parts => rw [evP_congr (tm := s.tm) (tm' := s'.tm) fun x hx => h x (by simpa [Op.operands] using hx)]

theorem storeS_congr {T : Tab} {rows rows' : List (Option Row)} {t : TypeId} {x v : SV} {ps : List Prop} {b : Nat} {r : Row} (h : storeS T rows t x v = some (ps, b, r)) (hr : rowOf rows b = rowOf rows' b) : storeS T rows' t x v = some (ps, b, r) := by
  simp only [storeS, Option.bind_eq_some_iff] at h ⊢
  obtain ⟨i, hi, h⟩ := h
  refine ⟨i, hi, ?_⟩
  split at h
  · rename_i c off
    simp only [Option.bind_eq_some_iff] at h
    obtain ⟨q, hq, new, hv, h⟩ := h
    have hcb : c = b := by
      rcases beq_some h with ⟨e, hx⟩ | ⟨e, hx⟩
      · split at hx
        · cases hx; rfl
        · rcases cond_some hx with ⟨ea, hy⟩ | ⟨ea, hy⟩
          · cases hy
          · simp only [Option.bind_eq_some_iff, Option.map_eq_some_iff] at hy
            obtain ⟨_, _, _, _, hy⟩ := hy
            cases hy; rfl
      · cases hx
    subst hcb
    simp only [← hr, hq, Option.bind_some, hv]
    exact h
  · rename_i c off e
    rcases cond_some h with ⟨ea, hx⟩ | ⟨ea, hx⟩
    · cases hx
    · rcases beq_some hx with ⟨es, hy⟩ | ⟨es, hy⟩
      · have hcb : c = b := by
          simp only [Option.bind_eq_some_iff, Option.map_eq_some_iff] at hy
          obtain ⟨_, _, _, _, _, _, _, _, hy⟩ := hy
          cases hy; rfl
        subst hcb
        rw [← hr]
        exact h
      · cases hy
  · cases h

theorem storeOp_congr {T : Tab} {op : Op} {ps : List Prop} {b : Nat} {r : Row} (h : ∀ x ∈ op.operands.toList, ev s.tm x = ev s'.tm x) (hs : storeOp T s op = some (ps, b, r)) (hr : rowOf s.rows b = rowOf s'.rows b) : storeOp T s' op = some (ps, b, r) := by
  cases op <;> simp only [storeOp, reduceCtorEq] at hs ⊢
  case store t x v =>
    rw [← h x (by simp [Op.operands]), ← h v (by simp [Op.operands])]
    simp only [Option.bind_eq_some_iff] at hs ⊢
    obtain ⟨x', h1, v', h2, h3⟩ := hs
    exact ⟨x', h1, v', h2, storeS_congr h3 hr⟩

theorem looks_of {all : Array Oper} {o : Oper} {t : Tmp} (h : Operand.tmp t ∈ o.op.operands.toList) : t ∈ o.looksAt all := by
  unfold Oper.looksAt
  rw [List.mem_append]
  left
  rw [List.mem_filterMap]
  exact ⟨.tmp t, h, rfl⟩

/-- A fact holds in every state that reads alike at what the operation looks at. -/
theorem Fact.congr {all : Array Oper} {b : Nat} {o : Oper} {r : Rec} (hf : Fact cx all b s o r) (h : ∀ t ∈ o.looksAt all, s.tm.lookup t = s'.tm.lookup t) (hr : ∀ c, r.rd = some c → rowOf s.rows c = rowOf s'.rows c) : Fact cx all b s' o r := by
  have hev : ∀ x ∈ o.op.operands.toList, ev s.tm x = ev s'.tm x := fun x hx => ev_congr fun t ht => by subst ht; exact h t (looks_of hx)
  obtain ⟨h1, h2, h3⟩ := hf
  have hg : ∀ q, GuardIs all s o q → GuardIs all s' o q := by
    intro q hq
    unfold GuardIs at hq ⊢
    split at hq
    · exact hq
    · rename_i j want hgd
      obtain ⟨d, sv, g1, g2, g3⟩ := hq
      refine ⟨d, sv, g1, ?_, g3⟩
      rw [← h d ?_]; exact g2
      unfold Oper.looksAt
      rw [List.mem_append]
      right
      rw [hgd]
      simp [g1]
  refine ⟨h1, h2, ?_⟩
  rcases h3 with ⟨g, hs⟩ | ⟨g, hs⟩
  · refine .inl ⟨hg _ g, ?_⟩
    rcases hs with ⟨ps, q1, q2, q3, q4, q5⟩ | ⟨c, x, y, sv, q, cl, q1, q2, q3, q4, q5, q6⟩ | ⟨mk, x, q1, q2, q3, q4⟩ | ⟨ps, c, x, q1, q2, q3, q4, q5, q6⟩
    · refine .inl ⟨ps, ?_, q2, q3, q4, by rw [q5]; exact readRow_congr hev⟩
      rw [← quietOp_congr hev (fun c hc => hr c (by rw [q5]; exact hc))]
      exact q1
    · refine .inr (.inl ⟨c, x, y, sv, q, cl, q1, ?_, q3, ?_, q5, q6⟩)
      · rw [← h c (looks_of (by rw [q1]; simp [Op.operands]))]; exact q2
      · rw [← q4]
        symm
        cases q
        · exact hev y (by rw [q1]; simp [Op.operands])
        · exact hev x (by rw [q1]; simp [Op.operands])
    · exact .inr (.inr (.inl ⟨mk, x, by rw [← newOp_congr hev]; exact q1, q2, q3, q4⟩))
    · exact .inr (.inr (.inr ⟨ps, c, x, storeOp_congr hev q1 (hr c q6), q2, q3, q4, q5, q6⟩))
  · exact .inr ⟨hg _ g, hs⟩
end Sx
end Go.Proofs.Ytmmejomalfjcnaa
