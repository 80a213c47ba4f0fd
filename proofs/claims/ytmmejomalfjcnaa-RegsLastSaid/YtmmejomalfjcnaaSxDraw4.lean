/- Regions that draw their order: an operation looks at its operands and at its row alone. No condition. -/
import Derived.Test.YtmmejomalfjcnaaSxDraw3
namespace Go.Proofs.Ytmmejomalfjcnaa
open Go.RowKit
set_option linter.unusedVariables false
set_option linter.unusedSimpArgs false
namespace Sx
variable {P : Program} {W : World} {F : Nat → Prop} {ρ ρ' ρ0 : Num} {s s' : SS} {a : Act} {w : World} {cx : Ctx}

theorem ev_congr {tm tm' : List (Nat × SV)} {x : Operand} (h : ∀ t, x = .tmp t → tm.lookup t = tm'.lookup t) : ev tm x = ev tm' x := by
  cases x with
  | tmp t => simp only [ev]; rw [h t rfl]
  | _ => rfl
theorem evL_congr {tm tm' : List (Nat × SV)} : ∀ {l : List Operand}, (∀ x ∈ l, ev tm x = ev tm' x) → evL tm l = evL tm' l
  | [], _ => rfl
  | x :: l, h => by simp only [evL]; rw [h x (by simp), evL_congr (fun y hy => h y (by simp [hy]))]
theorem evP_congr {tm tm' : List (Nat × SV)} : ∀ {l : List (Nat × Operand)}, (∀ x ∈ l.map (·.2), ev tm x = ev tm' x) → evP tm l = evP tm' l
  | [], _ => rfl
  | (i, x) :: l, h => by simp only [evP]; rw [h x (by simp), evP_congr (fun y hy => h y (by simp only [List.map_cons, List.mem_cons]; exact .inr hy))]

theorem callOf_congr {op : Op} (h : ∀ x ∈ op.operands.toList, ev s.tm x = ev s'.tm x) : callOf s op = callOf s' op := by
  unfold callOf
  split
  · rename_i f args tys
    have hf : ev s.tm f = ev s'.tm f := h f (by simp [Op.operands, Call.operands])
    have ha : evL s.tm args.toList = evL s'.tm args.toList := evL_congr fun x hx => h x (by simp [Op.operands, Call.operands]; exact .inr (by simpa using hx))
    rw [hf, ha]
  · rfl

theorem evRows_congr {f : SV → List Nat} {x : Operand} (h : ev s.tm x = ev s'.tm x) : evRows f s.tm x = evRows f s'.tm x := by unfold evRows; rw [h]
theorem readRow_congr {op : Op} (h : ∀ x ∈ op.operands.toList, ev s.tm x = ev s'.tm x) : readRow s op = readRow s' op := by
  cases op <;> simp only [readRow] <;> exact evRows_congr (h _ (by simp [Op.operands]))

theorem onLen_congr {rows rows' : List (Option Row)} {b : Nat} (h : rowOf rows b = rowOf rows' b) : onLen rows b = onLen rows' b := by unfold onLen; rw [h]
theorem sliceInts_congr {rows rows' : List (Option Row)} {k : IntKind} {v : SV} (h : ∀ b ∈ rowsOfV v, rowOf rows b = rowOf rows' b) : sliceInts rows k v = sliceInts rows' k v := by
  cases v <;> simp only [sliceInts] <;> first
    | rfl
    | (rw [onLen_congr (h _ (by simp [rowsOfV]))])
    | (rw [h _ (by simp [rowsOfV])])
theorem sliceCells_congr {rows rows' : List (Option Row)} {sz : Nat} {v : SV} (h : ∀ b ∈ rowsOfV v, rowOf rows b = rowOf rows' b) : sliceCells rows sz v = sliceCells rows' sz v := by
  cases v <;> simp only [sliceCells] <;> first
    | rfl
    | (rw [onLen_congr (h _ (by simp [rowsOfV]))])
    | (rw [h _ (by simp [rowsOfV])])
theorem loadS_congr {T : Tab} {rows rows' : List (Option Row)} {t : TypeId} {v : SV} (h : ∀ b ∈ rowsOfV v, rowOf rows b = rowOf rows' b) : loadS T rows t v = loadS T rows' t v := by
  cases v <;> simp only [loadS] <;> first
    | rfl
    | (rw [h _ (by simp [rowsOfV])])
theorem convS_congr {T : Tab} {rows rows' : List (Option Row)} {src dst : TypeId} {v : SV} (h : ∀ b ∈ rowsOfV v, rowOf rows b = rowOf rows' b) : convS T rows src dst v = convS T rows' src dst v := by
  simp only [convS, sliceInts_congr h]
theorem indexA_congr {T : Tab} {rows rows' : List (Option Row)} {t : TypeId} {v ix : SV} (h : ∀ b ∈ listRow v, rowOf rows b = rowOf rows' b) : indexA T rows t v ix = indexA T rows' t v ix := by
  cases v <;> simp only [indexA] <;> first
    | rfl
    | (rw [onLen_congr (h _ (by simp [listRow]))])
theorem toArr_congr {T : Tab} {rows rows' : List (Option Row)} {t : TypeId} {v : SV} (h : ∀ b ∈ listRow v, rowOf rows b = rowOf rows' b) : toArr T rows t v = toArr T rows' t v := by
  cases v <;> simp only [toArr] <;> first
    | rfl
    | (rw [onLen_congr (h _ (by simp [listRow]))])
theorem sliceS_congr {T : Tab} {rows rows' : List (Option Row)} {t : TypeId} {v : SV} {lo hi mx : Option (Int × Bool)} (h : ∀ b ∈ listRow v, rowOf rows b = rowOf rows' b) : sliceS T rows t v lo hi mx = sliceS T rows' t v lo hi mx := by
  cases v <;> simp only [sliceS] <;> first
    | rfl
    | (rw [onLen_congr (h _ (by simp [listRow]))])
theorem optI_congr {x : Option Operand} (h : ∀ y, x = some y → ev s.tm y = ev s'.tm y) : optI s.tm x = optI s'.tm x := by
  cases x with
  | none => rfl
  | some y => simp only [optI, h y rfl]

theorem pureOp_congr {T : Tab} {op : Op} (h : ∀ x ∈ op.operands.toList, ev s.tm x = ev s'.tm x) (hr : ∀ b ∈ readRow s op, rowOf s.rows b = rowOf s'.rows b) : pureOp T s op = pureOp T s' op := by
  cases op <;> simp only [pureOp]
  case move x => rw [h x (by simp [Op.operands])]
  case assign x => rw [h x (by simp [Op.operands])]
  case pick c x y =>
    rw [h c (by simp [Op.operands]), h x (by simp [Op.operands]), h y (by simp [Op.operands])]
    congr 1
    funext q
    congr 1
    funext q
    have : ∀ b : Bool, ev s.tm (bif b then x else y) = ev s'.tm (bif b then x else y) := by
      intro b; cases b
      · exact h y (by simp [Op.operands])
      · exact h x (by simp [Op.operands])
    rw [this]
  case build t parts =>
    rw [evP_congr (tm := s.tm) (tm' := s'.tm) fun x hx => h x (by simpa [Op.operands] using hx)]
  case load t x =>
    have hx := h x (by simp [Op.operands])
    rw [← hx]
    cases hv : ev s.tm x with
    | none => rfl
    | some v =>
      simp only [Option.bind_some]
      exact loadS_congr fun b hb => hr b (by simp [readRow, evRows, hv]; exact hb)
  case binOp op t x y yt => rw [h x (by simp [Op.operands]), h y (by simp [Op.operands])]
  case unOp op t x => rw [h x (by simp [Op.operands])]
  case convert src dst x =>
    rw [← h x (by simp [Op.operands])]
    cases hv : ev s.tm x with
    | none => rfl
    | some v =>
      simp only [Option.bind_some]
      rw [convS_congr fun b hb => hr b (by simp [readRow, evRows, hv]; exact hb)]
  case sliceToArrayPointer t x =>
    rw [← h x (by simp [Op.operands])]
    cases hv : ev s.tm x with
    | none => rfl
    | some v =>
      simp only [Option.bind_some]
      exact toArr_congr fun b hb => hr b (by simp [readRow, evRows, hv]; exact hb)
  case slice t x lo hi mx =>
    rw [← h x (by simp [Op.operands]), ← optI_congr (s := s) (s' := s') (x := lo) (fun y hy => h y (by subst hy; simp [Op.operands])), ← optI_congr (s := s) (s' := s') (x := hi) (fun y hy => h y (by subst hy; simp [Op.operands])),
      ← optI_congr (s := s) (s' := s') (x := mx) (fun y hy => h y (by subst hy; simp [Op.operands]))]
    cases hv : ev s.tm x with
    | none => rfl
    | some v =>
      simp only [Option.bind_some]
      congr 1; funext q1; congr 1; funext q2; congr 1; funext q3
      exact sliceS_congr fun b hb => hr b (by simp [readRow, evRows, hv]; exact hb)
  case makeFunc f first cap =>
    rw [evL_congr (tm := s.tm) (tm' := s'.tm) (l := first.toList) fun x hx => h x (by simp [Op.operands]; exact .inl (by simpa using hx)),
      evL_congr (tm := s.tm) (tm' := s'.tm) (l := cap.toList) fun x hx => h x (by simp [Op.operands]; exact .inr (by simpa using hx))]
  case fieldAddr t x f => rw [h x (by simp [Op.operands])]
  case field t x f => rw [h x (by simp [Op.operands])]
  case indexAddr t x i =>
    rw [← h x (by simp [Op.operands]), ← h i (by simp [Op.operands])]
    cases hv : ev s.tm x with
    | none => rfl
    | some v =>
      simp only [Option.bind_some]
      congr 1; funext q1
      exact indexA_congr fun b hb => hr b (by simp [readRow, evRows, hv]; exact hb)
  case index t x i => rw [h x (by simp [Op.operands]), h i (by simp [Op.operands])]
  case extract x i => rw [h x (by simp [Op.operands])]
  case nilCheck x => rw [h x (by simp [Op.operands])]
  case call c =>
    unfold lenCall
    split
    · rename_i x t
      rw [h x (by simp [Op.operands, Call.operands])]
    · rfl

theorem quietOp_congr {op : Op} (h : ∀ x ∈ op.operands.toList, ev s.tm x = ev s'.tm x) (hr : ∀ b ∈ readRow s op, rowOf s.rows b = rowOf s'.rows b) : quietOp cx s op = quietOp cx s' op := by
  unfold quietOp pureCall
  rw [pureOp_congr h hr, callOf_congr h]

theorem newOp_congr {T : Tab} {op : Op} (h : ∀ x ∈ op.operands.toList, ev s.tm x = ev s'.tm x) : newOp T s op = newOp T s' op := by
  cases op <;> simp only [newOp]
  case box t x => rw [h x (by simp [Op.operands])]
  case buildSlice t len parts => rw [evP_congr (tm := s.tm) (tm' := s'.tm) fun x hx => h x (by simpa [Op.operands] using hx)]

theorem storeS_congr {T : Tab} {rows rows' : List (Option Row)} {t : TypeId} {x v : SV} {ps : List Prop} {b : Nat} {r : Row} (h : storeS T rows t x v = some (ps, b, r)) (hr : rowOf rows b = rowOf rows' b) : storeS T rows' t x v = some (ps, b, r) := by
  simp only [storeS, Option.bind_eq_some_iff] at h ⊢
  obtain ⟨i, hi, h⟩ := h
  refine ⟨i, hi, ?_⟩
  split at h
  · rename_i c off
    simp only [Option.bind_eq_some_iff] at h
    obtain ⟨q, hq, new, hv, h⟩ := h
    have hcb : c = b := by
      rcases cond_some h with ⟨e, hx⟩ | ⟨e, hx⟩
      · split at hx
        · cases hx; rfl
        · rcases cond_some hx with ⟨ea, hy⟩ | ⟨ea, hy⟩
          · cases hy
          · simp only [Option.bind_eq_some_iff, Option.map_eq_some_iff] at hy
            obtain ⟨_, _, _, _, hy⟩ := hy
            cases hy; rfl
      · cases hx
    subst hcb
    simp only [← hr, hq, Option.bind_some, hv]
    exact h
  · rename_i c off e
    rcases cond_some h with ⟨ea, hx⟩ | ⟨ea, hx⟩
    · cases hx
    · rcases beq_some hx with ⟨es, hy⟩ | ⟨es, hy⟩
      · have hcb : c = b := by
          simp only [Option.bind_eq_some_iff, Option.map_eq_some_iff] at hy
          obtain ⟨_, _, _, _, _, _, _, _, hy⟩ := hy
          cases hy; rfl
        subst hcb
        rw [← hr]
        exact h
      · cases hy
  · cases h

theorem storeOp_congr {T : Tab} {op : Op} {ps : List Prop} {b : Nat} {r : Row} (h : ∀ x ∈ op.operands.toList, ev s.tm x = ev s'.tm x) (hs : storeOp T s op = some (ps, b, r)) (hr : rowOf s.rows b = rowOf s'.rows b) : storeOp T s' op = some (ps, b, r) := by
  cases op <;> simp only [storeOp, reduceCtorEq] at hs ⊢
  case store t x v =>
    rw [← h x (by simp [Op.operands]), ← h v (by simp [Op.operands])]
    simp only [Option.bind_eq_some_iff] at hs ⊢
    obtain ⟨x', h1, v', h2, h3⟩ := hs
    exact ⟨x', h1, v', h2, storeS_congr h3 hr⟩

theorem layInts_congr {rows rows' : List (Option Row)} {k : IntKind} {dst : SV} {ys : List Int} {q : List Prop × Nat × Row} (h : layInts rows k dst ys = some q) (hr : rowOf rows q.2.1 = rowOf rows' q.2.1) : layInts rows' k dst ys = some q := by
  cases dst <;> simp only [layInts, reduceCtorEq] at h ⊢
  case sl b off len cap =>
    have hb : q.2.1 = b := by
      simp only [Option.bind_eq_some_iff, Option.map_eq_some_iff] at h
      obtain ⟨_, _, _, _, h⟩ := h
      subst h; rfl
    rw [hb] at hr
    rw [← hr]; exact h
  case os b off len cap =>
    have hb : q.2.1 = b := by
      simp only [Option.bind_eq_some_iff, Option.map_eq_some_iff] at h
      obtain ⟨_, _, _, _, h⟩ := h
      subst h; rfl
    rw [hb] at hr
    rw [← hr]; exact h
  case on b len z =>
    have hb : q.2.1 = b := by
      simp only [Option.bind_eq_some_iff] at h
      obtain ⟨r, _, h⟩ := h
      rcases beq_some h with ⟨e, h⟩ | ⟨e, h⟩
      · cases h
      · simp only [Option.map_eq_some_iff] at h
        obtain ⟨_, _, h⟩ := h
        subst h; rfl
    rw [hb] at hr
    rw [← hr]; exact h
theorem copyS_congr {T : Tab} {rows rows' : List (Option Row)} {t : TypeId} {x y : SV} {e : Eff} (h : copyS T rows t x y = some e) (hr : ∀ c ∈ e.rds, rowOf rows c = rowOf rows' c) : copyS T rows' t x y = some e := by
  simp only [copyS, Option.bind_eq_some_iff] at h ⊢
  obtain ⟨i, hi, te, hte, ei, hei, k, hk, h⟩ := h
  refine ⟨i, hi, te, hte, ei, hei, k, hk, ?_⟩
  rcases beq_some h with ⟨es, hx⟩ | ⟨es, hx⟩
  · simp only [Option.bind_eq_some_iff, Option.map_eq_some_iff] at hx
    obtain ⟨q, hq, len, hlen, z, hz, hx⟩ := hx
    subst hx
    have h1 := sliceInts_congr (rows := rows) (rows' := rows') (k := k) (v := y) (fun b hb => hr b (by simp [hb]))
    have h2 := layInts_congr hz (hr z.2.1 (by simp))
    rw [show Nat.beq ei.size 1 = true by rw [es]; rfl]
    simp only [cond_true, Option.bind_eq_some_iff, Option.map_eq_some_iff]
    exact ⟨q, by rw [← h1]; exact hq, len, hlen, z, h2, rfl⟩
  · cases hx
theorem clearS_congr {T : Tab} {rows rows' : List (Option Row)} {t : TypeId} {x : SV} {e : Eff} (h : clearS T rows t x = some e) (hr : ∀ c ∈ e.rds, rowOf rows c = rowOf rows' c) : clearS T rows' t x = some e := by
  simp only [clearS, Option.bind_eq_some_iff] at h ⊢
  obtain ⟨i, hi, te, hte, ei, hei, k, hk, h⟩ := h
  refine ⟨i, hi, te, hte, ei, hei, k, hk, ?_⟩
  rcases cond_some h with ⟨es, hx⟩ | ⟨es, hx⟩
  · simp only [Option.bind_eq_some_iff, Option.map_eq_some_iff] at hx
    obtain ⟨len, hlen, z, hz, hx⟩ := hx
    subst hx
    have h2 := layInts_congr hz (hr z.2.1 (by simp))
    rw [es]
    simp only [cond_true, Option.bind_eq_some_iff, Option.map_eq_some_iff]
    exact ⟨len, hlen, z, h2, rfl⟩
  · cases hx
theorem appendS_congr {T : Tab} {rows rows' : List (Option Row)} {b : Nat} {t : TypeId} {x y : SV} {e : Eff} (h : appendS T rows b t x y = some e) (hr : ∀ c ∈ e.rds, rowOf rows c = rowOf rows' c) : appendS T rows' b t x y = some e := by
  have hall : (∀ c ∈ rowsOfV y, rowOf rows c = rowOf rows' c) ∧ ∀ j len z, x = .on j len z → rowOf rows j = rowOf rows' j := by
    simp only [appendS, Option.bind_eq_some_iff] at h
    obtain ⟨i, hi, te, hte, ei, hei, h⟩ := h
    rcases cond_some h with ⟨ec, h⟩ | ⟨ec, h⟩
    · split at h
      · rcases beq_some h with ⟨es, h⟩ | ⟨es, h⟩
        · simp only [Option.bind_eq_some_iff] at h
          obtain ⟨q, hq, h⟩ := h
          split at h
          · rcases cond_some h with ⟨ev, h⟩ | ⟨ev, h⟩
            · cases h; exact ⟨hr, fun j len z h => by cases h⟩
            · cases h
          · simp only [Option.bind_eq_some_iff] at h
            obtain ⟨r, hr2, p, hp, h⟩ := h
            rcases cond_some h with ⟨ev, h⟩ | ⟨ev, h⟩
            · cases h
              exact ⟨fun c hc => hr c (by simp [hc]), fun j len z h => by cases h; exact hr _ (by simp)⟩
            · cases h
          · cases h
        · cases h
      · simp only [Option.bind_eq_some_iff] at h
        obtain ⟨q, hq, h⟩ := h
        split at h
        · rcases cond_some h with ⟨ev, h⟩ | ⟨ev, h⟩
          · cases h; exact ⟨hr, fun j len z h => by cases h⟩
          · cases h
        · simp only [Option.bind_eq_some_iff] at h
          obtain ⟨r, hr2, h⟩ := h
          rcases cond_some h with ⟨ev, h⟩ | ⟨ev, h⟩
          · cases h
            exact ⟨fun c hc => hr c (by simp [hc]), fun j len z h => by cases h; exact hr _ (by simp)⟩
          · cases h
        · cases h
    · cases h
  have h1 : ∀ k, sliceInts rows k y = sliceInts rows' k y := fun k => sliceInts_congr hall.1
  have h2 : ∀ sz, sliceCells rows sz y = sliceCells rows' sz y := fun k => sliceCells_congr hall.1
  rw [← h]
  cases x <;> simp only [appendS, h1, h2]
  rename_i j len z
  rw [hall.2 j len z rfl]
theorem listOp_congr {T : Tab} {op : Op} {b : Nat} {e : Eff} (h : ∀ x ∈ op.operands.toList, ev s.tm x = ev s'.tm x) (hs : listOp T s b op = some e) (hr : ∀ c ∈ e.rds, rowOf s.rows c = rowOf s'.rows c) : listOp T s' b op = some e := by
  unfold listOp at hs ⊢
  split at hs
  · rename_i t len cap
    rw [← h len (by simp [Op.operands]), ← h cap (by simp [Op.operands])]
    exact hs
  · rename_i x y t u
    rw [← h x (by simp [Op.operands, Call.operands]), ← h y (by simp [Op.operands, Call.operands])]
    rcases cond_some hs with ⟨ec, hx⟩ | ⟨ec, hx⟩
    · rw [ec]
      simp only [cond_true, Option.bind_eq_some_iff] at hx ⊢
      obtain ⟨x', h1, y', h2, h3⟩ := hx
      exact ⟨x', h1, y', h2, appendS_congr h3 hr⟩
    · cases hx
  · rename_i x y t us
    rw [← h x (by simp [Op.operands, Call.operands]), ← h y (by simp [Op.operands, Call.operands])]
    simp only [Option.bind_eq_some_iff] at hs ⊢
    obtain ⟨x', h1, y', h2, h3⟩ := hs
    exact ⟨x', h1, y', h2, copyS_congr h3 hr⟩
  · rename_i x t
    rw [← h x (by simp [Op.operands, Call.operands])]
    simp only [Option.bind_eq_some_iff] at hs ⊢
    obtain ⟨x', h1, h3⟩ := hs
    exact ⟨x', h1, clearS_congr h3 hr⟩
  · cases hs
theorem effOp_congr {T : Tab} {op : Op} {b : Nat} {e : Eff} (h : ∀ x ∈ op.operands.toList, ev s.tm x = ev s'.tm x) (hs : effOp T s b op = some e) (hr : ∀ c ∈ e.rds, rowOf s.rows c = rowOf s'.rows c) : effOp T s' b op = some e := by
  unfold effOp at hs ⊢
  rw [← newOp_congr h]
  split at hs
  · exact hs
  · split at hs
    · rename_i ps c r hst
      cases hs
      rw [storeOp_congr h hst (hr c (by simp))]
    · rename_i hst
      have h2 : storeOp T s' op = none := by
        cases op <;> first
          | rfl
          | (exfalso; simp [listOp] at hs)
      rw [h2]
      exact listOp_congr h hs hr

theorem looks_of {all : Array Oper} {o : Oper} {t : Tmp} (h : Operand.tmp t ∈ o.op.operands.toList) : t ∈ o.looksAt all := by
  unfold Oper.looksAt
  rw [List.mem_append]
  left
  rw [List.mem_filterMap]
  exact ⟨.tmp t, h, rfl⟩

/-- A fact holds in every state that reads alike at what the operation looks at. -/
theorem Fact.congr {all : Array Oper} {b : Nat} {o : Oper} {r : Rec} (hf : Fact cx all b s o r) (h : ∀ t ∈ o.looksAt all, s.tm.lookup t = s'.tm.lookup t) (hr : ∀ c ∈ r.rds, rowOf s.rows c = rowOf s'.rows c) : Fact cx all b s' o r := by
  have hev : ∀ x ∈ o.op.operands.toList, ev s.tm x = ev s'.tm x := fun x hx => ev_congr fun t ht => by subst ht; exact h t (looks_of hx)
  obtain ⟨h1, h2, h3⟩ := hf
  have hg : ∀ q, GuardIs all s o q → GuardIs all s' o q := by
    intro q hq
    unfold GuardIs at hq ⊢
    split at hq
    · exact hq
    · rename_i j want hgd
      obtain ⟨d, sv, g1, g2, g3⟩ := hq
      refine ⟨d, sv, g1, ?_, g3⟩
      rw [← h d ?_]; exact g2
      unfold Oper.looksAt
      rw [List.mem_append]
      right
      rw [hgd]
      simp [g1]
  refine ⟨h1, h2, ?_⟩
  rcases h3 with ⟨g, hs⟩ | ⟨g, hs⟩
  · refine .inl ⟨hg _ g, ?_⟩
    rcases hs with ⟨ps, q1, q2, q3, q4, q5⟩ | ⟨c, x, y, sv, q, cl, q1, q2, q3, q4, q5, q6⟩ | ⟨e, q1, q2, q3, q4, q5, q6⟩
    · refine .inl ⟨ps, ?_, q2, q3, q4, by rw [q5]; exact readRow_congr hev⟩
      rw [← quietOp_congr hev (fun c hc => hr c (by rw [q5]; exact hc))]
      exact q1
    · refine .inr (.inl ⟨c, x, y, sv, q, cl, q1, ?_, q3, ?_, q5, q6⟩)
      · rw [← h c (looks_of (by rw [q1]; simp [Op.operands]))]; exact q2
      · rw [← q4]
        symm
        cases q
        · exact hev y (by rw [q1]; simp [Op.operands])
        · exact hev x (by rw [q1]; simp [Op.operands])
    · exact .inr (.inr ⟨e, effOp_congr hev q1 (fun c hc => hr c (by rw [q5]; exact hc)), q2, q3, q4, q5, q6⟩)
  · exact .inr ⟨hg _ g, hs⟩
end Sx
end Go.Proofs.Ytmmejomalfjcnaa
