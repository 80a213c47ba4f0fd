/- The symbolic executor over functions: what a call leads to. No condition. -/
import Derived.Test.YtmmejomalfjcnaaSxSound3
namespace Go.Proofs.Ytmmejomalfjcnaa
open Go.RowKit
set_option linter.unusedVariables false
set_option linter.unusedSimpArgs false
namespace Sx
variable {P : Program} {W : World} {F : Nat → Prop} {ρ ρ0 : Num} {s : SS} {a : Act} {w : World} {cx : Ctx}

def initTm : Nat → List SV → List (Nat × SV)
  | _, [] => []
  | i, v :: vs => (i, v) :: initTm (i + 1) vs

/-- The results: what is owed, the values. -/
def resL (T : Tab) (s : SS) : List ResultVar → Option (List Prop × List SV)
  | [] => some ([], [])
  | .tmp t :: r => (ev s.tm (.tmp t)).bind fun v => (resL T s r).map fun q => (q.1, v :: q.2)
  | .cell t ty :: r => (ev s.tm (.tmp t)).bind fun x => bif isPtr x then (loadS T s.rows ty x).bind fun p => (resL T s r).map fun q => (p.1 ++ q.1, p.2 :: q.2) else none

def retS (cx : Ctx) (fn : Func) (k : SV → Rows → Prop) (s : SS) : Prop :=
  match resL cx.T s fn.results.toList with
  | some (ps, vs) => andL ps (match vs with
    | [v] => k v s.rows
    | vs => k (.tup vs) s.rows)
  | none => False

def execFn (cx : Ctx) (fuel : Nat) (fn : Func) (args : List SV) (rows : Rows) (k : SV → Rows → Prop) : Prop :=
  match fn.body with
  | some c => bif Nat.ble args.length fn.ntmps then
      exec { cx with nt := fn.ntmps, n0 := rows.length } fuel c ⟨initTm 0 args, rows⟩ ⟨retS cx fn k, retS cx fn k, []⟩
    else False
  | none => False

theorem denL_length (ρ : Num) (l : List SV) : (denL ρ l).length = l.length := by simp [denL_eq]
theorem okdL_get {n : Nat} : ∀ {l : List SV} {i : Nat} {v : SV}, okdL W F n l → l[i]? = some v → okd W F n v
  | [], i, v, h, hv => by simp at hv
  | c :: l, 0, v, h, hv => by simp at hv; subst hv; exact h.1
  | c :: l, i + 1, v, h, hv => okdL_get h.2 (by simpa using hv)
theorem initTm_get : ∀ {i : Nat} {l : List SV} {d : Nat} {v : SV}, (initTm i l).lookup d = some v → i ≤ d ∧ l[d - i]? = some v
  | i, [], d, v, h => by simp [initTm] at h
  | i, c :: l, d, v, h => by
    simp only [initTm] at h
    rw [lookup_cons] at h
    by_cases hd : d = i
    · simp [hd] at h; subst h hd; simp
    · simp [hd] at h
      obtain ⟨h1, h2⟩ := initTm_get h
      refine ⟨by omega, ?_⟩
      rw [show d - i = (d - (i + 1)) + 1 by omega]
      simpa using h2

def resF (tmps : Array Value) : ResultVar → Sem Value
  | .tmp t => pure (tmps.getD t undef)
  | .cell c t => do loadVar t (← asAddr (tmps.getD c undef))
theorem results_eq (fn : Func) (tmps : Array Value) : results fn tmps = (do
    let vs ← fn.results.mapM (resF tmps)
    pure (if h : vs.size = 1 then vs[0] else .tuple vs)) := by
  unfold results
  congr 2

theorem resL_ok (hT : TabOK P cx.T) (st : Sat W F cx.nt ρ s a w) : ∀ {l : List ResultVar} {ps : List Prop} {vs : List SV}, resL cx.T s l = some (ps, vs) → All ps →
    (l.mapM (resF a.tmps)).run P w = .ok (denL ρ vs) w ∧ okdL W F s.rows.length vs
  | [], ps, vs, h, hp => by simp [resL] at h; obtain ⟨rfl, rfl⟩ := h; exact ⟨by simp [denL], trivial⟩
  | .tmp t :: l, ps, vs, h, hp => by
    simp only [resL, Option.bind_eq_some_iff, Option.map_eq_some_iff] at h
    obtain ⟨v, hv, ⟨p2, v2⟩, h2, h⟩ := h
    cases h
    obtain ⟨e1, e2, _⟩ := ev_ok st hv
    obtain ⟨i1, i2⟩ := resL_ok hT st h2 hp
    refine ⟨?_, e2, i2⟩
    have hu : (resF a.tmps (.tmp t)).run P w = .ok (den ρ v) w := by simp only [resF, Sem.run_pure]; exact congrArg (fun x => Result.ok x w) e1
    simp [List.mapM_cons, hu, i1, denL]
  | .cell c t :: l, ps, vs, h, hp => by
    simp only [resL, Option.bind_eq_some_iff] at h
    obtain ⟨x, hx, h⟩ := h
    obtain ⟨e1, e2, _⟩ := ev_ok st hx
    rcases cond_some h with ⟨ep, h⟩ | ⟨ep, h⟩
    · simp only [Option.bind_eq_some_iff, Option.map_eq_some_iff] at h
      obtain ⟨⟨p1, v1⟩, hl, ⟨p2, v2⟩, h2, h⟩ := h
      cases h
      obtain ⟨u, hu, g1, g2, _⟩ := loadS_ok hT st.mem hl (fun p hq => hp p (by simp [hq])) e2
      obtain ⟨i1, i2⟩ := resL_ok hT st h2 (fun p hq => hp p (by simp [hq]))
      refine ⟨?_, g2, i2⟩
      simp only [Act.eval] at e1
      have hu' : (resF a.tmps (.cell c t)).run P w = .ok (den ρ v1) w := by
        simp only [resF, e1]
        rw [← g1]
        cases x <;> simp [isPtr] at ep <;> simpa [Instr.loadAt, Instr.sureAddr, den, asAddr] using hu
      simp [List.mapM_cons, hu', i1, denL]
    · cases h

theorem retS_ok (hT : TabOK P cx.T) {fn : Func} {k : SV → Rows → Prop} (h : retS cx fn k s) (st : Sat W F cx.nt ρ s a w) :
    ∃ v, k v s.rows ∧ (results fn a.tmps).run P w = .ok (den ρ v) w ∧ okd W F s.rows.length v := by
  unfold retS at h
  split at h
  · rename_i ps vs hr
    obtain ⟨hp, hk⟩ := andL_out h
    obtain ⟨r1, r2⟩ := resL_ok hT st hr hp
    have hmap : (fn.results.mapM (resF a.tmps)).run P w = .ok (denL ρ vs).toArray w := by
      rw [Array.mapM_eq_mapM_toList]
      simp only [Sem.run_map]
      rw [r1]
      rfl
    rw [results_eq, Sem.run_bind, hmap]
    simp only [Result.andThen_ok, Sem.run_pure]
    split at hk
    · rename_i v
      exact ⟨v, hk, by simp [denL], r2.1⟩
    · rename_i hne
      refine ⟨.tup vs, hk, ?_, r2⟩
      have : (denL ρ vs).toArray.size ≠ 1 := by
        simp only [List.size_toArray, denL_length]
        intro h1
        match vs, h1 with
        | [v], _ => exact hne v rfl
      rw [dif_neg this]
      rfl
  · exact h.elim

/-- What a call of a function leads to, by its body. -/
theorem execFn_ok (hm : P.follows .mixedOrders = true)
    (hc : CxOK P cx)
    {f : FuncId} {fn : Func} (hf : P.funcs[f]? = some fn) {fuel : Nat} {args : List SV} {rows : Rows} {k : SV → Rows → Prop} (h : execFn cx fuel fn args rows k) : SemCall P f args rows k := by
  intro W F ρ w hmem hargs
  unfold execFn at h
  split at h
  · rename_i c hb
    cases hn : Nat.ble args.length fn.ntmps with
    | false => simp [hn] at h
    | true =>
      simp only [hn, cond_true] at h
      have hn := Nat.le_of_ble_eq_true hn
      have hx : CxOK P { cx with nt := fn.ntmps, n0 := rows.length } := ⟨hc.tab, hc.pure, hc.call⟩
      have hat : At W F ρ { cx with nt := fn.ntmps, n0 := rows.length } ⟨initTm 0 args, rows⟩ { tmps := (denL ρ args).toArray ++ Array.replicate (fn.ntmps - (denL ρ args).toArray.size) undef, defers := [] } w := by
        refine ⟨ρ, ⟨by simp [denL_length]; omega, rfl, fun d sv hd => ?_, hmem⟩, fun _ _ => rfl, Nat.le_refl _⟩
        obtain ⟨_, h2⟩ := initTm_get hd
        simp only [Nat.sub_zero] at h2
        right
        refine ⟨?_, okdL_get hargs h2⟩
        have hlt := (List.getElem?_eq_some_iff.1 h2).1
        rw [Array.getElem?_append_left (by simp [denL_length]; exact hlt)]
        simp [denL_eq, h2]
      refine calls_of_wp hf hb (wp_mono (exec_ok hm hx fuel c _ _ _ w h hat).wp fun e a' w' hq => ?_)
      have fin : ∀ s, retS cx fn k s → At W F ρ { cx with nt := fn.ntmps, n0 := rows.length } s a' w' → a'.defers = [] ∧ ∃ v, (results fn a'.tmps).run P w' = .ok v w' ∧
          ∃ ρ' res rows', k res rows' ∧ Ending.returned v = .returned (den ρ' res) ∧ okd W F rows'.length res ∧ MemOK W F ρ' rows' w' ∧ rows.length ≤ rows'.length ∧ ∀ i, i < rows.length → ρ' i = ρ i := by
        rintro s hs ⟨ρ', st, h1, h2⟩
        obtain ⟨v, k1, k2, k3⟩ := retS_ok (cx := { cx with nt := fn.ntmps, n0 := rows.length }) hc.tab hs st
        exact ⟨st.defers, _, k2, ρ', v, s.rows, k1, rfl, k3, st.mem, h2, h1⟩
      cases e with
      | normal => obtain ⟨s, hs, hat'⟩ := hq; exact fin s hs hat'
      | ret => obtain ⟨s, hs, hat'⟩ := hq; exact fin s hs hat'
      | exit id =>
        obtain ⟨k, hk, _⟩ := hq
        simp at hk
      | _ => exact hq.elim
  · exact h.elim
end Sx
end Go.Proofs.Ytmmejomalfjcnaa
