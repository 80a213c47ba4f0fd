/- The symbolic executor is right. No condition. -/
import Derived.Test.YtmmejomalfjcnaaSxRun
import Derived.LoopN
import Derived.Deep.LoopGhost
namespace Go.Proofs.Ytmmejomalfjcnaa
open Go.RowKit
set_option linter.unusedVariables false
set_option linter.unusedSimpArgs false
namespace Sx
variable {P : Program} {W : World} {F : Nat → Prop} {ρ ρ0 : Num} {s : SS} {a : Act} {w : World} {cx : Ctx}

/-- What a call of a function that only makes new memory answers. -/
def PureSem (P : Program) (f : FuncId) (args : List SV) (v : SV) : Prop :=
  ∀ (W : World) (F : Nat → Prop) (ρ : Num) (rows : List (Option Row)) (w : World), MemOK W F ρ rows w → okdL W F rows.length args →
    okd W F rows.length v ∧ v ≠ .top ∧ Calls P f (denL ρ args).toArray w fun e w' => e = .returned (den ρ v) ∧ Frm (fun _ => False) w w'

structure CxOK (P : Program) (cx : Ctx) : Prop where
  tab : TabOK P cx.T
  pure : ∀ f h, cx.pure f = some h → (∀ args w, (callFunc f args).run P w = .ok (.enter f args) w) ∧ ∀ args ps v, h args = some (ps, v) → All ps → PureSem P f args v
  call : ∀ f h, cx.tbl f = some h → (∀ args w, (callFunc f args).run P w = .ok (.enter f args) w) ∧ ∀ args rows k, h args rows k → SemCall P f args rows k

/-- The state is there, for some numbering of its rows, the first of which are as they were. -/
def At (W : World) (F : Nat → Prop) (ρ0 : Num) (cx : Ctx) (s : SS) (a : Act) (w : World) : Prop :=
  ∃ ρ, Sat W F cx.nt ρ s a w ∧ (∀ i, i < cx.n0 → ρ i = ρ0 i) ∧ cx.n0 ≤ s.rows.length

theorem lookup_cons {α : Type} {d e : Nat} {v : α} {l : List (Nat × α)} : List.lookup e ((d, v) :: l) = if e = d then some v else List.lookup e l := by
  simp only [List.lookup]
  by_cases h : e = d
  · simp [h]
  · simp [h, beq_false_of_ne h]

theorem Sat.put (st : Sat W F cx.nt ρ s a w) {d : Nat} {v : SV} {x : Value} (hd : d < cx.nt) (hg : x = den ρ v) (ho : okd W F s.rows.length v) : Sat W F cx.nt ρ ⟨(d, v) :: s.tm, s.rows⟩ (a.put (some d) x) w := by
  refine ⟨by simp [Act.put, st.size], st.defers, fun e sv he => ?_, st.mem⟩
  rw [lookup_cons] at he
  by_cases hed : e = d
  · subst hed
    simp at he; subst he
    right
    refine ⟨?_, ho⟩
    simp only [Act.put]
    rw [Array.getElem?_setIfInBounds_self, hg]
    simp [st.size, hd]
  · simp [hed] at he
    rcases st.tm e sv he with h | ⟨h1, h2⟩
    · exact .inl h
    · right
      refine ⟨?_, h2⟩
      simp only [Act.put]
      rw [Array.getElem?_setIfInBounds_ne (by omega)]
      exact h1

/-- Other rows, more of them. -/
theorem Sat.rows (st : Sat W F cx.nt ρ s a w) {ρ' : Num} {rows' : Rows} {w' : World} (hm : MemOK W F ρ' rows' w') (hρ : ∀ i, i < s.rows.length → ρ' i = ρ i) (hl : s.rows.length ≤ rows'.length) : Sat W F cx.nt ρ' ⟨s.tm, rows'⟩ a w' := by
  refine ⟨st.size, st.defers, fun e sv he => ?_, hm⟩
  rcases st.tm e sv he with h | ⟨h1, h2⟩
  · exact .inl h
  · right
    exact ⟨by rw [h1, den_congr hρ h2], okd_mono hl h2⟩

theorem At.put (h : At W F ρ0 cx s a w) {d : Option Tmp} {v : SV} {k : SS → Prop} {x : Value} (hg : ∀ ρ, Sat W F cx.nt ρ s a w → (∀ i, i < cx.n0 → ρ i = ρ0 i) → x = den ρ v ∧ okd W F s.rows.length v) (hk : putS cx s.tm d v fun tm => k ⟨tm, s.rows⟩) :
    ∃ s', k s' ∧ At W F ρ0 cx s' (a.put d x) w := by
  obtain ⟨ρ, st, h1, h2⟩ := h
  obtain ⟨g1, g2⟩ := hg ρ st h1
  cases d with
  | none => exact ⟨_, hk, ρ, st, h1, h2⟩
  | some d =>
    simp only [putS] at hk
    cases hd : Nat.blt d cx.nt with
    | false => simp [hd] at hk
    | true =>
      simp only [hd, cond_true] at hk
      have hk := forceSV_out (K := fun v => k ⟨(d, v) :: s.tm, s.rows⟩) hk
      exact ⟨_, hk, ρ, st.put (Nat.le_of_ble_eq_true (show Nat.ble (d + 1) cx.nt = true from hd)) g1 g2, h1, h2⟩

theorem denL_append (ρ : Num) (x y : List SV) : denL ρ (x ++ y) = denL ρ x ++ denL ρ y := by simp [denL_eq]
theorem denL_toArray_append (ρ : Num) (x y : List SV) : (denL ρ x).toArray ++ (denL ρ y).toArray = (denL ρ (x ++ y)).toArray := by simp [denL_append]

theorem callOf_ok (st : Sat W F cx.nt ρ s a w) {o : Oper} {f : FuncId} {args : List SV} (h : callOf s o.op = some (f, args)) (hc : ∀ args w, (callFunc f args).run P w = .ok (.enter f args) w) :
    (execOp a.eval o).run P w = .ok (.enter f (denL ρ args).toArray) w ∧ okdL W F s.rows.length args := by
  unfold callOf at h
  split at h
  · rename_i fo args0 tys hop
    simp only [Option.bind_eq_some_iff] at h
    obtain ⟨fv, hf, h⟩ := h
    split at h
    · rename_i g first cap
      simp only [Option.map_eq_some_iff] at h
      obtain ⟨as', has, h⟩ := h
      cases h
      obtain ⟨e1, e2, _⟩ := ev_ok st hf
      obtain ⟨a1, a2⟩ := evL_ok st has
      have hargs : args0.map a.eval = (denL ρ as').toArray := by apply Array.ext'; rw [Array.toList_map, a1]
      refine ⟨?_, okdL_append (okdL_append e2.1 a2) e2.2⟩
      simp only [den] at e1
      simp only [execOp, hop, resolve, e1, Deferred.ofValue, hargs]
      simp only [bind_pure_comp, map_pure, pure_bind, invoke, denL_toArray_append, Sem.run_pure, hc, Sem.run_bind, Result.andThen_ok]
    · cases h
  · cases h

mutual
theorem soft_den (ρ : Num) : ∀ (c : SV), den ρ (soft c) = den ρ c
  | .agg cs => by simp only [soft, den]; rw [softL_cells ρ cs]
  | .tup cs => by simp only [soft, den]; rw [softL_den ρ cs]
  | .lit _ _ | .litb _ | .top | .int _ _ | .bool _ | .str _ | .val _ | .hnd _ | .ptr _ _ | .pte _ _ _ | .sl _ _ _ _ | .os _ _ _ _ | .on _ _ _ | .gp _ _ | .gpe _ _ _ _ _ | .rd _ _ _ | .rda _ _ _ _ | .rs _ _ _ _ | .rsa _ _ _ _ _ _ | .ints _ _ _ | .fn _ _ _ => rfl
theorem softL_den (ρ : Num) : ∀ (l : List SV), denL ρ (softL l) = denL ρ l
  | [] => rfl
  | c :: l => by simp only [softL, denL]; rw [soft_den ρ c, softL_den ρ l]
theorem softL_cells (ρ : Num) : ∀ (l : List SV), cellsL ρ (softL l) = cellsL ρ l
  | [] => rfl
  | c :: l => by
    have h1 := soft_den ρ c
    have h2 := softL_cells ρ l
    cases c <;> simp_all [softL, soft, cellsL, den]
end
mutual
theorem soft_okd {n : Nat} : ∀ {c : SV}, okd W F n c → okd W F n (soft c)
  | .agg cs, h => softL_okd (l := cs) h
  | .tup cs, h => softL_okd (l := cs) h
  | .lit _ _, _ | .litb _, _ => trivial
  | .top, h | .int _ _, h | .bool _, h | .str _, h | .val _, h | .hnd _, h | .ptr _ _, h | .pte _ _ _, h | .sl _ _ _ _, h | .os _ _ _ _, h | .on _ _ _, h | .gp _ _, h | .gpe _ _ _ _ _, h | .rd _ _ _, h | .rda _ _ _ _, h | .rs _ _ _ _, h | .rsa _ _ _ _ _ _, h | .ints _ _ _, h | .fn _ _ _, h => h
theorem softL_okd {n : Nat} : ∀ {l : List SV}, okdL W F n l → okdL W F n (softL l)
  | [], _ => trivial
  | c :: l, h => ⟨soft_okd h.1, softL_okd h.2⟩
end

/-- What leaves the rows alone yields one value, in a world that holds the same rows. -/
theorem quietOp_ok (hx : CxOK P cx) (st : Sat W F cx.nt ρ s a w) {o : Oper} {ps : List Prop} {v : SV} (h : quietOp cx s o.op = some (ps, v)) (hp : All ps) {K : Act → World → Prop} {Q : Exit → Act → World → Prop}
    (hK : ∀ w', MemOK W F ρ s.rows w' → K (a.put o.dst (den ρ v)) w') : o.wp P a w K Q ∧ okd W F s.rows.length v ∧ v ≠ .top := by
  unfold quietOp at h
  unfold Oper.wp
  split at h
  · rename_i r hop
    cases h
    obtain ⟨u, hu, g1, g2, g3⟩ := pureOp_ok hx.tab st hop hp
    refine ⟨?_, g2, g3⟩
    rw [hu]
    simp only [Oper.upon]
    rw [g1]
    exact hK w st.mem
  · simp only [pureCall, Option.bind_eq_some_iff] at h
    obtain ⟨⟨f, args⟩, hc, hh, htb, hv⟩ := h
    obtain ⟨c1, c2⟩ := hx.pure f hh htb
    obtain ⟨e1, e2⟩ := callOf_ok st hc c1
    obtain ⟨p1, p2, p3⟩ := c2 (softL args) ps v hv hp W F ρ s.rows w st.mem (softL_okd e2)
    rw [softL_den] at p3
    refine ⟨?_, p1, p2⟩
    rw [e1]
    simp only [Oper.upon]
    refine p3.mono ?_
    rintro e w' ⟨rfl, hf⟩
    exact hK w' (st.mem.step hf)

/-- A free place behind the rows. -/
theorem pad_len (op : Op) (rows : Rows) : (padRows op rows).length = rows.length + (if isNew op then 1 else 0) := by
  unfold padRows; cases isNew op <;> simp
theorem pad_get (op : Op) (rows : Rows) {i : Nat} {x : Row} (h : (padRows op rows)[i]? = some (some x)) : rows[i]? = some (some x) := by
  unfold padRows at h
  cases hn : isNew op with
  | false => rw [hn] at h; exact h
  | true =>
    rw [hn] at h
    simp only [cond_true] at h
    by_cases hl : i < rows.length
    · rwa [List.getElem?_append_left hl] at h
    · rw [List.getElem?_append_right (by omega)] at h
      by_cases h0 : i - rows.length = 0
      · rw [h0] at h; simp at h
      · rw [List.getElem?_eq_none (by simp; omega)] at h; cases h
theorem Sat.pad {nt : Nat} (st : Sat W F nt ρ s a w) (op : Op) : Sat W F nt ρ ⟨s.tm, padRows op s.rows⟩ a w := by
  have hle : s.rows.length ≤ (padRows op s.rows).length := by rw [pad_len]; omega
  refine ⟨st.size, st.defers, fun d sv hd => ?_, ⟨st.mem.frame, st.mem.glob, fun i x hi => ?_, fun i j x y hi hj => st.mem.inj i j x y (pad_get _ _ hi) (pad_get _ _ hj), fun i x hi => st.mem.mine i x (pad_get _ _ hi)⟩⟩
  · rcases st.tm d sv hd with h | ⟨g1, g2⟩
    · exact .inl h
    · exact .inr ⟨g1, okd_mono hle g2⟩
  · obtain ⟨h1, h2⟩ := st.mem.row i x (pad_get _ _ hi)
    exact ⟨h1, okdL_mono hle h2⟩
theorem Sat.free {nt : Nat} (st : Sat W F nt ρ s a w) {op : Op} (h : isNew op = true) : Free (padRows op s.rows) s.rows.length ∧ ∀ d sv, s.tm.lookup d = some sv → sv = .top ∨ noM s.rows.length sv = true := by
  refine ⟨⟨by rw [pad_len, h]; simp, by unfold padRows; rw [h]; simp, fun i x hi => ?_⟩, fun d sv hd => ?_⟩
  · exact okdL_noM (Nat.le_refl _) (st.mem.row i x (pad_get _ _ hi)).2
  · rcases st.tm d sv hd with h | ⟨_, h⟩
    · exact .inl h
    · exact .inr (okd_noM (Nat.le_refl _) h)
theorem putsL_len : ∀ (l : List (Nat × Option Row)) (rows : Rows), (putsL l rows).length = rows.length
  | [], rows => rfl
  | (b, r) :: l, rows => by rw [putsL, putsL_len l]; simp

theorem stepO_ok (hx : CxOK P cx) {o : Oper} {k : SS → Prop} {Q : Exit → Act → World → Prop} (h : stepO cx o s k) (hat : At W F ρ0 cx s a w) :
    o.wp P a w (fun a w => ∃ s, k s ∧ At W F ρ0 cx s a w) Q := by
  unfold stepO at h
  obtain ⟨ρ, st, h1, h2⟩ := hat
  have fin : ∀ (rows : List (Option Row)) (ρ' : Num) (w' : World) (u : SV) (x : Value), MemOK W F ρ' rows w' → (∀ i, i < s.rows.length → ρ' i = ρ i) → s.rows.length ≤ rows.length → x = den ρ' u → okd W F rows.length u →
      (putS cx s.tm o.dst u fun tm => k ⟨tm, rows⟩) → ∃ s', k s' ∧ At W F ρ0 cx s' (a.put o.dst x) w' := by
    intro rows ρ' w' u x m1 m2 m3 e1 e2 hk
    have st' := st.rows m1 m2 m3
    have h1' : ∀ i, i < cx.n0 → ρ' i = ρ0 i := fun i hi => (m2 i (by omega)).trans (h1 i hi)
    cases hd : o.dst with
    | none => rw [hd] at hk; exact ⟨_, hk, ρ', st', h1', Nat.le_trans h2 m3⟩
    | some d =>
      rw [hd] at hk
      simp only [putS] at hk
      cases hb : Nat.blt d cx.nt with
      | false => simp [hb] at hk
      | true =>
        simp only [hb, cond_true] at hk
        have hk := forceSV_out (K := fun v => k ⟨(d, v) :: s.tm, rows⟩) hk
        exact ⟨_, hk, ρ', st'.put (Nat.le_of_ble_eq_true (show Nat.ble (d + 1) cx.nt = true from hb)) e1 e2, h1', Nat.le_trans h2 m3⟩
  split at h
  · rename_i ps v hop
    obtain ⟨hp, hk⟩ := andL_out h
    exact (quietOp_ok hx st hop hp (K := fun a w => ∃ s, k s ∧ At W F ρ0 cx s a w) (Q := Q) fun w' hm =>
      fin s.rows ρ w' v _ hm (fun _ _ => rfl) (Nat.le_refl _) rfl (quietOp_ok hx st hop hp (K := fun _ _ => True) (Q := Q) fun _ _ => trivial).2.1 hk).1
  · split at h
    · rename_i e hop
      obtain ⟨hp, hk⟩ := andL_out h
      have hfr := fun hn => st.free (op := o.op) hn
      obtain ⟨ρ', w', g1, g2, g3, g4, g5⟩ := effOp_ok hx.tab (st.pad o.op) hop hp (fun hn => (hfr hn).1) (fun hn => (hfr hn).2)
      have hk := forceRows_out (K := fun rows => putS cx s.tm o.dst e.v fun tm => k ⟨tm, rows⟩) hk
      refine g1 _ _ (fin _ ρ' w' e.v _ g2 (fun i hi => g3 i (.inl (by omega))) (by rw [putsL_len, pad_len]; omega) rfl (by rw [putsL_len]; exact g4) hk)
    · split at h
      · rename_i f args hop
        split at h
        · rename_i hh htb
          obtain ⟨c1, c2⟩ := hx.call f hh htb
          obtain ⟨e1, e2⟩ := callOf_ok st hop c1
          unfold Oper.wp
          rw [e1]
          simp only [Oper.upon]
          refine (c2 args s.rows _ h W F ρ w st.mem e2).mono ?_
          rintro e w' ⟨ρ', res, rows', hk, rfl, g1, g2, g3, g4⟩
          simp only
          have hk := forceRows_out (K := fun rows => putS cx s.tm o.dst res fun tm => k ⟨tm, rows⟩) hk
          exact fin _ _ _ _ _ g2 g4 g3 rfl g1 hk
        · exact h.elim
      · exact h.elim

/-- A slot known to hold a bool holds it. -/
theorem At.know (h : At W F ρ0 cx s a w) {d : Nat} {v : SV} {b c : Bool} (hl : s.tm.lookup d = some v) (hb : asB v = some (b, c)) : At W F ρ0 cx ⟨(d, .litb b) :: s.tm, s.rows⟩ a w := by
  obtain ⟨ρ, st, h1, h2⟩ := h
  refine ⟨ρ, ⟨st.size, st.defers, fun e sv he => ?_, st.mem⟩, h1, h2⟩
  rw [lookup_cons] at he
  by_cases hed : e = d
  · subst hed
    simp at he; subst he
    rcases st.tm e v hl with h | ⟨g1, g2⟩
    · subst h; simp [asB] at hb
    · rw [asB_ok hb ρ] at g1
      exact .inr ⟨g1, trivial⟩
  · simp [hed] at he
    exact st.tm e sv he
theorem At.slot (h : At W F ρ0 cx s a w) {d : Nat} {v : SV} {b c : Bool} (hl : s.tm.lookup d = some v) (hb : asB v = some (b, c)) : a.tmps[d]? = some (.bool b) := by
  obtain ⟨ρ, st, h1, h2⟩ := h
  rcases st.tm d v hl with h | ⟨g1, g2⟩
  · subst h; simp [asB] at hb
  · rw [asB_ok hb ρ] at g1; exact g1

theorem isSkip_eq : ∀ {v : SV}, isSkip v = true → v = .tup [] := by
  intro v h
  unfold isSkip at h
  split at h
  · rfl
  · cases h
theorem At.unslot (h : At W F ρ0 cx s a w) {d j : Nat} {all : Array Oper} (hd : (all[j]?).bind (·.dst) = some d) (hl : s.tm.lookup d = some (.tup [])) : yielded all a.tmps j = none := by
  obtain ⟨ρ, st, h1, h2⟩ := h
  rcases st.tm d _ hl with h | ⟨g1, g2⟩
  · cases h
  · simp [yielded, hd, g1, den, denL]

theorem branch_ok {d : Nat} {b c : Bool} {v : SV} {k : Bool → SS → Prop} (h : branch cx d b c s k) (hat : At W F ρ0 cx s a w) (hl : s.tm.lookup d = some v) (hb : asB v = some (b, c)) : ∃ s', k b s' ∧ At W F ρ0 cx s' a w := by
  unfold branch at h
  cases c with
  | true => exact ⟨s, h, hat⟩
  | false =>
    simp only [cond_false] at h
    have hk := hat.know hl hb
    split at h
    · obtain ⟨rfl, h⟩ := h; exact ⟨_, h, hk⟩
    · obtain ⟨rfl, h⟩ := h; exact ⟨_, h, hk⟩
    · cases b with
      | true => exact ⟨_, h.1 rfl, hk⟩
      | false => exact ⟨_, h.2 rfl, hk⟩

theorem execOps_ok (hx : CxOK P cx) {all : Array Oper} {k : SS → Prop} {Q : Exit → Act → World → Prop} : ∀ {l : List Oper} {s : SS} {a : Act} {w : World}, execOps cx all l s k → At W F ρ0 cx s a w →
    (∀ a w s, k s → At W F ρ0 cx s a w → Q .normal a w) → wpList P all Q l a w
  | [], s, a, w, h, hat, hQ => hQ a w s h hat
  | o :: r, s, a, w, h, hat, hQ => by
    unfold execOps at h
    unfold wpList
    split at h
    · rename_i hg
      rw [if_pos (by simp [Region.wanted, hg])]
      left
      refine Oper.wp_mono ?_ (stepO_ok (W := W) (F := F) (ρ0 := ρ0) hx h hat)
      rintro a' w' ⟨s', h', hat'⟩
      exact execOps_ok hx h' hat' hQ
    · rename_i j want hg
      split at h
      · rename_i d hd
        split at h
        · rename_i v hl
          cases hsk : isSkip v with
          | true =>
            obtain rfl := isSkip_eq hsk
            simp only [isSkip, cond_true] at h
            have hy : yielded all a.tmps j = none := hat.unslot hd hl
            have hw : Region.wanted o (yielded all a.tmps) = false := by simp [Region.wanted, hg, hy]
            rw [hw]
            simp only [Bool.false_eq_true, if_false]
            obtain ⟨s2, h2, hat2⟩ := hat.put (x := undef) (v := .tup []) (k := fun s => execOps cx all r s k) (fun ρ _ _ => ⟨rfl, trivial⟩) h
            exact execOps_ok hx h2 hat2 hQ
          | false =>
            simp only [hsk, cond_false] at h
            split at h
            · rename_i b c hb
              obtain ⟨s', h', hat'⟩ := branch_ok h hat hl hb
              have hy : yielded all a.tmps j = some b := by simp [yielded, hd, hat.slot hl hb]
              have hw : Region.wanted o (yielded all a.tmps) = (b == want) := by simp [Region.wanted, hg, hy]
              rw [hw]
              cases hbw : (b == want) with
              | true =>
                simp only [hbw, cond_true] at h'
                simp only [if_true]
                left
                refine Oper.wp_mono ?_ (stepO_ok (W := W) (F := F) (ρ0 := ρ0) hx h' hat')
                rintro a' w' ⟨s2, h2, hat2⟩
                exact execOps_ok hx h2 hat2 hQ
              | false =>
                simp only [hbw, cond_false] at h'
                simp only [Bool.false_eq_true, if_false]
                obtain ⟨s2, h2, hat2⟩ := hat'.put (x := undef) (v := .tup []) (k := fun s => execOps cx all r s k) (fun ρ _ _ => ⟨rfl, trivial⟩) h'
                exact execOps_ok hx h2 hat2 hQ
            · exact h.elim
        · exact h.elim
      · exact h.elim
end Sx
end Go.Proofs.Ytmmejomalfjcnaa
