/- The symbolic executor is right: all code; functions. No condition. -/
import Derived.Test.YtmmejomalfjcnaaSxSound2
import Derived.Test.YtmmejomalfjcnaaSxDraw6
namespace Go.Proofs.Ytmmejomalfjcnaa
open Go.RowKit
set_option linter.unusedVariables false
set_option linter.unusedSimpArgs false
namespace Sx
variable {P : Program} {W : World} {F : Nat → Prop} {ρ ρ0 : Num} {s : SS} {a : Act} {w : World} {cx : Ctx}

/-- A loop from its round's head on. -/
def LoopWp (P : Program) (c : Code) (Q : Exit → Act → World → Prop) (a : Act) (w : World) : Prop :=
  ∀ (b : Frame) (k : List Item) (cs : List Frame), ∃ e a' w', Q e a' w' ∧ Arrives P (lone (b.at a (.code c :: .inLoop c :: k)) cs w) b k cs e a' w'
theorem LoopWp.wp {c : Code} {Q : Exit → Act → World → Prop} (h : LoopWp P c Q a w) : (Code.loop c).wp P Q a w := fun b k cs =>
  let ⟨e, a', w', q, arr⟩ := h b k cs
  ⟨e, a', w', q, .of_steps (.one step_loop) arr⟩
theorem LoopWp.unroll {c : Code} {Q : Exit → Act → World → Prop} (h : c.wp P (Exit.then (LoopWp P c Q) Q) a w) : LoopWp P c Q a w := by
  intro b k cs
  obtain ⟨e, a₁, w₁, hq, harr⟩ := h b (.inLoop c :: k) cs
  cases e with
  | normal =>
    obtain ⟨e₂, a₂, w₂, hq₂, harr₂⟩ := hq b k cs
    exact ⟨e₂, a₂, w₂, hq₂, .of_steps (Steps.trans harr (.one step_inLoop)) harr₂⟩
  | exit id => exact ⟨_, a₁, w₁, hq, .pass (x := .inLoop c) rfl (fun _ _ => .inl (by simp)) harr⟩
  | goto l => exact ⟨_, a₁, w₁, hq, .pass (x := .inLoop c) rfl (fun _ _ => .inl (by simp)) harr⟩
  | ret => exact ⟨_, a₁, w₁, hq, .pass (x := .inLoop c) rfl (fun _ _ => .inl (by simp)) harr⟩
  | panic ch => exact ⟨_, a₁, w₁, hq, .pass (x := .inLoop c) rfl (fun _ _ => .inl (by simp)) harr⟩
  | outgrown => exact ⟨_, a₁, w₁, hq, .pass (x := .inLoop c) rfl (fun _ _ => .inl (by simp)) harr⟩
/-- By an invariant that bears a number, which every round lowers. -/
theorem LoopWp.ghost {c : Code} {Q : Exit → Act → World → Prop} (I : Nat → Act → World → Prop) (round : ∀ n a w, I n a w → c.wp P (Exit.then (fun a' w' => ∃ n', n' < n ∧ I n' a' w') Q) a w) :
    ∀ (n : Nat) (a : Act) (w : World), I n a w → LoopWp P c Q a w := by
  intro n
  induction n using Nat.strongRecOn with
  | _ n ih =>
    intro a w h
    refine LoopWp.unroll (wp_mono (round n a w h) fun e a' w' hq => ?_)
    cases e with
    | normal => obtain ⟨n', h1, h2⟩ := hq; exact ih n' h1 a' w' h2
    | exit id => exact hq
    | goto l => exact hq
    | ret => exact hq
    | panic ch => exact hq
    | outgrown => exact hq

def SemCode (P : Program) (c : Code) (Q : Exit → Act → World → Prop) (a : Act) (w : World) : Prop :=
  match c with
  | .loop c => LoopWp P c Q a w
  | c => c.wp P Q a w
theorem SemCode.wp {c : Code} {Q : Exit → Act → World → Prop} (h : SemCode P c Q a w) : c.wp P Q a w := by
  cases c <;> first | exact h | exact LoopWp.wp h

/-- What follows, as a postcondition. -/
def Qk (W : World) (F : Nat → Prop) (ρ0 : Num) (cx : Ctx) (ks : Ks) : Exit → Act → World → Prop
  | .normal, a, w => ∃ s, ks.n s ∧ At W F ρ0 cx s a w
  | .ret, a, w => ∃ s, ks.r s ∧ At W F ρ0 cx s a w
  | .exit id, a, w => ∃ k, ks.e.lookup id = some k ∧ ∃ s, k s ∧ At W F ρ0 cx s a w
  | _, _, _ => False

theorem drawRun_ok (hm : P.follows .mixedOrders = true) (hx : CxOK P cx) {id : Nat} {all : Array Oper} {k : SS → Prop} {Q : Exit → Act → World → Prop} (h : drawRun cx all s k) (hat : At W F ρ0 cx s a w)
    (hQ : ∀ a w s, k s → At W F ρ0 cx s a w → Q .normal a w) : (Code.region id all true).wp P Q a w := by
  obtain ⟨ρ, st, h1, h2⟩ := hat
  refine wp_region_any hm ?_
  unfold drawRun at h
  obtain ⟨rs, kn, hf, hk⟩ := drawOps_facts h (fun d q h => by simp at h)
  simp only [List.nil_append] at hk
  cases hB : drawOK all rs with
  | false => simp [hB] at hk
  | true =>
    simp only [hB, cond_true] at hk
    have hk := forceRows_out (K := fun rows => k ⟨(rs.foldl applyRec ⟨s.tm, s.rows ++ List.replicate (countNew all.toList) none⟩).tm, rows⟩) hk
    have hmd : MemOK W F ρ s.rows { w with drawn := w.drawn + 1 } := by
      exact ⟨⟨st.mem.frame.os, st.mem.frame.tape, st.mem.frame.output, st.mem.frame.size, st.mem.frame.block⟩, st.mem.glob, fun i r hi => ⟨(st.mem.row i r hi).1.map rfl rfl rfl (fun _ => rfl) (fun _ h => h), (st.mem.row i r hi).2⟩, st.mem.inj, st.mem.mine⟩
    have hpad : Sat W F cx.nt ρ ⟨s.tm, s.rows ++ List.replicate (countNew all.toList) none⟩ a { w with drawn := w.drawn + 1 } := by
      have hge : ∀ (i : Nat) (x : Row), (s.rows ++ List.replicate (countNew all.toList) (none : Option Row))[i]? = some (some x) → s.rows[i]? = some (some x) := by
        intro i x hi
        by_cases hl : i < s.rows.length
        · rwa [List.getElem?_append_left hl] at hi
        · rw [List.getElem?_append_right (by omega), List.getElem?_replicate] at hi
          split at hi <;> cases hi
      refine ⟨st.size, st.defers, fun d sv hd => ?_, ⟨hmd.frame, hmd.glob, fun i x hi => ?_, fun i j x y hi hj => hmd.inj i j x y (hge i x hi) (hge j y hj), fun i x hi => hmd.mine i x (hge i x hi)⟩⟩
      · rcases st.tm d sv hd with h | ⟨g1, g2⟩
        · exact .inl h
        · exact .inr ⟨g1, okd_mono (by simp) g2⟩
      · obtain ⟨c1, c3⟩ := hmd.row i x (hge i x hi)
        exact ⟨c1, okdL_mono (by simp) c3⟩
    refine draw_any hx hf hB (ρ := ρ) (fun d sv hd => ?_) (fun i x hi => ?_) (fun ρ' a w st' hρ => hQ a w _ hk ⟨ρ', st', fun i hi => (hρ i (by omega)).trans (h1 i hi), ?_⟩) all.size (Array.replicate all.size false) a _ ρ (by simp) ?_ ?_ ?_ fun _ _ => rfl
    · rcases st.tm d sv hd with h | ⟨_, h⟩
      · exact .inl h
      · exact .inr h
    · exact (st.mem.row i x hi).2
    · have hlen : ∀ (rs : List Rec) (s : SS), (rs.foldl applyRec s).rows.length = s.rows.length := by
        intro rs
        induction rs with
        | nil => intro s; rfl
        | cons r rs ih => intro s; rw [List.foldl_cons, ih, applyRec_len]
      simp only [hlen]
      simp; omega
    · unfold left
      exact Nat.le_trans List.countP_le_length (by simp)
    · intro i o _ hl
      simp [Array.getD] at hl
    · refine hpad.of_same (fun t => ?_) (fun b => ?_)
      · rw [stF_tm, lastD_congr (S' := fun _ => false) fun j x _ _ => by simp [Array.getD]]
        have : ∀ (rs : List Rec) (i : Nat), lastD (fun _ => false) t i rs = none := by
          intro rs
          induction rs with
          | nil => intro i; rfl
          | cons y rs ih => intro i; simp [lastD, ih]
        rw [this]
      · rw [stF_rows, lastP_congr (S' := fun _ => false) fun j x _ _ => by simp [Array.getD]]
        have : ∀ (rs : List Rec) (i : Nat), lastP (fun _ => false) b i rs = none := by
          intro rs
          induction rs with
          | nil => intro i; rfl
          | cons y rs ih => intro i; simp [lastP, ih]
        rw [this]

theorem exec_ok (hm : P.follows .mixedOrders = true) (hx : CxOK P cx) : ∀ (n : Nat) (c : Code) (s : SS) (ks : Ks) (a : Act) (w : World), exec cx n c s ks → At W F ρ0 cx s a w → SemCode P c (Qk W F ρ0 cx ks) a w
  | 0, c, s, ks, a, w, h, _ => h.elim
  | n + 1, c, s, ks, a, w, h, hat => by
    have ih := exec_ok hm hx n
    simp only [exec] at h
    cases c with
    | skip => exact wp_skip ⟨s, h, hat⟩
    | label l => exact wp_label ⟨s, h, hat⟩
    | region id ops draw =>
      cases draw with
      | false => exact wp_region_list (execOps_ok hx h hat fun a w s hk hat => ⟨s, hk, hat⟩)
      | true => exact drawRun_ok hm hx h hat fun a w s hk hat => ⟨s, hk, hat⟩
    | seq x y =>
      refine wp_seq (wp_mono (ih x s _ a w h hat).wp fun e a' w' hq => ?_)
      cases e with
      | normal =>
        obtain ⟨s', h', hat'⟩ := hq
        exact (ih y s' ks a' w' h' hat').wp
      | exit id => exact hq
      | goto l => exact hq
      | ret => exact hq
      | panic ch => exact hq
      | outgrown => exact hq
    | cond x y z =>
      simp only [execF] at h
      cases hv : ev s.tm x with
      | none => simp [hv] at h
      | some v =>
        simp only [hv] at h
        have hev : a.eval x = den (Classical.choose hat) v := (ev_ok (Classical.choose_spec hat).1 hv).1
        cases hb : asB v with
        | none => simp [hb] at h
        | some q =>
          obtain ⟨b, cl⟩ := q
          rw [asB_ok hb] at hev
          have fin : ∀ (s' : SS), (bif b then exec cx n y s' ks else exec cx n z s' ks) → At W F ρ0 cx s' a w → (Code.cond x y z).wp P (Qk W F ρ0 cx ks) a w := by
            intro s' h' hat'
            refine wp_cond hev ?_
            cases b with
            | true => exact (ih y s' ks a w h' hat').wp
            | false => exact (ih z s' ks a w h' hat').wp
          cases x with
          | tmp d =>
            simp only [hb] at h
            have hl : s.tm.lookup d = some v := by
              simp only [ev] at hv
              cases hl : s.tm.lookup d with
              | none => simp [hl] at hv
              | some u => cases u <;> simp_all
            obtain ⟨s', h', hat'⟩ := branch_ok h hat hl hb
            exact fin s' h' hat'
          | const u =>
            simp only [hb] at h
            cases cl with
            | true => exact fin s h hat
            | false => exact h.elim
          | global g =>
            simp only [hb] at h
            cases cl with
            | true => exact fin s h hat
            | false => exact h.elim
          | func g =>
            simp only [hb] at h
            cases cl with
            | true => exact fin s h hat
            | false => exact h.elim
    | block id c =>
      refine wp_block (wp_mono (ih c s _ a w h hat).wp fun e a' w' hq => ?_)
      cases e with
      | exit id' =>
        obtain ⟨k, hk, s', h', hat'⟩ := hq
        simp only [Exit.inBlock]
        rw [lookup_cons] at hk
        by_cases he : id' = id
        · simp [he] at hk ⊢
          subst hk
          exact ⟨s', h', hat'⟩
        · simp [he] at hk ⊢
          exact ⟨k, hk, s', h', hat'⟩
      | normal => exact hq
      | goto l => exact hq
      | ret => exact hq
      | panic ch => exact hq
      | outgrown => exact hq
    | exit id =>
      simp only [execF] at h
      cases hk : ks.e.lookup id with
      | none => simp [hk] at h
      | some k => simp only [hk] at h; exact wp_exit ⟨k, hk, s, h, hat⟩
    | loop c =>
      simp only [execF] at h
      cases hL : cx.loop (firstReg c) with
      | none =>
        simp only [hL] at h
        refine LoopWp.unroll (wp_mono (ih c s _ a w h hat).wp fun e a' w' hq => ?_)
        cases e with
        | normal =>
          obtain ⟨s', h', hat'⟩ := hq
          exact ih (.loop c) s' ks a' w' h' hat'
        | exit id => exact hq
        | goto l => exact hq
        | ret => exact hq
        | panic ch => exact hq
        | outgrown => exact hq
      | some L =>
        simp only [hL] at h
        obtain ⟨x0, hf, hI, hr'⟩ := h
        have hr : ∀ x, L.I x → wellB cx.n0 (L.T x) = true ∧ exec cx n c (L.T x) ⟨fun s => ∃ y, fits s (L.T y) ∧ L.I y ∧ L.μ y < L.μ x, ks.r, ks.e⟩ := fun x hx => by
          have := hr' x hx
          cases hb : wellB cx.n0 (L.T x) with
          | false => simp [hb] at this
          | true => simpa [hb] using this
        refine LoopWp.ghost (fun m a w => ∃ x, L.I x ∧ L.μ x = m ∧ At W F ρ0 cx (L.T x) a w) ?_ (L.μ x0) a w ⟨x0, hI, rfl, hat.fits hf (hr x0 hI).1⟩
        rintro m a w ⟨x, hIx, rfl, hatx⟩
        refine wp_mono (ih c (L.T x) _ a w (hr x hIx).2 hatx).wp fun e a' w' hq => ?_
        cases e with
        | normal =>
          obtain ⟨s', ⟨y, hfy, hIy, hμ⟩, hat'⟩ := hq
          exact ⟨L.μ y, hμ, y, hIy, rfl, hat'.fits hfy (hr y hIy).1⟩
        | exit id => exact hq
        | goto l => exact hq
        | ret => exact hq
        | panic ch => exact hq
        | outgrown => exact hq
    | ret => exact wp_ret ⟨s, h, hat⟩
    | _ => exact h.elim
end Sx
end Go.Proofs.Ytmmejomalfjcnaa
