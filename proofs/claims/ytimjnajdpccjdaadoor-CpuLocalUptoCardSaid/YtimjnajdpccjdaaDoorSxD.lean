/- The executor, laid together. No condition. -/
import Derived.Test.YtimjnajdpccjdaaDoorSxC
import Derived.Below
import Derived.Deep.Slices
import Derived.LaidLaws
import Derived.OpenShut
namespace Go.Proofs.YtimjnajdpccjdaaDoor
open Go.RowKit
set_option linter.unusedVariables false
set_option linter.unusedSectionVars false
set_option linter.constructorNameAsVariable false
set_option linter.unusedSimpArgs false
section
namespace Sx
variable {P : Program} {W : World} {F : Nat -> Prop} {ρ ρ0 : Num} {s : SS} {a : Act} {w : World} {cx : Ctx}
theorem Sat.addN (st : Sat W F cx.nt ρ s a w) {d : Nat} {q : Row} (hd : s.tm.lookup d = some (.val (.slice none 0 0))) (hq : phOK q = true) : Sat W F cx.nt (Sx.addN ρ s.rows.length) ⟨(d, .on s.rows.length 0 true) :: s.tm, s.rows ++ [some q]⟩ a w := by
 have st2 := st.rows (st.mem.phantom hq) (fun i hi => addN_lt hi) (by simp)
 refine ⟨st2.size, st2.defers, fun e sv he => ?_, st2.mem⟩
 rw [lookup_cons] at he
 by_cases hed : e = d
 ·subst hed
  simp at he; subst he
  rcases st.tm e _ hd with h | ⟨h1, h2⟩
  ·cases h
  ·right
   refine ⟨?_, ?_⟩
   ·rw [h1]; simp [den, listV, addN_eq]
   ·show s.rows.length < (s.rows ++ [some q]).length
    simp
 ·simp [hed] at he
  exact st2.tm e sv he
theorem promoT_ok (rt : List (Option Row)) : ∀ (l : List (Nat × SV)) {s : SS} {ρ : Num}, Sat W F cx.nt ρ s a w -> ∃ ρ', Sat W F cx.nt ρ' (promoT rt l s) a w /\ s.rows.length <= (promoT rt l s).rows.length /\ ∀ i, i < s.rows.length -> ρ' i = ρ i
 | [], s, ρ, st => ⟨ρ, st, Nat.le_refl _, fun _ _ => rfl⟩
 | (d, v) :: l, s, ρ, st => by
   simp only [promoT]
   have self := promoT_ok rt l st
   split
   ·rename_i j _ _ u hu
    cases hn : isNilV u with
    | false => exact self
    | true =>
      simp only [cond_true]
      have := isNilV_ok hn
      subst this
      split
      ·rename_i q hq
       cases hp : phOK (phOf q) with
       | false => exact self
       | true =>
         simp only [cond_true]
         obtain ⟨ρ', h1, h2, h3⟩ := promoT_ok rt l (st.addN hu hp)
         simp only [List.length_append, List.length_singleton] at h2 h3
         exact ⟨ρ', h1, by omega, fun i hi => (h3 i (by omega)).trans (addN_lt hi)⟩
      ·exact self
   ·exact self
theorem At.prep (h : At W F ρ0 cx s a w) (t : SS) : At W F ρ0 cx (prepS t s) a w := by
 obtain ⟨ρ, st, h1, h2⟩ := h
 obtain ⟨ρ1, m1, m2, m3⟩ := nz_ok st.mem
 obtain ⟨ρ2, k1, k2, k3⟩ := promoT_ok (cx := cx) t.rows t.tm (st.rows m1 m3 m2)
 exact ⟨ρ2, k1, fun i hi => (k3 i (by simp only; omega)).trans ((m3 i (by omega)).trans (h1 i hi)), Nat.le_trans h2 (Nat.le_trans m2 k2)⟩
def addB (ρ : Num) (n : Nat) (q : Nat × Nat) : Num := fun i => if i = n then q else ρ i
theorem addB_lt {q : Nat × Nat} {n i : Nat} (h : i < n) : addB ρ n q i = ρ i := by simp only [addB]; rw [if_neg (by omega)]
theorem addB_eq {q : Nat × Nat} {n : Nat} : addB ρ n q n = q := by simp [addB]
theorem At.listS (h : At W F ρ0 cx s a w) (ops : List Oper) : At W F ρ0 cx (listS ops s) a w := by
 exact h
def LoopWp (P : Program) (c : Code) (Q : Exit -> Act -> World -> Prop) (a : Act) (w : World) : Prop :=
 ∀ (b : Frame) (k : List Item) (cs : List Frame), ∃ e a' w', Q e a' w' /\ Arrives P (lone (b.at a (.code c :: .inLoop c :: k)) cs w) b k cs e a' w'
theorem LoopWp.wp {c : Code} {Q : Exit -> Act -> World -> Prop} (h : LoopWp P c Q a w) : (Code.loop c).wp P Q a w := fun b k cs =>
 let ⟨e, a', w', q, arr⟩ := h b k cs
 ⟨e, a', w', q, .of_steps (.one step_loop) arr⟩
theorem LoopWp.unroll {c : Code} {Q : Exit -> Act -> World -> Prop} (h : c.wp P (Exit.then (LoopWp P c Q) Q) a w) : LoopWp P c Q a w := by
 intro b k cs
 obtain ⟨e, a₁, w₁, hq, harr⟩ := h b (.inLoop c :: k) cs
 cases e with
 | normal =>
   obtain ⟨e₂, a₂, w₂, hq₂, harr₂⟩ := hq b k cs
   exact ⟨e₂, a₂, w₂, hq₂, .of_steps (Steps.trans harr (.one step_inLoop)) harr₂⟩
 | exit id => exact ⟨_, a₁, w₁, hq, .pass (x := .inLoop c) rfl (fun _ _ => .inl (by simp)) harr⟩
 | goto l => exact ⟨_, a₁, w₁, hq, .pass (x := .inLoop c) rfl (fun _ _ => .inl (by simp)) harr⟩
 | ret => exact ⟨_, a₁, w₁, hq, .pass (x := .inLoop c) rfl (fun _ _ => .inl (by simp)) harr⟩
 | panic ch => exact ⟨_, a₁, w₁, hq, .pass (x := .inLoop c) rfl (fun _ _ => .inl (by simp)) harr⟩
 | outgrown => exact ⟨_, a₁, w₁, hq, .pass (x := .inLoop c) rfl (fun _ _ => .inl (by simp)) harr⟩
theorem LoopWp.ghost {c : Code} {Q : Exit -> Act -> World -> Prop} (I : Nat -> Act -> World -> Prop) (round : ∀ n a w, I n a w -> c.wp P (Exit.then (fun a' w' => ∃ n', n' < n /\ I n' a' w') Q) a w) :
  ∀ (n : Nat) (a : Act) (w : World), I n a w -> LoopWp P c Q a w := by
 intro n
 induction n using Nat.strongRecOn with
 | _ n ih =>
   intro a w h
   refine LoopWp.unroll (wp_mono (round n a w h) fun e a' w' hq => ?_)
   cases e with
   | normal => obtain ⟨n', h1, h2⟩ := hq; exact ih n' h1 a' w' h2
   | exit id => exact hq
   | goto l => exact hq
   | ret => exact hq
   | panic ch => exact hq
   | outgrown => exact hq
def SemCode (P : Program) (c : Code) (Q : Exit -> Act -> World -> Prop) (a : Act) (w : World) : Prop :=
 match c with
 | .loop c => LoopWp P c Q a w
 | c => c.wp P Q a w
theorem SemCode.wp {c : Code} {Q : Exit -> Act -> World -> Prop} (h : SemCode P c Q a w) : c.wp P Q a w := by
 cases c <;> first | exact h | exact LoopWp.wp h
def Base (cx : Ctx) (W : World) (F : Nat -> Prop) (W' : World) (F' : Nat -> Prop) : Prop :=
 (W' = W /\ F' = F) ∨ (cx.on = true /\ Frm F W W' /\ ∀ b, F' b -> F b ∨ W.heap.size <= b)
def Bt (W : World) (F : Nat -> Prop) (ρ0 : Num) (cx : Ctx) (s : SS) (a : Act) (w : World) : Prop := ∃ W' F', Base cx W F W' F' /\ At W' F' ρ0 cx s a w
theorem Base.next {W' W2 : World} {F' F2 : Nat -> Prop} (h : Base cx W F W' F') (ho : cx.on = true) (hf : Frm F' W' W2) (h0 : ∀ b, F2 b -> F' b ∨ W'.heap.size <= b) : Base cx W F W2 F2 := by
 rcases h with ⟨rfl, rfl⟩ | ⟨_, h1, h2⟩
 ·exact .inr ⟨ho, hf, h0⟩
 ·refine .inr ⟨ho, ⟨hf.os.trans h1.os, hf.tape.trans h1.tape, hf.output.trans h1.output, Nat.le_trans h1.size hf.size, fun b hb hn => ?_⟩, fun b hb => ?_⟩
  ·rw [hf.block b (Nat.lt_of_lt_of_le hb h1.size) (fun h => ?_), h1.block b hb hn]
   rcases h2 b h with h | h
   ·exact hn h
   ·omega
  ·rcases h0 b hb with h | h
   ·exact h2 b h
   ·exact .inr (Nat.le_trans h1.size h)
theorem MemOK.frz {rows : List (Option Row)} (hm : MemOK W F ρ rows w) {j : Nat} {r : Row} (hj : rows[j]? = some (some r)) :
  MemOK w (fun b => (F b ∨ W.heap.size <= b) /\ ¬ (Has ρ j r /\ b = (ρ j).1)) ρ (rows.set j none) w := by
 have hjl := (List.getElem?_eq_some_iff.1 hj).1
 have old : ∀ {i : Nat} {q : Row}, (rows.set j none)[i]? = some (some q) -> i ≠ j /\ rows[i]? = some (some q) := by
  intro i q hi
  by_cases hij : i = j
  ·subst hij; rw [List.getElem?_set_self hjl] at hi; cases hi
  ·rw [List.getElem?_set_ne (by omega)] at hi; exact ⟨hij, hi⟩
 refine ⟨Frm.refl _ _, fun g cs hg => ?_, fun i q hi => ?_, fun i k q1 q2 hi hk => hm.inj i k q1 q2 (old hi).2 (old hk).2, fun i q hi hh => .inl ⟨hm.mine i q (old hi).2 hh, fun ⟨h1, h2⟩ => (old hi).1 (hm.inj i j q r (old hi).2 hj hh h1 h2)⟩, ?_⟩
 ·obtain ⟨h1, c, ty, fr, h2, h3⟩ := hm.glob g cs hg
  have hlt := (Array.getElem?_eq_some_iff.1 h2).1
  refine ⟨fun h => ?_, c, ty, fr, by rw [hm.frame.block g hlt h1]; exact h2, h3⟩
  rcases h.1 with h | h
  ·exact h1 h
  ·omega
 ·obtain ⟨c1, c2⟩ := hm.row i q (old hi).2
  exact ⟨c1, by simpa using okdL_at hm.frame (fun b hb => hb.1) c2⟩
 ·obtain ⟨φ, hφ⟩ := hm.obs
  refine ⟨φ, fun i q x hi hx => ?_⟩
  obtain ⟨k1, k2⟩ := hφ i q x (old hi).2 hx
  refine ⟨k1, fun y hy => ?_⟩
  obtain ⟨m1, m2, m3⟩ := k2 y hy
  exact ⟨m1, .inl ⟨m2, fun ⟨h1, h2⟩ => (m3 j r hj).1 h1 h2.symm⟩, fun k z hk => m3 k z (old hk).2⟩
theorem Sat.frz {nt : Nat} (st : Sat W F nt ρ s a w) {j d : Nat} {u0 : SV} {r : Row} (hj : s.rows[j]? = some (some r)) (hd : s.tm.lookup d = some u0) (hu : u0 ≠ .top) {v : SV} (hv : den ρ v = den ρ u0)
  (ho : okd w (fun b => (F b ∨ W.heap.size <= b) /\ ¬ (Has ρ j r /\ b = (ρ j).1)) s.rows.length v) : Sat w (fun b => (F b ∨ W.heap.size <= b) /\ ¬ (Has ρ j r /\ b = (ρ j).1)) nt ρ ⟨(d, v) :: s.tm, s.rows.set j none⟩ a w := by
 refine ⟨st.size, st.defers, fun e sv he => ?_, st.mem.frz hj⟩
 rw [lookup_cons] at he
 by_cases hed : e = d
 ·subst hed
  simp at he; subst he
  rcases st.tm e _ hd with h | ⟨h1, _⟩
  ·exact absurd h hu
  ·exact .inr ⟨by rw [h1, hv], by simpa using ho⟩
 ·simp [hed] at he
  rcases st.tm e sv he with h | ⟨h1, h2⟩
  ·exact .inl h
  ·exact .inr ⟨h1, by simpa using okd_at st.mem.frame (fun b hb => hb.1) h2⟩
theorem frzAt_ok {nt d : Nat} {q : List Prop × (Value -> SS)} (h : frzAt s d = some q) (hp : All q.1) (st : Sat W F nt ρ s a w) : ∃ v F', (∀ b, F' b -> F b ∨ W.heap.size <= b) /\ Sat w F' nt ρ (q.2 v) a w /\ (q.2 v).rows.length = s.rows.length := by
 unfold frzAt at h
 cases h
theorem frzL_ok (ho : cx.on = true) : ∀ {l : List Nat} {s : SS} {K : SS -> Prop}, frzL l s K -> Bt W F ρ0 cx s a w -> ∃ s', K s' /\ Bt W F ρ0 cx s' a w
 | [], s, K, h, hat => ⟨s, h, hat⟩
 | d :: l, s, K, h, hat => by
   simp only [frzL] at h
   split at h
   ·rename_i q hq
    obtain ⟨hp, h⟩ := andL_out h
    obtain ⟨W', F', hB, ρ, st, h1, h2⟩ := hat
    obtain ⟨v, F2, k1, k2, k3⟩ := frzAt_ok hq hp st
    exact frzL_ok ho (h v) ⟨w, F2, hB.next ho st.mem.frame k1, ρ, k2, h1, by rw [k3]; exact h2⟩
   ·exact frzL_ok ho h hat
theorem frz_ok {id : Nat} {K : SS -> Prop} (h : frz cx id s K) (hat : Bt W F ρ0 cx s a w) : ∃ s', K s' /\ Bt W F ρ0 cx s' a w := by
 unfold frz at h
 cases ho : cx.on with
 | false => rw [ho] at h; exact ⟨s, h, hat⟩
 | true => rw [ho] at h; exact frzL_ok ho h hat
theorem Bt.fit {t : SS} (h : Bt W F ρ0 cx s a w) (hb : wellB cx.n0 t = true) (hf : Sx.fits (Sx.renum cx.n0 (prepS t s) t) t) : Bt W F ρ0 cx t a w := by
 obtain ⟨W', F', hB, h⟩ := h
 exact ⟨W', F', hB, ((h.prep t).renum hb).fits hf hb⟩
def Qk (W : World) (F : Nat -> Prop) (ρ0 : Num) (cx : Ctx) (ks : Ks) : Exit -> Act -> World -> Prop
 | .normal, a, w => ∃ s, ks.n s /\ Bt W F ρ0 cx s a w
 | .ret, a, w => ∃ s, ks.r s /\ Bt W F ρ0 cx s a w
 | .exit id, a, w => ∃ k, ks.e.lookup id = some k /\ ∃ s, k s /\ Bt W F ρ0 cx s a w
 | _, _, _ => False
theorem drawRun_ok (hm : P.follows .mixedOrders = true) (hx : CxOK P cx) {id : Nat} {all : Array Oper} {k : SS -> Prop} {Q : Exit -> Act -> World -> Prop} (h : drawRun cx all s k) (hat : At W F ρ0 cx s a w)
  (hQ : ∀ a w s, k s -> At W F ρ0 cx s a w -> Q .normal a w) : (Code.region id all true).wp P Q a w := by
 obtain ⟨ρ, st, h1, h2⟩ := hat
 refine wp_region_any hm ?_
 unfold drawRun at h
 obtain ⟨rs, kn, hf, hk⟩ := drawOps_facts h (fun d q h => by simp at h)
 simp only [List.nil_append] at hk
 cases hB : drawOK all rs with
 | false => simp [hB] at hk
 | true =>
   simp only [hB, cond_true] at hk
   have hk := forceRows_out (K := fun rows => k ⟨(rs.foldl applyRec ⟨s.tm, s.rows ++ List.replicate (countNew all.toList) none⟩).tm, rows⟩) hk
   have hmd : MemOK W F ρ s.rows { w with drawn := w.drawn + 1 } := by
    exact ⟨⟨st.mem.frame.os, st.mem.frame.tape, st.mem.frame.output, st.mem.frame.size, st.mem.frame.block⟩, st.mem.glob, fun i r hi => ⟨(st.mem.row i r hi).1.map rfl rfl rfl rfl (fun _ => rfl) (fun _ h => h), (st.mem.row i r hi).2⟩, st.mem.inj, st.mem.mine, by obtain ⟨φ, hφ⟩ := st.mem.obs; exact ⟨φ, hφ.keep (fun i r hi _ => ⟨r, hi, rfl, rfl, fun _ h => h⟩) (Nat.le_refl _) (fun _ _ _ => rfl) (fun j q hj hq => .inr ⟨j, q, hj, hq, rfl⟩)⟩⟩
   have hpad : Sat W F cx.nt ρ ⟨s.tm, s.rows ++ List.replicate (countNew all.toList) none⟩ a { w with drawn := w.drawn + 1 } := by
    have hge : ∀ (i : Nat) (x : Row), (s.rows ++ List.replicate (countNew all.toList) (none : Option Row))[i]? = some (some x) -> s.rows[i]? = some (some x) := by
     intro i x hi
     by_cases hl : i < s.rows.length
     ·rwa [List.getElem?_append_left hl] at hi
     ·rw [List.getElem?_append_right (by omega), List.getElem?_replicate] at hi
      split at hi <;> cases hi
    refine ⟨st.size, st.defers, fun d sv hd => ?_, ⟨hmd.frame, hmd.glob, fun i x hi => ?_, fun i j x y hi hj => hmd.inj i j x y (hge i x hi) (hge j y hj), fun i x hi => hmd.mine i x (hge i x hi), ?_⟩⟩
    ·rcases st.tm d sv hd with h | ⟨g1, g2⟩
     ·exact .inl h
     ·exact .inr ⟨g1, okd_mono (by simp) g2⟩
    ·obtain ⟨c1, c3⟩ := hmd.row i x (hge i x hi)
     exact ⟨c1, okdL_mono (by simp) c3⟩
    ·obtain ⟨φ, hφ⟩ := hmd.obs
     exact ⟨φ, hφ.keep (fun i r hi _ => ⟨r, hge i r hi, rfl, rfl, fun _ h => h⟩) (Nat.le_refl _) (fun _ _ _ => rfl) (fun j q hj hq => .inr ⟨j, q, hge j q hj, hq, rfl⟩)⟩
   refine draw_any hx hf hB (ρ := ρ) (fun d sv hd => ?_) (fun i x hi => ?_) (fun ρ' a w st' hρ => hQ a w _ hk ⟨ρ', st', fun i hi => (hρ i (by omega)).trans (h1 i hi), ?_⟩) all.size (Array.replicate all.size false) a _ ρ (by simp) ?_ ?_ ?_ fun _ _ => rfl
   ·rcases st.tm d sv hd with h | ⟨_, h⟩
    ·exact .inl h
    ·exact .inr h
   ·exact (st.mem.row i x hi).2
   ·have hlen : ∀ (rs : List Rec) (s : SS), (rs.foldl applyRec s).rows.length = s.rows.length := by
     intro rs
     induction rs with
     | nil => intro s; rfl
     | cons r rs ih => intro s; rw [List.foldl_cons, ih, applyRec_len]
    simp only [hlen]
    simp; omega
   ·unfold left
    exact Nat.le_trans List.countP_le_length (by simp)
   ·intro i o _ hl
    simp [Array.getD] at hl
   ·refine hpad.of_same (fun t => ?_) (fun b => ?_)
    ·rw [stF_tm, lastD_congr (S' := fun _ => false) fun j x _ _ => by simp [Array.getD]]
     have : ∀ (rs : List Rec) (i : Nat), lastD (fun _ => false) t i rs = none := by
      intro rs
      induction rs with
      | nil => intro i; rfl
      | cons y rs ih => intro i; simp [lastD, ih]
     rw [this]
    ·rw [stF_rows, lastP_congr (S' := fun _ => false) fun j x _ _ => by simp [Array.getD]]
     have : ∀ (rs : List Rec) (i : Nat), lastP (fun _ => false) b i rs = none := by
      intro rs
      induction rs with
      | nil => intro i; rfl
      | cons y rs ih => intro i; simp [lastP, ih]
     rw [this]
theorem chainE_ok {ex : Code -> SS -> Ks -> Prop} (ih : ∀ (c : Code) (s : SS) (ks : Ks) (a : Act) (w : World), ex c s ks -> Bt W F ρ0 cx s a w -> SemCode P c (Qk W F ρ0 cx ks) a w) {isQ : Nat -> Bool} {cut : SS -> Prop} {z : Code} {ks : Ks} :
  ∀ {c : Code} {s : SS} {a : Act} {w : World}, chainE ex isQ cut c s ks -> restE isQ c = some z -> Bt W F ρ0 cx s a w -> (∀ (s' : SS) (a' : Act) (w' : World), cut s' -> Bt W F ρ0 cx s' a' w' -> z.wp P (Qk W F ρ0 cx ks) a' w') -> c.wp P (Qk W F ρ0 cx ks) a w
 | .seq x y, s, a, w, h, hr, hat, hz => by
   simp only [chainE] at h
   simp only [restE] at hr
   cases hq : isQ (firstReg y) with
   | true =>
     simp only [hq, cond_true] at h hr
     cases hr
     refine wp_seq (wp_mono (ih x s _ a w h hat).wp fun e a' w' hq => ?_)
     cases e with
     | normal =>
       obtain ⟨s', h', hat'⟩ := hq
       exact hz s' a' w' h' hat'
     | exit id => exact hq
     | goto l => exact hq
     | ret => exact hq
     | panic ch => exact hq
     | outgrown => exact hq
   | false =>
     simp only [hq, cond_false] at h hr
     refine wp_seq (wp_mono (ih x s _ a w h hat).wp fun e a' w' hq => ?_)
     cases e with
     | normal =>
       obtain ⟨s', h', hat'⟩ := hq
       exact chainE_ok ih h' hr hat' hz
     | exit id => exact hq
     | goto l => exact hq
     | ret => exact hq
     | panic ch => exact hq
     | outgrown => exact hq
 | .skip, _, _, _, h, _, _, _ => by simp [chainE] at h
 | .label _, _, _, _, h, _, _, _ => by simp [chainE] at h
 | .region _ _ _, _, _, _, h, _, _, _ => by simp [chainE] at h
 | .cond _ _ _, _, _, _, h, _, _, _ => by simp [chainE] at h
 | .block _ _, _, _, _, h, _, _, _ => by simp [chainE] at h
 | .exit _, _, _, _, h, _, _, _ => by simp [chainE] at h
 | .loop _, _, _, _, h, _, _, _ => by simp [chainE] at h
 | .ret, _, _, _, h, _, _, _ => by simp [chainE] at h
 | .rangeFunc _ _ _ _, _, _, _, h, _, _, _ => by simp [chainE] at h
 | .scope _, _, _, _, h, _, _, _ => by simp [chainE] at h
 | .goto _, _, _, _, h, _, _, _ => by simp [chainE] at h
 | .refuse _, _, _, _, h, _, _, _ => by simp [chainE] at h
theorem exec_ok (hm : P.follows .mixedOrders = true) (hx : CxOK P cx) : ∀ (n : Nat) (c : Code) (s : SS) (ks : Ks) (a : Act) (w : World), exec cx n c s ks -> Bt W F ρ0 cx s a w -> SemCode P c (Qk W F ρ0 cx ks) a w
 | 0, c, s, ks, a, w, h, _ => h.elim
 | n + 1, c, s, ks, a, w, h, hat => by
   have ih := exec_ok hm hx n
   simp only [exec] at h
   cases c with
   | skip => exact wp_skip ⟨s, h, hat⟩
   | label l => exact wp_label ⟨s, h, hat⟩
   | region id ops draw =>
     cases draw with
     | false =>
       obtain ⟨s2, h2, W2, F2, hB, hat2⟩ := frz_ok h hat
       exact wp_region_list (execOps_ok hx h2 (hat2.listS ops.toList) fun a w s hk hat => ⟨s, hk, W2, F2, hB, hat⟩)
     | true =>
       obtain ⟨s2, h2, W2, F2, hB, hat2⟩ := frz_ok h hat
       exact drawRun_ok hm hx h2 hat2 fun a w s hk hat => ⟨s, hk, W2, F2, hB, hat⟩
   | seq x y =>
     simp only [execF] at h
     cases hL : cx.loop (1000000 + firstReg x) ⟨s.tm, s.rows⟩ with
     | none =>
       simp only [hL] at h
       refine wp_seq (wp_mono (ih x s _ a w h hat).wp fun e a' w' hq => ?_)
       cases e with
       | normal =>
         obtain ⟨s', h', hat'⟩ := hq
         exact (ih y s' ks a' w' h' hat').wp
       | exit id => exact hq
       | goto l => exact hq
       | ret => exact hq
       | panic ch => exact hq
       | outgrown => exact hq
     | some L =>
       simp only [hL] at h
       cases hR : restE (fun q => (cx.loop (2000000 + q) ⟨s.tm, s.rows⟩).isSome) (.seq x y) with
       | none =>
         simp only [hR] at h
         refine wp_seq (wp_mono (ih x s _ a w h hat).wp fun e a' w' hq => ?_)
         cases e with
         | normal =>
           obtain ⟨s', h', hat'⟩ := hq
           exact (ih y s' ks a' w' h' hat').wp
         | exit id => exact hq
         | goto l => exact hq
         | ret => exact hq
         | panic ch => exact hq
         | outgrown => exact hq
       | some z =>
         simp only [hR] at h
         obtain ⟨h1, h2⟩ := h
         refine chainE_ok ih h2 hR hat fun s' a' w' hs' hat' => ?_
         obtain ⟨x0, hf, hI⟩ := hs'
         have hx0 := h1 x0 hI
         cases hb : wellB cx.n0 (L.T x0) with
         | false => simp [hb] at hx0
         | true =>
           simp only [hb, cond_true] at hx0
           exact (ih z (L.T x0) ks a' w' hx0 (hat'.fit hb hf)).wp
   | cond x y z =>
     simp only [execF] at h
     cases hv : ev s.tm x with
     | none => simp [hv] at h
     | some v =>
       simp only [hv] at h
       obtain ⟨W2, F2, hB, hat2⟩ := id hat
       have hev : a.eval x = den (Classical.choose hat2) v := (ev_ok (Classical.choose_spec hat2).1 hv).1
       cases hb : asB v with
       | none => simp [hb] at h
       | some q =>
         obtain ⟨b, cl⟩ := q
         rw [asB_ok hb] at hev
         have fin : ∀ (s' : SS), (bif b then exec cx n y s' ks else exec cx n z s' ks) -> Bt W F ρ0 cx s' a w -> (Code.cond x y z).wp P (Qk W F ρ0 cx ks) a w := by
          intro s' h' hat'
          refine wp_cond hev ?_
          cases b with
          | true => exact (ih y s' ks a w h' hat').wp
          | false => exact (ih z s' ks a w h' hat').wp
         cases x with
         | tmp d =>
           simp only [hb] at h
           have hl : s.tm.lookup d = some v := by
            simp only [ev] at hv
            cases hl : s.tm.lookup d with
            | none => simp [hl] at hv
            | some u => cases u <;> simp_all
           obtain ⟨s', h', hat'⟩ := branch_ok h hat2 hl hb
           exact fin s' h' ⟨W2, F2, hB, hat'⟩
         | const u =>
           simp only [hb] at h
           cases cl with
           | true => exact fin s h hat
           | false => exact h.elim
         | global g =>
           simp only [hb] at h
           cases cl with
           | true => exact fin s h hat
           | false => exact h.elim
         | func g =>
           simp only [hb] at h
           cases cl with
           | true => exact fin s h hat
           | false => exact h.elim
   | block id c =>
     refine wp_block (wp_mono (ih c s _ a w h hat).wp fun e a' w' hq => ?_)
     cases e with
     | exit id' =>
       obtain ⟨k, hk, s', h', hat'⟩ := hq
       simp only [Exit.inBlock]
       rw [lookup_cons] at hk
       by_cases he : id' = id
       ·simp [he] at hk ⊢
        subst hk
        exact ⟨s', h', hat'⟩
       ·simp [he] at hk ⊢
        exact ⟨k, hk, s', h', hat'⟩
     | normal => exact hq
     | goto l => exact hq
     | ret => exact hq
     | panic ch => exact hq
     | outgrown => exact hq
   | exit id =>
     simp only [execF] at h
     cases hk : ks.e.lookup id with
     | none => simp [hk] at h
     | some k => simp only [hk] at h; exact wp_exit ⟨k, hk, s, h, hat⟩
   | loop c =>
     simp only [execF] at h
     cases hL : cx.loop (firstReg c) ⟨s.tm, nz s.rows⟩ with
     | none =>
       simp only [hL] at h
       refine LoopWp.unroll (wp_mono (ih c s _ a w h hat).wp fun e a' w' hq => ?_)
       cases e with
       | normal =>
         obtain ⟨s', h', hat'⟩ := hq
         exact ih (.loop c) s' ks a' w' h' hat'
       | exit id => exact hq
       | goto l => exact hq
       | ret => exact hq
       | panic ch => exact hq
       | outgrown => exact hq
     | some L =>
       simp only [hL] at h
       obtain ⟨x0, hf, hI, hr'⟩ := h
       have hr : ∀ x, L.I x -> wellB cx.n0 (L.T x) = true /\ exec cx n c (L.T x) ⟨fun s => ∃ y, fits (renum cx.n0 (prepS (L.T y) s) (L.T y)) (L.T y) /\ L.I y /\ L.μ y < L.μ x, ks.r, ks.e⟩ := fun x hx => by
        have := hr' x hx
        cases hb : wellB cx.n0 (L.T x) with
        | false => simp [hb] at this
        | true => simpa [hb] using this
       refine LoopWp.ghost (fun m a w => ∃ x, L.I x /\ L.μ x = m /\ Bt W F ρ0 cx (L.T x) a w) ?_ (L.μ x0) a w ⟨x0, hI, rfl, hat.fit (hr x0 hI).1 hf⟩
       rintro m a w ⟨x, hIx, rfl, hatx⟩
       refine wp_mono (ih c (L.T x) _ a w (hr x hIx).2 hatx).wp fun e a' w' hq => ?_
       cases e with
       | normal =>
         obtain ⟨s', ⟨y, hfy, hIy, hμ⟩, hat'⟩ := hq
         exact ⟨L.μ y, hμ, y, hIy, rfl, hat'.fit (hr y hIy).1 hfy⟩
       | exit id => exact hq
       | goto l => exact hq
       | ret => exact hq
       | panic ch => exact hq
       | outgrown => exact hq
   | ret => exact wp_ret ⟨s, h, hat⟩
   | _ => exact h.elim
end Sx
end
section
namespace Sx
variable {P : Program} {W : World} {F : Nat -> Prop} {ρ ρ0 : Num} {s : SS} {a : Act} {w : World} {cx : Ctx}
def initTm : Nat -> List SV -> List (Nat × SV)
 | _, [] => []
 | i, v :: vs => (i, v) :: initTm (i + 1) vs
def resL (T : Tab) (s : SS) : List ResultVar -> Option (List Prop × List SV)
 | [] => some ([], [])
 | .tmp t :: r => (ev s.tm (.tmp t)).bind fun v => (resL T s r).map fun q => (q.1, v :: q.2)
 | .cell t ty :: r => (ev s.tm (.tmp t)).bind fun x => bif isPtr x then (loadS T s.rows ty x).bind fun p => (resL T s r).map fun q => (p.1 ++ q.1, p.2 :: q.2) else none
def cleanR : Rows -> Rows
 | [] => []
 | none :: r => none :: cleanR r
 | some x :: r => (bif noRdL x.cs then some x else none) :: cleanR r
def finR (cx : Ctx) (v : SV) (rows : Rows) (k : SV -> Rows -> Prop) : Prop := bif cx.on then (bif noRd v then k v (cleanR rows) else False) else k v rows
def retS (cx : Ctx) (fn : Func) (k : SV -> Rows -> Prop) (s : SS) : Prop :=
 match resL cx.T s fn.results.toList with
 | some (ps, vs) => andL ps (match vs with
   | [v] => finR cx v (nz s.rows) k
   | vs => finR cx (.tup vs) (nz s.rows) k)
 | none => False
def execFn (cx : Ctx) (fuel : Nat) (fn : Func) (args : List SV) (rows : Rows) (k : SV -> Rows -> Prop) : Prop :=
 match fn.body with
 | some c => bif Nat.ble args.length fn.ntmps then
    exec { cx with nt := fn.ntmps, n0 := rows.length } fuel c ⟨initTm 0 args, rows⟩ ⟨retS cx fn k, retS cx fn k, []⟩
   else False
 | none => False
theorem denL_length (ρ : Num) (l : List SV) : (denL ρ l).length = l.length := by simp [denL_eq]
theorem okdL_get {n : Nat} : ∀ {l : List SV} {i : Nat} {v : SV}, okdL W F n l -> l[i]? = some v -> okd W F n v
 | [], i, v, h, hv => by simp at hv
 | c :: l, 0, v, h, hv => by simp at hv; subst hv; exact h.1
 | c :: l, i + 1, v, h, hv => okdL_get h.2 (by simpa using hv)
theorem initTm_get : ∀ {i : Nat} {l : List SV} {d : Nat} {v : SV}, (initTm i l).lookup d = some v -> i <= d /\ l[d - i]? = some v
 | i, [], d, v, h => by simp [initTm] at h
 | i, c :: l, d, v, h => by
   simp only [initTm] at h
   rw [lookup_cons] at h
   by_cases hd : d = i
   ·simp [hd] at h; subst h hd; simp
   ·simp [hd] at h
    obtain ⟨h1, h2⟩ := initTm_get h
    refine ⟨by omega, ?_⟩
    rw [show d - i = (d - (i + 1)) + 1 by omega]
    simpa using h2
def resF (tmps : Array Value) : ResultVar -> Sem Value
 | .tmp t => pure (tmps.getD t undef)
 | .cell c t => do loadVar t (<- asAddr (tmps.getD c undef))
theorem results_eq (fn : Func) (tmps : Array Value) : results fn tmps = (do
  let vs <- fn.results.mapM (resF tmps)
  pure (if h : vs.size = 1 then vs[0] else .tuple vs)) := by
 unfold results
 congr 2
theorem resL_ok (hT : TabOK P cx.T) (st : Sat W F cx.nt ρ s a w) : ∀ {l : List ResultVar} {ps : List Prop} {vs : List SV}, resL cx.T s l = some (ps, vs) -> All ps ->
  (l.mapM (resF a.tmps)).run P w = .ok (denL ρ vs) w /\ okdL W F s.rows.length vs
 | [], ps, vs, h, hp => by simp [resL] at h; obtain ⟨rfl, rfl⟩ := h; exact ⟨by simp [denL], trivial⟩
 | .tmp t :: l, ps, vs, h, hp => by
   simp only [resL, Option.bind_eq_some_iff, Option.map_eq_some_iff] at h
   obtain ⟨v, hv, ⟨p2, v2⟩, h2, h⟩ := h
   cases h
   obtain ⟨e1, e2, _⟩ := ev_ok st hv
   obtain ⟨i1, i2⟩ := resL_ok hT st h2 hp
   refine ⟨?_, e2, i2⟩
   have hu : (resF a.tmps (.tmp t)).run P w = .ok (den ρ v) w := by simp only [resF, Sem.run_pure]; exact congrArg (fun x => Result.ok x w) e1
   simp [List.mapM_cons, hu, i1, denL]
 | .cell c t :: l, ps, vs, h, hp => by
   simp only [resL, Option.bind_eq_some_iff] at h
   obtain ⟨x, hx, h⟩ := h
   obtain ⟨e1, e2, _⟩ := ev_ok st hx
   rcases cond_some h with ⟨ep, h⟩ | ⟨ep, h⟩
   ·simp only [Option.bind_eq_some_iff, Option.map_eq_some_iff] at h
    obtain ⟨⟨p1, v1⟩, hl, ⟨p2, v2⟩, h2, h⟩ := h
    cases h
    obtain ⟨u, hu, g1, g2, _⟩ := loadS_ok hT st.mem hl (fun p hq => hp p (by simp [hq])) e2
    obtain ⟨i1, i2⟩ := resL_ok hT st h2 (fun p hq => hp p (by simp [hq]))
    refine ⟨?_, g2, i2⟩
    simp only [Act.eval] at e1
    have hu' : (resF a.tmps (.cell c t)).run P w = .ok (den ρ v1) w := by
     simp only [resF, e1]
     rw [<- g1]
     cases x <;> simp [isPtr] at ep <;> simpa [Instr.loadAt, Instr.sureAddr, den, asAddr] using hu
    simp [List.mapM_cons, hu', i1, denL]
   ·cases h
theorem retS_ok (hT : TabOK P cx.T) {fn : Func} {k : SV -> Rows -> Prop} (h : retS cx fn k s) (st : Sat W F cx.nt ρ s a w) :
  ∃ v, finR cx v (nz s.rows) k /\ (results fn a.tmps).run P w = .ok (den ρ v) w /\ okd W F s.rows.length v := by
 unfold retS at h
 split at h
 ·rename_i ps vs hr
  obtain ⟨hp, hk⟩ := andL_out h
  obtain ⟨r1, r2⟩ := resL_ok hT st hr hp
  have hmap : (fn.results.mapM (resF a.tmps)).run P w = .ok (denL ρ vs).toArray w := by
   rw [Array.mapM_eq_mapM_toList]
   simp only [Sem.run_map]
   rw [r1]
   rfl
  rw [results_eq, Sem.run_bind, hmap]
  simp only [Result.andThen_ok, Sem.run_pure]
  split at hk
  ·rename_i v
   exact ⟨v, hk, by simp [denL], r2.1⟩
  ·rename_i hne
   refine ⟨.tup vs, hk, ?_, r2⟩
   have : (denL ρ vs).toArray.size ≠ 1 := by
    simp only [List.size_toArray, denL_length]
    intro h1
    match vs, h1 with
    | [v], _ => exact hne v rfl
   rw [dif_neg this]
   rfl
 ·exact h.elim
theorem cleanR_len : ∀ (l : Rows), (cleanR l).length = l.length
 | [] => rfl
 | none :: r => by simp [cleanR, cleanR_len r]
 | some x :: r => by simp [cleanR, cleanR_len r]
theorem cleanR_get : ∀ {l : Rows} {i : Nat} {x : Row}, (cleanR l)[i]? = some (some x) -> l[i]? = some (some x) /\ noRdL x.cs = true
 | [], i, x, h => by simp [cleanR] at h
 | none :: r, 0, x, h => by simp [cleanR] at h
 | none :: r, i + 1, x, h => by simpa using cleanR_get (l := r) (by simpa [cleanR] using h)
 | some y :: r, 0, x, h => by
   simp only [cleanR, List.getElem?_cons_zero, Option.some.injEq] at h
   cases hn : noRdL y.cs with
   | false => rw [hn] at h; cases h
   | true => rw [hn] at h; cases h; exact ⟨rfl, hn⟩
 | some y :: r, i + 1, x, h => by simpa using cleanR_get (l := r) (by simpa [cleanR] using h)
theorem MemOK.clean {W' : World} {F' : Nat -> Prop} {rows : Rows} (hm : MemOK W' F' ρ rows w) (hf : Frm F W W') (h0 : ∀ b, F' b -> F b ∨ W.heap.size <= b) (hg : Globs W F) : MemOK W F ρ (cleanR rows) w := by
 have mine : ∀ b, F' b ∨ W'.heap.size <= b -> F b ∨ W.heap.size <= b := fun b hb => by
  rcases hb with h | h
  ·exact h0 b h
  ·exact .inr (Nat.le_trans hf.size h)
 refine ⟨⟨hm.frame.os.trans hf.os, hm.frame.tape.trans hf.tape, hm.frame.output.trans hf.output, Nat.le_trans hf.size hm.frame.size, fun b hb hn => ?_⟩, hg, fun i r hi => ?_, fun i j r q hi hj => hm.inj i j r q (cleanR_get hi).1 (cleanR_get hj).1, fun i r hi hh => mine _ (hm.mine i r (cleanR_get hi).1 hh), ?_⟩
 ·rw [hm.frame.block b (Nat.lt_of_lt_of_le hb hf.size) (fun h => ?_), hf.block b hb hn]
  rcases h0 b h with h | h
  ·exact hn h
  ·omega
 ·obtain ⟨h1, h2⟩ := cleanR_get hi
  obtain ⟨c1, c2⟩ := hm.row i r h1
  exact ⟨c1, by rw [cleanR_len]; exact okdL_noRd c2 h2⟩
 ·obtain ⟨φ, hφ⟩ := hm.obs
  refine ⟨φ, fun i r x hi hx => ?_⟩
  obtain ⟨k1, k2⟩ := hφ i r x (cleanR_get hi).1 hx
  refine ⟨k1, fun y hy => ?_⟩
  obtain ⟨m1, m2, m3⟩ := k2 y hy
  exact ⟨m1, mine y m2, fun j q hj => m3 j q (cleanR_get hj).1⟩
theorem execFn_ok (hm : P.follows .mixedOrders = true)
  (hc : CxOK P cx)
  {f : FuncId} {fn : Func} (hf : P.funcs[f]? = some fn) {fuel : Nat} {args : List SV} {rows : Rows} {k : SV -> Rows -> Prop} (h : execFn cx fuel fn args rows k) : SemCall P f args rows k := by
 intro W F ρ w hmem hargs
 unfold execFn at h
 split at h
 ·rename_i c hb
  cases hn : Nat.ble args.length fn.ntmps with
  | false => simp [hn] at h
  | true =>
    simp only [hn, cond_true] at h
    have hn := Nat.le_of_ble_eq_true hn
    have hx : CxOK P { cx with nt := fn.ntmps, n0 := rows.length } := ⟨hc.tab, hc.pure, hc.call, hc.con⟩
    have hat : Bt W F ρ { cx with nt := fn.ntmps, n0 := rows.length } ⟨initTm 0 args, rows⟩ { tmps := (denL ρ args).toArray ++ Array.replicate (fn.ntmps - (denL ρ args).toArray.size) undef, defers := [] } w := by
     refine ⟨W, F, .inl ⟨rfl, rfl⟩, ρ, ⟨by simp [denL_length]; omega, rfl, fun d sv hd => ?_, hmem⟩, fun _ _ => rfl, Nat.le_refl _⟩
     obtain ⟨_, h2⟩ := initTm_get hd
     simp only [Nat.sub_zero] at h2
     right
     refine ⟨?_, okdL_get hargs h2⟩
     have hlt := (List.getElem?_eq_some_iff.1 h2).1
     rw [Array.getElem?_append_left (by simp [denL_length]; exact hlt)]
     simp [denL_eq, h2]
    refine calls_of_wp hf hb (wp_mono (exec_ok hm hx fuel c _ _ _ w h hat).wp fun e a' w' hq => ?_)
    have fin : ∀ s, retS cx fn k s -> Bt W F ρ { cx with nt := fn.ntmps, n0 := rows.length } s a' w' -> a'.defers = [] /\ ∃ v, (results fn a'.tmps).run P w' = .ok v w' /\
      ∃ ρ' res rows', k res rows' /\ Ending.returned v = .returned (den ρ' res) /\ okd W F rows'.length res /\ MemOK W F ρ' rows' w' /\ rows.length <= rows'.length /\ ∀ i, i < rows.length -> ρ' i = ρ i := by
     rintro s hs ⟨W', F', hB, ρ', st, h1, h2⟩
     obtain ⟨v, k1, k2, k3⟩ := retS_ok (cx := { cx with nt := fn.ntmps, n0 := rows.length }) hc.tab hs st
     obtain ⟨ρ1, m1, m2, m3⟩ := nz_ok st.mem
     have k1 : finR cx v (nz s.rows) k := k1
     unfold finR at k1
     cases ho : cx.on with
     | false =>
       rw [ho] at k1
       rcases hB with ⟨rfl, rfl⟩ | ⟨hB, _⟩
       ·exact ⟨st.defers, _, k2, ρ1, v, nz s.rows, k1, by rw [den_congr m3 k3], okd_mono m2 k3, m1, Nat.le_trans h2 m2, fun i hi => (m3 i (Nat.lt_of_lt_of_le hi h2)).trans (h1 i hi)⟩
       ·have hB : cx.on = true := hB
        rw [ho] at hB; cases hB
     | true =>
       rw [ho] at k1
       simp only [cond_true] at k1
       cases hn : noRd v with
       | false => rw [hn] at k1; exact k1.elim
       | true =>
         rw [hn] at k1
         have hfr : Frm F W W' /\ ∀ b, F' b -> F b ∨ W.heap.size <= b := by
          rcases hB with ⟨rfl, rfl⟩ | ⟨_, hB⟩
          ·exact ⟨Frm.refl _ _, fun b h => .inl h⟩
          ·exact hB
         exact ⟨st.defers, _, k2, ρ1, v, cleanR (nz s.rows), k1, by rw [den_congr m3 k3], by rw [cleanR_len]; exact okd_noRd (okd_mono m2 k3) hn, m1.clean hfr.1 hfr.2 hmem.glob, by rw [cleanR_len]; exact Nat.le_trans h2 m2, fun i hi => (m3 i (Nat.lt_of_lt_of_le hi h2)).trans (h1 i hi)⟩
    cases e with
    | normal => obtain ⟨s, hs, hat'⟩ := hq; exact fin s hs hat'
    | ret => obtain ⟨s, hs, hat'⟩ := hq; exact fin s hs hat'
    | exit id =>
      obtain ⟨k, hk, _⟩ := hq
      simp at hk
    | _ => exact hq.elim
 ·exact h.elim
end Sx
end
section
namespace Sx
variable {P : Program} {W : World} {F : Nat -> Prop} {ρ ρ' : Num} {w : World} {cx : Ctx}
structure Ex (p : Prop) : Prop where
 out : p
theorem of_nf {p q : Prop} (h : q = p) (hp : p) : Ex q := ⟨h.symm ▸ hp⟩
theorem Reads.now {k : IntKind} {v : Value} {xs : List Int} (h : Reads W F k v xs) (hf : Frm F W w) : Reads w (fun _ => False) k v xs := by
 rcases h with ⟨a, cap, h1, h2, h3⟩ | ⟨b, off, cap, rfl, h0, h1, h2, h3⟩
 ·exact .inl ⟨a, cap, h1, h2, h3⟩
 ·exact .inr ⟨b, off, cap, rfl, h0, Nat.lt_of_lt_of_le h1 hf.size, id, fun j hj => by rw [World.cell?_of_block (w := W) (hf.block b h1 h2)]; exact h3 j hj⟩
theorem ReadsS.now {sz m : Nat} {v : Value} {f : Nat -> List Value} (h : ReadsS W F sz v m f) (hf : Frm F W w) : ReadsS w (fun _ => False) sz v m f := by
 refine ⟨h.1, ?_⟩
 rcases h.2 with ⟨a, cap, h1, h2, h3⟩ | ⟨b, off, cap, rfl, h0, h1, h2, h3⟩
 ·exact .inl ⟨a, cap, h1, h2, h3⟩
 ·exact .inr ⟨b, off, cap, rfl, h0, Nat.lt_of_lt_of_le h1 hf.size, id, fun e he j hj => by rw [World.cell?_of_block (w := W) (hf.block b h1 h2)]; exact h3 e he j hj⟩
mutual
theorem okd_shift (hf : Frm F W w) : ∀ {c : SV}, okd W F 0 c -> okd w (fun _ => False) 0 c
 | .ptr _ _, h => h
 | .pte _ _ _, h => h
 | .ptm _ _ _ _, h => h
 | .many _ _ _, h => h
 | .sl _ _ _ _, h => h
 | .os _ _ _ _, h => h
 | .on _ _ _, h => h
 | .ow _ _ _ _ _ _, h => h
 | .gpe _ _ _ _ _, h => h
 | .gp _ _, _ => trivial
 | .rd _ _ _, h => Reads.now h hf
 | .rda _ _ _ _, h => ⟨Reads.now h.1 hf, h.2⟩
 | .rs _ _ _ f, h => ⟨ReadsS.now h.1 hf, fun e he => okdL_shift hf (l := f e) (h.2 e he)⟩
 | .rsa _ _ _ f _ _, h => ⟨⟨ReadsS.now h.1.1 hf, fun e he => okdL_shift hf (l := f e) (h.1.2 e he)⟩, h.2⟩
 | .agg cs, h => okdL_shift hf (l := cs) h
 | .tup cs, h => okdL_shift hf (l := cs) h
 | .fn _ x y, h => ⟨okdL_shift hf (l := x) h.1, okdL_shift hf (l := y) h.2⟩
 | .lit _ _, _ | .litb _, _ | .top, _ | .int _ _, _ | .bool _, _ | .str _, _ | .val _, _ | .hnd _, _ | .ints _ _ _, _ => trivial
theorem okdL_shift (hf : Frm F W w) : ∀ {l : List SV}, okdL W F 0 l -> okdL w (fun _ => False) 0 l
 | [], _ => trivial
 | c :: l, h => ⟨okd_shift hf h.1, okdL_shift hf h.2⟩
end
mutual
theorem okd_now {n : Nat} (hf : Frm F W w) : ∀ {c : SV}, okd W F n c -> okB 0 c = true -> okd w (fun _ => False) 0 c
 | .ptr i _, _, h => by simp [okB] at h
 | .pte i _ _, _, h => by simp [okB] at h
 | .ptm i _ _ _, _, h => by simp [okB] at h
 | .many _ _ _, h, _ => h
 | .sl i _ _ _, _, h => by simp [okB] at h
 | .os i _ _ _, _, h => by simp [okB] at h
 | .on i _ _, _, h => by simp [okB] at h
 | .ow i _ _ _ _ _, _, h => by simp [okB] at h
 | .gpe _ _ _ _ _, h, _ => h
 | .gp _ _, _, _ => trivial
 | .rd _ _ _, h, _ => Reads.now h hf
 | .rda _ _ _ _, h, _ => ⟨Reads.now h.1 hf, h.2⟩
 | .rs _ _ _ _, h, _ => ⟨ReadsS.now h.1 hf, fun e he => okdL_shift hf (h.2 e he)⟩
 | .rsa _ _ _ _ _ _, h, _ => ⟨⟨ReadsS.now h.1.1 hf, fun e he => okdL_shift hf (h.1.2 e he)⟩, h.2⟩
 | .agg cs, h, hb => okdL_now hf (l := cs) h (by simpa [okB] using hb)
 | .tup cs, h, hb => okdL_now hf (l := cs) h (by simpa [okB] using hb)
 | .fn _ x y, h, hb => by simp only [okB, Bool.and_eq_true] at hb; exact ⟨okdL_now hf (l := x) h.1 hb.1, okdL_now hf (l := y) h.2 hb.2⟩
 | .lit _ _, _, _ | .litb _, _, _ | .top, _, _ | .int _ _, _, _ | .bool _, _, _ | .str _, _, _ | .val _, _, _ | .hnd _, _, _ | .ints _ _ _, _, _ => trivial
theorem okdL_now {n : Nat} (hf : Frm F W w) : ∀ {l : List SV}, okdL W F n l -> okBL 0 l = true -> okdL w (fun _ => False) 0 l
 | [], _, _ => trivial
 | c :: l, h, hb => by simp only [okBL, Bool.and_eq_true] at hb; exact ⟨okd_now hf h.1 hb.1, okdL_now hf h.2 hb.2⟩
end
theorem closed_den {c : SV} (h : closedV c = true) (ρ ρ' : Num) : den ρ c = den ρ' c :=
 (den_congr (W := default) (F := fun _ => False) (n := 0) (fun i hi => absurd hi (by omega)) (closed_okd default _ 0 h)).symm ▸ rfl
theorem closed_top {c : SV} (h : closedV c = true) : c ≠ .top := by rintro rfl; simp [closedV] at h
theorem MemOK.globs {rows : List (Option Row)} (h : MemOK W F ρ rows w) : Globs w (fun _ => False) := by
 intro g cs hg
 obtain ⟨h1, c, ty, fr, h2, h3⟩ := h.glob g cs hg
 exact ⟨id, c, ty, fr, by rw [h.frame.block g (Array.getElem?_eq_some_iff.1 h2).1 h1]; exact h2, h3⟩
theorem pure_intro (hm : P.follows .mixedOrders = true) (hc : CxOK P cx) {f : FuncId} {fn : Func} (hf : P.funcs[f]? = some fn) (fuel : Nat) {args : List SV} {v : SV} (ha : okBL 0 args = true) (hv : closedV v = true)
  (h : Ex (execFn cx fuel fn args [] fun r _ => eqv r v)) : PureSem P f args v := by
 have h := h.out
 intro W F ρ rows w hmem hargs
 refine ⟨closed_okd _ _ _ hv, closed_top hv, ?_⟩
 have hm0 : MemOK w (fun _ => False) ρ [] w := ⟨Frm.refl _ _, hmem.globs, fun i r h => by simp at h, fun i j r q h => by simp at h, fun i r h => by simp at h, ⟨fun _ _ => False, fun i r x h => by simp at h⟩⟩
 refine (execFn_ok hm hc hf h w (fun _ => False) ρ w hm0 (okdL_now hmem.frame hargs ha)).mono ?_
 rintro e w' ⟨ρ', res, rows', hk, rfl, g1, g2, _, _⟩
 obtain ⟨e1, _⟩ := eqv_ok ρ' hk g1 (closed_top hv)
 exact ⟨by rw [e1, closed_den hv ρ' ρ], g2.frame⟩
structure Plan where
 must : Nat -> Option Bool := fun _ => none
 loop : Nat -> Option LoopSpec := fun _ => none
def inl (T : Tab) (pure : FuncId -> Option (List SV -> Option (List Prop × SV))) (fns : FuncId -> Option Func) (plan : FuncId -> Plan) (fuel : Nat) : Nat -> FuncId -> Option Handler
 | 0, _ => none
 | n + 1, f => (fns f).map fun fn args rows k => execFn ⟨T, inl T pure fns plan fuel n, pure, (plan f).must, fun q _ => (plan f).loop q, 0, 0, fun _ => none, fun _ _ => [], false⟩ fuel fn args rows k
def FnsOK (P : Program) (fns : FuncId -> Option Func) : Prop := ∀ f fn, fns f = some fn -> P.funcs[f]? = some fn /\ ∀ args w, (callFunc f args).run P w = .ok (.enter f args) w
def dedup (seen : List Nat) : List (Nat × SV) -> List (Nat × SV)
 | [] => []
 | (d, v) :: r => bif seen.any (Nat.beq d) then dedup seen r else (d, v) :: dedup (d :: seen) r
def setRs (rows : Rows) : List (Nat × Option Row) -> Rows
 | [] => rows
 | (i, r) :: l => setRs (rows.set i r) l
def SS.upd (s : SS) (drop : List Nat) (t : List (Nat × SV)) (r : List (Nat × Option Row)) : SS := ⟨dedup drop (t ++ s.tm), setRs s.rows r⟩
def PureOK (P : Program) (pure : FuncId -> Option (List SV -> Option (List Prop × SV))) : Prop :=
 ∀ f h, pure f = some h -> (∀ args w, (callFunc f args).run P w = .ok (.enter f args) w) /\ ∀ args ps v, h args = some (ps, v) -> All ps -> PureSem P f args v
def PEntry (P : Program) (f : FuncId) (h : List SV -> Option (List Prop × SV)) : Prop :=
 (∀ args w, (callFunc f args).run P w = .ok (.enter f args) w) /\ ∀ args ps v, h args = some (ps, v) -> All ps -> PureSem P f args v
def AllP (P : Program) : List (Nat × (List SV -> Option (List Prop × SV))) -> Prop
 | [] => True
 | p :: l => PEntry P p.1 p.2 /\ AllP P l
theorem pure_list : ∀ (l : List (Nat × (List SV -> Option (List Prop × SV)))), AllP P l -> PureOK P (fun f => List.lookup f l)
 | [], _, t, i, h => by simp at h
 | (d, v) :: l, hp, t, i, h => by
   have h : List.lookup t ((d, v) :: l) = some i := h
   rw [lookup_cons] at h
   by_cases hd : t = d
   ·simp [hd] at h; subst h hd; exact hp.1
   ·simp [hd] at h; exact pure_list l hp.2 t i h
theorem callFunc_ok {f : FuncId} {fn : Func} (hf : P.funcs[f]? = some fn) (hn : (fn.name == "runtime.NumGoroutine") = false) (hb : fn.body.isNone = false) (args : Array Value) (w : World) : (callFunc f args).run P w = .ok (.enter f args) w := by
 have h1 : fn.name ≠ "runtime.NumGoroutine" := by simpa using hn
 have h2 : fn.body ≠ none := by intro h; simp [h] at hb
 simp [callFunc, hf, h1, h2]
theorem inl_ok (hm : P.follows .mixedOrders = true) {T : Tab} {pure : FuncId -> Option (List SV -> Option (List Prop × SV))} {fns : FuncId -> Option Func} {plan : FuncId -> Plan} {fuel : Nat} (hT : TabOK P T) (hp : PureOK P pure) (hf : FnsOK P fns) :
  ∀ (n : Nat) (must : Nat -> Option Bool) (loop : Nat -> SS -> Option LoopSpec) (nt n0 : Nat) (fz : Nat -> SS -> List Nat) (on : Bool), CxOK P ⟨T, inl T pure fns plan fuel n, pure, must, loop, nt, n0, fun _ => none, fz, on⟩
 | 0, must, loop, nt, n0, fz, on => ⟨hT, hp, (fun f h hh => by simp [inl] at hh), fun f c h => by cases h⟩
 | n + 1, must, loop, nt, n0, fz, on => by
   refine ⟨hT, hp, fun f h hh => ?_, fun f c h => by cases h⟩
   simp only [inl, Option.map_eq_some_iff] at hh
   obtain ⟨fn, h1, rfl⟩ := hh
   obtain ⟨h2, h3⟩ := hf f fn h1
   exact ⟨h3, fun args rows k hk => execFn_ok hm (inl_ok hm hT hp hf n _ _ 0 0 _ _) h2 hk⟩
end Sx
end
section
namespace Sx
variable {P : Program} {W : World} {F : Nat -> Prop} {ρ ρ' ρ0 : Num} {s : SS} {a : Act} {w : World} {cx : Ctx}
def conOK (l g : List (Nat × Nat)) (m n n' : Nat) : Bool :=
 rnOK 0 m l && rnOK 0 n' g && Nat.ble n n' && l.all (fun p => decide (keyOf g p.2 = some p.1) && Nat.blt p.2 n) && g.all (fun p => bif Nat.blt p.1 n then decide (keyOf l p.2 = some p.1) else true)
def altOne (l : List (Nat × Nat)) (m : Nat) (R : Rows) (K : SV -> Rows -> Prop) (res : SV) (rows : Rows) : Prop :=
 let n' := R.length + (rows.length - m)
 let g := swapL l ++ moreL R.length m (rows.length - m)
 match rnV g res with
 | some r => bif conOK l g m R.length n' && noRd res && noRdR rows && notTop r then K r (mgRows g R rows n') else False
 | none => False
def altsK (l : List (Nat × Nat)) (m : Nat) (R : Rows) (K : SV -> Rows -> Prop) : List Alt -> Prop
 | [] => True
 | ⟨none, r, rows⟩ :: [] => altOne l m R K r rows
 | ⟨some p, r, rows⟩ :: [] => p -> altOne l m R K r rows
 | ⟨none, r, rows⟩ :: xs => altOne l m R K r rows /\ altsK l m R K xs
 | ⟨some p, r, rows⟩ :: xs => (p -> altOne l m R K r rows) /\ altsK l m R K xs
def conB (c : ECon) (args : List SV) (own : List Nat) (R : Rows) (K : SV -> Rows -> Prop) (els : Prop) : Prop :=
 let im := reach args R
 let l := numL 0 im
 match rnL l args with
 | some args0 => match c (softL args0) (softRows (rnRows l R im.length)) with
   | some (ps, alts) => bif rnOK 0 im.length l && own.all (fun i => (srcOf l i).isNone) then andL ps (altsK l im.length R K alts) else False
   | none => els
 | none => els
def conH0 (c : ECon) : Handler := fun args R K =>
 conB c args [] R K (∀ v : Nat -> Value, match readArgs R v 0 args with
  | some (ps, args') => andL ps (conB c args' (ownL args) R K False)
  | none => False)
theorem altsK_one {l : List (Nat × Nat)} {m : Nat} {R : Rows} {K : SV -> Rows -> Prop} : ∀ {alts : List Alt} {x : Alt}, altsK l m R K alts -> x ∈ alts -> x.holds -> altOne l m R K x.res x.rows
 | [⟨none, r, rows⟩], x, h, hx, hh => by simp only [List.mem_singleton] at hx; subst hx; exact h
 | [⟨some p, r, rows⟩], x, h, hx, hh => by simp only [List.mem_singleton] at hx; subst hx; exact h hh
 | ⟨none, r, rows⟩ :: y :: xs, x, h, hx, hh => by
   rcases List.mem_cons.1 hx with rfl | hx
   ·exact h.1
   ·exact altsK_one h.2 hx hh
 | ⟨some p, r, rows⟩ :: y :: xs, x, h, hx, hh => by
   rcases List.mem_cons.1 hx with rfl | hx
   ·exact h.1 hh
   ·exact altsK_one h.2 hx hh
theorem con_at {f : FuncId} {args args' args0 : List SV} {R : Rows} {l : List (Nat × Nat)} {m : Nat} {alts : List Alt} {K : SV -> Rows -> Prop}
  (hl : rnOK 0 m l = true) (ha : rnL l args' = some args0) (hs : SemCall P f (softL args0) (softRows (rnRows l R m)) (AltK alts)) (hk : altsK l m R K alts) (hm : MemOK W F ρ R w) (hden : denL ρ args' = denL ρ args)
  (hok : ∀ F0 : Nat -> Prop, (∀ b, F0 b -> F b ∨ W.heap.size <= b) -> (∀ (k : Nat) (q : Row), (∀ j, keyOf l j ≠ some k) -> R[k]? = some (some q) -> Has ρ k q -> ¬ F0 (ρ k).1) -> (l = [] -> ∀ y, ¬ F0 y) -> okdL w F0 R.length args') :
  Calls P f (denL ρ args).toArray w fun e w' => ∃ ρ' res rows', K res rows' /\ e = .returned (den ρ' res) /\ okd W F rows'.length res /\ MemOK W F ρ' rows' w' /\ R.length <= rows'.length /\ ∀ i, i < R.length -> ρ' i = ρ i := by
 have Rl := Rn.of hl ρ
 obtain ⟨φ, hφ⟩ := hm.obs
 -- the blocks that are handed over
 let F0 : Nat -> Prop := fun y => ∃ j i r, keyOf l j = some i /\ R[i]? = some (some r) /\ ((Has ρ i r /\ (ρ i).1 = y) ∨ (r.ob ≠ none /\ φ i y))
 have f1 : ∀ y, F0 y -> y < w.heap.size /\ (F y ∨ W.heap.size <= y) := by
  rintro y ⟨j, i, r, h1, h2, h3⟩
  rcases h3 with ⟨h3, rfl⟩ | ⟨h3, h4⟩
  ·exact ⟨hm.lt h2 h3, hm.mine i r h2 h3⟩
  ·cases hr : r.ob with
   | none => exact absurd hr h3
   | some x =>
     obtain ⟨g1, g2, _⟩ := (hφ i r x h2 hr).2 y h4
     exact ⟨g1, g2⟩
 have f2 : ∀ (k : Nat) (q : Row), (∀ j, keyOf l j ≠ some k) -> R[k]? = some (some q) -> Has ρ k q -> ¬ F0 (ρ k).1 := by
  rintro k q hno hq hh ⟨j, i, r, h1, h2, h3⟩
  rcases h3 with ⟨h3, h4⟩ | ⟨h3, h4⟩
  ·have := hm.inj i k r q h2 hq h3 hh h4
   subst this
   exact hno j h1
  ·cases hr : r.ob with
   | none => exact absurd hr h3
   | some x => exact (((hφ i r x h2 hr).2 _ h4).2.2 k q hq).1 hh rfl
 have f3 : ∀ (k : Nat) (q : Row) (x : Ob), (∀ j, keyOf l j ≠ some k) -> R[k]? = some (some q) -> q.ob = some x -> ∀ y, φ k y -> ¬ F0 y := by
  rintro k q x hno hq hx y hy ⟨j, i, r, h1, h2, h3⟩
  rcases h3 with ⟨h3, h4⟩ | ⟨h3, h4⟩
  ·exact (((hφ k q x hq hx).2 y hy).2.2 i r h2).1 h3 h4
  ·cases hr : r.ob with
   | none => exact h3 hr
   | some z =>
     have hki : k ≠ i := by rintro rfl; exact hno j h1
     exact (((hφ i r z h2 hr).2 y h4).2.2 k q hq).2 (by rw [hx]; simp) hki hy
 have h0 : ∀ b, F0 b -> F b ∨ W.heap.size <= b := fun b h => (f1 b h).2
 have hmr := hm.renum (n := m) Rl
 have hm0 : MemOK w F0 (numOf l ρ) (rnRows l R m) w := by
  refine ⟨Frm.refl _ _, fun g cs hg => ?_, fun j r hj => ?_, hmr.inj, fun j r hj hh => .inl ?_, ⟨fun j => match keyOf l j with
   | some i => φ i
   | none => fun _ => False, fun j r x hj hx => ?_⟩⟩
  ·obtain ⟨h1, c, ty, fr, h2, h3⟩ := hm.glob g cs hg
   have hlt := (Array.getElem?_eq_some_iff.1 h2).1
   refine ⟨fun h => ?_, c, ty, fr, by rw [hm.frame.block g hlt h1]; exact h2, h3⟩
   rcases h0 g h with h | h
   ·exact h1 h
   ·omega
  ·obtain ⟨c1, c2⟩ := hmr.row j r hj
   exact ⟨c1, okdL_at hm.frame h0 c2⟩
  ·obtain ⟨i, q, g1, g2, rfl⟩ := rnRows_get hj
   exact ⟨j, i, q, g1, g2, .inl ⟨hh.map (Rl.key i j g1).2 rfl rfl, ((Rl.key i j g1).2 ▸ rfl)⟩⟩
  ·obtain ⟨i, q, g1, g2, rfl⟩ := rnRows_get hj
   obtain ⟨k1, k2⟩ := hφ i q x g2 hx
   simp only [g1, (Rl.key i j g1).2]
   refine ⟨k1.map fun vs hv => rnTL_ok Rl (hm.row i q g2).2 hv, fun y hy => ?_⟩
   obtain ⟨m1, m2, m3⟩ := k2 y hy
   refine ⟨m1, .inl ⟨j, i, q, g1, g2, .inr ⟨by have hx' : q.ob = some x := hx; rw [hx']; simp, hy⟩⟩, fun k z hk => ⟨fun hh => ?_, fun hz hne => ?_⟩⟩
   ·obtain ⟨i', u, h3, h4, rfl⟩ := rnRows_get hk
    rw [(Rl.key i' k h3).2]
    exact (m3 i' u h4).1 (hh.map (Rl.key i' k h3).2 rfl rfl)
   ·obtain ⟨i', u, h3, h4, rfl⟩ := rnRows_get hk
    simp only [h3]
    refine (m3 i' u h4).2 hz fun e => hne ?_
    subst e
    exact (Rl.one i' j k g1 h3).symm
 obtain ⟨a1, a2, a3⟩ := rnL_ok (W := w) (F := F0) Rl ha (hok F0 h0 f2 fun e y => by { rintro ⟨j, i, r, h1, _⟩; rw [e] at h1; simp [keyOf] at h1 })
 have hcall := hs w F0 (numOf l ρ) w hm0.softR (by rw [softRows_len, rnRows_len]; exact softL_okd a3)
 rw [softL_den, a2, hden] at hcall
 refine hcall.mono ?_
 rintro e w' ⟨ρ', res, rows', ⟨x, hx, hxh, rfl, rfl⟩, rfl, g1, g2, g3, g4⟩
 rw [softRows_len, rnRows_len] at g3 g4
 have hone := altsK_one hk hx hxh
 unfold altOne at hone
 simp only at hone
 split at hone
 ·rename_i r hr
  cases hc : (conOK l (swapL l ++ moreL R.length m (x.rows.length - m)) m R.length (R.length + (x.rows.length - m)) && noRd x.res && noRdR x.rows && notTop r) with
  | false => rw [hc] at hone; exact hone.elim
  | true =>
    rw [hc] at hone
    simp only [cond_true] at hone
    simp only [Bool.and_eq_true] at hc
    obtain ⟨⟨⟨c1, c2⟩, c3⟩, c4⟩ := hc
    generalize hn' : R.length + (x.rows.length - m) = n' at *
    generalize swapL l ++ moreL R.length m (x.rows.length - m) = g at *
    simp only [conOK, Bool.and_eq_true, List.all_eq_true] at c1
    obtain ⟨⟨⟨⟨_, d1⟩, d2⟩, d3⟩, d4⟩ := c1
    have d2 := Nat.le_of_ble_eq_true d2
    let ρ2 : Num := fun i => match keyOf g i with
     | some j => ρ' j
     | none => ρ i
    have Rg : Rn g n' ρ' ρ2 := by
     obtain ⟨q1, q2, q3⟩ := Rn.of d1 ρ'
     have hnum : ∀ i j, keyOf g j = some i -> ρ2 j = ρ' i := fun i j h => by simp only [ρ2, h]
     refine ⟨fun i j h => ⟨(q1 i j h).1, ?_⟩, fun i j h => ⟨(q2 i j h).1, hnum i j h⟩, q3⟩
     have d1' := d1
     simp only [rnOK, Bool.and_eq_true, List.all_eq_true, decide_eq_true_eq] at d1'
     exact hnum i j (d1'.1 _ (srcOf_mem h)).1.1
    have back : ∀ i j, i < R.length -> keyOf g i = some j -> keyOf l j = some i /\ j < m := by
     intro i j hi h
     have := d4 _ (keyOf_mem h)
     simp only [show Nat.blt i R.length = true from Nat.ble_eq_true_of_le hi, cond_true, decide_eq_true_eq] at this
     exact ⟨this, (Rl.key i j this).1⟩
    have old : ∀ i, i < R.length -> ρ2 i = ρ i := by
     intro i hi
     simp only [ρ2]
     cases h : keyOf g i with
     | none => rfl
     | some j =>
       obtain ⟨h1, h2⟩ := back i j hi h
       simp only
       rw [g4 j h2]
       exact (Rl.key i j h1).2
    have other : ∀ i, keyOf g i = none -> ∀ j, keyOf l j ≠ some i := by
     intro i h j hj
     have := (d3 _ (keyOf_mem hj))
     simp only [Bool.and_eq_true, decide_eq_true_eq] at this
     rw [h] at this; cases this.1
    have keep : ∀ y, y < w.heap.size -> ¬ F0 y -> w'.heap[y]? = w.heap[y]? := fun y h1 h2 => g2.frame.block y h1 h2
    have lt0 : ∀ y, (F0 y ∨ w.heap.size <= y) -> (F y ∨ W.heap.size <= y) := fun y h => h.elim (fun h => h0 y h) fun h => .inr (Nat.le_trans hm.frame.size h)
    obtain ⟨ψ, hψ⟩ := g2.obs
    refine ⟨ρ2, r, _, hone, ?_, ?_, ?_, ?_, fun i hi => old i hi⟩
    ·obtain ⟨e1, _, _⟩ := rnV_ok (W := w) (F := F0) Rg hr g1
     rw [e1]
    ·obtain ⟨_, e2, _⟩ := rnV_ok (W := W) (F := F) Rg hr (okd_noRd g1 c2)
     rw [mgRows_len]; exact e2
    ·refine ⟨⟨g2.frame.os.trans hm.frame.os, g2.frame.tape.trans hm.frame.tape, g2.frame.output.trans hm.frame.output, Nat.le_trans hm.frame.size g2.frame.size, fun b hb hf => ?_⟩, hm.glob, fun i q hi => ?_, fun i k q1 q2 hi hk hh1 hh2 he => ?_, fun i q hi hh => ?_, ?_⟩
     ·rw [keep b (Nat.lt_of_lt_of_le hb hm.frame.size) (fun h => ?_), hm.frame.block b hb hf]
      rcases h0 b h with h | h
      ·exact hf h
      ·omega
     ·rw [mgRows_len]
      obtain ⟨hin, hq⟩ := mgRows_get hi
      rcases hq with ⟨j, q0, e1, e2, rfl⟩ | ⟨e1, e2⟩
      ·obtain ⟨c1, c2⟩ := g2.row j q0 e2
       exact ⟨c1.map (Rg.key j i e1).2 rfl rfl rfl (fun _ => rfl) (fun vs hv => rnTL_ok Rg c2 hv), rnTL_okd Rg (okdL_noRd c2 (noRdR_get c3 e2))⟩
      ·obtain ⟨c1, c2⟩ := hm.row i q e2
       have hiR := (List.getElem?_eq_some_iff.1 e2).1
       refine ⟨c1.map (old i hiR) rfl rfl rfl (fun hh => keep _ (hm.lt e2 hh) (f2 i q (other i e1) e2 hh)) (fun vs hv => ?_), okdL_mono d2 c2⟩
       exact (CellsOK.congr (fun k hk => old k hk) c2 hv)
     ·obtain ⟨_, h3⟩ := mgRows_get hi
      obtain ⟨_, h4⟩ := mgRows_get hk
      rcases h3 with ⟨j, q0, e1, e2, rfl⟩ | ⟨e1, e2⟩ <;> rcases h4 with ⟨j', q0', e3, e4, rfl⟩ | ⟨e3, e4⟩
      ·rw [(Rg.key j i e1).2, (Rg.key j' k e3).2] at he
       have := g2.inj j j' q0 q0' e2 e4 (hh1.map (Rg.key j i e1).2 rfl rfl) (hh2.map (Rg.key j' k e3).2 rfl rfl) he
       subst this
       exact Rg.one j i k e1 e3
      ·have hkR := (List.getElem?_eq_some_iff.1 e4).1
       have hh2' := hh2.map (old k hkR) rfl rfl
       have e5 := g2.mine j q0 e2 (hh1.map (Rg.key j i e1).2 rfl rfl)
       rw [(Rg.key j i e1).2, old k hkR] at he
       rw [he] at e5
       rcases e5 with h | h
       ·exact absurd h (f2 k q2 (other k e3) e4 hh2')
       ·have := hm.lt e4 hh2'; omega
      ·have hkR := (List.getElem?_eq_some_iff.1 e2).1
       have hh1' := hh1.map (old i hkR) rfl rfl
       have e5 := g2.mine j' q0' e4 (hh2.map (Rg.key j' k e3).2 rfl rfl)
       rw [(Rg.key j' k e3).2, old i hkR] at he
       rw [<- he] at e5
       rcases e5 with h | h
       ·exact absurd h (f2 i q1 (other i e1) e2 hh1')
       ·have := hm.lt e2 hh1'; omega
      ·have hiR := (List.getElem?_eq_some_iff.1 e2).1
       have hkR := (List.getElem?_eq_some_iff.1 e4).1
       rw [old i hiR, old k hkR] at he
       exact hm.inj i k q1 q2 e2 e4 (hh1.map (old i hiR) rfl rfl) (hh2.map (old k hkR) rfl rfl) he
     ·obtain ⟨_, h3⟩ := mgRows_get hi
      rcases h3 with ⟨j, q0, e1, e2, rfl⟩ | ⟨e1, e2⟩
      ·rw [(Rg.key j i e1).2]
       exact lt0 _ (g2.mine j q0 e2 (hh.map (Rg.key j i e1).2 rfl rfl))
      ·have hiR := (List.getElem?_eq_some_iff.1 e2).1
       rw [old i hiR]
       exact hm.mine i q e2 (hh.map (old i hiR) rfl rfl)
     ·refine ⟨fun i => match keyOf g i with
       | some j => ψ j
       | none => φ i, fun i q z hi hz => ?_⟩
      obtain ⟨_, h3⟩ := mgRows_get hi
      have hasO : ∀ (k : Nat) (u : Row), keyOf g k = none -> R[k]? = some (some u) -> Has ρ2 k u -> Has ρ k u := fun k u _ h2 hh => hh.map (old k (List.getElem?_eq_some_iff.1 h2).1) rfl rfl
      rcases h3 with ⟨j, q0, e1, e2, rfl⟩ | ⟨e1, e2⟩
      ·obtain ⟨k1, k2⟩ := hψ j q0 z e2 hz
       simp only [e1, (Rg.key j i e1).2]
       refine ⟨k1.map fun vs hv => rnTL_ok Rg (g2.row j q0 e2).2 hv, fun y hy => ?_⟩
       obtain ⟨n1, n2, n3⟩ := k2 y hy
       refine ⟨n1, lt0 y n2, fun k u hk => ?_⟩
       obtain ⟨_, h4⟩ := mgRows_get hk
       rcases h4 with ⟨j', q0', e3, e4, rfl⟩ | ⟨e3, e4⟩
       ·refine ⟨fun hh => ?_, fun hu hne => ?_⟩
        ·rw [(Rg.key j' k e3).2]; exact (n3 j' q0' e4).1 (hh.map (Rg.key j' k e3).2 rfl rfl)
        ·simp only [e3]
         refine (n3 j' q0' e4).2 hu fun e => hne ?_
         subst e
         exact (Rg.one j' i k e1 e3).symm
       ·have hkR := (List.getElem?_eq_some_iff.1 e4).1
        refine ⟨fun hh => ?_, fun hu hne => ?_⟩
        ·have hh' := hasO k u e3 e4 hh
         rw [old k hkR]
         rintro rfl
         rcases n2 with h | h
         ·exact f2 k u (other k e3) e4 hh' h
         ·have := hm.lt e4 hh'; omega
        ·simp only [e3]
         intro hyk
         cases hub : u.ob with
         | none => exact hu hub
         | some z' =>
           rcases n2 with h | h
           ·exact f3 k u z' (other k e3) e4 hub y hyk h
           ·have := ((hφ k u z' e4 hub).2 y hyk).1; omega
      ·have hiR := (List.getElem?_eq_some_iff.1 e2).1
       obtain ⟨k1, k2⟩ := hφ i q z e2 hz
       have hnF := f3 i q z (other i e1) e2 hz
       simp only [e1, old i hiR]
       refine ⟨Ob_loc (k1.map fun vs hv => CellsOK.congr (fun k hk => old k hk) (hm.row i q e2).2 hv) fun y hy => keep y (k2 y hy).1 (hnF y hy), fun y hy => ?_⟩
       obtain ⟨n1, n2, n3⟩ := k2 y hy
       refine ⟨Nat.lt_of_lt_of_le n1 g2.frame.size, n2, fun k u hk => ?_⟩
       obtain ⟨_, h4⟩ := mgRows_get hk
       rcases h4 with ⟨j', q0', e3, e4, rfl⟩ | ⟨e3, e4⟩
       ·refine ⟨fun hh => ?_, fun hu hne => ?_⟩
        ·rw [(Rg.key j' k e3).2]
         rintro rfl
         rcases g2.mine j' q0' e4 (hh.map (Rg.key j' k e3).2 rfl rfl) with h | h
         ·exact hnF _ hy h
         ·omega
        ·simp only [e3]
         intro hyk
         cases hub : q0'.ob with
         | none => exact hu hub
         | some z' =>
           rcases ((hψ j' q0' z' e4 hub).2 y hyk).2.1 with h | h
           ·exact hnF y hy h
           ·omega
       ·have hkR := (List.getElem?_eq_some_iff.1 e4).1
        refine ⟨fun hh => ?_, fun hu hne => ?_⟩
        ·rw [old k hkR]; exact (n3 k u e4).1 (hasO k u e3 e4 hh)
        ·simp only [e3]; exact (n3 k u e4).2 hu hne
    ·rw [mgRows_len]; exact d2
 ·exact hone.elim
theorem conH0_ok {f : FuncId} {c : ECon} (h : EEntry P f c) {args : List SV} {R : Rows} {K : SV -> Rows -> Prop} (hk : conH0 c args R K) : SemCall P f args R K := by
 intro W F ρ w hm hargs
 have body : ∀ (args' : List SV) (own : List Nat) (els : Prop), conB c args' own R K els -> denL ρ args' = denL ρ args -> (∀ (l : List (Nat × Nat)) (m : Nat), rnOK 0 m l = true -> (∀ i ∈ own, (srcOf l i).isNone = true) -> ∀ F0 : Nat -> Prop, (∀ b, F0 b -> F b ∨ W.heap.size <= b) -> (∀ (k : Nat) (q : Row), (∀ j, keyOf l j ≠ some k) -> R[k]? = some (some q) -> Has ρ k q -> ¬ F0 (ρ k).1) -> okdL w F0 R.length args') ->
   els ∨ Calls P f (denL ρ args).toArray w fun e w' => ∃ ρ' res rows', K res rows' /\ e = .returned (den ρ' res) /\ okd W F rows'.length res /\ MemOK W F ρ' rows' w' /\ R.length <= rows'.length /\ ∀ i, i < R.length -> ρ' i = ρ i := by
  intro args' own els hb hden hok
  unfold conB at hb
  simp only at hb
  split at hb
  ·rename_i args0 ha
   split at hb
   ·rename_i ps alts hc
    cases ht : (rnOK 0 (reach args' R).length (numL 0 (reach args' R)) && own.all fun i => (srcOf (numL 0 (reach args' R)) i).isNone) with
    | false => rw [ht] at hb; exact hb.elim
    | true =>
      rw [ht] at hb
      simp only [cond_true] at hb
      simp only [Bool.and_eq_true, List.all_eq_true] at ht
      obtain ⟨hp, hb⟩ := andL_out hb
      exact .inr (con_at ht.1 ha (h.2 _ _ _ _ hc hp) hb hm hden fun F0 a b _ => hok _ _ ht.1 ht.2 F0 a b)
   ·exact .inl hb
  ·exact .inl hb
 rcases body args [] _ hk rfl (fun l m _ _ F0 h0 _ => okdL_at hm.frame h0 hargs) with hk | hk
 ·have hk := hk fun i => match args[i]? with
   | some c => den ρ c
   | none => undef
  split at hk
  ·rename_i ps args' hr
   obtain ⟨hp, hk⟩ := andL_out hk
   have hv : ∀ i c, args[i]? = some c -> (fun i => match args[i]? with
    | some c => den ρ c
    | none => undef) (0 + i) = den ρ c := fun i c hc => by simp only [Nat.zero_add, hc]
   rcases body args' (ownL args) _ hk (readArgs_den hr hv) (fun l m hl hown F0 h0 h1 => readArgs_ok hm hl h0 h1 hr hp hargs hown hv) with hk | hk
   ·exact hk.elim
   ·exact hk
  ·exact hk.elim
 ·exact hk
def conH (c : ECon) : Handler := fun args R K => forceRows (nz R) fun R' => conH0 c args R' K
theorem conH_ok {f : FuncId} {c : ECon} (h : EEntry P f c) {args : List SV} {R : Rows} {K : SV -> Rows -> Prop} (hk : conH c args R K) : SemCall P f args R K := by
 have hk := forceRows_out (K := fun R' => conH0 c args R' K) hk
 intro W F ρ w hm hargs
 obtain ⟨ρ1, m1, m2, m3⟩ := nz_ok hm
 have := conH0_ok h hk W F ρ1 w m1 (okdL_mono m2 hargs)
 rw [show denL ρ1 args = denL ρ args from denL_congr m3 hargs] at this
 exact this.mono fun e w' ⟨ρ', res, rows', g1, g2, g3, g4, g5, g6⟩ => ⟨ρ', res, rows', g1, g2, g3, g4, Nat.le_trans m2 g5, fun i hi => (g6 i (by omega)).trans (m3 i hi)⟩
def Alt.p' (x : Alt) (k : Prop) : Prop := match x.p with
 | none => k
 | some p => p /\ k
def endOne (n0 : Nat) (x : Alt) (r : SV) (rows : Rows) : Prop :=
 x.p' (bif wellB n0 ⟨[(0, x.res)], x.rows⟩ && notTop x.res then fits (renum n0 ⟨[(0, r)], rows⟩ ⟨[(0, x.res)], x.rows⟩) ⟨[(0, x.res)], x.rows⟩ else False)
def endK (n0 : Nat) (r : SV) (rows : Rows) : List Alt -> Prop
 | [] => False
 | x :: [] => endOne n0 x r rows
 | x :: xs => endOne n0 x r rows ∨ endK n0 r rows xs
theorem endK_out {n0 : Nat} {r : SV} {rows : Rows} : ∀ {alts : List Alt}, endK n0 r rows alts -> ∃ x, x ∈ alts /\ endOne n0 x r rows
 | [], h => h.elim
 | [x], h => ⟨x, by simp, h⟩
 | x :: y :: xs, h => by
   rcases h with h | h
   ·exact ⟨x, by simp, h⟩
   ·obtain ⟨z, h1, h2⟩ := endK_out (alts := y :: xs) h
    exact ⟨z, List.mem_cons_of_mem _ h1, h2⟩
theorem con_intro (hm : P.follows .mixedOrders = true) (hc : CxOK P cx) {f : FuncId} {fn : Func} (hf : P.funcs[f]? = some fn) (fuel : Nat) {args : List SV} {rows : Rows} {alts : List Alt}
  (h : Ex (execFn cx fuel fn args rows fun r rows' => endK rows.length r rows' alts)) : SemCall P f args rows (AltK alts) := by
 have h := h.out
 intro W F ρ w hmem hargs
 refine (execFn_ok hm hc hf h W F ρ w hmem hargs).mono ?_
 rintro e w' ⟨ρ', res, rows', hk, rfl, g1, g2, g3, g4⟩
 obtain ⟨x, hx, hk⟩ := endK_out hk
 obtain ⟨hxh, hk⟩ : x.holds /\ (bif wellB rows.length ⟨[(0, x.res)], x.rows⟩ && notTop x.res then fits (renum rows.length ⟨[(0, res)], rows'⟩ ⟨[(0, x.res)], x.rows⟩) ⟨[(0, x.res)], x.rows⟩ else False) := by
  unfold endOne Alt.p' at hk
  unfold Alt.holds
  cases hp : x.p with
  | none => rw [hp] at hk; exact ⟨trivial, hk⟩
  | some p => rw [hp] at hk; exact hk
 cases hb : (wellB rows.length ⟨[(0, x.res)], x.rows⟩ && notTop x.res) with
 | false => rw [hb] at hk; exact hk.elim
 | true =>
   rw [hb] at hk
   simp only [cond_true] at hk
   simp only [Bool.and_eq_true] at hb
   have hat : At W F ρ { cx with nt := 1, n0 := rows.length } ⟨[(0, res)], rows'⟩ { tmps := #[den ρ' res], defers := [] } w' := by
    refine ⟨ρ', ⟨rfl, rfl, fun d sv hd => ?_, g2⟩, g4, g3⟩
    rw [lookup_cons] at hd
    by_cases h0 : d = 0
    ·rw [if_pos h0] at hd; cases hd; subst h0; exact .inr ⟨rfl, g1⟩
    ·rw [if_neg h0] at hd; simp at hd
   obtain ⟨ρ2, st, k1, k2⟩ := (hat.renum hb.1).fits hk hb.1
   have htm := st.tm 0 x.res (by simp [List.lookup])
   rcases htm with h0 | ⟨t1, t2⟩
   ·rw [h0] at hb; simp [notTop] at hb
   ·refine ⟨ρ2, x.res, x.rows, ⟨x, hx, hxh, rfl, rfl⟩, ?_, t2, st.mem, k2, k1⟩
    simp at t1
    rw [t1]
def inlC (T : Tab) (pure : FuncId -> Option (List SV -> Option (List Prop × SV))) (con : FuncId -> Option ECon) (fns : FuncId -> Option Func) (plan : FuncId -> Plan) (fuel : Nat) : Nat -> FuncId -> Option Handler
 | 0, f => (con f).map conH
 | n + 1, f => match con f with
   | some c => some (conH c)
   | none => (fns f).map fun fn args rows k => execFn ⟨T, inlC T pure con fns plan fuel n, pure, (plan f).must, fun q _ => (plan f).loop q, 0, 0, con, fun _ _ => [], false⟩ fuel fn args rows k
def ConOK (P : Program) (con : FuncId -> Option ECon) : Prop := ∀ f c, con f = some c -> EEntry P f c
def AllE (P : Program) : List (Nat × ECon) -> Prop
 | [] => True
 | p :: l => EEntry P p.1 p.2 /\ AllE P l
theorem con_list : ∀ (l : List (Nat × ECon)), AllE P l -> ConOK P (fun f => List.lookup f l)
 | [], _, t, i, h => by simp at h
 | (d, v) :: l, hp, t, i, h => by
   have h : List.lookup t ((d, v) :: l) = some i := h
   rw [lookup_cons] at h
   by_cases hd : t = d
   ·simp [hd] at h; subst h hd; exact hp.1
   ·simp [hd] at h; exact con_list l hp.2 t i h
theorem inlC_ok (hm : P.follows .mixedOrders = true) {T : Tab} {pure : FuncId -> Option (List SV -> Option (List Prop × SV))} {con : FuncId -> Option ECon} {fns : FuncId -> Option Func} {plan : FuncId -> Plan} {fuel : Nat} (hT : TabOK P T) (hp : PureOK P pure) (hcn : ConOK P con) (hf : FnsOK P fns) :
  ∀ (n : Nat) (must : Nat -> Option Bool) (loop : Nat -> SS -> Option LoopSpec) (nt n0 : Nat) (fz : Nat -> SS -> List Nat) (on : Bool), CxOK P ⟨T, inlC T pure con fns plan fuel n, pure, must, loop, nt, n0, con, fz, on⟩
 | 0, must, loop, nt, n0, fz, on => by
   refine ⟨hT, hp, fun f h hh => ?_, hcn⟩
   simp only [inlC, Option.map_eq_some_iff] at hh
   obtain ⟨c, h1, rfl⟩ := hh
   exact ⟨(hcn f c h1).1, fun args rows k hk => conH_ok (hcn f c h1) hk⟩
 | n + 1, must, loop, nt, n0, fz, on => by
   refine ⟨hT, hp, fun f h hh => ?_, hcn⟩
   simp only [inlC] at hh
   split at hh
   ·rename_i c h1
    cases hh
    exact ⟨(hcn f c h1).1, fun args rows k hk => conH_ok (hcn f c h1) hk⟩
   ·simp only [Option.map_eq_some_iff] at hh
    obtain ⟨fn, h1, rfl⟩ := hh
    obtain ⟨h2, h3⟩ := hf f fn h1
    exact ⟨h3, fun args rows k hk => execFn_ok hm (inlC_ok hm hT hp hcn hf n _ _ 0 0 _ _) h2 hk⟩
def ECon.or (c d : ECon) : ECon := fun a r => match c a r with
 | some x => some x
 | none => d a r
theorem EEntry.or {f : FuncId} {c d : ECon} (h : EEntry P f c) (k : EEntry P f d) : EEntry P f (ECon.or c d) := by
 refine ⟨h.1, fun args rows ps alts hx hp => ?_⟩
 unfold ECon.or at hx
 split at hx
 ·rename_i x hy; cases hx; exact h.2 _ _ _ _ hy hp
 ·exact k.2 _ _ _ _ hx hp
end Sx
end
section
namespace Sx
variable {P : Program} {W : World} {F : Nat -> Prop} {ρ ρ' ρ0 : Num} {w : World}
mutual
def nmV (σ : Nat -> Nat) : SV -> SV
 | .ptr i o => .ptr (σ i) o
 | .pte i o e => .pte (σ i) o e
 | .ptm i z e o => .ptm (σ i) z e o
 | .sl i o l c => .sl (σ i) o l c
 | .os i o l c => .os (σ i) o l c
 | .on i l z => .on (σ i) l z
 | .ow i z p o n m => .ow (σ i) z p o n m
 | .agg cs => .agg (nmL σ cs)
 | .tup cs => .tup (nmL σ cs)
 | .fn f a b => .fn f (nmL σ a) (nmL σ b)
 | v => v
def nmL (σ : Nat -> Nat) : List SV -> List SV
 | [] => []
 | c :: cs => nmV σ c :: nmL σ cs
end
def nmR (σ : Nat -> Nat) (r : Row) : Row := ⟨r.ty, nmL σ r.cs, r.sz, r.ob⟩
mutual
theorem den_nm (σ : Nat -> Nat) : ∀ (c : SV), den ρ (nmV σ c) = den (fun k => ρ (σ k)) c
 | .agg cs => by simp only [nmV, den, cellsL_nm σ cs]
 | .tup cs => by simp only [nmV, den, denL_nm σ cs]
 | .fn f a b => by simp only [nmV, den, denL_nm σ a, denL_nm σ b]
 | .ptr _ _ | .pte _ _ _ | .ptm _ _ _ _ | .sl _ _ _ _ | .os _ _ _ _ | .on _ _ _ | .ow _ _ _ _ _ _ => rfl
 | .top | .lit _ _ | .int _ _ | .litb _ | .bool _ | .str _ | .val _ | .hnd _ | .gp _ _ | .gpe _ _ _ _ _ | .rd _ _ _ | .rda _ _ _ _ | .rs _ _ _ _ | .rsa _ _ _ _ _ _ | .ints _ _ _ | .many _ _ _ => rfl
theorem denL_nm (σ : Nat -> Nat) : ∀ (l : List SV), denL ρ (nmL σ l) = denL (fun k => ρ (σ k)) l
 | [] => rfl
 | c :: cs => by simp only [nmL, denL, den_nm σ c, denL_nm σ cs]
theorem cellsL_nm (σ : Nat -> Nat) : ∀ (l : List SV), cellsL ρ (nmL σ l) = cellsL (fun k => ρ (σ k)) l
 | [] => rfl
 | c :: cs => by
   have h1 := den_nm σ c
   have h2 := cellsL_nm σ cs
   cases hs : single c with
   | true =>
     have hs2 : single (nmV σ c) = true := by cases c <;> first | rfl | (simp [single] at hs)
     simp only [nmL]
     rw [cellsL_one hs, cellsL_one hs2, h1, h2]
   | false =>
     cases c <;> simp [single] at hs
     ·simp only [nmL, nmV, cellsL, h2, den]
     ·simp only [nmL, nmV, cellsL, h2]
     ·simp only [nmL, nmV, cellsL, h2]
end
theorem cells_nm (σ : Nat -> Nat) : ∀ (l : List SV) (vs : List Value), CellsOK ρ (nmL σ l) vs ↔ CellsOK (fun k => ρ (σ k)) l vs
 | [], vs => Iff.rfl
 | c :: l, vs => by
   cases hs : single c with
   | true =>
     have hs2 : single (nmV σ c) = true := by cases c <;> first | rfl | (simp [single] at hs)
     constructor
     ·intro h
      obtain ⟨t, rfl, h2⟩ := CellsOK.one (c := nmV σ c) (r := nmL σ l) hs2 h
      rw [den_nm]
      exact .mk_one hs ((cells_nm σ l t).1 h2)
     ·intro h
      obtain ⟨t, rfl, h2⟩ := h.one hs
      rw [<- den_nm]
      exact CellsOK.mk_one (c := nmV σ c) (r := nmL σ l) hs2 ((cells_nm σ l t).2 h2)
   | false =>
     cases c <;> simp [single] at hs
     ·constructor
      ·rintro ⟨v, t, rfl, h2⟩; exact ⟨v, t, rfl, (cells_nm σ l t).1 h2⟩
      ·rintro ⟨v, t, rfl, h2⟩; exact ⟨v, t, rfl, (cells_nm σ l t).2 h2⟩
     ·constructor
      ·rintro ⟨t, rfl, h2⟩; exact ⟨t, rfl, (cells_nm σ l t).1 h2⟩
      ·rintro ⟨t, rfl, h2⟩; exact ⟨t, rfl, (cells_nm σ l t).2 h2⟩
     ·constructor
      ·rintro ⟨t, rfl, h2⟩; exact ⟨t, rfl, (cells_nm σ l t).1 h2⟩
      ·rintro ⟨t, rfl, h2⟩; exact ⟨t, rfl, (cells_nm σ l t).2 h2⟩
mutual
theorem okd_nm {σ : Nat -> Nat} {n m : Nat} (h : ∀ k, k < n -> σ k < m) : ∀ {c : SV}, okd W F n c -> okd W F m (nmV σ c)
 | .agg cs, hc => okdL_nm h (l := cs) hc
 | .tup cs, hc => okdL_nm h (l := cs) hc
 | .fn _ a b, hc => ⟨okdL_nm h (l := a) hc.1, okdL_nm h (l := b) hc.2⟩
 | .ptr _ _, hc | .pte _ _ _, hc | .ptm _ _ _ _, hc | .sl _ _ _ _, hc | .os _ _ _ _, hc | .on _ _ _, hc | .ow _ _ _ _ _ _, hc => h _ hc
 | .top, hc | .lit _ _, hc | .int _ _, hc | .litb _, hc | .bool _, hc | .str _, hc | .val _, hc | .hnd _, hc | .gp _ _, hc | .gpe _ _ _ _ _, hc | .rd _ _ _, hc | .rda _ _ _ _, hc | .rs _ _ _ _, hc | .rsa _ _ _ _ _ _, hc | .ints _ _ _, hc | .many _ _ _, hc => hc
theorem okdL_nm {σ : Nat -> Nat} {n m : Nat} (h : ∀ k, k < n -> σ k < m) : ∀ {l : List SV}, okdL W F n l -> okdL W F m (nmL σ l)
 | [], _ => trivial
 | c :: l, hc => ⟨okd_nm h hc.1, okdL_nm h hc.2⟩
end
structure PackB (R : Rows) : Prop where
 ok : ∀ (i : Nat) (r : Row), R[i]? = some (some r) -> noML 0 r.cs = true /\ ∀ (W : World) (F : Nat -> Prop), okdL W F R.length r.cs
def opN (i n : Nat) : Nat -> Nat
 | 0 => i
 | k + 1 => n + k
def opAt (i n : Nat) (R : Rows) (k : Nat) : Option Row := match R[k]? with
 | some (some r) => some (nmR (opN i n) r)
 | _ => none
def open1 (T : Rows) (i : Nat) : Rows := match T[i]? with
 | some (some r) => match r.ob with
   | some (.own x) => T.set i (opAt i T.length (OTrows x) 0) ++ (List.range ((OTrows x).length - 1)).map fun k => opAt i T.length (OTrows x) (k + 1)
   | _ => T
 | _ => T
def openL : List Nat -> Rows -> Rows
 | [], T => T
 | i :: is, T => openL is (open1 T i)
theorem RowOK.nm {ρ2 : Num} {k : Nat} {σ : Nat -> Nat} {r : Row} (h1 : (ρ (σ k)).1 = (ρ2 k).1) (h2 : r.sz ≠ 0 -> ρ (σ k) = ρ2 k) (h3 : noML 0 r.cs = true) (h4 : ∀ e, e ≠ 0 -> ρ (σ e) = ρ2 e) :
  RowOK ρ2 w k r ↔ RowOK ρ w (σ k) (nmR σ r) := by
 have hc : ∀ vs, CellsOK ρ2 r.cs vs ↔ CellsOK ρ (nmL σ r.cs) vs := fun vs => by
  rw [cells_nm]
  exact ⟨fun h => h.off (b := 0) h4 h3, fun h => h.off (b := 0) (fun e he => (h4 e he).symm) h3⟩
 unfold RowOK Has nmR
 simp only [hc]
 by_cases hz : r.sz = 0
 ·simp only [hz, true_or, and_true, ne_eq, not_true_eq_false, false_implies, h1]
 ·simp only [h2 hz]
theorem Has.nm {ρ2 : Num} {k : Nat} {σ : Nat -> Nat} {r : Row} (h2 : r.sz ≠ 0 -> ρ (σ k) = ρ2 k) : Has ρ2 k r ↔ Has ρ (σ k) (nmR σ r) := by
 unfold Has nmR
 by_cases hz : r.sz = 0
 ·simp [hz]
 ·simp only [h2 hz]
theorem open1_len {T : Rows} {i : Nat} : T.length <= (open1 T i).length := by
 unfold open1
 split
 ·split
  ·simp
  ·exact Nat.le_refl _
 ·exact Nat.le_refl _
section
variable {T : Rows} {i : Nat} {r : Row} {x : OT}
theorem open1_eq (h : T[i]? = some (some r)) (hx : r.ob = some (.own x)) : open1 T i = T.set i (opAt i T.length (OTrows x) 0) ++ (List.range ((OTrows x).length - 1)).map fun k => opAt i T.length (OTrows x) (k + 1) := by
 unfold open1
 rw [h]
 simp only [hx]
theorem open1_get (h : T[i]? = some (some r)) (hx : r.ob = some (.own x)) {j : Nat} {q : Row} (hj : (open1 T i)[j]? = some (some q)) :
  (j ≠ i /\ j < T.length /\ T[j]? = some (some q)) ∨ ∃ k q0, j = opN i T.length k /\ (OTrows x)[k]? = some (some q0) /\ q = nmR (opN i T.length) q0 := by
 have hil := (List.getElem?_eq_some_iff.1 h).1
 have out : ∀ k, opAt i T.length (OTrows x) k = some q -> ∃ q0, (OTrows x)[k]? = some (some q0) /\ q = nmR (opN i T.length) q0 := by
  intro k hk
  unfold opAt at hk
  split at hk
  ·rename_i q0 h0; cases hk; exact ⟨q0, h0, rfl⟩
  ·cases hk
 rw [open1_eq h hx] at hj
 by_cases hl : j < T.length
 ·rw [List.getElem?_append_left (by rw [List.length_set]; exact hl)] at hj
  by_cases hji : j = i
  ·subst hji
   rw [List.getElem?_set_self hl] at hj
   obtain ⟨q0, g1, g2⟩ := out 0 (Option.some.inj hj)
   exact .inr ⟨0, q0, rfl, g1, g2⟩
  ·rw [List.getElem?_set_ne (fun e => hji e.symm)] at hj
   exact .inl ⟨hji, hl, hj⟩
 ·rw [List.getElem?_append_right (by rw [List.length_set]; omega), List.length_set, List.getElem?_map] at hj
  simp only [Option.map_eq_some_iff] at hj
  obtain ⟨k, hk, hj⟩ := hj
  obtain ⟨hk1, hk2⟩ := List.getElem?_eq_some_iff.1 hk
  simp at hk2
  obtain ⟨q0, g1, g2⟩ := out (k + 1) hj
  refine .inr ⟨k + 1, q0, ?_, g1, g2⟩
  show j = T.length + k
  omega
theorem open1_old (h : T[i]? = some (some r)) (hx : r.ob = some (.own x)) {j : Nat} (hl : j < T.length) (hji : j ≠ i) : (open1 T i)[j]? = T[j]? := by
 rw [open1_eq h hx, List.getElem?_append_left (by rw [List.length_set]; exact hl), List.getElem?_set_ne (fun e => hji e.symm)]
theorem open1_own (h : T[i]? = some (some r)) (hx : r.ob = some (.own x)) {k : Nat} {q0 : Row} (hk : (OTrows x)[k]? = some (some q0)) : (open1 T i)[opN i T.length k]? = some (some (nmR (opN i T.length) q0)) := by
 have hil := (List.getElem?_eq_some_iff.1 h).1
 have hkl := (List.getElem?_eq_some_iff.1 hk).1
 rw [open1_eq h hx]
 cases k with
 | zero =>
   show (_ ++ _)[i]? = _
   rw [List.getElem?_append_left (by rw [List.length_set]; exact hil), List.getElem?_set_self hil]
   simp only [opAt, hk]
 | succ k =>
   show (_ ++ _)[T.length + k]? = _
   rw [List.getElem?_append_right (by rw [List.length_set]; omega), List.length_set, Nat.add_sub_cancel_left, List.getElem?_map, List.getElem?_range (by omega)]
   simp only [Option.map_some, opAt, hk]
theorem open1_length (h : T[i]? = some (some r)) (hx : r.ob = some (.own x)) : (open1 T i).length = T.length + ((OTrows x).length - 1) := by
 rw [open1_eq h hx]; simp
end
theorem opN_ne {i n k : Nat} (h : k ≠ 0) : opN i n k = n + (k - 1) := by
 cases k with
 | zero => exact absurd rfl h
 | succ k => rfl
theorem opN_inj {i n a b : Nat} (h : i < n) (e : opN i n a = opN i n b) : a = b := by
 cases a with
 | zero =>
   cases b with
   | zero => rfl
   | succ b => simp only [opN] at e; omega
 | succ a =>
   cases b with
   | zero => simp only [opN] at e; omega
   | succ b => simp only [opN] at e; omega
theorem MemOK.open1 (hpk : ∀ x, PackB (OTrows x)) {T : Rows} (hm : MemOK W F ρ T w) (i : Nat) : More W F w ρ T (open1 T i) := by
 have self : More W F w ρ T T := ⟨ρ, hm, Nat.le_refl _, fun _ _ => rfl⟩
 by_cases hc : ∃ r x, T[i]? = some (some r) /\ r.ob = some (.own x)
 ·obtain ⟨r, x, hi, hx⟩ := hc
  have hil := (List.getElem?_eq_some_iff.1 hi).1
  have P := (hpk x).ok
  obtain ⟨φ, hφ⟩ := hm.obs
  obtain ⟨⟨_, _, ρx, φx, ⟨k1, ⟨rh, k2, k2', k2o⟩, k3, k4, kd, k5⟩⟩, kb⟩ := hφ i r _ hi hx
  let ρ2 : Num := fun j => if j < T.length then ρ j else ρx (j - T.length + 1)
  have e0 : ∀ j, j < T.length -> ρ2 j = ρ j := fun j h => by simp only [ρ2, if_pos h]
  have e1 : ∀ k, k ≠ 0 -> ρ2 (opN i T.length k) = ρx k := fun k h => by
   rw [opN_ne h]
   simp only [ρ2]
   rw [if_neg (by omega)]
   congr 1
   omega
  have e2 : (ρ2 (opN i T.length 0)).1 = (ρx 0).1 := by
   show (ρ2 i).1 = _
   rw [e0 i hil, k1]
  have hz : ∀ k q0, (OTrows x)[k]? = some (some q0) -> q0.sz ≠ 0 -> ρ2 (opN i T.length k) = ρx k := fun k q0 hk hz => by
   refine e1 k ?_
   rintro rfl
   rw [k2] at hk; cases hk
   exact hz k2'
  have e3 : ∀ k, (ρ2 (opN i T.length k)).1 = (ρx k).1 := fun k => by
   by_cases hk : k = 0
   ·subst hk; exact e2
   ·rw [e1 k hk]
  have own : ∀ k q0, (OTrows x)[k]? = some (some q0) -> Has ρ2 (opN i T.length k) (nmR (opN i T.length) q0) -> Has ρx k q0 /\ φ i (ρ2 (opN i T.length k)).1 := fun k q0 hk hh => by
   have := (Has.nm (hz k q0 hk)).2 hh
   exact ⟨this, (k5 _).2 (.inl ⟨k, q0, hk, this, (e3 k).symm⟩)⟩
  have nz : ∀ (k : Nat) (q0 : Row), (OTrows x)[k]? = some (some q0) -> q0.ob ≠ none -> k ≠ 0 := fun k q0 hk ho => by
   rintro rfl
   rw [k2] at hk; cases hk
   exact ho k2o
  let φ2 : Nat -> Nat -> Prop := fun j => if j < T.length then (if j = i then fun _ => False else φ j) else φx (j - T.length + 1)
  have f0 : ∀ j, j < T.length -> j ≠ i -> φ2 j = φ j := fun j h1 h2 => by simp only [φ2, if_pos h1, if_neg h2]
  have f1 : ∀ k, k ≠ 0 -> φ2 (opN i T.length k) = φx k := fun k h => by
   rw [opN_ne h]
   simp only [φ2]
   rw [if_neg (by omega)]
   congr 1
   omega
  have fS : ∀ (k : Nat) (q0 : Row) (f : FamT), (OTrows x)[k]? = some (some q0) -> q0.ob = some (.fam f) -> ∀ y, φx k y -> φ i y := fun k q0 f hk ho y hy => (k5 y).2 (.inr ⟨k, q0, f, hk, ho, hy⟩)
  have isF : ∀ (k : Nat) (q0 : Row), (OTrows x)[k]? = some (some q0) -> q0.ob ≠ none -> ∃ f, q0.ob = some (.fam f) := fun k q0 hk ho => by
   rcases (k3 k q0 hk).2 with h | ⟨f, h, _⟩
   ·exact absurd h ho
   ·exact ⟨f, h⟩
  have old : ∀ {j : Nat} {q : Row}, j < T.length -> Has ρ2 j q -> Has ρ j q := fun hl hh => hh.map (e0 _ hl) rfl rfl
  refine ⟨ρ2, ⟨hm.frame, hm.glob, fun j q hj => ?_, fun j k q u hj hk h1 h2 he => ?_, fun j q hj hh => ?_, ⟨φ2, fun j q z hj hz' => ?_⟩⟩, open1_len, e0⟩
  ·rcases open1_get hi hx hj with ⟨g1, g2, g3⟩ | ⟨k, q0, rfl, g2, rfl⟩
   ·obtain ⟨c1, c2⟩ := hm.row j q g3
    exact ⟨c1.map (e0 j g2) rfl rfl rfl (fun _ => rfl) (fun vs hv => CellsOK.congr (n := T.length) (fun k hk => e0 k hk) c2 hv), okdL_mono open1_len c2⟩
   ·obtain ⟨p1, p2⟩ := P k q0 g2
    refine ⟨(RowOK.nm (e3 k) (hz k q0 g2) p1 (fun e he => e1 e he)).1 (k3 k q0 g2).1, okdL_nm (fun e he => ?_) (p2 W F)⟩
    rw [open1_length hi hx]
    cases e with
    | zero => show i < _; omega
    | succ e => show T.length + e < _; omega
  ·rcases open1_get hi hx hj with ⟨g1, g2, g3⟩ | ⟨a, q0, rfl, g2, rfl⟩ <;> rcases open1_get hi hx hk with ⟨m1, m2, m3⟩ | ⟨b, u0, rfl, m2, rfl⟩
   ·rw [e0 j g2, e0 k m2] at he
    exact hm.inj j k q u g3 m3 (old g2 h1) (old m2 h2) he
   ·exfalso
    have := (own b u0 m2 h2).2
    rw [<- he, e0 j g2] at this
    exact ((kb _ this).2.2 j q g3).1 (old g2 h1) rfl
   ·exfalso
    have := (own a q0 g2 h1).2
    rw [he, e0 k m2] at this
    exact ((kb _ this).2.2 k u m3).1 (old m2 h2) rfl
   ·rw [e3 a, e3 b] at he
    rw [k4 a b q0 u0 g2 m2 (own a q0 g2 h1).1 (own b u0 m2 h2).1 he]
  ·rcases open1_get hi hx hj with ⟨g1, g2, g3⟩ | ⟨a, q0, rfl, g2, rfl⟩
   ·rw [e0 j g2]; exact hm.mine j q g3 (old g2 hh)
   ·exact (kb _ (own a q0 g2 hh).2).2.1
  ·rcases open1_get hi hx hj with ⟨g1, g2, g3⟩ | ⟨a, q0, rfl, g2, rfl⟩
   ·obtain ⟨n1, n2⟩ := hφ j q z g3 hz'
    rw [e0 j g2, f0 j g2 g1]
    refine ⟨n1.map fun vs hv => CellsOK.congr (n := T.length) (fun k hk => e0 k hk) (hm.row j q g3).2 hv, fun y hy => ?_⟩
    obtain ⟨o1, o2, o3⟩ := n2 y hy
    have oi : ¬ φ i y := (o3 i r hi).2 (by rw [hx]; simp) (fun e => g1 e.symm)
    refine ⟨o1, o2, fun k u hk => ?_⟩
    rcases open1_get hi hx hk with ⟨m1, m2, m3⟩ | ⟨b, u0, rfl, m2, rfl⟩
    ·rw [e0 k m2]
     exact ⟨fun hh => (o3 k u m3).1 (old m2 hh), fun hu hne => by rw [f0 k m2 m1]; exact (o3 k u m3).2 hu hne⟩
    ·refine ⟨fun hh e => ?_, fun hu hne => ?_⟩
     ·have h1 := (own b u0 m2 hh).2
      rw [e] at h1
      exact oi h1
     ·have hu : u0.ob ≠ none := hu
      rw [f1 b (nz b u0 m2 hu)]
      obtain ⟨f, hf⟩ := isF b u0 m2 hu
      exact fun h1 => oi (fS b u0 f m2 hf y h1)
   ·have hz' : q0.ob = some z := hz'
    have ho : q0.ob ≠ none := by rw [hz']; simp
    have ha := nz a q0 g2 ho
    rcases (k3 a q0 g2).2 with h | ⟨f, h, hcs, hfam⟩
    ·exact absurd h ho
    ·rw [hz'] at h; cases h
     rw [e1 a ha, f1 a ha]
     refine ⟨⟨[], by show CellsOK ρ2 (nmL (opN i T.length) q0.cs) []; rw [hcs]; rfl, hfam⟩, fun y hy => ?_⟩
     have hy1 := fS a q0 f g2 hz' y hy
     obtain ⟨o1, o2, o3⟩ := kb y hy1
     refine ⟨o1, o2, fun k u hk => ?_⟩
     rcases open1_get hi hx hk with ⟨m1, m2, m3⟩ | ⟨b, u0, rfl, m2, rfl⟩
     ·rw [e0 k m2]
      exact ⟨fun hh => (o3 k u m3).1 (old m2 hh), fun hu hne => by rw [f0 k m2 m1]; exact (o3 k u m3).2 hu m1⟩
     ·obtain ⟨d1, d2⟩ := kd a q0 f g2 hz' y hy b u0 m2
      refine ⟨fun hh e => d1 (own b u0 m2 hh).1 (by rw [<- e3 b]; exact e), fun hu hne => ?_⟩
      have hu : u0.ob ≠ none := hu
      rw [f1 b (nz b u0 m2 hu)]
      exact d2 hu fun e => hne (by rw [e])
 ·have : Sx.open1 T i = T := by
   unfold Sx.open1
   split
   ·rename_i r hr
    split
    ·rename_i x hx; exact absurd ⟨r, x, hr, hx⟩ hc
    ·rfl
   ·rfl
  rw [this]; exact self
theorem MemOK.close1 (hpk : ∀ x, PackB (OTrows x)) {T : Rows} {i : Nat} (hd : ∀ (r : Row) (x : OT), T[i]? = some (some r) -> r.ob = some (.own x) -> r.cs = [] /\ ∃ rh, (OTrows x)[0]? = some (some rh) /\ rh.sz = 0 /\ ∀ (k : Nat) (q : Row), (OTrows x)[k]? = some (some q) -> q.ob = none ∨ (k ≠ 0 /\ q.cs = [] /\ ∃ f, q.ob = some (.fam f))) (hok : ∀ (j : Nat) (q : Row), j ≠ i -> T[j]? = some (some q) -> okBL T.length q.cs = true) (hm : MemOK W F ρ (Sx.open1 T i) w) : MemOK W F ρ T w := by
 by_cases hc : ∃ r x, T[i]? = some (some r) /\ r.ob = some (.own x)
 ·obtain ⟨r, x, hi, hx⟩ := hc
  have hil := (List.getElem?_eq_some_iff.1 hi).1
  have P := (hpk x).ok
  obtain ⟨hcs, rh, d1, d2, d3⟩ := hd r x hi hx
  obtain ⟨φ, hφ⟩ := hm.obs
  let ρx : Num := fun k => ρ (opN i T.length k)
  have nm : ∀ k q0, (OTrows x)[k]? = some (some q0) -> (RowOK ρx w k q0 /\ (Has ρx k q0 ↔ Has ρ (opN i T.length k) (nmR (opN i T.length) q0))) := fun k q0 hk => by
   obtain ⟨c1, _⟩ := hm.row _ _ (open1_own hi hx hk)
   exact ⟨(RowOK.nm (ρ2 := ρx) rfl (fun _ => rfl) (P k q0 hk).1 (fun _ _ => rfl)).2 c1, Has.nm (fun _ => rfl)⟩
  have nohas : ¬ Has ρ i r := by rintro ⟨h, _⟩; rw [hx] at h; cases h
  have oth : ∀ {j : Nat} {q : Row}, j ≠ i -> T[j]? = some (some q) -> (Sx.open1 T i)[j]? = some (some q) := fun hj hq => by
   rw [open1_old hi hx (List.getElem?_eq_some_iff.1 hq).1 hj]; exact hq
  have fam : ∀ (k : Nat) (q0 : Row) (f : FamT), (OTrows x)[k]? = some (some q0) -> q0.ob = some (.fam f) -> FamOK w (ρx k) (φ (opN i T.length k)) [] f /\ ∀ y, φ (opN i T.length k) y -> y < w.heap.size /\ (F y ∨ W.heap.size <= y) /\ ∀ j q, (Sx.open1 T i)[j]? = some (some q) -> (Has ρ j q -> (ρ j).1 ≠ y) /\ (q.ob ≠ none -> j ≠ opN i T.length k -> ¬ φ j y) := fun k q0 f h1 h2 => by
   obtain ⟨⟨gs, c1, c2⟩, c3⟩ := hφ _ _ (.fam f) (open1_own hi hx h1) h2
   have hc0 : q0.cs = [] := by
    rcases d3 k q0 h1 with h | ⟨_, h, _⟩
    ·rw [h] at h2; cases h2
    ·exact h
   have hg : gs = [] := by
    have c1 : CellsOK ρ (nmL (opN i T.length) q0.cs) gs := c1
    rw [hc0] at c1
    exact c1
   subst hg
   exact ⟨c2, c3⟩
  have opNi : ∀ k j, j ≠ i -> j < T.length -> j ≠ opN i T.length k := fun k j h1 h2 => by
   cases k with
   | zero => exact h1
   | succ k => show j ≠ T.length + k; omega
  let S : Nat -> Prop := fun y => (∃ k q0, (OTrows x)[k]? = some (some q0) /\ Has ρx k q0 /\ (ρx k).1 = y) ∨ ∃ k q0 f, (OTrows x)[k]? = some (some q0) /\ q0.ob = some (.fam f) /\ φ (opN i T.length k) y
  have sS : ∀ y, S y -> y < w.heap.size /\ (F y ∨ W.heap.size <= y) := by
   rintro y (⟨k, q0, h1, h2, rfl⟩ | ⟨k, q0, f, h1, h2, h3⟩)
   ·have ho := open1_own hi hx h1
    have hh := (nm k q0 h1).2.1 h2
    exact ⟨hm.lt ho hh, hm.mine _ _ ho hh⟩
   ·obtain ⟨o1, o2, _⟩ := (fam k q0 f h1 h2).2 y h3
    exact ⟨o1, o2⟩
  have sR : ∀ y, S y -> ∀ j q, j ≠ i -> T[j]? = some (some q) -> (Has ρ j q -> (ρ j).1 ≠ y) /\ (q.ob ≠ none -> ¬ φ j y) := by
   rintro y (⟨k, q0, h1, h2, rfl⟩ | ⟨k, q0, f, h1, h2, h3⟩) j q hj hq
   ·have ho := open1_own hi hx h1
    have hh := (nm k q0 h1).2.1 h2
    refine ⟨fun hjh he => ?_, fun hqo hy => ?_⟩
    ·have := hm.inj j _ q _ (oth hj hq) ho hjh hh he
     have hjl := (List.getElem?_eq_some_iff.1 hq).1
     cases k with
     | zero => exact hj this
     | succ k => simp only [opN] at this; omega
    ·cases hz : q.ob with
     | none => exact hqo hz
     | some z => exact (((hφ j q z (oth hj hq) hz).2 _ hy).2.2 _ _ ho).1 hh rfl
   ·obtain ⟨_, _, o3⟩ := (fam k q0 f h1 h2).2 y h3
    obtain ⟨p1, p2⟩ := o3 j q (oth hj hq)
    exact ⟨p1, fun hqo => p2 hqo (opNi k j hj (List.getElem?_eq_some_iff.1 hq).1)⟩
  refine ⟨hm.frame, hm.glob, fun j q hj => ?_, fun j k q u hj hk h1 h2 he => ?_, fun j q hj hh => ?_, ⟨fun j => if j = i then S else φ j, fun j q z hj hz => ?_⟩⟩
  ·by_cases hji : j = i
   ·subst hji
    rw [hi] at hj; cases hj
    refine ⟨.inr ⟨nohas, [], by rw [hcs]; rfl, fun _ => rfl⟩, by rw [hcs]; trivial⟩
   ·obtain ⟨c1, c2⟩ := hm.row j q (oth hji hj)
    exact ⟨c1, okdL_less c2 (hok j q hji hj)⟩
  ·by_cases hji : j = i
   ·subst hji; rw [hi] at hj; cases hj; exact absurd h1 nohas
   ·by_cases hki : k = i
    ·subst hki; rw [hi] at hk; cases hk; exact absurd h2 nohas
    ·exact hm.inj j k q u (oth hji hj) (oth hki hk) h1 h2 he
  ·by_cases hji : j = i
   ·subst hji; rw [hi] at hj; cases hj; exact absurd hh nohas
   ·exact hm.mine j q (oth hji hj) hh
  ·by_cases hji : j = i
   ·subst hji
    rw [hi] at hj; cases hj
    rw [hx] at hz; cases hz
    simp only [if_true]
    refine ⟨⟨[], by rw [hcs]; rfl, ρx, fun k => φ (opN j T.length k), ⟨rfl, ⟨rh, d1, d2, (d3 0 rh d1).resolve_right fun h => h.1 rfl⟩, fun k q0 hk => ⟨(nm k q0 hk).1, (d3 k q0 hk).imp id fun ⟨_, h2, f, h3⟩ => ⟨f, h3, h2, (fam k q0 f hk h3).1⟩⟩, fun a b q0 u0 ha hb h1 h2 he => ?_, fun a q0 f ha hf y hy b u0 hb => ?_, fun y => Iff.rfl⟩⟩, fun y hy => ⟨(sS y hy).1, (sS y hy).2, fun k u hk => ?_⟩⟩
    ·exact opN_inj hil (hm.inj _ _ _ _ (open1_own hi hx ha) (open1_own hi hx hb) ((nm a q0 ha).2.1 h1) ((nm b u0 hb).2.1 h2) he)
    ·obtain ⟨_, _, o3⟩ := (fam a q0 f ha hf).2 y hy
     obtain ⟨p1, p2⟩ := o3 _ _ (open1_own hi hx hb)
     exact ⟨fun hh => p1 ((nm b u0 hb).2.1 hh), fun hu hne => p2 hu fun e => hne (opN_inj hil e)⟩
    ·by_cases hki : k = j
     ·subst hki; rw [hi] at hk; cases hk
      exact ⟨fun hh => absurd hh nohas, fun _ hne => absurd rfl hne⟩
     ·obtain ⟨g1, g2⟩ := sR y hy k u hki hk
      exact ⟨g1, fun hu _ => by rw [if_neg hki]; exact g2 hu⟩
   ·obtain ⟨n1, n2⟩ := hφ j q z (oth hji hj) hz
    simp only [if_neg hji]
    refine ⟨n1, fun y hy => ?_⟩
    obtain ⟨o1, o2, o3⟩ := n2 y hy
    refine ⟨o1, o2, fun k u hk => ?_⟩
    by_cases hki : k = i
    ·subst hki
     rw [hi] at hk; cases hk
     refine ⟨fun hh => absurd hh nohas, fun _ _ => ?_⟩
     simp only [if_true]
     intro hs
     exact (sR y hs j q hji hj).2 (by rw [hz]; simp) hy
    ·obtain ⟨g1, g2⟩ := o3 k u (oth hki hk)
     exact ⟨g1, fun hu hne => by rw [if_neg hki]; exact g2 hu hne⟩
 ·have : Sx.open1 T i = T := by
   unfold Sx.open1
   split
   ·rename_i r hr
    split
    ·rename_i x hx; exact absurd ⟨r, x, hr, hx⟩ hc
    ·rfl
   ·rfl
  rw [this] at hm; exact hm
theorem openL_ok (hpk : ∀ x, PackB (OTrows x)) : ∀ (is : List Nat) {T : Rows} {ρ : Num}, MemOK W F ρ T w -> More W F w ρ T (openL is T)
 | [], T, ρ, hm => ⟨ρ, hm, Nat.le_refl _, fun _ _ => rfl⟩
 | i :: is, T, ρ, hm => (hm.open1 hpk i).trans fun ρ' h => openL_ok hpk is h
def closeOK : List Nat -> Rows -> Prop
 | [], T => True
 | i :: is, T => ((∀ (r : Row) (x : OT), T[i]? = some (some r) -> r.ob = some (.own x) -> r.cs = [] /\ ∃ rh, (OTrows x)[0]? = some (some rh) /\ rh.sz = 0 /\ ∀ (k : Nat) (q : Row), (OTrows x)[k]? = some (some q) -> q.ob = none ∨ (k ≠ 0 /\ q.cs = [] /\ ∃ f, q.ob = some (.fam f))) /\ ∀ (j : Nat) (q : Row), j ≠ i -> T[j]? = some (some q) -> okBL T.length q.cs = true) /\ closeOK is (open1 T i)
theorem closeL_ok (hpk : ∀ x, PackB (OTrows x)) : ∀ (is : List Nat) {T : Rows}, closeOK is T -> MemOK W F ρ (openL is T) w -> MemOK W F ρ T w
 | [], T, _, hm => hm
 | i :: is, T, h, hm => MemOK.close1 hpk h.1.1 h.1.2 (closeL_ok hpk is h.2 hm)
theorem SemCall.close (hpk : ∀ x, PackB (OTrows x)) {f : FuncId} {args : List SV} {T : Rows} {is js : List Nat} {res res' : SV} {R T' : Rows} {g : List (Nat × Nat)} (hs : SemCall P f args (openL is T) (AltK [⟨none, res, R⟩]))
  (ha : okBL T.length args = true) (hg : rnOK T.length (openL js T').length g = true) (hR : rnRows g R (openL js T').length = openL js T') (hr : rnV g res = some res') (hc : closeOK js T') (hb : okB T'.length res' = true) (hl : T.length <= T'.length) :
  SemCall P f args T (AltK [⟨none, res', T'⟩]) := by
 intro W F ρ w hm ho
 obtain ⟨ρ1, m1, m2, m3⟩ := openL_ok hpk is hm
 have := hs W F ρ1 w m1 (okdL_mono m2 ho)
 rw [denL_congr m3 ho] at this
 refine this.mono ?_
 rintro e w' ⟨ρ2, r, rows', ⟨x, hx, _, rfl, rfl⟩, rfl, g2, g3, g4, g5⟩
 obtain rfl : x = ⟨none, res, R⟩ := by simpa using hx
 have Rg := Rn.of hg ρ2
 have h1 := g3.renum (n := (openL js T').length) Rg
 rw [hR] at h1
 have h2 := closeL_ok hpk js hc h1
 obtain ⟨v1, v2, _⟩ := rnV_ok (W := W) (F := F) Rg hr g2
 refine ⟨numOf g ρ2, res', T', ⟨⟨none, res', T'⟩, by simp, trivial, rfl, rfl⟩, by rw [v1], okd_less v2 hb, h2, hl, fun i hi => ?_⟩
 have hid : keyOf g i = some i := by
  simp only [rnOK, Bool.and_eq_true, List.all_eq_true, decide_eq_true_eq] at hg
  have := hg.2 (i, i) (rn_ids hi)
  exact this
 have : numOf g ρ2 i = ρ2 i := by unfold numOf; rw [hid]
 rw [this, g5 i (Nat.lt_of_lt_of_le hi m2)]
 exact m3 i hi
theorem SemCall.closeL (hpk : ∀ x, PackB (OTrows x)) {f : FuncId} {args : List SV} {T : Rows} {is : List Nat} {alts alts' : List Alt} (hs : SemCall P f args (openL is T) (AltK alts)) (ha : okBL T.length args = true)
  (h : ∀ x ∈ alts, x.holds -> ∃ y ∈ alts', y.holds /\ ∃ js g, rnOK T.length (openL js y.rows).length g = true /\ rnRows g x.rows (openL js y.rows).length = openL js y.rows /\ rnV g x.res = some y.res /\ closeOK js y.rows /\ okB y.rows.length y.res = true /\ T.length <= y.rows.length) :
  SemCall P f args T (AltK alts') := by
 intro W F ρ w hm ho
 obtain ⟨ρ1, m1, m2, m3⟩ := openL_ok hpk is hm
 have := hs W F ρ1 w m1 (okdL_mono m2 ho)
 rw [denL_congr m3 ho] at this
 refine this.mono ?_
 rintro e w' ⟨ρ2, r, rows', ⟨x, hx, hh, rfl, rfl⟩, rfl, g2, g3, g4, g5⟩
 obtain ⟨y, hy, hyh, js, g, hg, hR, hr, hc, hb, hl⟩ := h x hx hh
 have Rg := Rn.of hg ρ2
 have h1 := g3.renum (n := (openL js y.rows).length) Rg
 rw [hR] at h1
 have h2 := closeL_ok hpk js hc h1
 obtain ⟨v1, v2, _⟩ := rnV_ok (W := W) (F := F) Rg hr g2
 refine ⟨numOf g ρ2, y.res, y.rows, ⟨y, hy, hyh, rfl, rfl⟩, by rw [v1], okd_less v2 hb, h2, hl, fun i hi => ?_⟩
 have hid : keyOf g i = some i := by
  simp only [rnOK, Bool.and_eq_true, List.all_eq_true, decide_eq_true_eq] at hg
  exact hg.2 (i, i) (rn_ids hi)
 have : numOf g ρ2 i = ρ2 i := by unfold numOf; rw [hid]
 rw [this, g5 i (Nat.lt_of_lt_of_le hi m2)]
 exact m3 i hi
theorem packOT : ∀ x, PackB (OTrows x) := by
 intro x
 cases x
 ·refine ⟨fun i r h => ?_⟩
  rcases i with _ | _ | i <;> simp [OTrows] at h <;> (subst h; exact ⟨by rfl, fun W F => by simp [okdL, okd, OTrows]⟩)
 ·refine ⟨fun i r h => ?_⟩
  rcases i with _ | _ | _ | i <;> simp [OTrows] at h <;> (subst h; exact ⟨by rfl, fun W F => by simp [okdL, okd, OTrows]⟩)
end Sx
end
section
namespace Sx
variable {P : Program} {W : World} {F : Nat -> Prop} {ρ ρ' ρ0 : Num} {w : World} {rows : List (Option Row)}
theorem SemCall.closeBox {f : FuncId} {args : List SV} {T : Rows} {alts alts' : List Alt} (hs : SemCall P f args T (AltK alts))
  (h : ∀ x ∈ alts, x.holds -> ∃ y ∈ alts', y.holds /\ y.res = x.res /\ okB y.rows.length y.res = true /\ T.length <= y.rows.length /\ y.rows.length <= x.rows.length /\
    ∀ (W : World) (F : Nat -> Prop) (ρ : Num) (w : World), MemOK W F ρ x.rows w -> MemOK W F ρ y.rows w) : SemCall P f args T (AltK alts') := by
 intro W F ρ w hm ho
 refine (hs W F ρ w hm ho).mono ?_
 rintro e w' ⟨ρ2, r, rows', ⟨x, hx, hh, rfl, rfl⟩, rfl, g2, g3, g4, g5⟩
 obtain ⟨y, hy, hyh, hr, hb, hl, hl2, hk⟩ := h x hx hh
 exact ⟨ρ2, y.res, y.rows, ⟨y, hy, hyh, rfl, rfl⟩, by rw [hr], okd_less (by rw [hr]; exact g2) hb, hk W F ρ2 w' g3, hl, g5⟩
theorem MemOK.dropLast (hm : MemOK W F ρ (rows ++ [none]) w) (hok : okRows rows.length rows = true) : MemOK W F ρ rows w := by
 have up : ∀ {j : Nat} {r : Row}, rows[j]? = some (some r) -> (rows ++ [none])[j]? = some (some r) := fun h => by
  rw [List.getElem?_append_left (List.getElem?_eq_some_iff.1 h).1]; exact h
 refine ⟨hm.frame, hm.glob, fun j r hj => ?_, fun i j r q hi hj => hm.inj i j r q (up hi) (up hj), fun i r hi => hm.mine i r (up hi), ?_⟩
 ·obtain ⟨c1, c2⟩ := hm.row j r (up hj)
  exact ⟨c1, okdL_less c2 (okRows_ok hok j r hj)⟩
 ·obtain ⟨φ, hφ⟩ := hm.obs
  exact ⟨φ, hφ.keep (fun i r hi _ => ⟨r, up hi, rfl, rfl, fun _ h => h⟩) (Nat.le_refl _) (fun _ _ _ => rfl) (fun j q hj hq => .inr ⟨j, q, up hj, hq, rfl⟩)⟩
end Sx
end
section
namespace Sx
variable {P : Program}
mutual
def genV : SV -> (SV -> Prop) -> Prop
 | .int k n, K => ∀ m, m = n -> K (.int k m)
 | .bool b, K => ∀ c, c = b -> K (.bool c)
 | .ints k n xs, K => ∀ ys, ys = xs -> K (.ints k n ys)
 | .agg cs, K => genL cs fun cs => K (.agg cs)
 | .tup cs, K => genL cs fun cs => K (.tup cs)
 | v, K => K v
def genL : List SV -> (List SV -> Prop) -> Prop
 | [], K => K []
 | c :: cs, K => genV c fun c => genL cs fun cs => K (c :: cs)
end
def genOb : Option Ob -> (Option Ob -> Prop) -> Prop
 | some (.own (.dig st n ws)), K => ∀ st', st' = st -> ∀ n', n' = n -> ∀ ws', ws' = ws -> K (some (.own (.dig st' n' ws')))
 | some (.own (.mem ps qs m)), K => ∀ ps', ps' = ps -> ∀ qs', qs' = qs -> ∀ m', m' = m -> K (some (.own (.mem ps' qs' m')))
 | some (.fam (.boxes ty pty k n tot ps ks)), K => ∀ qs, qs = ps -> K (some (.fam (.boxes ty pty k n tot qs ks)))
 | x, K => K x
def genRows : Rows -> (Rows -> Prop) -> Prop
 | [], K => K []
 | none :: r, K => genRows r fun r => K (none :: r)
 | some ⟨ty, cs, sz, ob⟩ :: r, K => genL cs fun cs => genOb ob fun ob => genRows r fun r => K (some ⟨ty, cs, sz, ob⟩ :: r)
mutual
theorem genV_out : ∀ {v : SV} {K : SV -> Prop}, genV v K -> K v
 | .int k n, K, h => h n rfl
 | .bool b, K, h => h b rfl
 | .ints k n xs, K, h => h xs rfl
 | .agg cs, K, h => genL_out (l := cs) (K := fun cs => K (.agg cs)) h
 | .tup cs, K, h => genL_out (l := cs) (K := fun cs => K (.tup cs)) h
 | .top, K, h | .lit _ _, K, h | .litb _, K, h | .str _, K, h | .val _, K, h | .hnd _, K, h | .ptr _ _, K, h | .pte _ _ _, K, h | .ptm _ _ _ _, K, h | .many _ _ _, K, h | .sl _ _ _ _, K, h | .os _ _ _ _, K, h | .on _ _ _, K, h | .ow _ _ _ _ _ _, K, h | .gp _ _, K, h | .gpe _ _ _ _ _, K, h | .rd _ _ _, K, h | .rda _ _ _ _, K, h | .rs _ _ _ _, K, h | .rsa _ _ _ _ _ _, K, h | .fn _ _ _, K, h => h
theorem genL_out : ∀ {l : List SV} {K : List SV -> Prop}, genL l K -> K l
 | [], K, h => h
 | c :: cs, K, h => genL_out (l := cs) (K := fun cs => K (c :: cs)) (genV_out (v := c) (K := fun c => genL cs fun cs => K (c :: cs)) h)
end
theorem genOb_out : ∀ {x : Option Ob} {K : Option Ob -> Prop}, genOb x K -> K x
 | none, K, h => h
 | some (.iter _ _), K, h => h
 | some (.own (.dig st n ws)), K, h => h st rfl n rfl ws rfl
 | some (.own (.mem ps qs m)), K, h => h ps rfl qs rfl m rfl
 | some (.fam (.boxes ty pty k n tot ps ks)), K, h => h ps rfl
theorem genRows_out : ∀ {r : Rows} {K : Rows -> Prop}, genRows r K -> K r
 | [], K, h => h
 | none :: r, K, h => genRows_out (r := r) (K := fun r => K (none :: r)) h
 | some ⟨ty, cs, sz, ob⟩ :: r, K, h => genRows_out (r := r) (K := fun r => K (some ⟨ty, cs, sz, ob⟩ :: r)) (genOb_out (K := fun ob => genRows r fun r => K (some ⟨ty, cs, sz, ob⟩ :: r)) (genL_out (l := cs) (K := fun cs => genOb ob fun ob => genRows r fun r => K (some ⟨ty, cs, sz, ob⟩ :: r)) h))
def conG (c : ECon) : Handler := fun args R K => conH c args R fun res rows => forceRows rows fun rows => genV res fun res => genRows rows fun rows => K res rows
theorem SemCall.mono' {f : FuncId} {args : List SV} {R : Rows} {K K' : SV -> Rows -> Prop} (h : SemCall P f args R K) (hk : ∀ r rows, K r rows -> K' r rows) : SemCall P f args R K' := by
 intro W F ρ w hm ho
 exact (h W F ρ w hm ho).mono fun e w' ⟨ρ', res, rows', g1, g2⟩ => ⟨ρ', res, rows', hk _ _ g1, g2⟩
theorem conG_ok {f : FuncId} {c : ECon} (h : EEntry P f c) {args : List SV} {R : Rows} {K : SV -> Rows -> Prop} (hk : conG c args R K) : SemCall P f args R K :=
 (conH_ok h hk).mono' fun r rows hr => genRows_out (genV_out (K := fun res => genRows rows fun rows => K res rows) (forceRows_out (K := fun rows => genV r fun res => genRows rows fun rows => K res rows) hr))
def inlG (T : Tab) (pure : FuncId -> Option (List SV -> Option (List Prop × SV))) (con : FuncId -> Option ECon) (fns : FuncId -> Option Func) (plan : FuncId -> Plan) (fuel : Nat) : Nat -> FuncId -> Option Handler
 | 0, f => (con f).map conG
 | n + 1, f => match con f with
   | some c => some (conG c)
   | none => (fns f).map fun fn args rows k => execFn ⟨T, inlG T pure con fns plan fuel n, pure, (plan f).must, fun q _ => (plan f).loop q, 0, 0, con, fun _ _ => [], false⟩ fuel fn args rows k
theorem inlG_ok (hm : P.follows .mixedOrders = true) {T : Tab} {pure : FuncId -> Option (List SV -> Option (List Prop × SV))} {con : FuncId -> Option ECon} {fns : FuncId -> Option Func} {plan : FuncId -> Plan} {fuel : Nat} (hT : TabOK P T) (hp : PureOK P pure) (hcn : ConOK P con) (hf : FnsOK P fns) :
  ∀ (n : Nat) (must : Nat -> Option Bool) (loop : Nat -> SS -> Option LoopSpec) (nt n0 : Nat) (fz : Nat -> SS -> List Nat) (on : Bool), CxOK P ⟨T, inlG T pure con fns plan fuel n, pure, must, loop, nt, n0, con, fz, on⟩
 | 0, must, loop, nt, n0, fz, on => by
   refine ⟨hT, hp, fun f h hh => ?_, hcn⟩
   simp only [inlG, Option.map_eq_some_iff] at hh
   obtain ⟨c, h1, rfl⟩ := hh
   exact ⟨(hcn f c h1).1, fun args rows k hk => conG_ok (hcn f c h1) hk⟩
 | n + 1, must, loop, nt, n0, fz, on => by
   refine ⟨hT, hp, fun f h hh => ?_, hcn⟩
   simp only [inlG] at hh
   split at hh
   ·rename_i c h1
    cases hh
    exact ⟨(hcn f c h1).1, fun args rows k hk => conG_ok (hcn f c h1) hk⟩
   ·simp only [Option.map_eq_some_iff] at hh
    obtain ⟨fn, h1, rfl⟩ := hh
    obtain ⟨h2, h3⟩ := hf f fn h1
    exact ⟨h3, fun args rows k hk => execFn_ok hm (inlG_ok hm hT hp hcn hf n _ _ 0 0 _ _) h2 hk⟩
end Sx
end
section
open Go.RowKit Sx
theorem w_u32 {x : Int} (h : 0 <= x /\ x < 4294967296) : IntKind.u32.wrap x = x := wrap_in (k := .u32) h
theorem w_i64 {x : Int} (h : -9223372036854775808 <= x /\ x < 9223372036854775808) : IntKind.i64.wrap x = x := wrap_in (k := .i64) h
theorem w_u64 {x : Int} (h : 0 <= x /\ x < 18446744073709551616) : IntKind.u64.wrap x = x := wrap_in (k := .u64) h
theorem w_u8 {x : Int} (h : 0 <= x /\ x < 256) : IntKind.u8.wrap x = x := wrap_in (k := .u8) h
theorem or_b0 {x : Int} (h : 0 <= x /\ x < 4294967296) (e : x / 1 % 2 = 0) : bits .or .u32 x 1 = x + 1 := or_bit 0 (by decide) (by decide) h e
theorem and_b0 {x : Int} (h : 0 <= x /\ x < 4294967296) : bits .and .u32 x 1 = x / 1 % 2 * 1 := and_bit 0 (by decide) (by decide) h
theorem or_b1 {x : Int} (h : 0 <= x /\ x < 4294967296) (e : x / 2 % 2 = 0) : bits .or .u32 x 2 = x + 2 := or_bit 1 (by decide) (by decide) h e
theorem and_b1 {x : Int} (h : 0 <= x /\ x < 4294967296) : bits .and .u32 x 2 = x / 2 % 2 * 2 := and_bit 1 (by decide) (by decide) h
theorem or_b2 {x : Int} (h : 0 <= x /\ x < 4294967296) (e : x / 4 % 2 = 0) : bits .or .u32 x 4 = x + 4 := or_bit 2 (by decide) (by decide) h e
theorem and_b2 {x : Int} (h : 0 <= x /\ x < 4294967296) : bits .and .u32 x 4 = x / 4 % 2 * 4 := and_bit 2 (by decide) (by decide) h
theorem and_m2 {x : Int} (h : 0 <= x /\ x < 4294967296) : bits .and .u32 x 3 = x % 4 := and_mask 2 (by decide) (by decide) h
theorem or_b3 {x : Int} (h : 0 <= x /\ x < 4294967296) (e : x / 8 % 2 = 0) : bits .or .u32 x 8 = x + 8 := or_bit 3 (by decide) (by decide) h e
theorem and_b3 {x : Int} (h : 0 <= x /\ x < 4294967296) : bits .and .u32 x 8 = x / 8 % 2 * 8 := and_bit 3 (by decide) (by decide) h
theorem and_m3 {x : Int} (h : 0 <= x /\ x < 4294967296) : bits .and .u32 x 7 = x % 8 := and_mask 3 (by decide) (by decide) h
theorem or_b4 {x : Int} (h : 0 <= x /\ x < 4294967296) (e : x / 16 % 2 = 0) : bits .or .u32 x 16 = x + 16 := or_bit 4 (by decide) (by decide) h e
theorem and_b4 {x : Int} (h : 0 <= x /\ x < 4294967296) : bits .and .u32 x 16 = x / 16 % 2 * 16 := and_bit 4 (by decide) (by decide) h
theorem and_m4 {x : Int} (h : 0 <= x /\ x < 4294967296) : bits .and .u32 x 15 = x % 16 := and_mask 4 (by decide) (by decide) h
theorem or_b5 {x : Int} (h : 0 <= x /\ x < 4294967296) (e : x / 32 % 2 = 0) : bits .or .u32 x 32 = x + 32 := or_bit 5 (by decide) (by decide) h e
theorem and_b5 {x : Int} (h : 0 <= x /\ x < 4294967296) : bits .and .u32 x 32 = x / 32 % 2 * 32 := and_bit 5 (by decide) (by decide) h
theorem and_m5 {x : Int} (h : 0 <= x /\ x < 4294967296) : bits .and .u32 x 31 = x % 32 := and_mask 5 (by decide) (by decide) h
theorem or_b6 {x : Int} (h : 0 <= x /\ x < 4294967296) (e : x / 64 % 2 = 0) : bits .or .u32 x 64 = x + 64 := or_bit 6 (by decide) (by decide) h e
theorem and_b6 {x : Int} (h : 0 <= x /\ x < 4294967296) : bits .and .u32 x 64 = x / 64 % 2 * 64 := and_bit 6 (by decide) (by decide) h
theorem and_m6 {x : Int} (h : 0 <= x /\ x < 4294967296) : bits .and .u32 x 63 = x % 64 := and_mask 6 (by decide) (by decide) h
theorem or_b7 {x : Int} (h : 0 <= x /\ x < 4294967296) (e : x / 128 % 2 = 0) : bits .or .u32 x 128 = x + 128 := or_bit 7 (by decide) (by decide) h e
theorem and_b7 {x : Int} (h : 0 <= x /\ x < 4294967296) : bits .and .u32 x 128 = x / 128 % 2 * 128 := and_bit 7 (by decide) (by decide) h
theorem and_m7 {x : Int} (h : 0 <= x /\ x < 4294967296) : bits .and .u32 x 127 = x % 128 := and_mask 7 (by decide) (by decide) h
theorem or_b8 {x : Int} (h : 0 <= x /\ x < 4294967296) (e : x / 256 % 2 = 0) : bits .or .u32 x 256 = x + 256 := or_bit 8 (by decide) (by decide) h e
theorem and_b8 {x : Int} (h : 0 <= x /\ x < 4294967296) : bits .and .u32 x 256 = x / 256 % 2 * 256 := and_bit 8 (by decide) (by decide) h
theorem and_m8 {x : Int} (h : 0 <= x /\ x < 4294967296) : bits .and .u32 x 255 = x % 256 := and_mask 8 (by decide) (by decide) h
theorem or_b9 {x : Int} (h : 0 <= x /\ x < 4294967296) (e : x / 512 % 2 = 0) : bits .or .u32 x 512 = x + 512 := or_bit 9 (by decide) (by decide) h e
theorem and_b9 {x : Int} (h : 0 <= x /\ x < 4294967296) : bits .and .u32 x 512 = x / 512 % 2 * 512 := and_bit 9 (by decide) (by decide) h
theorem and_m9 {x : Int} (h : 0 <= x /\ x < 4294967296) : bits .and .u32 x 511 = x % 512 := and_mask 9 (by decide) (by decide) h
theorem or_b10 {x : Int} (h : 0 <= x /\ x < 4294967296) (e : x / 1024 % 2 = 0) : bits .or .u32 x 1024 = x + 1024 := or_bit 10 (by decide) (by decide) h e
theorem and_b10 {x : Int} (h : 0 <= x /\ x < 4294967296) : bits .and .u32 x 1024 = x / 1024 % 2 * 1024 := and_bit 10 (by decide) (by decide) h
theorem and_m10 {x : Int} (h : 0 <= x /\ x < 4294967296) : bits .and .u32 x 1023 = x % 1024 := and_mask 10 (by decide) (by decide) h
theorem or_b11 {x : Int} (h : 0 <= x /\ x < 4294967296) (e : x / 2048 % 2 = 0) : bits .or .u32 x 2048 = x + 2048 := or_bit 11 (by decide) (by decide) h e
theorem and_b11 {x : Int} (h : 0 <= x /\ x < 4294967296) : bits .and .u32 x 2048 = x / 2048 % 2 * 2048 := and_bit 11 (by decide) (by decide) h
theorem and_m11 {x : Int} (h : 0 <= x /\ x < 4294967296) : bits .and .u32 x 2047 = x % 2048 := and_mask 11 (by decide) (by decide) h
theorem or_b12 {x : Int} (h : 0 <= x /\ x < 4294967296) (e : x / 4096 % 2 = 0) : bits .or .u32 x 4096 = x + 4096 := or_bit 12 (by decide) (by decide) h e
theorem and_b12 {x : Int} (h : 0 <= x /\ x < 4294967296) : bits .and .u32 x 4096 = x / 4096 % 2 * 4096 := and_bit 12 (by decide) (by decide) h
theorem and_m12 {x : Int} (h : 0 <= x /\ x < 4294967296) : bits .and .u32 x 4095 = x % 4096 := and_mask 12 (by decide) (by decide) h
theorem or_b13 {x : Int} (h : 0 <= x /\ x < 4294967296) (e : x / 8192 % 2 = 0) : bits .or .u32 x 8192 = x + 8192 := or_bit 13 (by decide) (by decide) h e
theorem and_b13 {x : Int} (h : 0 <= x /\ x < 4294967296) : bits .and .u32 x 8192 = x / 8192 % 2 * 8192 := and_bit 13 (by decide) (by decide) h
theorem and_m13 {x : Int} (h : 0 <= x /\ x < 4294967296) : bits .and .u32 x 8191 = x % 8192 := and_mask 13 (by decide) (by decide) h
theorem or_b14 {x : Int} (h : 0 <= x /\ x < 4294967296) (e : x / 16384 % 2 = 0) : bits .or .u32 x 16384 = x + 16384 := or_bit 14 (by decide) (by decide) h e
theorem and_b14 {x : Int} (h : 0 <= x /\ x < 4294967296) : bits .and .u32 x 16384 = x / 16384 % 2 * 16384 := and_bit 14 (by decide) (by decide) h
theorem and_m14 {x : Int} (h : 0 <= x /\ x < 4294967296) : bits .and .u32 x 16383 = x % 16384 := and_mask 14 (by decide) (by decide) h
theorem or_b15 {x : Int} (h : 0 <= x /\ x < 4294967296) (e : x / 32768 % 2 = 0) : bits .or .u32 x 32768 = x + 32768 := or_bit 15 (by decide) (by decide) h e
theorem and_b15 {x : Int} (h : 0 <= x /\ x < 4294967296) : bits .and .u32 x 32768 = x / 32768 % 2 * 32768 := and_bit 15 (by decide) (by decide) h
theorem and_m15 {x : Int} (h : 0 <= x /\ x < 4294967296) : bits .and .u32 x 32767 = x % 32768 := and_mask 15 (by decide) (by decide) h
theorem or_b16 {x : Int} (h : 0 <= x /\ x < 4294967296) (e : x / 65536 % 2 = 0) : bits .or .u32 x 65536 = x + 65536 := or_bit 16 (by decide) (by decide) h e
theorem and_b16 {x : Int} (h : 0 <= x /\ x < 4294967296) : bits .and .u32 x 65536 = x / 65536 % 2 * 65536 := and_bit 16 (by decide) (by decide) h
theorem and_m16 {x : Int} (h : 0 <= x /\ x < 4294967296) : bits .and .u32 x 65535 = x % 65536 := and_mask 16 (by decide) (by decide) h
theorem or_b17 {x : Int} (h : 0 <= x /\ x < 4294967296) (e : x / 131072 % 2 = 0) : bits .or .u32 x 131072 = x + 131072 := or_bit 17 (by decide) (by decide) h e
theorem and_b17 {x : Int} (h : 0 <= x /\ x < 4294967296) : bits .and .u32 x 131072 = x / 131072 % 2 * 131072 := and_bit 17 (by decide) (by decide) h
theorem and_m17 {x : Int} (h : 0 <= x /\ x < 4294967296) : bits .and .u32 x 131071 = x % 131072 := and_mask 17 (by decide) (by decide) h
theorem or_b18 {x : Int} (h : 0 <= x /\ x < 4294967296) (e : x / 262144 % 2 = 0) : bits .or .u32 x 262144 = x + 262144 := or_bit 18 (by decide) (by decide) h e
theorem and_b18 {x : Int} (h : 0 <= x /\ x < 4294967296) : bits .and .u32 x 262144 = x / 262144 % 2 * 262144 := and_bit 18 (by decide) (by decide) h
theorem and_m18 {x : Int} (h : 0 <= x /\ x < 4294967296) : bits .and .u32 x 262143 = x % 262144 := and_mask 18 (by decide) (by decide) h
theorem or_b19 {x : Int} (h : 0 <= x /\ x < 4294967296) (e : x / 524288 % 2 = 0) : bits .or .u32 x 524288 = x + 524288 := or_bit 19 (by decide) (by decide) h e
theorem and_b19 {x : Int} (h : 0 <= x /\ x < 4294967296) : bits .and .u32 x 524288 = x / 524288 % 2 * 524288 := and_bit 19 (by decide) (by decide) h
theorem and_m19 {x : Int} (h : 0 <= x /\ x < 4294967296) : bits .and .u32 x 524287 = x % 524288 := and_mask 19 (by decide) (by decide) h
theorem or_b20 {x : Int} (h : 0 <= x /\ x < 4294967296) (e : x / 1048576 % 2 = 0) : bits .or .u32 x 1048576 = x + 1048576 := or_bit 20 (by decide) (by decide) h e
theorem and_b20 {x : Int} (h : 0 <= x /\ x < 4294967296) : bits .and .u32 x 1048576 = x / 1048576 % 2 * 1048576 := and_bit 20 (by decide) (by decide) h
theorem and_m20 {x : Int} (h : 0 <= x /\ x < 4294967296) : bits .and .u32 x 1048575 = x % 1048576 := and_mask 20 (by decide) (by decide) h
theorem or_b21 {x : Int} (h : 0 <= x /\ x < 4294967296) (e : x / 2097152 % 2 = 0) : bits .or .u32 x 2097152 = x + 2097152 := or_bit 21 (by decide) (by decide) h e
theorem and_b21 {x : Int} (h : 0 <= x /\ x < 4294967296) : bits .and .u32 x 2097152 = x / 2097152 % 2 * 2097152 := and_bit 21 (by decide) (by decide) h
theorem and_m21 {x : Int} (h : 0 <= x /\ x < 4294967296) : bits .and .u32 x 2097151 = x % 2097152 := and_mask 21 (by decide) (by decide) h
theorem or_b22 {x : Int} (h : 0 <= x /\ x < 4294967296) (e : x / 4194304 % 2 = 0) : bits .or .u32 x 4194304 = x + 4194304 := or_bit 22 (by decide) (by decide) h e
theorem and_b22 {x : Int} (h : 0 <= x /\ x < 4294967296) : bits .and .u32 x 4194304 = x / 4194304 % 2 * 4194304 := and_bit 22 (by decide) (by decide) h
theorem and_m22 {x : Int} (h : 0 <= x /\ x < 4294967296) : bits .and .u32 x 4194303 = x % 4194304 := and_mask 22 (by decide) (by decide) h
theorem or_b23 {x : Int} (h : 0 <= x /\ x < 4294967296) (e : x / 8388608 % 2 = 0) : bits .or .u32 x 8388608 = x + 8388608 := or_bit 23 (by decide) (by decide) h e
theorem and_b23 {x : Int} (h : 0 <= x /\ x < 4294967296) : bits .and .u32 x 8388608 = x / 8388608 % 2 * 8388608 := and_bit 23 (by decide) (by decide) h
theorem and_m23 {x : Int} (h : 0 <= x /\ x < 4294967296) : bits .and .u32 x 8388607 = x % 8388608 := and_mask 23 (by decide) (by decide) h
theorem or_b24 {x : Int} (h : 0 <= x /\ x < 4294967296) (e : x / 16777216 % 2 = 0) : bits .or .u32 x 16777216 = x + 16777216 := or_bit 24 (by decide) (by decide) h e
theorem and_b24 {x : Int} (h : 0 <= x /\ x < 4294967296) : bits .and .u32 x 16777216 = x / 16777216 % 2 * 16777216 := and_bit 24 (by decide) (by decide) h
theorem and_m24 {x : Int} (h : 0 <= x /\ x < 4294967296) : bits .and .u32 x 16777215 = x % 16777216 := and_mask 24 (by decide) (by decide) h
theorem or_b25 {x : Int} (h : 0 <= x /\ x < 4294967296) (e : x / 33554432 % 2 = 0) : bits .or .u32 x 33554432 = x + 33554432 := or_bit 25 (by decide) (by decide) h e
theorem and_b25 {x : Int} (h : 0 <= x /\ x < 4294967296) : bits .and .u32 x 33554432 = x / 33554432 % 2 * 33554432 := and_bit 25 (by decide) (by decide) h
theorem and_m25 {x : Int} (h : 0 <= x /\ x < 4294967296) : bits .and .u32 x 33554431 = x % 33554432 := and_mask 25 (by decide) (by decide) h
theorem or_b26 {x : Int} (h : 0 <= x /\ x < 4294967296) (e : x / 67108864 % 2 = 0) : bits .or .u32 x 67108864 = x + 67108864 := or_bit 26 (by decide) (by decide) h e
theorem and_b26 {x : Int} (h : 0 <= x /\ x < 4294967296) : bits .and .u32 x 67108864 = x / 67108864 % 2 * 67108864 := and_bit 26 (by decide) (by decide) h
theorem and_m26 {x : Int} (h : 0 <= x /\ x < 4294967296) : bits .and .u32 x 67108863 = x % 67108864 := and_mask 26 (by decide) (by decide) h
theorem or_b27 {x : Int} (h : 0 <= x /\ x < 4294967296) (e : x / 134217728 % 2 = 0) : bits .or .u32 x 134217728 = x + 134217728 := or_bit 27 (by decide) (by decide) h e
theorem and_b27 {x : Int} (h : 0 <= x /\ x < 4294967296) : bits .and .u32 x 134217728 = x / 134217728 % 2 * 134217728 := and_bit 27 (by decide) (by decide) h
theorem and_m27 {x : Int} (h : 0 <= x /\ x < 4294967296) : bits .and .u32 x 134217727 = x % 134217728 := and_mask 27 (by decide) (by decide) h
theorem or_b28 {x : Int} (h : 0 <= x /\ x < 4294967296) (e : x / 268435456 % 2 = 0) : bits .or .u32 x 268435456 = x + 268435456 := or_bit 28 (by decide) (by decide) h e
theorem and_b28 {x : Int} (h : 0 <= x /\ x < 4294967296) : bits .and .u32 x 268435456 = x / 268435456 % 2 * 268435456 := and_bit 28 (by decide) (by decide) h
theorem and_m28 {x : Int} (h : 0 <= x /\ x < 4294967296) : bits .and .u32 x 268435455 = x % 268435456 := and_mask 28 (by decide) (by decide) h
theorem or_b29 {x : Int} (h : 0 <= x /\ x < 4294967296) (e : x / 536870912 % 2 = 0) : bits .or .u32 x 536870912 = x + 536870912 := or_bit 29 (by decide) (by decide) h e
theorem and_b29 {x : Int} (h : 0 <= x /\ x < 4294967296) : bits .and .u32 x 536870912 = x / 536870912 % 2 * 536870912 := and_bit 29 (by decide) (by decide) h
theorem and_m29 {x : Int} (h : 0 <= x /\ x < 4294967296) : bits .and .u32 x 536870911 = x % 536870912 := and_mask 29 (by decide) (by decide) h
theorem or_b30 {x : Int} (h : 0 <= x /\ x < 4294967296) (e : x / 1073741824 % 2 = 0) : bits .or .u32 x 1073741824 = x + 1073741824 := or_bit 30 (by decide) (by decide) h e
theorem and_b30 {x : Int} (h : 0 <= x /\ x < 4294967296) : bits .and .u32 x 1073741824 = x / 1073741824 % 2 * 1073741824 := and_bit 30 (by decide) (by decide) h
theorem and_m30 {x : Int} (h : 0 <= x /\ x < 4294967296) : bits .and .u32 x 1073741823 = x % 1073741824 := and_mask 30 (by decide) (by decide) h
theorem or_b31 {x : Int} (h : 0 <= x /\ x < 4294967296) (e : x / 2147483648 % 2 = 0) : bits .or .u32 x 2147483648 = x + 2147483648 := or_bit 31 (by decide) (by decide) h e
theorem and_b31 {x : Int} (h : 0 <= x /\ x < 4294967296) : bits .and .u32 x 2147483648 = x / 2147483648 % 2 * 2147483648 := and_bit 31 (by decide) (by decide) h
theorem and_m31 {x : Int} (h : 0 <= x /\ x < 4294967296) : bits .and .u32 x 2147483647 = x % 2147483648 := and_mask 31 (by decide) (by decide) h
theorem and_m32 {x : Int} (h : 0 <= x /\ x < 4294967296) : bits .and .u32 x 4294967295 = x := by rw [and_mask 32 (by decide) (by decide) h]; simp only [Int.reduceAdd]; omega
end
section
theorem InK_of_wf {k : IntKind} {x : Int} (h : (Lit.int k x).wf = true) : Sx.InK k x := by
 cases k <;> simp [Lit.wf, IntKind.min, IntKind.max, IntKind.signed, IntKind.bits, Sx.InK] at * <;> omega
theorem pure_law {P : Program} {f : FuncId} {args : List Sx.SV} {v : Sx.SV} (h : Sx.PureSem P f args v) (W : World) (hg : Sx.Globs W fun _ => False) (ha : Sx.okdL W (fun _ => False) 0 args) :
  Calls P f (Sx.denL Sx.Num.zero args).toArray W fun e w' => e = .returned (Sx.den Sx.Num.zero v) /\ Below W.heap.size W w' := by
 obtain ⟨_, _, g⟩ := h W (fun _ => False) Sx.Num.zero [] W ⟨Sx.Frm.refl _ _, hg, fun i r h => by simp at h, fun i j r q h => by simp at h, fun i r h => by simp at h, ⟨fun _ _ => False, fun i r x h => by simp at h⟩⟩ ha
 exact g.mono fun e w' ⟨h1, h2⟩ => ⟨h1, h2.os, h2.tape, h2.output, h2.size, fun k hk => h2.block k hk id⟩
end
section
open Go.RowKit Go.ChangeShapes Go.WideShapes
namespace Sx
inductive Sh where
 | i (k : IntKind)
 | b
 | s
 | l (sz : Nat) (ss : List Sh)
def shFields (P : Program) (g : TypeId -> Option (List Sh)) : List Field -> Nat -> Option (List Sh)
 | [], _ => some []
 | f :: fs, off =>
   match g f.type with
   | none => none
   | some l => if f.offset = off /\ P.cellsOf f.type = l.length then (shFields P g fs (off + l.length)).map (l ++ ·) else none
def shAt (P : Program) : Nat -> TypeId -> Option (List Sh)
 | 0, _ => none
 | n + 1, t =>
   match P.underlying t with
   | some .bool => if P.cellsOf t = 1 then some [.b] else none
   | some (.int k) => if P.cellsOf t = 1 then some [.i k] else none
   | some .string => if P.cellsOf t = 1 then some [.s] else none
   | some (.slice e) =>
     match shAt P n e with
     | none => none
     | some l => if P.cellsOf t = 1 /\ P.cellsOf e = l.length /\ 0 < l.length then some [.l l.length l] else none
   | some (.array m e) =>
     match shAt P n e with
     | none => none
     | some l => if P.cellsOf e = l.length /\ P.cellsOf t = m * l.length then some (List.replicate m l).flatten else none
   | some (.struct fs) =>
     match shFields P (shAt P n) fs.toList 0 with
     | none => none
     | some l => if P.cellsOf t = l.length then some l else none
   | _ => none
mutual
def ShOK (w : World) : Sh -> Value -> Prop
 | .i k, v => ∃ n, v = .int k n /\ InK k n
 | .b, v => ∃ x, v = .bool x
 | .s, v => ∃ x, v = .string x
 | .l sz ss, v => (∃ a cap, v = .slice a 0 cap /\ (a = none -> cap = 0)) ∨
    ∃ b off len cap, v = .slice (some ⟨b, off, none⟩) len cap /\ len <= cap /\ cap <= maxLen /\ b < w.heap.size /\ ∀ e, e < len -> ∃ cs, ShOKs w ss cs /\ cs.length = sz /\ ∀ j, j < sz -> w.cell? ⟨b, off + e * sz + j, none⟩ = cs[j]?
def ShOKs (w : World) : List Sh -> List Value -> Prop
 | [], vs => vs = []
 | s :: ss, vs => ∃ v t, vs = v :: t /\ ShOK w s v /\ ShOKs w ss t
end
variable {w : World}
theorem ShOKs.length : ∀ {ss : List Sh} {vs : List Value}, ShOKs w ss vs -> vs.length = ss.length
 | [], vs, h => by have h : vs = [] := h; simp [h]
 | s :: ss, vs, h => by obtain ⟨v, t, rfl, _, h2⟩ := h; simp [h2.length]
theorem ShOKs.append : ∀ {ss ts : List Sh} {vs us : List Value}, ShOKs w ss vs -> ShOKs w ts us -> ShOKs w (ss ++ ts) (vs ++ us)
 | [], ts, vs, us, h, k => by have h : vs = [] := h; simpa [h] using k
 | s :: ss, ts, vs, us, h, k => by obtain ⟨v, t, rfl, h1, h2⟩ := h; exact ⟨v, t ++ us, rfl, h1, h2.append k⟩
theorem sh_chunks (l : List Sh) : ∀ (m : Nat) (cs : List Value), cs.length = m * l.length -> (∀ i, i < m -> ShOKs w l ((cs.drop (i * l.length)).take l.length)) -> ShOKs w (List.replicate m l).flatten cs
 | 0, cs, h, _ => by
   have : cs = [] := by simpa using h
   subst this
   rfl
 | m + 1, cs, h, hi => by
   have h0 := hi 0 (by omega)
   simp only [Nat.zero_mul, List.drop_zero] at h0
   have hr := sh_chunks l m (cs.drop l.length) (by simp [h, Nat.succ_mul]) (fun i hlt => by
    have := hi (i + 1) (by omega)
    rw [List.drop_drop]
    rwa [Nat.succ_mul, Nat.add_comm] at this)
   have := ShOKs.append h0 hr
   rw [List.take_append_drop] at this
   simpa [List.replicate_succ] using this
section
variable {H : Type} {enc : TypeId × Value -> H} {P : Program} {base : Nat} {spare : Nat -> Bool} {held : Bool}
theorem sh_fields {n : Nat} {g : TypeId -> Option (List Sh)} (hg : ∀ (t : TypeId) (ks : List Sh) (cs : List Value) (x : DataW H × List MemPlace), g t = some ks -> DataW.trod enc P w base spare held n t cs = some x -> ShOKs w ks cs) :
  ∀ (fs : List Field) (off : Nat) (ks : List Sh) (cs : List Value) (xs : List (DataW H × List MemPlace)), shFields P g fs off = some ks -> xs.length = fs.length ->
   (∀ (i : Nat) (f : Field), fs[i]? = some f -> DataW.trod enc P w base spare held n f.type ((cs.drop f.offset).take (P.cellsOf f.type)) = xs[i]?) -> cs.length = off + ks.length -> ShOKs w ks (cs.drop off)
 | [], off, ks, cs, xs, hk, _, _, hl => by
   simp [shFields] at hk
   subst hk
   have : cs.drop off = [] := by simpa using Nat.le_of_eq hl
   rw [this]
   rfl
 | f :: fs, off, ks, cs, xs, hk, hx, hi, hl => by
   simp only [shFields] at hk
   cases hgt : g f.type with
   | none => simp [hgt] at hk
   | some l =>
     simp only [hgt] at hk
     split at hk
     ·rename_i hc
      obtain ⟨ho, hcl⟩ := hc
      cases hr : shFields P g fs (off + l.length) with
      | none => simp [hr] at hk
      | some ks' =>
        simp [hr] at hk
        subst hk
        match xs, hx with
        | x :: xs, hx =>
          have h0 := hi 0 f rfl
          rw [ho, hcl] at h0
          have f0 := hg f.type l _ x hgt (by simpa using h0)
          have fr := sh_fields hg fs (off + l.length) ks' cs xs hr (by simpa using hx) (fun i f' hf => by simpa using hi (i + 1) f' hf) (by simp at hl; omega)
          have := ShOKs.append f0 fr
          rwa [<- List.drop_drop, List.take_append_drop] at this
     ·simp at hk
theorem sh_of_trod : ∀ (n : Nat) (fuel : Nat) (t : TypeId) (ks : List Sh) (cs : List Value) (x : DataW H × List MemPlace), shAt P n t = some ks -> DataW.trod enc P w base spare held fuel t cs = some x -> ShOKs w ks cs
 | 0, _, _, _, _, _, h, _ => by simp [shAt] at h
 | n + 1, fuel, t, ks, cs, x, h, hd => by
   unfold shAt at h
   cases hu : P.underlying t with
   | none => simp [hu] at h
   | some d =>
     cases d with
     | bool =>
       simp [hu] at h
       obtain ⟨_, rfl⟩ := h
       obtain ⟨b, e0, _⟩ := DataW.trod_bool hu hd
       subst e0
       exact ⟨_, _, rfl, ⟨b, rfl⟩, rfl⟩
     | int k =>
       simp [hu] at h
       obtain ⟨_, rfl⟩ := h
       obtain ⟨b, e0, _, hw⟩ := DataW.trod_int hu hd
       subst e0
       exact ⟨_, _, rfl, ⟨b, rfl, InK_of_wf hw⟩, rfl⟩
     | string =>
       simp [hu] at h
       obtain ⟨_, rfl⟩ := h
       obtain ⟨b, e0, _⟩ := DataW.trod_string hu hd
       subst e0
       exact ⟨_, _, rfl, ⟨b, rfl⟩, rfl⟩
     | slice e =>
       simp only [hu] at h
       cases hl : shAt P n e with
       | none => simp [hl] at h
       | some l =>
         simp only [hl] at h
         split at h
         ·rename_i hc
          obtain ⟨_, h1, h2⟩ := hc
          simp at h
          subst h
          rcases Go.Deep.open_slice hu hd with ⟨rfl, _⟩ | ⟨a, len, cap, m, q, D, Pl, rfl, hb, hle, hm, hmm, _, hx⟩
          ·exact ⟨_, _, rfl, .inl ⟨none, 0, rfl, fun _ => rfl⟩, rfl⟩
          ·refine ⟨_, _, rfl, ?_, rfl⟩
           by_cases h0 : len = 0
           ·subst h0; exact .inl ⟨some a, cap, rfl, fun h => by cases h⟩
           ·right
            have hle2 : len <= m := by rw [hmm]; split <;> omega
            obtain ⟨c0, g0, _⟩ := hx 0 (by omega)
            obtain ⟨_, gl, g1⟩ := World.cells?_some g0
            have hspot : a.spot = none := by
             have := g1 0 (by omega)
             rw [List.getElem?_eq_getElem (by omega)] at this
             cases hs : a.spot with
             | none => rfl
             | some sp =>
               exfalso
               have ha : ((a.add (0 * P.cellsOf e)).add 0).spot = some sp := by simp [Addr.add, hs]
               simp only [World.cell?, ha] at this
               split at this <;> simp at this
            obtain ⟨b, off, sp⟩ := a
            simp only at hspot
            subst hspot
            refine ⟨b, off, len, cap, rfl, hle, hm, ?_, fun i hi => ?_⟩
            ·have := g1 0 (by omega)
             rw [List.getElem?_eq_getElem (by omega), addr_add, addr_add] at this
             simp only [World.cell?] at this
             split at this
             ·rename_i hq; exact (Array.getElem?_eq_some_iff.1 hq).1
             ·cases this
            ·obtain ⟨cs', k1, k2⟩ := hx i (by omega)
             obtain ⟨_, kl, k3⟩ := World.cells?_some k1
             refine ⟨cs', sh_of_trod n q e l cs' _ hl k2, by omega, fun j hj => ?_⟩
             have := k3 j (by omega)
             rw [addr_add, addr_add, h1] at this
             exact this
         ·simp at h
     | array m e =>
       simp only [hu] at h
       cases hl : shAt P n e with
       | none => simp [hl] at h
       | some l =>
         simp only [hl] at h
         split at h
         ·rename_i hc
          obtain ⟨h1, h2⟩ := hc
          simp at h
          subst h
          obtain ⟨xs, q, rfl, _, hcl, hxl, hi⟩ := DataW.trod_array hu hd
          refine sh_chunks l m cs (by rw [hcl, h2]) (fun i hlt => ?_)
          have := hi i hlt
          rw [h1] at this
          exact sh_of_trod n q e l _ xs[i] hl (this.trans (List.getElem?_eq_getElem (by omega)))
         ·simp at h
     | struct fs =>
       simp only [hu] at h
       cases hf : shFields P (shAt P n) fs.toList 0 with
       | none => simp [hf] at h
       | some l =>
         simp only [hf] at h
         split at h
         ·rename_i hc
          simp at h
          subst h
          obtain ⟨xs, q, rfl, _, hcl, hxl, hi⟩ := DataW.trod_struct hu hd
          have := sh_fields (n := q) (g := shAt P n) (fun t ks cs x ht hx => sh_of_trod n q t ks cs x ht hx) fs.toList 0 l cs xs hf (by simpa using hxl) (fun i f hf' => hi i f (by simpa using hf')) (by omega)
          simpa using this
         ·simp at h
     | _ => simp [hu] at h
end
theorem sh_i {k : IntKind} {ss : List Sh} {c : List Value} (h : ShOKs w (.i k :: ss) c) : ∃ x c', c = .int k x :: c' /\ InK k x /\ ShOKs w ss c' := by
 obtain ⟨v, t, rfl, ⟨x, rfl, hx⟩, h2⟩ := h
 exact ⟨x, t, rfl, hx, h2⟩
theorem sh_b {ss : List Sh} {c : List Value} (h : ShOKs w (.b :: ss) c) : ∃ x c', c = .bool x :: c' /\ ShOKs w ss c' := by
 obtain ⟨v, t, rfl, ⟨x, rfl⟩, h2⟩ := h
 exact ⟨x, t, rfl, h2⟩
theorem sh_e {c : List Value} (h : ShOKs w [] c) : c = [] := h
theorem sh_r {k : IntKind} : ∀ (n : Nat) {ss : List Sh} {c : List Value}, ShOKs w (List.replicate n (.i k) ++ ss) c -> ∃ xs c', c = intCells k n xs ++ c' /\ xs.length = n /\ (∀ x ∈ xs, InK k x) /\ ShOKs w ss c'
 | 0, ss, c, h => ⟨[], c, by simp [intCells], rfl, by simp, by simpa using h⟩
 | n + 1, ss, c, h => by
   obtain ⟨x, c1, rfl, hx, h1⟩ := sh_i (ss := List.replicate n (.i k) ++ ss) h
   obtain ⟨xs, c2, rfl, hl, hr, h2⟩ := sh_r n h1
   refine ⟨x :: xs, c2, ?_, by simp [hl], ?_, h2⟩
   ·simp [intCells, List.range_succ_eq_map, Function.comp_def]
   ·intro y hy
    rcases List.mem_cons.mp hy with rfl | hy
    ·exact hx
    ·exact hr y hy
theorem sh_rd {k : IntKind} {ss : List Sh} {c : List Value} (h : ShOKs w (.l 1 [.i k] :: ss) c) : ∃ v xs c', c = v :: c' /\ Reads w (fun _ => False) k v xs /\ (∀ x ∈ xs, InK k x) /\ xs.length <= maxLen /\ ShOKs w ss c' := by
 obtain ⟨v, t, rfl, h1, h2⟩ := h
 rcases h1 with ⟨a, cap, rfl, hn⟩ | ⟨b, off, len, cap, rfl, hle, hmx, hb, hx⟩
 ·exact ⟨_, [], t, rfl, .inl ⟨a, cap, rfl, rfl, hn⟩, by simp, by simp, h2⟩
 ·have : ∀ e, ∃ x : Int, e < len -> w.cell? ⟨b, off + e, none⟩ = some (.int k x) /\ InK k x := by
   intro e
   by_cases he : e < len
   ·obtain ⟨cs, g1, g2, g3⟩ := hx e he
    obtain ⟨x, c', rfl, hi, _⟩ := sh_i g1
    have := g3 0 (by omega)
    exact ⟨x, fun _ => ⟨by simpa using this, hi⟩⟩
   ·exact ⟨0, fun h => absurd h he⟩
  obtain ⟨f, hf⟩ := Classical.axiomOfChoice this
  refine ⟨_, (List.range len).map f, t, rfl, .inr ⟨b, off, cap, by simp, by simpa using hle, hb, id, fun j hj => ?_⟩, ?_, ?_, h2⟩
  ·have hj : j < len := by simpa using hj
   rw [(hf j hj).1]
   simp [List.getD, hj]
  rotate_left
  ·simp; omega
  ·intro x hx
   simp only [List.mem_map, List.mem_range] at hx
   obtain ⟨j, hj, rfl⟩ := hx
   exact (hf j hj).2
theorem sh_rs {sz : Nat} {es ss : List Sh} {c : List Value} (h : ShOKs w (.l sz es :: ss) c) (hsz : es.length = sz) : ∃ v n f c', c = v :: c' /\ ReadsS w (fun _ => False) sz v n f /\ (∀ e, e < n -> ShOKs w es (f e)) /\ n <= maxLen /\ ShOKs w ss c' := by
 obtain ⟨v, t, rfl, h1, h2⟩ := h
 rcases h1 with ⟨a, cap, rfl, hn⟩ | ⟨b, off, len, cap, rfl, hle, hmx, hb, hx⟩
 ·exact ⟨_, 0, fun _ => [], t, rfl, ⟨fun e he => by omega, .inl ⟨a, cap, rfl, rfl, hn⟩⟩, fun e he => by omega, by omega, h2⟩
 ·have : ∀ e, ∃ cs : List Value, e < len -> ShOKs w es cs /\ cs.length = sz /\ ∀ j, j < sz -> w.cell? ⟨b, off + e * sz + j, none⟩ = cs[j]? := by
   intro e
   by_cases he : e < len
   ·obtain ⟨cs, g⟩ := hx e he; exact ⟨cs, fun _ => g⟩
   ·exact ⟨[], fun h => absurd h he⟩
  obtain ⟨f, hf⟩ := Classical.axiomOfChoice this
  refine ⟨_, len, f, t, rfl, ⟨fun e he => (hf e he).2.1, .inr ⟨b, off, cap, rfl, hle, hb, id, fun e he j hj => ?_⟩⟩, fun e he => (hf e he).1, by omega, h2⟩
  obtain ⟨_, g2, g3⟩ := hf e he
  rw [g3 j hj, List.getD_eq_getElem?_getD, List.getElem?_eq_getElem (by omega)]
  rfl
theorem ReadsS.as {F : Nat -> Prop} {sz n : Nat} {v : Value} {f g : Nat -> List Value} (h : ReadsS w F sz v n f) (he : ∀ e, e < n -> f e = g e) : ReadsS w F sz v n g := by
 refine ⟨fun e hl => by rw [<- he e hl]; exact h.1 e hl, ?_⟩
 rcases h.2 with h2 | ⟨b, off, cap, h1, h0, h2, h3, h4⟩
 ·exact .inl h2
 ·exact .inr ⟨b, off, cap, h1, h0, h2, h3, fun e hl j hj => by rw [<- he e hl]; exact h4 e hl j hj⟩
end Sx
section
variable {H : Type} {enc : TypeId × Value -> H} {P : Program} {w : World} {base : Nat} {spare : Nat -> Bool} {held : Bool}
theorem open_agg {r : Reach} {b0 n : Nat} {t : TypeId} {ks : List Sx.Sh} {v : Value} {d : DataW H} {p : List MemPlace} (ha : isAggT P t = true) (hk : Sx.shAt P n t = some ks)
  (hv : Value.okWide P w r b0 t v) (h : DataW.Trod enc P w base spare held t v d p) : ∃ cs : List Value, v = .agg cs.toArray /\ Sx.ShOKs w ks cs := by
 obtain ⟨cs, rfl⟩ : ∃ cs, v = .agg cs := by
  unfold Value.okWide at hv
  unfold isAggT at ha
  split at hv
  ·obtain ⟨cs, h, _⟩ := hv; exact ⟨cs, h⟩
  ·obtain ⟨cs, h, _⟩ := hv; exact ⟨cs, h⟩
  ·split at ha <;> simp_all
 obtain ⟨fuel, hf⟩ := h
 exact ⟨cs.toList, by simp, Sx.sh_of_trod n fuel t ks _ _ hk hf⟩
end
end
section
namespace Sx
variable {P : Program}
theorem PureSem.soft {f : FuncId} {args : List SV} {v : SV} (h : PureSem P f args v) (ho : ∀ W F n, okdL W F n args) : PureSem P f (softL args) v := by
 intro W F ρ rows w hm _
 have := h W F ρ rows w hm (ho W F _)
 rwa [softL_den]
theorem PureSem.closeb {f : FuncId} {args : List SV} {b : Bool} (h : PureSem P f args (.bool b)) : PureSem P f args (bif b then .litb true else .litb false) := by
 intro W F ρ rows w hm ho
 obtain ⟨_, _, g⟩ := h W F ρ rows w hm ho
 cases b
 ·exact ⟨trivial, (fun h => by cases h), g⟩
 ·exact ⟨trivial, (fun h => by cases h), g⟩
theorem PureSem.as {f : FuncId} {args : List SV} {v v' : SV} (h : PureSem P f args v) (e : v = v') : PureSem P f args v' := e ▸ h
end Sx
end
section
namespace Sx
def catA (g : DataW Unit -> Option (List Value)) (c : Nat) : List (DataW Unit) -> Option (List Value)
 | [] => some []
 | d :: ds => match g d with
   | some l => if l.length = c then (catA g c ds).map (l ++ ·) else none
   | none => none
def catF (g : TypeId -> DataW Unit -> Option (List Value)) (sz : TypeId -> Nat) : List Field -> List (DataW Unit) -> Nat -> Option (List Value)
 | [], [], _ => some []
 | f :: fs, d :: ds, off => match g f.type d with
   | some l => if f.offset = off /\ sz f.type = l.length then (catF g sz fs ds (off + l.length)).map (l ++ ·) else none
   | none => none
 | _, _, _ => none
def dataCells (P : Program) : Nat -> TypeId -> DataW Unit -> Option (List Value)
 | 0, _, _ => none
 | n + 1, t, d =>
   match P.underlying t, d with
   | some .bool, .lit (.bool b) => some [.bool b]
   | some (.int k), .lit (.int k' z) => if k' = k then some [.int k z] else none
   | some .string, .lit (.string bs) => some [.string ⟨bs.toArray⟩]
   | some (.struct fs), .agg ds => (catF (dataCells P n) P.cellsOf fs.toList ds 0).bind fun l => if P.cellsOf t = l.length then some l else none
   | some (.array m e), .agg ds => if ds.length = m /\ P.cellsOf t = m * P.cellsOf e then catA (dataCells P n e) (P.cellsOf e) ds else none
   | _, _ => none
theorem catA_ok {g : DataW Unit -> Option (List Value)} {c : Nat} : ∀ {ds : List (DataW Unit)} {cs vs : List Value}, cs.length = ds.length * c -> (∀ i d l, ds[i]? = some d -> g d = some l -> (cs.drop (i * c)).take c = l) -> catA g c ds = some vs -> cs = vs
 | [], cs, vs, hl, hk, h => by
   simp [catA] at h; subst h
   simpa using hl
 | d :: ds, cs, vs, hl, hk, h => by
   simp only [catA] at h
   split at h
   ·rename_i l hg
    split at h
    ·rename_i hlen
     obtain ⟨r, hr, rfl⟩ := Option.map_eq_some_iff.1 h
     have h0 := hk 0 d l rfl hg
     simp only [Nat.zero_mul, List.drop_zero] at h0
     have h1 : cs.drop c = r := by
      refine catA_ok (ds := ds) (by simp [hl, Nat.add_mul]) (fun i d' l' hd hl' => ?_) hr
      have := hk (i + 1) d' l' (by simpa using hd) hl'
      rw [List.drop_drop]
      rw [Nat.add_mul, Nat.one_mul, Nat.add_comm] at this
      exact this
     rw [<- h0, <- h1, List.take_append_drop]
    ·cases h
   ·cases h
theorem catF_ok {g : TypeId -> DataW Unit -> Option (List Value)} {sz : TypeId -> Nat} {all : List Value} : ∀ {fs : List Field} {ds : List (DataW Unit)} {off : Nat} {vs : List Value}, (∀ (i : Nat) (f : Field) (d : DataW Unit) (l : List Value), fs[i]? = some f -> ds[i]? = some d -> g f.type d = some l -> (all.drop f.offset).take (sz f.type) = l) -> catF g sz fs ds off = some vs -> (all.drop off).take vs.length = vs
 | [], [], off, vs, hk, h => by simp [catF] at h; subst h; simp
 | [], _ :: _, off, vs, hk, h => by simp [catF] at h
 | _ :: _, [], off, vs, hk, h => by simp [catF] at h
 | f :: fs, d :: ds, off, vs, hk, h => by
   simp only [catF] at h
   split at h
   ·rename_i l hg
    split at h
    ·rename_i hf
     obtain ⟨r, hr, rfl⟩ := Option.map_eq_some_iff.1 h
     have h0 := hk 0 f d l rfl rfl hg
     rw [hf.1, hf.2] at h0
     have h1 := catF_ok (all := all) (fs := fs) (ds := ds) (fun i f' d' l' a b c => hk (i + 1) f' d' l' (by simpa using a) (by simpa using b) c) hr
     rw [List.length_append, List.take_add, List.drop_drop, h0, h1]
    ·cases h
   ·cases h
theorem dataCells_ok {P : Program} {w : World} {base : Nat} {spare : Nat -> Bool} {held : Bool} : ∀ (n : Nat) {fuel : Nat} {t : TypeId} {cs vs : List Value} {d : DataW Unit} {p : List MemPlace},
  DataW.trod (fun _ => ()) P w base spare held fuel t cs = some (d, p) -> dataCells P n t d = some vs -> cs = vs
 | 0, fuel, t, cs, vs, d, p, h, hd => by simp [dataCells] at hd
 | n + 1, fuel, t, cs, vs, d, p, h, hd => by
   simp only [dataCells] at hd
   split at hd
   ·rename_i b hu
    cases hd
    cases fuel with
    | zero => simp [DataW.trod] at h
    | succ m =>
      unfold DataW.trod at h
      rw [hu] at h
      split at h <;> simp_all
   ·rename_i k k' z hu
    split at hd
    ·rename_i hk
     cases hd
     subst hk
     obtain ⟨z', rfl, hx, _⟩ := DataW.trod_int hu h
     cases hx; rfl
    ·cases hd
   ·rename_i bs hu
    cases hd
    obtain ⟨s, rfl, hx, _⟩ := DataW.trod_string hu h
    cases hx
    simp
   ·rename_i fs ds hu
    obtain ⟨l, hl, hd⟩ := Option.bind_eq_some_iff.1 hd
    split at hd
    ·rename_i hsz
     cases hd
     obtain ⟨xs, m, rfl, hx, hlen, hxs, hk⟩ := DataW.trod_struct hu h
     cases hx
     have := catF_ok (all := cs) (fun i f d' l' hf hd' hl' => ?_) hl
     ·rw [<- hlen.trans hsz] at this
      simpa using this
     ·simp only [List.getElem?_map, Option.map_eq_some_iff] at hd'
      obtain ⟨⟨y, q⟩, hy, rfl⟩ := hd'
      have hki := hk i f (by simpa using hf)
      rw [hy] at hki
      exact dataCells_ok n hki hl'
    ·cases hd
   ·rename_i m e ds hu
    split at hd
    ·rename_i hm
     obtain ⟨xs, k, rfl, hx, hlen, hxs, hk⟩ := DataW.trod_array hu h
     cases hx
     refine catA_ok (by rw [hlen, hm.2]; simp [hxs]) (fun i d' l' hd' hl' => ?_) hd
     simp only [List.getElem?_map, Option.map_eq_some_iff] at hd'
     obtain ⟨⟨y, q⟩, hy, rfl⟩ := hd'
     have hki := hk i (by rw [<- hxs]; exact (List.getElem?_eq_some_iff.1 hy).1)
     rw [hy] at hki
     exact dataCells_ok n hki hl'
    ·cases hd
   ·cases hd
theorem laid_vars {P : Program} {W : World} {name : String} {d : DataW Unit} {g : Nat} {t : TypeId} {cs : List SV} (hg : P.globalNamed name = some g) (ht : (P.globals[g]?).map (·.type) = some t) (hd : dataCells P 8 t d = some (cellsL Num.zero cs)) :
  ∀ {laid : List (String × DataW Unit)} {ps : List MemPlace}, DataW.LaidVars P W laid ps -> (name, d) ∈ laid -> ∃ (c : Array Value) (ty : TypeId) (fr : Nat × Nat), W.heap[g]? = some (.cells c ty fr) /\ c.toList = cellsL Num.zero cs
 | [], ps, _, hm => by cases hm
 | (n', d') :: r, ps, hps, hm => by
   obtain ⟨g', t', c', fuel, p, q, k1, k2, k3, k4, k5, _⟩ := hps
   rcases List.mem_cons.1 hm with hx | hm
   ·cases hx
    obtain rfl := Option.some.inj (hg.symm.trans k1)
    obtain rfl := Option.some.inj (ht.symm.trans k2)
    have := dataCells_ok 8 k4 hd
    unfold World.var? at k3
    rw [hg] at k3
    simp only [Option.bind_some] at k3
    split at k3
    ·rename_i c0 ty fr hb
     cases k3
     exact ⟨_, ty, fr, hb, this⟩
    ·cases k3
   ·exact laid_vars hg ht hd k5 hm
theorem laid_glob {P : Program} {W : World} {laid : List (String × DataW Unit)} {name : String} {d : DataW Unit} {g : Nat} {t : TypeId} {cs : List SV} (h : laidMet P laid W) (hm : (name, d) ∈ laid) (hg : P.globalNamed name = some g) (ht : (P.globals[g]?).map (·.type) = some t) (hd : dataCells P 8 t d = some (cellsL Num.zero cs)) :
  ∃ (c : Array Value) (ty : TypeId) (fr : Nat × Nat), W.heap[g]? = some (.cells c ty fr) /\ c.toList = cellsL Num.zero cs := by
 obtain ⟨ps, hps, _⟩ := h
 exact laid_vars hg ht hd hps hm
def GlobL (W : World) : List (Nat × List SV) -> Prop
 | [] => True
 | (g, cs) :: r => (∃ (c : Array Value) (ty : TypeId) (fr : Nat × Nat), W.heap[g]? = some (.cells c ty fr) /\ c.toList = cellsL Num.zero cs) /\ GlobL W r
theorem GlobL.globs {W : World} : ∀ {l : List (Nat × List SV)}, GlobL W l -> ∀ g cs, List.lookup g l = some cs -> ∃ (c : Array Value) (ty : TypeId) (fr : Nat × Nat), W.heap[g]? = some (.cells c ty fr) /\ c.toList = cellsL Num.zero cs
 | [], _, g, cs, h => by simp at h
 | (g', cs') :: r, hl, g, cs, h => by
   rw [lookup_cons] at h
   by_cases hg : g = g'
   ·simp [hg] at h; subst h hg; exact hl.1
   ·simp [hg] at h; exact hl.2.globs g cs h
theorem globs_of {W : World} (h : GlobL W globs) : Globs W fun _ => False := fun g cs hl => ⟨id, h.globs g cs hl⟩
end Sx
end
namespace Sx
theorem All.i {ps : List Prop} (hp : All ps) (i : Nat) {p : Prop} (h : ps[i]? = some p := by rfl) : p := hp _ (List.mem_of_getElem? h)
end Sx
end Go.Proofs.YtimjnajdpccjdaaDoor
