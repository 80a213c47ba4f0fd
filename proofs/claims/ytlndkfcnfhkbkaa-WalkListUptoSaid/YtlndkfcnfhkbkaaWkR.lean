/- A loop over an iterator that changes memory below the loop's own: the law. No condition. -/
import Derived.Test.YtlndkfcnfhkbkaaWkQ
import Derived.RangeFuncNested
import Derived.RangeFuncLeaves
import Derived.RangeFuncBox
import Derived.Shelf.Abstract
import Derived.WalkKit
import Derived.OwnWalkIn
import Derived.TacticsInMore
import Derived.LoopNIn
import Derived.LoopIn
namespace Go.Proofs.Ytlndkfcnfhkbkaa
open Go.RowKit Sx Go.Shelf
set_option linter.unusedVariables false
set_option linter.unusedSimpArgs false
set_option maxRecDepth 100000
set_option maxHeartbeats 4000000
abbrev MR (ps qs : List (List Int)) (m : Int) : Sx.Rows := [some ⟨181, [], 0, some (.own (.mem ps qs m))⟩]
structure MemAt (ne a0 : Nat) (ps qs : List (List Int)) (m : Int) (G : Nat → Prop) (W : World) : Prop where
  mem : ∃ ρ : Num, (ρ 0).1 = a0 ∧ MemOK W G ρ (MR ps qs m) W
  lt : ∀ y, G y → y < W.heap.size
  gl : ∀ g cs, List.lookup g globs = some cs → g < ne
theorem MemAt.of {W w : World} {F : Nat → Prop} {ρ : Num} {ps qs : List (List Int)} {m : Int} {ne : Nat} (hm : MemOK W F ρ (MR ps qs m) w) (hg : ∀ g cs, List.lookup g globs = some cs → g < ne) :
    MemAt ne (ρ 0).1 ps qs m (fun y => (F y ∨ W.heap.size ≤ y) ∧ y < w.heap.size) w := by
  refine ⟨⟨ρ, rfl, ⟨Frm.refl _ _, fun g cs h => ?_, fun i r hi => ?_, hm.inj, fun i r hi hh => .inl ⟨hm.mine i r hi hh, hm.lt hi hh⟩, ?_⟩⟩, fun y h => h.2, hg⟩
  · obtain ⟨h1, c, ty, fr, h2, h3⟩ := hm.glob g cs h
    have hlt := (Array.getElem?_eq_some_iff.1 h2).1
    refine ⟨fun h => ?_, c, ty, fr, by rw [hm.frame.block g hlt h1]; exact h2, h3⟩
    rcases h.1 with h | h
    · exact h1 h
    · omega
  · obtain ⟨c1, _⟩ := hm.row i r hi
    rcases i with _ | i
    · cases hi; exact ⟨c1, trivial⟩
    · simp at hi
  · obtain ⟨φ, hφ⟩ := hm.obs
    refine ⟨φ, fun i r x hi hx => ?_⟩
    obtain ⟨k1, k2⟩ := hφ i r x hi hx
    refine ⟨k1, fun y hy => ?_⟩
    obtain ⟨m1, m2, m3⟩ := k2 y hy
    exact ⟨m1, .inl ⟨m2, m1⟩, m3⟩
theorem MemAt.keep {ne a0 : Nat} {ps qs : List (List Int)} {m : Int} {G : Nat → Prop} {W W' : World} (h : MemAt ne a0 ps qs m G W) (hk : ∀ k, G k → W'.heap[k]? = W.heap[k]?) (hs : W.heap.size ≤ W'.heap.size) (hb : ∀ k, k < ne → W'.heap[k]? = W.heap[k]?) : MemAt ne a0 ps qs m G W' := by
  obtain ⟨⟨ρ, h0, hm⟩, hlt, hg⟩ := h
  refine ⟨⟨ρ, h0, ⟨Frm.refl _ _, fun g cs hl => ?_, fun i r hi => ?_, hm.inj, fun i r hi hh => ?_, ?_⟩⟩, fun y hy => Nat.lt_of_lt_of_le (hlt y hy) hs, hg⟩
  · obtain ⟨h1, c, ty, fr, h2, h3⟩ := hm.glob g cs hl
    exact ⟨h1, c, ty, fr, by rw [hb g (hg g cs hl)]; exact h2, h3⟩
  · obtain ⟨c1, _⟩ := hm.row i r hi
    rcases i with _ | i
    · cases hi
      exact ⟨c1.map rfl rfl rfl rfl (fun hh => by have := hh.1; cases this) (fun _ h => h), trivial⟩
    · simp at hi
  · rcases i with _ | i
    · cases hi; have := hh.1; cases this
    · simp at hi
  · obtain ⟨φ, hφ⟩ := hm.obs
    refine ⟨φ, fun i r x hi hx => ?_⟩
    obtain ⟨k1, k2⟩ := hφ i r x hi hx
    have inG : ∀ y, φ i y → G y := fun y hy => by
      obtain ⟨m1, m2, _⟩ := k2 y hy
      rcases m2 with h | h
      · exact h
      · omega
    refine ⟨Ob_loc k1 fun y hy => hk y (inG y hy), fun y hy => ?_⟩
    obtain ⟨m1, m2, m3⟩ := k2 y hy
    exact ⟨Nat.lt_of_lt_of_le m1 hs, .inl (inG y hy), m3⟩
theorem MemAt.call {ne a0 : Nat} {ps qs : List (List Int)} {m m' : Int} {G : Nat → Prop} {W : World} {f : FuncId} {args : List SV} {res : SV} (h : MemAt ne a0 ps qs m G W) (hs : SemCall Try.prog f args (MR ps qs m) (AltK [⟨none, res, MR ps qs m'⟩]))
    (ho : ∀ W G, okdL W G 1 args) (hr : ∀ ρ ρ' : Num, den ρ res = den ρ' res) (ha : ∀ ρ : Num, (ρ 0).1 = a0 → denL ρ args = denL (fun _ => (a0, 0)) args) :
    Calls Try.prog f (denL (fun _ => (a0, 0)) args).toArray W fun e W' => e = .returned (den (fun _ => (a0, 0)) res) ∧ Frm G W W' ∧ ∃ G', MemAt ne a0 ps qs m' G' W' ∧ ∀ y, G' y → G y ∨ W.heap.size ≤ y := by
  obtain ⟨⟨ρ, h0, hm⟩, hlt, hg⟩ := h
  rw [← ha ρ h0]
  refine (hs W G ρ W hm (ho W G)).mono ?_
  rintro e W' ⟨ρ', r, rows', ⟨x, hx, _, rfl, rfl⟩, rfl, _, hm', _, hρ⟩
  obtain rfl := List.mem_singleton.1 hx
  have e0 : (ρ' 0).1 = a0 := by rw [hρ 0 (by simp)]; exact h0
  refine ⟨by rw [hr], hm'.frame, _, e0 ▸ MemAt.of hm' hg, fun y hy => hy.1⟩
def SeqM {α : Type} (F : Fence) (n : Nat) (P : Program) (g : Nat) (lb : Array Value) (encs : α → Array Value) (ne a0 : Nat) (ps qs : List (List Int)) (m0 : Int) (St : (Nat → Prop) → World → Prop) (Kp : World → World → Prop) (S : List α → Int → Prop) (N : Nat) (w : World) : Prop :=
  ∀ (l : Nat) (J : (Nat → Prop) → List α → World → Prop) (W : World) (G0 : Nat → Prop), Below w.heap.size w W →
    (∀ G s A B, J G s A → Below A.heap.size A B → J G s B) → (∀ G G' s A B, J G s A → Frm G A B → (∀ y, G' y → G y ∨ A.heap.size ≤ y) → J G' s B) →
    (∀ G pre x W1, J G pre W1 → (∀ y, G y → y < W1.heap.size) → pre.length < N → YieldAt F (n - 1) P l (encs x) W1 fun e W' => e = .returned (.bool true) ∧ J G (pre ++ [x]) W' ∧ Kp W1 W' ∧ ∀ k, G k → W'.heap[k]? = W1.heap[k]?) →
    J G0 [] W → MemAt ne a0 ps qs m0 G0 W → St G0 W → CallsIn F n P g (#[.func (.yield l) #[] #[]] ++ lb) W fun e W' => (∃ v, e = .returned v) ∧ ∃ xs m' G', S xs m' ∧ J G' xs W' ∧ MemAt ne a0 ps qs m' G' W'
theorem wpIn_rangeFunc_M {F : Fence} {n : Nat} {P : Program} {α : Type} {g : Operand} {pt : Array Tmp} {assign body : Code} {Q : Exit → Act → World → Prop} {a : Act} {w : World}
    (hro : F.round = none) (h1 : 1 ≤ n) {gf : Nat} {lb : Array Value} (hg : a.eval g = .func (.func gf) #[] lb) (hFg : F.fn gf) (eg : ∀ args w, (callFunc gf args).run P w = .ok (.enter gf args) w)
    {encs : α → Array Value} {ne a0 : Nat} {ps qs : List (List Int)} {m0 : Int} {St : (Nat → Prop) → World → Prop} {Kp : World → World → Prop} {S : List α → Int → Prop} {N : Nat} {w0 : World} (hseq : SeqM F (n - 1) P gf lb encs ne a0 ps qs m0 St Kp S N w0)
    (hKt : ∀ {A B C : World}, Kp A B → Kp B C → Kp A C) (hKb : ∀ (W : World) (l : Nat) (o o' : Obj), w.heap.size ≤ l → W.heap[l]? = some o → o.isCells = false → Kp W (W.putObj l o')) (hb0 : Below w0.heap.size w0 w) (hps : ∀ x, (encs x).size = pt.size)
    (hne : ne ≤ w.heap.size) {G0 : Nat → Prop} (hm0 : MemAt ne a0 ps qs m0 G0 w) (hst : ∀ W, Below w.heap.size w W → St G0 W)
    (I : (Nat → Prop) → List α → World → Prop) (hI : ∀ G, OwnFrom w.heap.size (I G)) (hI1 : ∀ G s A B, I G s A → Below A.heap.size A B → I G s B) (hI2 : ∀ G G' s A B, I G s A → Frm G A B → (∀ y, G' y → G y ∨ A.heap.size ≤ y) → I G' s B) (h0 : I G0 [] w)
    (Ax : α → Act → World → Prop) (hAx : ∀ x a', OwnFrom w.heap.size (fun (_ : Unit) W => Ax x a' W))
    (hassign : ∀ (l : Nat) (G : Nat → Prop) (pre : List α) (x : α) (W : World) (K : Act → World → Prop), I G pre W → (∀ y, G y → y < W.heap.size) → (∀ a' W', KeepsFrom w.heap.size W W' → Kp W W' → (∀ k, G k → W'.heap[k]? = W.heap[k]?) → I G pre W' → Ax x a' W' → K a' W') →
      assign.wpIn (F.inRound l) (n - 1 - 1) P (Exit.then K (fun _ _ _ => False)) { tmps := (pt.zip (encs x)).foldl (fun t (p, v) => t.setIfInBounds p v) a.tmps, defers := [] } W)
    (hbody : ∀ (l : Nat) (G : Nat → Prop) (pre : List α) (x : α) (a' : Act) (W : World), w.heap.size ≤ l → (∃ r, W.heap[l]? = some (.loop r)) → I G pre W → (∀ y, G y → y < W.heap.size) → Ax x a' W → pre.length < N →
      body.wpIn (F.inRound l) (n - 1 - 1) P (ownPostG w.heap.size (fun A B => Kp A B ∧ ∀ k, G k → B.heap[k]? = A.heap[k]?) (I G) (fun _ _ _ => False) (pre ++ [x]) W) a' W)
    (hdone : ∀ (D : Nat) (xs : List α) (m' : Int) (G' : Nat → Prop) (W : World), w.heap.size ≤ D → ¬ G' D → S xs m' → I G' xs W → MemAt ne a0 ps qs m' G' W → W.heap[D]? = some (.deferred (some [])) → Q .normal { a with defers := { target := .collected D, args := #[] } :: a.defers } W) :
    (Code.rangeFunc g pt assign body).wpIn F n P Q a w := by
  refine wpIn_rangeFunc ?_
  intro fn hfn
  rw [hro]
  obtain ⟨rec, hrec⟩ : ∃ rec : LoopState → Option Code → Loop, rec = fun st pe => { state := st, pending := pe, fn, tmps := a.tmps, params := pt, assign, body, defers := w.heap.size } := ⟨_, rfl⟩
  obtain ⟨W1, hW1⟩ : ∃ W1, (w.alloc (.deferred (some []))).alloc (.loop (rec .ready none)) = W1 := ⟨_, rfl⟩
  have hL1 : W1.heap[w.heap.size + 1]? = some (.loop (rec .ready none)) := by
    rw [← hW1]; have := World.alloc_heap_new (w.alloc (.deferred (some []))) (.loop (rec .ready none)); rwa [World.size_alloc] at this
  have hK1 : W1.heap[w.heap.size]? = some (.deferred (some [])) := by
    rw [← hW1]; exact (Below.heap_alloc _ _ _ (by simp)).trans (World.alloc_heap_new w _)
  have hbw : Below w.heap.size w W1 := by
    rw [← hW1]; exact ((Below.refl _ w).alloc (Nat.le_refl _) _).alloc (by simp) _
  have hI0 : I G0 [] W1 := hI1 _ _ _ _ h0 hbw
  have hnG : ∀ k, w.heap.size ≤ k → ¬ G0 k := fun k hk h => by have := hm0.lt k h; omega
  have hb1 : Below w0.heap.size w0 W1 := by
    rw [← hW1]; exact hb0.trans ((((Below.refl _ w).alloc (Nat.le_refl _) _).alloc (by simp) _).mono hb0.size)
  refine ⟨w.heap.size + 1, [{ target := .collected w.heap.size, args := #[] }], W1, { target := .fn (.func gf) lb, args := #[.func (.yield (w.heap.size + 1)) #[] #[]] }, W1, gf,
    #[.func (.yield (w.heap.size + 1)) #[] #[]] ++ lb, W1, ?_, ?_, ?_, ?_, fun _ => h1, ?_⟩
  · rw [← hW1, hrec]; exact run_enterLoop_outer _ _ _ _ _
  · simp only [resolve, hg]
    simp [go_sem]
  · intro f' hf'; simp [Target.leads] at hf'; subst hf'; exact hFg
  · simp [invoke, go_sem, eg]
  · refine (hseq (w.heap.size + 1)
      (fun G pre W => I G pre W ∧ (W.heap[w.heap.size + 1]? = some (.loop (rec .ready none)) ∧ ¬ G (w.heap.size + 1)) ∧ (W.heap[w.heap.size]? = some (.deferred (some [])) ∧ ¬ G w.heap.size))
      W1 G0 hb1
      (fun G s A B hs hab => ⟨hI1 G s A B hs.1 hab, ⟨by rw [hab.block _ (Array.getElem?_eq_some_iff.1 hs.2.1.1).1]; exact hs.2.1.1, hs.2.1.2⟩, by rw [hab.block _ (Array.getElem?_eq_some_iff.1 hs.2.2.1).1]; exact hs.2.2.1, hs.2.2.2⟩)
      (fun G G' s A B hs hab hG => by
        have k1 := (Array.getElem?_eq_some_iff.1 hs.2.1.1).1
        have k2 := (Array.getElem?_eq_some_iff.1 hs.2.2.1).1
        refine ⟨hI2 G G' s A B hs.1 hab hG, ⟨by rw [hab.block _ k1 hs.2.1.2]; exact hs.2.1.1, fun h => ?_⟩, by rw [hab.block _ k2 hs.2.2.2]; exact hs.2.2.1, fun h => ?_⟩
        · rcases hG _ h with h | h
          · exact hs.2.1.2 h
          · omega
        · rcases hG _ h with h | h
          · exact hs.2.2.2 h
          · omega)
      ?_ ⟨hI0, ⟨hL1, hnG _ (by omega)⟩, hK1, hnG _ (Nat.le_refl _)⟩ (hm0.keep (fun k hk => hbw.block k (hm0.lt k hk)) hbw.size (fun k hk => hbw.block k (by omega))) (hst _ hbw)).mono ?_
    · rintro G pre x W ⟨hi, ⟨hl, hlG⟩, hk, hkG⟩ hGlt hlen
      have hlt : w.heap.size + 1 < W.heap.size := (Array.getElem?_eq_some_iff.1 hl).1
      have hy := run_yield (P := P) (args := encs x) hl (by rw [hrec]; exact hps x)
      rw [hrec] at hy
      refine ⟨fn, _, assign, body, hy, roundIn_of_wpIn hfn (hassign _ G pre x W _ hi hGlt ?_)⟩
      clear hy
      intro a' Wa hkfa hkpa hkga hia hax
      replace hl := hkfa.same _ _ (by omega) hl rfl
      replace hk := hkfa.same _ _ (Nat.le_refl _) hk rfl
      replace hlt : w.heap.size + 1 < Wa.heap.size := (Array.getElem?_eq_some_iff.1 hl).1
      replace hGlt : ∀ y, G y → y < Wa.heap.size := fun y hy => Nat.lt_of_lt_of_le (hGlt y hy) hkfa.size
      replace hi := hia
      clear hia
      revert hkpa hkfa hkga
      generalize W = Wb
      intro hkfa hkpa hkga
      obtain ⟨W, rfl⟩ : ∃ W, W = Wa := ⟨_, rfl⟩
      refine ⟨_, run_beginRound hl (by rw [hrec]), ?_⟩
      have hl2 : (W.putObj (w.heap.size + 1) (.loop { rec .ready none with state := .busy })).heap[w.heap.size + 1]? = some (.loop { rec .ready none with state := .busy }) := World.putObj_heap_same hlt
      have hk2 : (W.putObj (w.heap.size + 1) (.loop { rec .ready none with state := .busy })).heap[w.heap.size]? = some (.deferred (some [])) := (World.putObj_heap_other (by omega)).trans hk
      have hw2 : Kp W (W.putObj (w.heap.size + 1) (.loop { rec .ready none with state := .busy })) := hKb _ _ _ _ (by omega) hl rfl
      have hg2 : ∀ k, G k → (W.putObj (w.heap.size + 1) (.loop { rec .ready none with state := .busy })).heap[k]? = W.heap[k]? := fun k hk => World.putObj_heap_other (fun e => hlG (by rw [← e]; exact hk))
      refine wpIn_mono (hbody _ G pre x a' _ (by omega) ⟨_, hl2⟩ ((hI G).putObj _ hi (by omega) hl rfl) (fun y hy => by simpa using hGlt y hy) ((hAx x a').putObj (s := ()) _ hax (by omega) hl rfl) hlen) ?_
      have fin : ∀ (jump : Option Code) (W3 : World), KeepsFrom w.heap.size (W.putObj (w.heap.size + 1) (.loop { rec .ready none with state := .busy })) W3 →
          (Instr.endRound (w.heap.size + 1) jump).run P W3 = .ok (.bool jump.isNone) (W3.putObj (w.heap.size + 1) (.loop (rec (if jump.isNone then .ready else .done) jump))) ∧
          W3.heap[w.heap.size + 1]? = some (.loop { rec .ready none with state := .busy }) ∧
          (W3.putObj (w.heap.size + 1) (.loop (rec (if jump.isNone then .ready else .done) jump))).heap[w.heap.size + 1]? = some (.loop (rec (if jump.isNone then .ready else .done) jump)) ∧
          (W3.putObj (w.heap.size + 1) (.loop (rec (if jump.isNone then .ready else .done) jump))).heap[w.heap.size]? = some (.deferred (some [])) := fun jump W3 hk3 => by
        have hl3 := hk3.same _ _ (by omega) hl2 rfl
        have := run_endRound (P := P) jump hl3
        rw [hrec] at this ⊢
        exact ⟨this, by rw [hrec] at hl3; exact hl3, World.putObj_heap_same (Array.getElem?_eq_some_iff.1 hl3).1, (World.putObj_heap_other (by omega)).trans (hk3.same _ _ (Nat.le_refl _) hk2 rfl)⟩
      rintro e a3 W3 hp
      cases e with
      | normal =>
        obtain ⟨hk3, ⟨hkp3, hkg3⟩, hi3⟩ := hp
        obtain ⟨hr, hl3, hl4, hk4⟩ := fin none W3 hk3
        refine ⟨_, _, hr, rfl, ⟨(hI G).putObj _ hi3 (by omega) hl3 rfl, ⟨hl4, hlG⟩, hk4, hkG⟩, hKt hkpa (hKt (hKt hw2 hkp3) (hKb _ _ _ _ (by omega) hl3 rfl)), fun k hk => ?_⟩
        rw [World.putObj_heap_other (fun e => hlG (by rw [← e]; exact hk)), hkg3 k hk, hg2 k hk, hkga k hk]
      | ret => exact hp.2.elim
      | exit id => exact hp.2.elim
      | goto t => exact hp.2.elim
      | panic ch => exact hp.elim
      | outgrown => exact hp.elim
    · rintro e W2 ⟨⟨v, rfl⟩, xs, m', G', hS, ⟨hi, ⟨hl, hlG⟩, hk, hkG⟩, hE⟩
      refine ⟨none, _, by have := run_endLoop (P := P) hl (by rw [hrec]; simp); rw [hrec] at this; exact this, hdone _ xs m' G' _ (Nat.le_refl _) hkG hS ((hI G').putObj _ hi (by omega) hl rfl) (hE.keep (fun k hk => World.putObj_heap_other (fun e => hlG (by rw [← e]; exact hk))) (by simp) (fun k hk => World.putObj_heap_other (by omega))) ((World.putObj_heap_other (by omega)).trans hk)⟩
end Go.Proofs.Ytlndkfcnfhkbkaa
