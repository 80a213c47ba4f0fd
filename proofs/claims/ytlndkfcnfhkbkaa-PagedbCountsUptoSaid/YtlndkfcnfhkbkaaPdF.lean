/- The database's entries gone through one by one: the iterator's contract, Free. No condition beyond sizes. -/
import Derived.Test.YtlndkfcnfhkbkaaPdE
import Derived.RangeFuncNested
import Derived.RangeFuncLeaves
import Derived.Shelf.Abstract
import Derived.WalkKit
import Derived.OwnWalkIn
import Derived.TacticsInMore
import Derived.LoopNIn
import Derived.LoopIn
namespace Go.Proofs.Ytlndkfcnfhkbkaa
open Go.RowKit Sx Go.Shelf
set_option linter.unusedVariables false
set_option linter.unusedSimpArgs false
set_option maxRecDepth 100000
set_option maxHeartbeats 4000000
attribute [local go_sem] Oper.semAt_some
abbrev D3R (b : Int) (len L : Nat) (ps qs : List (List Int)) (m : Int) (ws : List Int) : Sx.Rows := [some ⟨205, [.ptr 1 0, .int .i64 b, .on 2 len false], 0, none⟩, some ⟨181, [], 0, some (.own (.mem ps qs m))⟩, some ⟨34, [.ints .u32 L ws], 1, none⟩]
abbrev RSA (A : Nat) (mp : Value) (b : Int) (vw : Value) (ws : List Int) : SV := .rsa 3 (.slice (some ⟨A, 0, none⟩) 1 1) 1 (fun _ => [.val mp, .int .i64 b, .rd .u32 vw ws]) 0 0
theorem db_reads {W w : World} {F : Nat → Prop} {ρ : Num} {b : Int} {len L : Nat} {ps qs : List (List Int)} {m : Int} {ws : List Int} (hm : MemOK W F ρ (D3R b len L ps qs m ws) w) (h : wfD len L b ps qs m ws) :
    okd w (fun _ => False) 0 (RSA (ρ 0).1 (.pointer (some ⟨(ρ 1).1, 0, none⟩)) b (listV (ρ 2) len false) ws) := by
  obtain ⟨l1, l2, l3, n1, n2, _⟩ := h
  have r0 := rowOf_block (b := 0) hm rfl
  have r2 := rowOf_block (b := 2) hm rfl
  have hh0 : Has ρ 0 ⟨205, [.ptr 1 0, .int .i64 b, .on 2 len false], 0, none⟩ := ⟨rfl, .inl rfl⟩
  rcases r0 with ⟨_, c0, q0, rest0, g1, g2, g3, g4, g5⟩ | ⟨hn, _⟩
  rotate_left
  · exact absurd hh0 hn
  rcases r2 with ⟨hh2, c2, q2, rest2, k1, k2, k3, k4, k5⟩ | ⟨hn, k3⟩
  rotate_left
  · have := k3.length
    simp [widthL, width] at this
    omega
  obtain ⟨t1, e1, f1⟩ := g3.one rfl
  obtain ⟨t2, e2, f2⟩ := f1.one rfl
  obtain ⟨t3, e3, f3⟩ := f2.one rfl
  have f3 : t3 = [] := f3
  subst f3 e3 e2 e1
  have g6 := g4 rfl
  subst g6
  obtain ⟨t4, e4, f4⟩ := k3
  have f4 : t4 = [] := f4
  subst f4 e4
  have hcap : (ρ 2).2 ≠ 0 := by rcases hh2.2 with h | h; cases h; exact h
  have hlen2 : c2.size = L + rest2.length := by rw [← Array.length_toList, k2]; simp [intCells_length]
  have hc2 := k5 (fun h => by cases h)
  simp only [Nat.mul_one] at hc2
  refine ⟨⟨⟨fun e he => rfl, .inr ⟨(ρ 0).1, 0, 1, rfl, Nat.le_refl _, (Array.getElem?_eq_some_iff.1 g1).1, id, fun e he j hj => ?_⟩⟩, fun e he => ⟨trivial, trivial, .inr ⟨(ρ 2).1, 0, (ρ 2).2, ?_, by omega, (Array.getElem?_eq_some_iff.1 k1).1, id, fun j hj => ?_⟩, trivial⟩⟩, by decide, by decide, by decide⟩
  · obtain rfl : e = 0 := by omega
    simp only [World.cell?, g1, Option.isSome_none, Bool.false_eq_true, if_false]
    have : c0[0 + 0 * 3 + j]? = c0.toList[j]? := by simp
    rw [this, g2]
    rcases (by omega : j = 0 ∨ j = 1 ∨ j = 2) with rfl | rfl | rfl <;> rfl
  · rw [listV_some hcap, l1, l3]
  · simp only [World.cell?, k1, Option.isSome_none, Bool.false_eq_true, if_false]
    have : c2[0 + j]? = c2.toList[j]? := by simp
    rw [this, k2, List.append_nil, List.getElem?_append_left (by rw [intCells_length]; omega), intCells_get _ _ _ _ (by omega)]
theorem frm_below {w w' : World} (h : Below w.heap.size w w') : Frm (fun _ => False) w w' := ⟨h.os, h.tape, h.output, h.size, fun k hk _ => h.block k hk⟩
noncomputable abbrev entV (ws : List Int) (p : Nat) : Value := .agg #[.int .i64 (gT ws p), .int .i64 (gO ws p), .int .i64 (gR ws p), .int .i64 (gS ws p), .bool (gN ws p)]
theorem pages_call {W w : World} {F : Nat → Prop} {ρ : Num} {b : Int} {len L : Nat} {ps qs : List (List Int)} {m : Int} {ws : List Int} (hm : MemOK W F ρ (D3R b len L ps qs m ws) w) (h : wfD len L b ps qs m ws) (n : Nat) :
    CallsIn Fence.wide n Try.prog 77 #[.pointer (some ⟨(ρ 0).1, 0, none⟩)] w fun e w' => e = .returned (.int .i64 (ps.length : Int)) ∧ Below w.heap.size w w' := by
  refine callsIn_wide.2 ((pure_law (PagesX_ok (.slice (some ⟨(ρ 0).1, 0, none⟩) 1 1) (.pointer (some ⟨(ρ 1).1, 0, none⟩)) b (listV (ρ 2) len false) ws (by have := h.l3; have := h.n2; omega)) w (by intro g cs hg; simp [Sx.globs] at hg) ⟨db_reads hm h, trivial⟩).mono ?_)
  rintro e w' ⟨rfl, hb⟩
  refine ⟨?_, hb⟩
  have : ((ws.length : Int).tdiv 2) = (ps.length : Int) := by rw [Int.tdiv_eq_ediv_of_nonneg (by omega), h.l3]; omega
  simp only [den, this]
theorem at_call {W w : World} {F : Nat → Prop} {ρ : Num} {b : Int} {len L : Nat} {ps qs : List (List Int)} {m : Int} {ws : List Int} (hm : MemOK W F ρ (D3R b len L ps qs m ws) w) (h : wfD len L b ps qs m ws) (n : Nat) (p : Nat) (hp : p < ps.length) :
    CallsIn Fence.wide n Try.prog 111 #[.pointer (some ⟨(ρ 0).1, 0, none⟩), .int .i64 (p : Int)] w fun e w' => e = .returned (entV ws p) ∧ Below w.heap.size w w' := by
  refine callsIn_wide.2 ((pure_law (atX_ok (.slice (some ⟨(ρ 0).1, 0, none⟩) 1 1) (.pointer (some ⟨(ρ 1).1, 0, none⟩)) b (listV (ρ 2) len false) ws p (by have := h.l3; have := h.n2; omega) (by omega) (by have := h.l3; omega) h.w1) w (by intro g cs hg; simp [Sx.globs] at hg) ⟨db_reads hm h, trivial, trivial⟩).mono ?_)
  rintro e w' ⟨rfl, hb⟩
  exact ⟨rfl, hb⟩
def KpB (n₀ bx : Nat) (A B : World) : Prop := Below n₀ A B ∧ B.heap[bx]? = A.heap[bx]?
theorem KpB.trans {n₀ bx : Nat} {A B C : World} (h : KpB n₀ bx A B) (k : KpB n₀ bx B C) : KpB n₀ bx A C := ⟨h.1.trans k.1, k.2.trans h.2⟩
theorem KpB.of {n₀ bx : Nat} {A B : World} (h : Below A.heap.size A B) (h0 : n₀ ≤ A.heap.size) (hb : bx < A.heap.size) : KpB n₀ bx A B := ⟨h.mono h0, h.block bx hb⟩
theorem KpB.cell {n₀ bx : Nat} {A B : World} (h : KpB n₀ bx A B) {v : Value} (hc : A.cell? ⟨bx, 0, none⟩ = some v) : B.cell? ⟨bx, 0, none⟩ = some v := by
  unfold World.cell? at *
  simp only [h.2] at *
  exact hc
theorem entries_in {W0 w0 : World} {F0 : Nat → Prop} {ρ : Num} {b : Int} {len L : Nat} {ps qs : List (List Int)} {m : Int} {ws : List Int} (hm : MemOK W0 F0 ρ (D3R b len L ps qs m ws) w0) (hwf : wfD len L b ps qs m ws)
    (n l bx n₀ : Nat) (hn : 1 ≤ n) (J Jx : List Nat → World → Prop) (hJ : ∀ s A B, J s A → Below A.heap.size A B → J s B)
    (hY : ∀ pre x W, J pre W → pre.length < ps.length → YieldAt Fence.wide (n - 1) Try.prog l #[.int .i64 (x : Nat), entV ws x] W fun e W' =>
      (e = .returned (.bool true) ∧ J (pre ++ [x]) W' ∧ KpB n₀ bx W W') ∨ (e = .returned (.bool false) ∧ Jx (pre ++ [x]) W'))
    (W : World) (hn0 : w0.heap.size ≤ n₀) (hn1 : n₀ ≤ W.heap.size) (hW : Below w0.heap.size w0 W) (hbx : W.cell? ⟨bx, 0, none⟩ = some (.pointer (some ⟨(ρ 0).1, 0, none⟩))) (hbl : bx < W.heap.size) (h0 : J [] W) :
    CallsIn Fence.wide n Try.prog 158 #[.func (.yield l) #[] #[], .pointer (some ⟨bx, 0, none⟩)] W fun e W' => (∃ v, e = .returned v) ∧ ((∃ ys, ys = List.range ps.length ∧ J ys W') ∨ (∃ pre, True ∧ Jx pre W')) := by
  have memAt : ∀ w1, Below w0.heap.size w0 w1 → MemOK W0 F0 ρ (D3R b len L ps qs m ws) w1 := fun w1 h => hm.step (frm_below h)
  refine callsIn_of_wp Try.func158 rfl trivial ?_ rfl
  simp only [Try.ntmps158, List.size_toArray, List.length_cons, List.length_nil, Nat.reduceAdd, Nat.reduceSub, Array.replicate_succ, Array.replicate_zero, List.push_toArray, List.append_toArray, List.nil_append, List.cons_append]
  gi_wp2_with fail
  refine ⟨trivial, (pages_call (memAt _ hW) hwf _).mono ?_⟩
  rintro e w1 ⟨rfl, hb1⟩
  gi_wp2_with fail
  gi_loopw [6] (fun p wr => ∃ k : Nat, p = .int .i64 (k : Int) ∧ k ≤ ps.length ∧ J (List.range k) wr ∧ KpB n₀ bx W wr)
    (fun p wr => match p with
      | .int _ k => ps.length - k.toNat
      | _ => 0)
  case atStart =>
    exact ⟨0, rfl, Nat.zero_le _, hJ _ _ _ h0 hb1, KpB.of hb1 hn1 hbl⟩
  case round =>
    obtain ⟨k, rfl, hk, hJs, hbr⟩ := hrel
    have hbx2 : wr.cell? ⟨bx, 0, none⟩ = some (.pointer (some ⟨(ρ 0).1, 0, none⟩)) := hbr.cell hbx
    have hWr : Below w0.heap.size w0 wr := hW.trans (hbr.1.mono hn0)
    have hsz : n₀ ≤ wr.heap.size := Nat.le_trans hn1 hbr.1.size
    by_cases hlt : k < ps.length
    · have hd : (decide ((k : Int) < (ps.length : Int))) = true := decide_eq_true (by omega)
      gi_wp2_with fail
      refine ⟨trivial, (at_call (memAt _ hWr) hwf _ k hlt).mono ?_⟩
      rintro e w2 ⟨rfl, hb2⟩
      obtain ⟨fn, tmps, assign, body, hy, hR⟩ := hY (List.range k) k w2 (hJ _ _ _ hJs hb2) (by simpa using hlt)
      gi_wp2_with fail
      refine hR.mono ?_
      rintro e W3 (⟨rfl, hJ3, hk3⟩ | ⟨rfl, hJx3⟩)
      · gi_wp2_with fail
        have hwr : wrap64 ((k : Int) + 1) = ((k + 1 : Nat) : Int) := by have := hwf.n2; unfold wrap64; omega
        go_roundw
        case rel => exact ⟨k + 1, by rw [hwr], by omega, by rw [List.range_succ]; exact hJ3, hbr.trans ((KpB.of hb2 hsz (Nat.lt_of_lt_of_le hbl hbr.1.size)).trans hk3)⟩
        case measure => rw [hwr]; simp only [Int.toNat_natCast]; omega
      · gi_wp2_with fail
        refine bodyPost_ret (results_none rfl _ _ _) rfl ?_
        exact ⟨⟨_, rfl⟩, .inr ⟨_, trivial, hJx3⟩⟩
    · have hk2 : k = ps.length := by omega
      subst hk2
      gi_wp2_with fail
      go_end0
      exact ⟨⟨_, rfl⟩, .inl ⟨_, rfl, hJs⟩⟩
theorem entriesV_in (n : Nat) (p0 : Option Addr) (w : World) : CallsIn Fence.wide n Try.prog 119 #[.pointer p0] w fun e w' => e = .returned (.func (.func 158) #[] #[.pointer (some ⟨w.heap.size, 0, none⟩)]) ∧ w' = w.alloc (.cells #[.pointer p0] 91) := by
  refine callsIn_of_wp Try.func119 rfl trivial ?_ rfl
  simp only [Try.ntmps119, List.size_toArray, List.length_cons, List.length_nil, Nat.reduceAdd, Nat.reduceSub, Array.replicate_succ, Array.replicate_zero, List.push_toArray, List.append_toArray, List.nil_append, List.cons_append]
  gi_wp2
  go_ret
  exact ⟨rfl, rfl⟩
theorem entries_stops {W0 w0 : World} {F0 : Nat → Prop} {ρ : Num} {b : Int} {len L : Nat} {ps qs : List (List Int)} {m : Int} {ws : List Int} (hm : MemOK W0 F0 ρ (D3R b len L ps qs m ws) w0) (hwf : wfD len L b ps qs m ws)
    (n bx n₀ : Nat) (hn : 1 ≤ n) (w : World) (hn0 : w0.heap.size ≤ n₀) (hn1 : n₀ ≤ w.heap.size) (hW : Below w0.heap.size w0 w) (hbl : bx < w.heap.size) (hbx : w.cell? ⟨bx, 0, none⟩ = some (.pointer (some ⟨(ρ 0).1, 0, none⟩))) :
    SeqStopsK Fence.wide n Try.prog 158 #[.pointer (some ⟨bx, 0, none⟩)] (fun x : Nat => #[Value.int .i64 (x : Int), entV ws x]) (KpB n₀ bx) (fun ys => ys = List.range ps.length) (fun _ => True) ps.length w := fun l J Jx W hWW hJ _ hY h0 =>
  entries_in hm hwf n l bx n₀ hn J Jx (fun s A B h hb => hJ s A B none h ⟨hb.os, hb.tape, hb.output, hb.size, fun k hk _ => hb.block k hk⟩ (fun r e => by cases e)) hY W hn0 (Nat.le_trans hn1 hWW.size) (hW.trans (hWW.mono (Nat.le_trans hn0 hn1))) ((hWW.cell (p := ⟨bx, 0, none⟩) hbl).trans hbx) (Nat.lt_of_lt_of_le hbl hWW.size) h0
noncomputable def cntL (ws : List Int) (l : List Nat) : Int := ((l.filter fun x : Nat => decide (gT ws (x : Int) = 0)).length : Nat)
theorem cntL_snoc (ws : List Int) (l : List Nat) (x : Nat) : cntL ws (l ++ [x]) = if gT ws (x : Int) = 0 then cntL ws l + 1 else cntL ws l := by
  unfold cntL
  rw [List.filter_append, List.length_append]
  by_cases h : gT ws (x : Int) = 0
  · rw [if_pos h]; simp [h]
  · rw [if_neg h]; simp [h]
theorem cntL_le (ws : List Int) (l : List Nat) : 0 ≤ cntL ws l ∧ cntL ws l ≤ l.length := by
  unfold cntL
  have := List.length_filter_le (fun x : Nat => decide (gT ws (x : Int) = 0)) l
  omega
theorem Free_in {W0 w : World} {F0 : Nat → Prop} {ρ : Num} {b : Int} {len L : Nat} {ps qs : List (List Int)} {m : Int} {ws : List Int} (hm : MemOK W0 F0 ρ (D3R b len L ps qs m ws) w) (hwf : wfD len L b ps qs m ws) (n : Nat) (hn : 3 ≤ n) :
    CallsIn Fence.wide n Try.prog 59 #[.pointer (some ⟨(ρ 0).1, 0, none⟩)] w fun e w' => e = .returned (.int .i64 (cntL ws (List.range ps.length))) ∧ Below w.heap.size w w' := by
  have h1 : 1 ≤ n := by omega
  refine callsIn_of_wp_marks Try.func59 rfl trivial ?_ rfl
  simp only [Try.ntmps59, List.size_toArray, List.length_cons, List.length_nil, Nat.reduceAdd, Nat.reduceSub, Array.replicate_succ, Array.replicate_zero, List.push_toArray, List.append_toArray, List.nil_append, List.cons_append]
  gi_wp2_with fail
  refine ⟨trivial, (entriesV_in (n - 1) _ _).mono ?_⟩
  rintro e w' ⟨rfl, rfl⟩
  gi_wp2_with fail
  have hs := Boxed.new w 3 (.int .i64 0)
  have hb := Boxed.new (w.alloc (.cells #[.int .i64 0] 3)) 91 (.pointer (some ⟨(ρ 0).1, 0, none⟩))
  rw [World.size_alloc] at hb
  have hbel : Below w.heap.size w ((w.alloc (.cells #[.int .i64 0] 3)).alloc (.cells #[.pointer (some ⟨(ρ 0).1, 0, none⟩)] 91)) := ((Below.refl _ w).alloc (Nat.le_refl _) _).alloc (by simp) _
  refine wpIn_rangeFunc_ownH rfl h1 (gf := 158) (lb := #[.pointer (some ⟨w.heap.size + 1, 0, none⟩)]) rfl trivial (enters_of Try.func158 (by kernel_rfl) rfl)
    (entries_stops hm hwf (n - 1) (w.heap.size + 1) w.heap.size (by omega) _ (Nat.le_refl _) (by simp; omega) hbel (by simp) hb.cell) KpB.trans ?hKb (Below.refl _ _) (fun _ => rfl)
    (fun pre W => Boxed W w.heap.size 3 (.int .i64 (cntL ws pre)) ∧ Below w.heap.size w W ∧ w.heap.size + 2 ≤ W.heap.size)
    (fun _ _ _ => False) ?hI (fun _ _ _ _ _ hs _ _ => hs) ⟨by have h := hs.alloc (.cells #[.pointer (some ⟨(ρ 0).1, 0, none⟩)] 91); rw [show cntL ws [] = 0 from rfl]; exact h, hbel, by simp⟩
    (fun x a' W => ∃ e5 : Nat, a' = { tmps := #[.pointer (some ⟨(ρ 0).1, 0, none⟩), undef, .int .i64 0, .pointer (some ⟨w.heap.size, 0, none⟩), undef, .pointer (some ⟨e5, 0, none⟩), .pointer (some ⟨(ρ 0).1, 0, none⟩), .func (.func 158) #[] #[.pointer (some ⟨w.heap.size + 1, 0, none⟩)], .int .i64 (x : Int), entV ws x, undef, undef, undef, undef, undef, undef], defers := [] } ∧ W.cell? ⟨e5, 0, none⟩ = some (.int .i64 (gT ws (x : Int)))) ?hAx ?assign ?body ?done ?stop
  case hKb =>
    intro W l o o' hl h hc hw
    simp only [World.size_alloc] at hl
    exact ⟨belowK_b (w := w) (Nat.le_refl _) W l o o' (by omega) h hc hw, World.putObj_heap_other (by omega)⟩
  case hI =>
    exact (Own.from (boxed_own w.heap.size 3 (fun pre => .int .i64 (cntL ws pre))) _).and ((ownFrom_below (Nat.le_refl _) (by simp; omega)).and (fun s A B row hs hg hr => Nat.le_trans hs hg.size))
  case hAx =>
    rintro x a' s A B row ⟨e5, ha, hc⟩ hg hr
    exact ⟨e5, ha, cell_kept hc hg (fun r e => (hr r e).2)⟩
  case assign =>
    intro l pre x W K hi hK
    gi_wp2_with fail
    refine hK _ _ ((KeepsOthers.alloc W _).from _) (KpB.of ((Below.refl _ W).alloc (Nat.le_refl _) _) hi.2.1.size (by have := hi.2.2; omega)) ⟨hi.1.alloc _, hi.2.1.alloc hi.2.1.size _, by have := hi.2.2; simp; omega⟩ ⟨W.heap.size, rfl, ?_⟩
    simp only [World.cell?, World.alloc_heap_new]
    rfl
  case body =>
    rintro l pre x a' W _ _ ⟨hi, hbl, hsz⟩ ⟨e5, rfl, hc⟩ hlen
    have hcc := hi.cell
    have hcf := hi.frozen
    have hle := cntL_le ws pre
    have hw64 : wrap64 (cntL ws pre + 1) = cntL ws pre + 1 := by have := hwf.n2; unfold wrap64; omega
    by_cases hg : gT ws (x : Int) = 0
    · have hd : decide (gT ws (x : Int) = 0) = true := decide_eq_true hg
      gi_wp2_with fail
      have hgr := grownBy_setCell' W w.heap.size (.int .i64 (cntL ws pre + 1))
      exact ⟨(KeepsOthers.setCell _ _ _).from _, ⟨(Below.refl w.heap.size W).setCell (p := ⟨w.heap.size, 0, none⟩) (Nat.le_refl _) _, hgr.block _ (by omega) (by simp)⟩, by rw [cntL_snoc, if_pos hg]; exact hi.set _, hbl.setCell (p := ⟨w.heap.size, 0, none⟩) (Nat.le_refl _) _, Nat.le_trans hsz hgr.size⟩
    · have hd : (gT ws (x : Int) == 0) = false := beq_false_of_ne hg
      gi_wp2_with fail
      exact ⟨KeepsFrom.refl _ _, ⟨Below.refl _ _, rfl⟩, by rw [cntL_snoc, if_neg hg]; exact hi, hbl, hsz⟩
  case done =>
    rintro D xs W hD rfl ⟨hi, hbl, hsz⟩ hK
    have hcc := hi.cell
    gi_wp2_with fail
    refine ⟨by simp, .inl ⟨_, _, rfl, run_takeDeferred hK, ?_⟩⟩
    exact ⟨_, results_tmp rfl _ _ _, rfl, (belowK_b (w := w) (Nat.le_refl _) W D _ _ (by simp at hD; omega) hK rfl rfl |> hbl.trans)⟩
  case stop =>
    rintro D c pre W _ _ h _
    exact h.elim
end Go.Proofs.Ytlndkfcnfhkbkaa
