/- All that is mapped, one by one: the iterator. No condition beyond sizes. -/
import Derived.Test.YtlndkfcnfhkbkaaWkR
namespace Go.Proofs.Ytlndkfcnfhkbkaa
open Go.RowKit Sx Go.Shelf
set_option linter.unusedVariables false
set_option linter.unusedSimpArgs false
set_option maxRecDepth 100000
set_option maxHeartbeats 4000000
attribute [local go_sem] Oper.semAt_some
noncomputable def jI (ps qs : List (List Int)) (l : Int) (i : Nat) : Nat → List (Nat × Nat)
  | 0 => []
  | j + 1 => jI ps qs l i j ++ (if plE ps qs (tbP ps qs l (i : Int)) (j : Int) = 0 then [(i, j)] else [])
noncomputable def iI (ps qs : List (List Int)) (l : Int) : Nat → List (Nat × Nat)
  | 0 => []
  | i + 1 => iI ps qs l i ++ (if tbE ps qs l (i : Int) = 0 then jI ps qs l i 1024 else [])
noncomputable def jT (ps qs : List (List Int)) (t : Int) : Nat → Int
  | 0 => 0
  | j + 1 => jT ps qs t j + tbL ps qs t (j : Int)
noncomputable def iT (ps qs : List (List Int)) (l : Int) : Nat → Int
  | 0 => 0
  | i + 1 => iT ps qs l i + (tbL ps qs l (i : Int) + (if tbE ps qs l (i : Int) = 0 then jT ps qs (tbP ps qs l (i : Int)) 1024 else 0))
theorem jT_in (ps qs : List (List Int)) (t : Int) : ∀ j : Nat, 0 ≤ jT ps qs t j ∧ jT ps qs t j ≤ j
  | 0 => by simp [jT]
  | j + 1 => by
    have h1 := jT_in ps qs t j
    have h2 := tbL_in ps qs t (j : Int)
    simp only [jT]
    omega
theorem iT_in (ps qs : List (List Int)) (l : Int) : ∀ i : Nat, 0 ≤ iT ps qs l i ∧ iT ps qs l i ≤ 1025 * i
  | 0 => by simp [iT]
  | i + 1 => by
    have h1 := iT_in ps qs l i
    have h2 := tbL_in ps qs l (i : Int)
    have h3 := jT_in ps qs (tbP ps qs l (i : Int)) 1024
    simp only [iT]
    split <;> omega
theorem jI_len (ps qs : List (List Int)) (l : Int) (i : Nat) : ∀ j : Nat, (jI ps qs l i j).length ≤ j
  | 0 => by simp [jI]
  | j + 1 => by
    have := jI_len ps qs l i j
    simp only [jI, List.length_append]
    split <;> simp <;> omega
theorem iI_len (ps qs : List (List Int)) (l : Int) : ∀ i : Nat, (iI ps qs l i).length ≤ 1024 * i
  | 0 => by simp [iI]
  | i + 1 => by
    have h1 := iI_len ps qs l i
    have h2 := jI_len ps qs l i 1024
    simp only [iI, List.length_append]
    split <;> simp <;> omega
def vaI (i j : Nat) : Int := (i : Int) * 4194304 + (j : Int) * 4096
noncomputable abbrev mapI (ps qs : List (List Int)) (t j : Int) : Value := .agg #[.bool (plS ps qs t j), .int .i64 (plF ps qs t j), .bool (plW ps qs t j), .bool (plX ps qs t j)]
noncomputable abbrev encI (ps qs : List (List Int)) (l : Int) (x : Nat × Nat) : Array Value := #[.int .u32 (vaI x.1 x.2), mapI ps qs (tbP ps qs l (x.1 : Int)) (x.2 : Int)]
section
variable {ne a0 : Nat} {ps qs : List (List Int)} {m : Int} {G : Nat → Prop} {W : World}
theorem table_call (h : MemAt ne a0 ps qs m G W) (h0 : 0 ≤ m) (h1 : m ≤ 4611686018427387903) (hp : wfP ps) (hq : wfP qs) (l i : Int) (hl : InK .i64 l) (hi : InK .i64 i) (n : Nat) :
    CallsIn Fence.wide n Try.prog 89 #[.pointer (some ⟨a0, 0, none⟩), .int .i64 l, .int .i64 i] W fun e W' => e = .returned (.tuple #[.int .i64 (tbP ps qs l i), .int .i64 (tbE ps qs l i)]) ∧ Frm G W W' ∧ ∃ G', MemAt ne a0 ps qs (m + tbL ps qs l i) G' W' ∧ ∀ y, G' y → G y ∨ W.heap.size ≤ y :=
  callsIn_wide.2 (h.call (table_ok m ps qs l i h0 h1 hp hq hl hi) (fun _ _ => ⟨by show 0 < 1; omega, trivial, trivial, trivial⟩) (fun _ _ => rfl) (fun ρ e => by simp [denL, den, e]))
theorem place_call (h : MemAt ne a0 ps qs m G W) (h0 : 0 ≤ m) (h1 : m ≤ 4611686018427387903) (hp : wfP ps) (hq : wfP qs) (l i : Int) (hl : InK .i64 l) (hi : InK .i64 i) (n : Nat) :
    CallsIn Fence.wide n Try.prog 90 #[.pointer (some ⟨a0, 0, none⟩), .int .i64 l, .int .i64 i] W fun e W' => e = .returned (.tuple #[mapI ps qs l i, .int .i64 (plE ps qs l i)]) ∧ Frm G W W' ∧ ∃ G', MemAt ne a0 ps qs (m + tbL ps qs l i) G' W' ∧ ∀ y, G' y → G y ∨ W.heap.size ≤ y :=
  callsIn_wide.2 (h.call (place_ok m ps qs l i h0 h1 hp hq hl hi) (fun _ _ => ⟨by show 0 < 1; omega, trivial, trivial, trivial⟩) (fun _ _ => rfl) (fun ρ e => by simp [denL, den, e]))
end
theorem MemAt.globs {ne a0 : Nat} {ps qs : List (List Int)} {m : Int} {G : Nat → Prop} {W : World} (h : MemAt ne a0 ps qs m G W) : Globs W (fun _ => False) := by
  obtain ⟨⟨ρ, _, hm⟩, _⟩ := h
  exact hm.globs
theorem join_call {W : World} (hg : Globs W (fun _ => False)) (i j : Nat) (hi : i < 256) (hj : j < 1024) (n : Nat) :
    CallsIn Fence.wide n Try.prog 151 #[.int .i64 (i : Int), .int .i64 (j : Int), .int .i64 0] W fun e W' => e = .returned (.tuple #[.int .u32 (vaI i j), .int .i64 0]) ∧ Below W.heap.size W W' := by
  refine callsIn_wide.2 ((pure_law (Join_ok (i : Int) (j : Int) 0) W hg ⟨trivial, trivial, trivial, trivial⟩).mono ?_)
  rintro e W' ⟨rfl, hb⟩
  have e1 : joinS (i : Int) (j : Int) 0 = (vaI i j, 0) := by
    unfold joinS vaI
    rw [if_pos (by omega)]
    simp
  refine ⟨?_, hb⟩
  rw [e1]
  rfl
structure KpI (ne b1 b2 : Nat) (A B : World) : Prop where
  below : Below ne A B
  k1 : B.heap[b1]? = A.heap[b1]?
  k2 : B.heap[b2]? = A.heap[b2]?
theorem KpI.trans {ne b1 b2 : Nat} {A B C : World} (h : KpI ne b1 b2 A B) (k : KpI ne b1 b2 B C) : KpI ne b1 b2 A C := ⟨h.below.trans k.below, k.k1.trans h.k1, k.k2.trans h.k2⟩
structure ItAt (ne a0 b1 b2 : Nat) (ps qs : List (List Int)) (l m : Int) (J : (Nat → Prop) → List (Nat × Nat) → World → Prop) (s : List (Nat × Nat)) (G : Nat → Prop) (W : World) : Prop where
  j : J G s W
  mem : MemAt ne a0 ps qs m G W
  n1 : ¬ G b1
  n2 : ¬ G b2
  x1 : Boxed W b1 23 (.pointer (some ⟨a0, 0, none⟩))
  x2 : Boxed W b2 3 (.int .i64 l)
section
variable {ne a0 b1 b2 : Nat} {ps qs : List (List Int)} {l m m' : Int} {J : (Nat → Prop) → List (Nat × Nat) → World → Prop} {s : List (Nat × Nat)} {G G' : Nat → Prop} {W W' : World}
theorem ItAt.below (h : ItAt ne a0 b1 b2 ps qs l m J s G W) (hJ1 : ∀ G s A B, J G s A → Below A.heap.size A B → J G s B) (hne : ne ≤ W.heap.size) (hb : Below W.heap.size W W') : ItAt ne a0 b1 b2 ps qs l m J s G W' :=
  ⟨hJ1 _ _ _ _ h.j hb, h.mem.keep (fun k hk => hb.block k (h.mem.lt k hk)) hb.size (fun k hk => hb.block k (by omega)), h.n1, h.n2, (hb.block _ h.x1.lt).trans h.x1, (hb.block _ h.x2.lt).trans h.x2⟩
theorem ItAt.step (h : ItAt ne a0 b1 b2 ps qs l m J s G W) (hJ2 : ∀ G G' s A B, J G s A → Frm G A B → (∀ y, G' y → G y ∨ A.heap.size ≤ y) → J G' s B) (hf : Frm G W W') (hm : MemAt ne a0 ps qs m' G' W') (hG : ∀ y, G' y → G y ∨ W.heap.size ≤ y) : ItAt ne a0 b1 b2 ps qs l m' J s G' W' := by
  have l1 := h.x1.lt
  have l2 := h.x2.lt
  refine ⟨hJ2 _ _ _ _ _ h.j hf hG, hm, fun hh => ?_, fun hh => ?_, (hf.block _ l1 h.n1).trans h.x1, (hf.block _ l2 h.n2).trans h.x2⟩
  · rcases hG _ hh with h' | h'
    · exact h.n1 h'
    · omega
  · rcases hG _ hh with h' | h'
    · exact h.n2 h'
    · omega
theorem ItAt.yield {x : Nat × Nat} (h : ItAt ne a0 b1 b2 ps qs l m J s G W) (hj : J G (s ++ [x]) W') (hk : KpI ne b1 b2 W W') (hg : ∀ k, G k → W'.heap[k]? = W.heap[k]?) : ItAt ne a0 b1 b2 ps qs l m J (s ++ [x]) G W' :=
  ⟨hj, h.mem.keep hg hk.below.size (fun k hk' => hk.below.block k hk'), h.n1, h.n2, hk.k1.trans h.x1, hk.k2.trans h.x2⟩
theorem ItAt.lt (h : ItAt ne a0 b1 b2 ps qs l m J s G W) : ∀ y, G y → y < W.heap.size := h.mem.lt
end
theorem meas_lt {k n : Nat} (h : k < n) : n - (intOf (Value.int .i64 ((k : Int) + 1))).toNat < n - (intOf (Value.int .i64 (k : Int))).toNat := by simp only [intOf]; omega
theorem mapped_in {ne a0 : Nat} {ps qs : List (List Int)} {l m : Int} (hm0 : 0 ≤ m) (hm1 : m ≤ 4611686018427000000) (hp : wfP ps) (hq : wfP qs) (hl : InK .i64 l) (n : Nat) (hn : 1 ≤ n) (b1 b2 : Nat) (hb1 : ne ≤ b1) (hb2 : ne ≤ b2) (w0 : World) (hne : ne ≤ w0.heap.size)
    (h1 : Boxed w0 b1 23 (.pointer (some ⟨a0, 0, none⟩))) (h2 : Boxed w0 b2 3 (.int .i64 l)) :
    SeqM Fence.wide n Try.prog 150 #[.pointer (some ⟨b1, 0, none⟩), .pointer (some ⟨b2, 0, none⟩)] (encI ps qs l) ne a0 ps qs m (fun G _ => ¬ G b1 ∧ ¬ G b2) (KpI ne b1 b2) (fun xs m' => xs = iI ps qs l 256 ∧ m' = m + iT ps qs l 256) 262144 w0 := by
  intro y J W G0 hbW hJ1 hJ2 hY hj0 hmem ⟨hg1, hg2⟩
  have hneW : ne ≤ W.heap.size := Nat.le_trans hne hbW.size
  have start : ItAt ne a0 b1 b2 ps qs l (m + iT ps qs l 0) J (iI ps qs l 0) G0 W := ⟨hj0, by simpa [iT] using hmem, hg1, hg2, (hbW.block _ h1.lt).trans h1, (hbW.block _ h2.lt).trans h2⟩
  refine callsIn_of_wp Try.func150 rfl trivial ?_ rfl
  simp only [Try.ntmps150, List.size_toArray, List.length_cons, List.length_nil, Nat.reduceAdd, Nat.reduceSub, Array.replicate_succ, Array.replicate_zero, List.push_toArray, List.append_toArray, List.nil_append, List.cons_append]
  gi_wp2_with fail
  gi_loopw [12] (fun p wr => ∃ k : Nat, p = .int .i64 (k : Int) ∧ k ≤ 256 ∧ ne ≤ wr.heap.size ∧ ∃ G, ItAt ne a0 b1 b2 ps qs l (m + iT ps qs l k) J (iI ps qs l k) G wr)
    (fun p _ => 256 - (intOf p).toNat)
  case atStart => exact ⟨0, rfl, Nat.zero_le _, hneW, G0, start⟩
  case round =>
    obtain ⟨k, rfl, hk, hsz, G, hI⟩ := hrel
    have hc1 := hI.x1.cell
    have hc2 := hI.x2.cell
    by_cases hlt : k < 256
    · have hd : (decide ((k : Int) < 256)) = true := decide_eq_true (by omega)
      have hti := iT_in ps qs l k
      gi_wp2_with fail
      refine ⟨trivial, (table_call hI.mem (by omega) (by omega) hp hq l (k : Int) hl (by simp only [InK]; omega) _).mono ?_⟩
      rintro e w2 ⟨he0, hf2, G2, hM2, hG2⟩
      have hI2 := hI.step hJ2 hf2 hM2 hG2
      have hsz2 : ne ≤ w2.heap.size := Nat.le_trans hsz hf2.size
      clear hf2 hG2 hM2
      have htb := tbL_in ps qs l (k : Int)
      have hP := tbP_in hp hq l (k : Int)
      have hX : ∃ E P : Int, E = tbE ps qs l (k : Int) ∧ P = tbP ps qs l (k : Int) := ⟨_, _, rfl, rfl⟩
      obtain ⟨E, P, hEE, hPP⟩ := hX
      rw [← hEE, ← hPP] at he0
      rw [← hPP] at hP
      subst he0
      replace hEE : Hid (E = tbE ps qs l (k : Int)) := hEE
      replace hPP : Hid (P = tbP ps qs l (k : Int)) := hPP
      by_cases he : E = 0
      · subst he
        gi_wp2_with fail
        obtain ⟨wo, rfl⟩ : ∃ wo : World, wo = wr := ⟨_, rfl⟩
        gi_loopw [24] (fun p wr => ∃ j : Nat, p = .int .i64 (j : Int) ∧ j ≤ 1024 ∧ ne ≤ wr.heap.size ∧ ∃ G, ItAt ne a0 b1 b2 ps qs l (m + iT ps qs l k + tbL ps qs l (k : Int) + jT ps qs P j) J (iI ps qs l k ++ jI ps qs l k j) G wr)
          (fun p _ => 1024 - (intOf p).toNat)
        case atStart => exact ⟨0, rfl, Nat.zero_le _, hsz2, G2, by simpa [jT, jI] using hI2⟩
        case round =>
          obtain ⟨j, rfl, hj, hsz3, G3, hI3⟩ := hrel
          have hd1 := hI3.x1.cell
          have hd2 := hI3.x2.cell
          have htj := jT_in ps qs P j
          by_cases hjl : j < 1024
          · have hd3 : (decide ((j : Int) < 1024)) = true := decide_eq_true (by omega)
            gi_wp2_with fail
            refine ⟨trivial, (place_call hI3.mem (by omega) (by omega) hp hq P (j : Int) (by simp only [InK]; omega) (by simp only [InK]; omega) _).mono ?_⟩
            rintro e w4 ⟨he1, hf4, G4, hM4, hG4⟩
            have hI4 := hI3.step hJ2 hf4 hM4 hG4
            have hsz4 : ne ≤ w4.heap.size := Nat.le_trans hsz3 hf4.size
            clear hf4 hG4 hM4
            have htk := tbL_in ps qs P (j : Int)
            have hX2 : ∃ (E2 F2 : Int) (S2 W2 X2 : Bool), E2 = plE ps qs P (j : Int) ∧ F2 = plF ps qs P (j : Int) ∧ S2 = plS ps qs P (j : Int) ∧ W2 = plW ps qs P (j : Int) ∧ X2 = plX ps qs P (j : Int) := ⟨_, _, _, _, _, rfl, rfl, rfl, rfl, rfl⟩
            obtain ⟨E2, F2, S2, W2, X2, q1, q2, q3, q4, q5⟩ := hX2
            unfold mapI at he1
            rw [← q1, ← q2, ← q3, ← q4, ← q5] at he1
            subst he1
            replace q1 : Hid (E2 = plE ps qs P (j : Int)) := q1
            replace q2 : Hid (F2 = plF ps qs P (j : Int)) := q2
            replace q3 : Hid (S2 = plS ps qs P (j : Int)) := q3
            replace q4 : Hid (W2 = plW ps qs P (j : Int)) := q4
            replace q5 : Hid (X2 = plX ps qs P (j : Int)) := q5
            gi_wp2_with fail
            have hbA : Below w4.heap.size w4 (w4.alloc (.cells #[.bool S2, .int .i64 F2, .bool W2, .bool X2] 38)) := (Below.refl _ w4).alloc (Nat.le_refl _) _
            refine ⟨trivial, (join_call (hI4.below hJ1 hsz4 hbA).mem.globs k j hlt hjl _).mono ?_⟩
            rintro e w5 ⟨he5, hb5⟩
            obtain ⟨V, hV⟩ : ∃ V : Int, V = vaI k j := ⟨_, rfl⟩
            rw [← hV] at he5
            subst he5
            replace hV : Hid (V = vaI k j) := hV
            have hbB : Below w4.heap.size w4 w5 := hbA.trans (hb5.mono (by simp))
            have hI5 := hI4.below hJ1 hsz4 hbB
            have hsz5 : ne ≤ w5.heap.size := Nat.le_trans hsz4 hbB.size
            have hrow : w5.heap[w4.heap.size]? = some (.cells #[.bool S2, .int .i64 F2, .bool W2, .bool X2] 38 (0, 0)) := (hb5.block _ (by simp)).trans (World.alloc_heap_new w4 _)
            clear hbA hb5 hbB
            have hc6 : ∀ o, w5.cell? ⟨w4.heap.size, o, none⟩ = (#[Value.bool S2, .int .i64 F2, .bool W2, .bool X2] : Array Value)[o]? := fun o => by simp [World.cell?, hrow]
            clear hrow
            by_cases he2 : E2 = 0
            · have hYY := hY G4 _ (k, j) w5 hI5.j hI5.lt (by have h1 := iI_len ps qs l k; have h2 := jI_len ps qs l k j; simp only [List.length_append]; omega)
              have e7 : encI ps qs l (k, j) = #[.int .u32 V, .agg #[.bool S2, .int .i64 F2, .bool W2, .bool X2]] := by
                simp only [encI, mapI, ← hPP.out, ← q2.out, ← q3.out, ← q4.out, ← q5.out, ← hV.out]
              rw [e7] at hYY
              obtain ⟨fn, tmps, assign, body, hy, hR⟩ := hYY
              have hd7 : (E2 == 0) = true := by simpa using he2
              gi_wp2_with fail
              refine hR.mono ?_
              rintro e W6 ⟨rfl, hj6, hK6, hg6⟩
              have hI6 := hI5.yield hj6 hK6 hg6
              have hsz6 : ne ≤ W6.heap.size := Nat.le_trans hsz5 hK6.below.size
              clear hK6 hg6 hj6
              gi_wp2_with fail
              go_roundw
              case rel =>
                refine ⟨j + 1, by rw [Int.natCast_succ], hjl, hsz6, G4, ?_⟩
                have a1 : plE ps qs (tbP ps qs l (k : Int)) (j : Int) = 0 := by rw [← hPP.out, ← q1.out]; exact he2
                have a2 : jI ps qs l k (j + 1) = jI ps qs l k j ++ [(k, j)] := by simp only [jI]; rw [if_pos a1]
                have a3 : m + iT ps qs l k + tbL ps qs l (k : Int) + jT ps qs P (j + 1) = m + iT ps qs l k + tbL ps qs l (k : Int) + jT ps qs P j + tbL ps qs P (j : Int) := by simp only [jT]; rw [Int.add_assoc (m + iT ps qs l k + tbL ps qs l (k : Int))]
                rw [a2, a3, ← List.append_assoc]
                exact hI6
              case measure => exact meas_lt hjl
            · have hd7 : (E2 == 0) = false := by simpa using he2
              gi_wp2_with fail
              refine ⟨(fun f h => by cases h), ?_⟩
              gi_wp2_with fail
              go_roundw
              case rel =>
                refine ⟨j + 1, by rw [Int.natCast_succ], hjl, hsz5, G4, ?_⟩
                have a1 : ¬ plE ps qs (tbP ps qs l (k : Int)) (j : Int) = 0 := by rw [← hPP.out, ← q1.out]; exact he2
                have a2 : jI ps qs l k (j + 1) = jI ps qs l k j := by simp only [jI]; rw [if_neg a1, List.append_nil]
                have a3 : m + iT ps qs l k + tbL ps qs l (k : Int) + jT ps qs P (j + 1) = m + iT ps qs l k + tbL ps qs l (k : Int) + jT ps qs P j + tbL ps qs P (j : Int) := by simp only [jT]; rw [Int.add_assoc (m + iT ps qs l k + tbL ps qs l (k : Int))]
                rw [a2, a3]
                exact hI5
              case measure => exact meas_lt hjl
          · have hj2 : j = 1024 := by omega
            subst hj2
            gi_wp2_with fail
            go_roundw
            case rel =>
              refine ⟨k + 1, by rw [Int.natCast_succ], hlt, hsz3, G3, ?_⟩
              have a1 : tbE ps qs l (k : Int) = 0 := hEE.out.symm
              have a2 : iI ps qs l (k + 1) = iI ps qs l k ++ jI ps qs l k 1024 := by simp only [iI]; rw [if_pos a1]
              have a3 : m + iT ps qs l (k + 1) = m + iT ps qs l k + tbL ps qs l (k : Int) + jT ps qs P 1024 := by
                simp only [iT]
                rw [if_pos a1, ← hPP.out, Int.add_assoc, Int.add_assoc]
              rw [a2, a3]
              exact hI3
            case measure => exact meas_lt hlt
      · have hE : (E != 0) = true := by simpa using he
        gi_wp2_with fail
        go_roundw
        case rel =>
          refine ⟨k + 1, by rw [Int.natCast_succ], hlt, hsz2, G2, ?_⟩
          have hEE := hEE.out; rw [hEE] at he; simpa [iT, iI, he, Int.add_assoc] using hI2
        case measure => exact meas_lt hlt
    · have hk2 : k = 256 := by omega
      subst hk2
      gi_wp2_with fail
      go_end0
      exact ⟨⟨_, rfl⟩, _, _, G, ⟨rfl, rfl⟩, hI.j, hI.mem⟩
end Go.Proofs.Ytlndkfcnfhkbkaa
