/- The operations that make or write memory do what the executor says, all of them. No condition. -/
import Derived.Test.YtmmejomalfjcnaaSxOff
import Derived.Laws.MakeOwn
namespace Go.Proofs.Ytmmejomalfjcnaa
open Go.RowKit
set_option linter.unusedVariables false
set_option linter.unusedSimpArgs false
namespace Sx
variable {P : Program} {T : Tab} {W : World} {F : Nat → Prop} {nt : Nat} {ρ ρ' : Num} {s : SS} {a : Act} {w : World}

theorem zerosL_cells (n : Nat) (z : List SV) : cellsL ρ (zerosL n z) = (List.replicate n (cellsL ρ z)).flatten := by
  induction n with
  | zero => rfl
  | succ n ih => simp [zerosL, cellsL_append, ih, List.replicate_succ]
theorem zerosL_okd (n m : Nat) {z : List SV} (h : okdL W F m z) : okdL W F m (zerosL n z) := by
  induction n with
  | zero => trivial
  | succ n ih => exact okdL_append h ih
theorem zerosL_noTop (n : Nat) {z : List SV} (h : noTop z = true) : noTop (zerosL n z) = true := by
  induction n with
  | zero => rfl
  | succ n ih => exact noTop_append h ih

theorem range_mod (z : List Value) (n : Nat) (hz : 0 < z.length) : (List.range (n * z.length)).map (fun i => z.toArray[i % z.toArray.size]!) = (List.replicate n z).flatten := by
  induction n with
  | zero => simp
  | succ n ih =>
    rw [Nat.succ_mul, List.range_add, List.map_append, ih, List.replicate_succ', List.flatten_append]
    congr 1
    apply List.ext_getElem?
    intro j
    by_cases hj : j < z.length
    · simp [hj, Nat.add_mod, Nat.mod_eq_of_lt hj]
    · simp [hj]

/-- An operation that makes a row. -/
theorem newOp_ok (hT : TabOK P T) (st : Sat W F nt ρ s a w) {o : Oper} {mk : Nat → SV} {r : Row} (h : newOp T s o.op = some (mk, r)) :
    (∃ c : Array Value, CellsOK ρ r.cs c.toList ∧ okdL W F s.rows.length r.cs ∧ r.sz = 0 ∧ ∀ (b : Nat) (ρ' : Num), (ρ' b).1 = w.heap.size → (execOp a.eval o).run P w = .ok (.value (den ρ' (mk b))) (w.alloc (.cells c r.ty))) ∧ ∀ b n, b < n → okd W F n (mk b) ∧ mk b ≠ .top := by
  cases hop : o.op <;> simp only [hop, newOp, reduceCtorEq] at h
  case alloc t =>
    simp only [Option.map_eq_some_iff] at h
    obtain ⟨i, hi, h⟩ := h
    cases h
    have ty := hT t i hi
    obtain ⟨z, hz1, hz2⟩ := ty.run_zero w ρ
    refine ⟨⟨z.cells, by simp only [hz2]; exact CellsOK.of_cellsL ρ _, plainL_okd _ _ _ ty.zero, rfl, fun b ρ' hb => ?_⟩, fun b n hb => ⟨hb, fun h => by cases h⟩⟩
    simp only [den, hb]
    simp [execOp, hop, Instr.alloc, hz1, newVar, newRow]
  case box t x =>
    simp only [Option.bind_eq_some_iff, Option.map_eq_some_iff] at h
    obtain ⟨u, h1, l, h2, h⟩ := h
    cases h
    obtain ⟨e1, e2, _⟩ := ev_ok st h1
    obtain ⟨v1, v2, v3⟩ := valueCells_ok (ρ := ρ) h2 e2
    refine ⟨⟨(den ρ u).cells, by simp only [v1]; exact CellsOK.of_cellsL ρ _, v2, rfl, fun b ρ' hb => ?_⟩, fun b n hb => ⟨hb, fun h => by cases h⟩⟩
    simp only [den, hb]
    simp [execOp, hop, Instr.box, e1, newVar, newRow]
  case buildSlice t len parts =>
    simp only [Option.bind_eq_some_iff] at h
    obtain ⟨i, hi, e, he, ei, hei, ps', hps, h⟩ := h
    rcases cond_some h with ⟨ec, h⟩ | ⟨ec, h⟩
    · simp only [Option.map_eq_some_iff] at h
      obtain ⟨l, hl, h⟩ := h
      cases h
      simp only [Bool.and_eq_true] at ec
      obtain ⟨⟨⟨c1, c2⟩, c3⟩, c4⟩ := ec
      have c1 : len * ei.size < 16777216 := by
        have := Nat.le_of_ble_eq_true (show Nat.ble (len * ei.size + 1) 16777216 = true from c1); omega
      have c2 := Nat.eq_of_beq_eq_true c2
      have c3 : 0 < ei.size := Nat.le_of_ble_eq_true (show Nat.ble (0 + 1) ei.size = true from c3)
      have c4 : 0 < len := Nat.le_of_ble_eq_true (show Nat.ble (0 + 1) len = true from c4)
      have hu := slD_ok (hT t i hi) he
      have tye := hT e ei hei
      obtain ⟨z, hz1, hz2⟩ := tye.run_zero w ρ
      obtain ⟨p1, p2⟩ := evP_ok st hps
      obtain ⟨f1, f2, f3⟩ := fillC_ok (ρ := ρ) (n := s.rows.length) hl (zerosL_noTop len (plain_noTop tye.zero)) (zerosL_okd len _ (plainL_okd _ _ _ tye.zero)) p2
      refine ⟨⟨(cellsL ρ l).toArray, by simpa using CellsOK.of_cellsL ρ l, f2, rfl, fun b ρ' hb => ?_⟩, fun b n hb => ⟨hb, fun h => by cases h⟩⟩
      simp only [den, hb]
      have hs := tye.run_size w
      have hzl : z.cells.toList.length = ei.size := by rw [hz2, widthL_cells, c2]
      have hcells : (Array.range (len * ei.size)).map (fun i => z.cells[i % z.cells.size]!) = (cellsL ρ (zerosL len ei.zero)).toArray := by
        apply Array.ext'
        rw [zerosL_cells, ← hz2, ← range_mod z.cells.toList len (by omega), hzl]
        simp [Array.toList_map, Array.toList_range]
      have h16 : ¬ (len * ei.size > 2 ^ 24) := by have : (2:Nat) ^ 24 = 16777216 := by decide
                                                  omega
      have h0 : ¬ len * ei.size = 0 := by
        intro h
        rcases Nat.mul_eq_zero.1 h with h | h <;> omega
      have hfill' : Instr.fill (fun i => some (i * ei.size, ei.size)) ((Array.range (len * ei.size)).map (fun i => z.cells[i % z.cells.size]!)) (parts.toList.map fun x => (x.1, a.eval x.2)) = some (cellsL ρ l).toArray := by
        rw [hcells, p1]; exact f1
      simp only [execOp, hop, Instr.buildSlice, Sem.run_bind, run_underlying hu, Result.andThen_ok, hs, if_neg h16, if_neg h0, hz1]
      simp [h16, h0, hz1, hfill', newRow]
    · cases h

/-- A store. -/
theorem storeOp_ok (hT : TabOK P T) (st : Sat W F nt ρ s a w) {o : Oper} {ps : List Prop} {b : Nat} {r : Row} (h : storeOp T s o.op = some (ps, b, r)) (hp : All ps) :
    ∃ w', (execOp a.eval o).run P w = .ok .skip w' ∧ MemOK W F ρ (s.rows.set b (some r)) w' := by
  cases hop : o.op <;> simp only [hop, storeOp, reduceCtorEq] at h
  case store t x y =>
    simp only [Option.bind_eq_some_iff] at h
    obtain ⟨x', h1, y', h2, h3⟩ := h
    obtain ⟨e1, _, _⟩ := ev_ok st h1
    obtain ⟨f1, f2, _⟩ := ev_ok st h2
    obtain ⟨w', g1, g2⟩ := storeS_ok hT st.mem h3 hp f2
    exact ⟨w', by simp [execOp, hop, e1, f1, g1], g2⟩
end Sx
end Go.Proofs.Ytmmejomalfjcnaa
