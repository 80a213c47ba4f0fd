/- The operations that leave the memory alone do what the executor says: addresses, parts, structs that are built. No condition. -/
import Derived.Test.YtmmejomalfjcnaaSxPure4
import Derived.Laws.Tables
namespace Go.Proofs.Ytmmejomalfjcnaa
open Go.RowKit
set_option linter.unusedVariables false
set_option linter.unusedSimpArgs false
namespace Sx
variable {P : Program} {T : Tab} {W : World} {F : Nat → Prop} {nt : Nat} {ρ : Num} {s : SS} {a : Act} {w : World}

theorem place_ok {c : Bool} {n : Int} {len b off size m : Nat} {ps : List Prop} {v : SV} (h : place c n len b off size = some (ps, v)) (hp : All ps) (hb : b < m) (hc : c = true → c = true) :
    0 ≤ n ∧ n < len ∧ Good W F ρ m v (.pointer (some ⟨(ρ b).1, off + n.toNat * size, none⟩)) := by
  unfold place at h
  rcases cond_some h with ⟨e, h⟩ | ⟨e, h⟩
  · rcases cond_some h with ⟨e2, h⟩ | ⟨e2, h⟩
    · cases h
      simp at e2
      exact ⟨e2.1, e2.2, rfl, hb, fun h => by cases h⟩
    · cases h
  · rcases beq_some h with ⟨e2, h⟩ | ⟨e2, h⟩
    · cases h
      subst e2
      exact ⟨hp _ (by simp), hp (n < len) (by simp), by simp [den], hb, fun h => by cases h⟩
    · cases h

theorem gplace_ok {c : Bool} {n : Int} {len g off size m : Nat} {ps : List Prop} {v : SV} (h : gplace c n len g off size = some (ps, v)) (hp : All ps) :
    0 ≤ n ∧ n < len ∧ Good W F ρ m v (.pointer (some ⟨g, off + n.toNat * size, none⟩)) := by
  unfold gplace at h
  rcases cond_some h with ⟨e, h⟩ | ⟨e, h⟩
  · rcases cond_some h with ⟨e2, h⟩ | ⟨e2, h⟩
    · cases h
      simp at e2
      exact ⟨e2.1, e2.2, rfl, trivial, fun h => by cases h⟩
    · cases h
  · cases h
    have h0 : 0 ≤ n := hp _ (by simp)
    have h1 : n < len := hp (n < len) (by simp)
    exact ⟨h0, h1, by simp [den], ⟨h0, h1⟩, fun h => by cases h⟩
/-- The block of a list that has an element. -/
theorem onLen_ok {rows : List (Option Row)} (hm : MemOK W F ρ rows w) {b : Nat} {r : Row} {k : Nat} (h : onLen rows b = some (r, k)) : rowOf rows b = some r ∧ r.sz ≠ 0 ∧ k = widthL r.cs ∧ (0 < k → (ρ b).2 ≠ 0) ∧ b < rows.length ∧ (∀ n, n * r.sz ≤ k → n ≤ (ρ b).2 ∨ (ρ b).2 = 0 ∧ n = 0) := by
  simp only [onLen, Option.bind_eq_some_iff] at h
  obtain ⟨r', hr, h⟩ := h
  rcases beq_some h with ⟨e, h⟩ | ⟨e, h⟩
  · cases h
  · cases h
    have hlt := (List.getElem?_eq_some_iff.1 (rowOf_get hr)).1
    rcases rowOf_block hm hr with ⟨h1, c, l, rest, h2, h3, h4, _, h5⟩ | ⟨h1, h2⟩
    · refine ⟨hr, e, rfl, fun _ => ?_, hlt, fun n hn => .inl ?_⟩
      · rcases h1 with h1 | h1
        · exact absurd h1 e
        · exact h1
      · have h6 := h5 e
        have h7 := h4.length
        have h8 : c.size = l.length + rest.length := by rw [← Array.length_toList, h3, List.length_append]
        have : n * r.sz ≤ (ρ b).2 * r.sz := by omega
        exact Nat.le_of_mul_le_mul_right this (Nat.pos_of_ne_zero e)
    · have h0 : widthL r.cs = 0 := by have := h2.length; simpa using this.symm
      refine ⟨hr, e, rfl, fun h3 => by omega, hlt, fun n hn => .inr ⟨?_, ?_⟩⟩
      · unfold Has at h1
        cases hk : (ρ b).2 with
        | zero => rfl
        | succ j => exact absurd (.inr (by omega)) h1
      · rw [h0] at hn
        have : n * r.sz = 0 := by omega
        rcases Nat.mul_eq_zero.1 this with h | h
        · exact h
        · exact absurd h e
theorem listV_some {b : Nat × Nat} {len : Nat} {z : Bool} (h : b.2 ≠ 0) : listV b len z = .slice (some ⟨b.1, 0, none⟩) len b.2 := by
  unfold listV; rw [if_neg (fun h2 => h h2.2)]

theorem indexA_ok (hT : TabOK P T) {rows : List (Option Row)} (hm : MemOK W F ρ rows w) {t : TypeId} {x ix v : SV} {ps : List Prop} (h : indexA T rows t x ix = some (ps, v)) (hp : All ps) (ox : okd W F rows.length x) :
    ∃ u, (Instr.indexAt t (den ρ x) (den ρ ix)).run P w = .ok u w ∧ Good W F ρ rows.length v u := by
  simp only [indexA, Option.bind_eq_some_iff] at h
  obtain ⟨i, hi, ⟨k, n, c⟩, hx, h⟩ := h
  have ty := hT t i hi
  rw [asI_ok hx ρ]
  split at h
  · rename_i g
    simp only [Option.bind_eq_some_iff] at h
    obtain ⟨⟨len, e⟩, hd, ei, he, h⟩ := h
    obtain ⟨hu, _⟩ := arrD_ok ty hd
    obtain ⟨h0, h1, hg⟩ := gplace_ok (W := W) (F := F) (ρ := ρ) h hp
    refine ⟨_, ?_, hg⟩
    simp [Instr.indexAt, asIntOf, run_underlying hu, Instr.sureAddr, den, h0, h1, (hT e ei he).run_size w, addr_add]
  · rename_i g off
    simp only [Option.bind_eq_some_iff] at h
    obtain ⟨⟨len, e⟩, hd, ei, he, h⟩ := h
    obtain ⟨hu, _⟩ := arrD_ok ty hd
    obtain ⟨h0, h1, hg⟩ := gplace_ok (W := W) (F := F) (ρ := ρ) h hp
    refine ⟨_, ?_, hg⟩
    simp [Instr.indexAt, asIntOf, run_underlying hu, Instr.sureAddr, den, h0, h1, (hT e ei he).run_size w, addr_add]
  · rename_i b off len cap
    simp only [Option.bind_eq_some_iff] at h
    obtain ⟨e, hd, ei, he, h⟩ := h
    have hu := slD_ok ty hd
    rcases beq_some h with ⟨es, h⟩ | ⟨es, h⟩
    · cases h
      have h0 : 0 ≤ n := hp _ (by simp)
      have h1 : n < len := hp (n < len) (by simp)
      refine ⟨_, ?_, rfl, ox, fun h => by cases h⟩
      have e3 : ((off : Int) + n).toNat = off + n.toNat := by omega
      simp [Instr.indexAt, asIntOf, run_underlying hu, Instr.sureAddr, den, h0, h1, (hT e ei he).run_size w, addr_add, es, e3]
    · cases h
  · rename_i b len z
    simp only [Option.bind_eq_some_iff] at h
    obtain ⟨e, hd, ei, he, ⟨r, k'⟩, hl, h⟩ := h
    have hu := slD_ok ty hd
    obtain ⟨_, _, _, hk, _, _⟩ := onLen_ok hm hl
    rcases cond_some h with ⟨es, h⟩ | ⟨es, h⟩
    · cases h
      have h0 : 0 ≤ n := hp _ (by simp)
      have h1 : n < len := hp (n < len) (by simp)
      have h2 : n.toNat * ei.size < k' := hp (n.toNat * ei.size < k') (by simp)
      refine ⟨_, ?_, rfl, ox, fun h => by cases h⟩
      simp [Instr.indexAt, asIntOf, run_underlying hu, Instr.sureAddr, den, listV_some (hk (by omega)), h0, h1, (hT e ei he).run_size w, addr_add]
    · rcases beq_some h with ⟨es2, h⟩ | ⟨es2, h⟩
      · cases h
        have h0 : 0 ≤ n := hp _ (by simp)
        have h1 : n < len := hp (n < len) (by simp)
        have h2 : n.toNat < k' := hp (n.toNat < k') (by simp)
        refine ⟨_, ?_, rfl, ox, fun h => by cases h⟩
        simp [Instr.indexAt, asIntOf, run_underlying hu, Instr.sureAddr, den, listV_some (hk (by omega)), h0, h1, (hT e ei he).run_size w, addr_add, es2]
      · cases h
  · rename_i b off
    simp only [Option.bind_eq_some_iff] at h
    obtain ⟨⟨len, e⟩, hd, ei, he, h⟩ := h
    obtain ⟨hu, _⟩ := arrD_ok ty hd
    obtain ⟨h0, h1, hg⟩ := place_ok (W := W) (F := F) (ρ := ρ) h hp ox (fun h => h)
    refine ⟨_, ?_, hg⟩
    simp [Instr.indexAt, asIntOf, run_underlying hu, Instr.sureAddr, den, h0, h1, (hT e ei he).run_size w, addr_add]
  · rename_i b off len cap
    simp only [Option.bind_eq_some_iff] at h
    obtain ⟨e, hd, ei, he, h⟩ := h
    have hu := slD_ok ty hd
    obtain ⟨h0, h1, hg⟩ := place_ok (W := W) (F := F) (ρ := ρ) h hp ox (fun h => h)
    refine ⟨_, ?_, hg⟩
    simp [Instr.indexAt, asIntOf, run_underlying hu, Instr.sureAddr, den, h0, h1, (hT e ei he).run_size w, addr_add]
  · rename_i k' sv xs
    simp only [Option.bind_eq_some_iff] at h
    obtain ⟨e, hd, ei, he, h⟩ := h
    have hu := slD_ok ty hd
    rcases beq_some h with ⟨es, h⟩ | ⟨es, h⟩
    · cases h
      have h0 : 0 ≤ n := hp _ (by simp)
      have h1 : n < xs.length := hp (n < xs.length) (by simp)
      refine ⟨_, ?_, rfl, ⟨ox, h0, h1⟩, fun h => by cases h⟩
      rcases ox with ⟨a, cap, rfl, rfl, _⟩ | ⟨b, off, cap, rfl, _⟩
      · simp at h1; omega
      · simp [Instr.indexAt, asIntOf, run_underlying hu, Instr.sureAddr, den, elemAddr, h0, h1, (hT e ei he).run_size w, addr_add, es]
    · cases h
  · rename_i sz sv len g
    simp only [Option.bind_eq_some_iff] at h
    obtain ⟨e, hd, ei, he, h⟩ := h
    have hu := slD_ok ty hd
    rcases cond_some h with ⟨es, h⟩ | ⟨es, h⟩
    · cases h
      simp only [Bool.and_eq_true] at es
      have es1 := Nat.eq_of_beq_eq_true es.1
      have es2 : 0 < sz := Nat.le_of_ble_eq_true es.2
      have h0 : 0 ≤ n := hp _ (by simp)
      have h1 : n < len := hp (n < len) (by simp)
      refine ⟨_, ?_, rfl, ⟨ox, h0, h1, es2⟩, fun h => by cases h⟩
      rcases ox.1.2 with ⟨a, cap, rfl, rfl, _⟩ | ⟨b, off, cap, rfl, _⟩
      · simp at h1; omega
      · simp [Instr.indexAt, asIntOf, run_underlying hu, Instr.sureAddr, den, elemCell, h0, h1, (hT e ei he).run_size w, addr_add, es1]
    · cases h
  · rename_i sz sv len g e off
    simp only [Option.bind_eq_some_iff] at h
    obtain ⟨⟨dl, de⟩, hd, ei, he, h⟩ := h
    obtain ⟨hu, _⟩ := arrD_ok ty hd
    rcases cond_some h with ⟨es, h⟩ | ⟨es, h⟩
    · cases h
      simp only [Bool.and_eq_true, decide_eq_true_eq] at es
      obtain ⟨⟨⟨_, h0⟩, h1⟩, h2⟩ := es
      have h2 : off + n.toNat * ei.size < sz := Nat.le_of_ble_eq_true h2
      obtain ⟨oy, e0, e1, e2⟩ := ox
      refine ⟨_, ?_, rfl, ⟨oy, e0, e1, h2⟩, fun h => by cases h⟩
      rcases oy.1.2 with ⟨a, cap, rfl, rfl, _⟩ | ⟨b, o, cap, rfl, _⟩
      · simp at e1; omega
      · simp [Instr.indexAt, asIntOf, run_underlying hu, Instr.sureAddr, den, elemCell, h0, h1, (hT de ei he).run_size w, addr_add, Nat.add_assoc]
    · cases h
  · cases h

theorem run_part_of {t : TypeId} {i : TyI} (hi : TyOK P t i) {vs : Array Value} {o : Nat} {u : Value} (hl : i.agg = true → o + i.size ≤ vs.size)
    (hu : if i.agg then u = .agg ((vs.toList.drop o).take i.size).toArray else vs.toList[o]? = some u) : (part t vs o).run P w = .ok u w := by
  have ha := hi.run_agg w
  have hs := hi.run_size w
  cases hag : i.agg with
  | true =>
    rw [hag] at ha
    simp [hag] at hu hl
    simp only [part, Sem.run_bind, ha, Result.andThen_ok, if_true, hs, Sem.run_pure]
    rw [hu]
    congr 2
    apply Array.ext'
    simp [List.drop_take]
  | false =>
    rw [hag] at ha
    simp [hag] at hu
    simp [part, ha, hu]

theorem cellsOK_of {l : List SV} : CellsOK ρ l (cellsL ρ l).toArray.toList := by simpa using CellsOK.of_cellsL ρ l

theorem indexV_ok (hT : TabOK P T) {t : TypeId} {x ix v : SV} {ps : List Prop} {m : Nat} (h : indexV T t x ix = some (ps, v)) (hp : All ps) (ox : okd W F m x) :
    ∃ u, (Instr.index t (den ρ x) (den ρ ix)).run P w = .ok u w ∧ Good W F ρ m v u := by
  simp only [indexV, Option.bind_eq_some_iff] at h
  obtain ⟨i, hi, ⟨k, n, c⟩, hx, h⟩ := h
  have ty := hT t i hi
  rw [asI_ok hx ρ]
  split at h
  · rename_i cs
    simp only [Option.bind_eq_some_iff] at h
    obtain ⟨⟨len, e⟩, hd, ei, he, h⟩ := h
    obtain ⟨hu, _⟩ := arrD_ok ty hd
    have te := hT e ei he
    rcases cond_some h with ⟨ec, h⟩ | ⟨ec, h⟩
    · rcases cond_some h with ⟨e2, h⟩ | ⟨e2, h⟩
      · simp only [Option.map_eq_some_iff] at h
        obtain ⟨v', hv, h⟩ := h
        cases h
        simp at e2
        obtain ⟨p1, p2, p3, p4⟩ := partC_ok hv (CellsOK.of_cellsL ρ cs) ox
        refine ⟨den ρ v, ?_, rfl, p3, p4⟩
        have := run_part_of (w := w) te (vs := (cellsL ρ cs).toArray) (o := n.toNat * ei.size) (u := den ρ v) (by simpa using p2) (by simpa using p1)
        simp [Instr.index, asIntOf, run_underlying hu, den, e2.1, e2.2, te.run_size w, this]
      · cases h
    · rcases cond_some h with ⟨ea, h⟩ | ⟨ea, h⟩
      · cases h
      · rcases beq_some h with ⟨es, h⟩ | ⟨es, h⟩
        · simp only [Option.bind_eq_some_iff] at h
          obtain ⟨q, hq, h⟩ := h
          rcases beq_some h with ⟨el, h⟩ | ⟨el, h⟩
          · cases h
            have h0 : 0 ≤ n := hp _ (by simp)
            have h1 : n < len := hp (n < len) (by simp)
            have := intsAt_ok hq (CellsOK.of_cellsL ρ cs) n.toNat (by have el' : q.2.1 = len := el; omega)
            refine ⟨_, ?_, rfl, trivial, fun h => by cases h⟩
            have := run_part_of (w := w) te (vs := (cellsL ρ cs).toArray) (o := n.toNat * ei.size) (u := .int q.1 (q.2.2.getD n.toNat 0)) (fun h => by rw [ea] at h; cases h) (by simp only [ea]; simpa [es] using this)
            simp only [den]
            simp [Instr.index, asIntOf, run_underlying hu, h0, h1, te.run_size w, this]
          · cases h
        · cases h
  · rename_i st
    rcases cond_some h with ⟨e, h⟩ | ⟨e, h⟩
    · cases h
      have h0 : 0 ≤ n := hp _ (by simp)
      have h1 : n < st.size := hp (n < st.size) (by simp)
      have hu := isStrD_ok ty e
      have h2 : n.toNat < st.size := by omega
      refine ⟨.int .u8 ((st.data.getD n.toNat 0).toNat), ?_, rfl, trivial, fun h => by cases h⟩
      have h3 : st[n.toNat]? = some (st.data.getD n.toNat 0) := by
        rw [getElem?_pos st n.toNat h2]
        have : n.toNat < st.data.size := h2
        simp only [Array.getD, dif_pos this]
        rfl
      simp [Instr.index, asIntOf, run_underlying hu, den, h0, h3]
    · cases h
  · cases h

theorem fieldA_ok (hT : TabOK P T) {t : TypeId} {x v : SV} {f : Nat} {m : Nat} (h : fieldA T t x f = some v) (ox : okd W F m x) :
    ∃ u, (Instr.fieldAt t (den ρ x) f).run P w = .ok u w ∧ Good W F ρ m v u := by
  simp only [fieldA, Option.bind_eq_some_iff] at h
  obtain ⟨i, hi, fs, hfs, ⟨o, ft⟩, hf, fi, hfi, h⟩ := h
  obtain ⟨gs, hu, hg⟩ := stD_ok (hT t i hi) hfs
  split at h
  · rename_i b off
    rcases beq_some h with ⟨e, h⟩ | ⟨e, h⟩
    · cases h
    · cases h
      subst hg
      simp only [List.getElem?_map, Option.map_eq_some_iff, Prod.mk.injEq] at hf
      obtain ⟨g, hg1, rfl, rfl⟩ := hf
      refine ⟨_, ?_, rfl, ox, fun h => by cases h⟩
      have h2 : gs[f]? = some g := by simpa using hg1
      have hs := (hT g.type fi hfi).run_size w
      simp at e
      simp [Instr.fieldAt, run_underlying hu, h2, Instr.sureAddr, den, fieldPlace, hs, e, addr_add]
  · rename_i g'
    rcases beq_some h with ⟨e, h⟩ | ⟨e, h⟩
    · cases h
    · cases h
      subst hg
      simp only [List.getElem?_map, Option.map_eq_some_iff, Prod.mk.injEq] at hf
      obtain ⟨g, hg1, rfl, rfl⟩ := hf
      refine ⟨_, ?_, rfl, trivial, fun h => by cases h⟩
      have h2 : gs[f]? = some g := by simpa using hg1
      have hs := (hT g.type fi hfi).run_size w
      simp at e
      simp [Instr.fieldAt, run_underlying hu, h2, Instr.sureAddr, den, fieldPlace, hs, e, addr_add]
  · rename_i g' off
    rcases beq_some h with ⟨e, h⟩ | ⟨e, h⟩
    · cases h
    · cases h
      subst hg
      simp only [List.getElem?_map, Option.map_eq_some_iff, Prod.mk.injEq] at hf
      obtain ⟨g, hg1, rfl, rfl⟩ := hf
      refine ⟨_, ?_, rfl, trivial, fun h => by cases h⟩
      have h2 : gs[f]? = some g := by simpa using hg1
      have hs := (hT g.type fi hfi).run_size w
      simp at e
      simp [Instr.fieldAt, run_underlying hu, h2, Instr.sureAddr, den, fieldPlace, hs, e, addr_add]
  · rename_i g' off sz n e'
    rcases beq_some h with ⟨e, h⟩ | ⟨e, h⟩
    · cases h
    · cases h
      subst hg
      simp only [List.getElem?_map, Option.map_eq_some_iff, Prod.mk.injEq] at hf
      obtain ⟨g, hg1, rfl, rfl⟩ := hf
      refine ⟨_, ?_, rfl, ox, fun h => by cases h⟩
      have h2 : gs[f]? = some g := by simpa using hg1
      have hs := (hT g.type fi hfi).run_size w
      simp at e
      have e5 : off + e'.toNat * sz + g.offset = off + g.offset + e'.toNat * sz := by omega
      simp [Instr.fieldAt, run_underlying hu, h2, Instr.sureAddr, den, fieldPlace, hs, e, addr_add, e5]
  · rename_i sz sv n g' e' off
    rcases beq_some h with ⟨e, h⟩ | ⟨e, h⟩
    · cases h
    · rcases cond_some h with ⟨es, h⟩ | ⟨es, h⟩
      · cases h
        subst hg
        simp only [List.getElem?_map, Option.map_eq_some_iff, Prod.mk.injEq] at hf
        obtain ⟨g, hg1, rfl, rfl⟩ := hf
        have es : off + g.offset < sz := Nat.le_of_ble_eq_true es
        obtain ⟨oy, e0, e1, e2⟩ := ox
        refine ⟨_, ?_, rfl, ⟨oy, e0, e1, es⟩, fun h => by cases h⟩
        have h2 : gs[f]? = some g := by simpa using hg1
        have hs := (hT g.type fi hfi).run_size w
        simp at e
        rcases oy.1.2 with ⟨a, cap, rfl, rfl, _⟩ | ⟨b, o, cap, rfl, _⟩
        · simp at e1; omega
        · simp [Instr.fieldAt, run_underlying hu, h2, Instr.sureAddr, den, elemCell, fieldPlace, hs, e, addr_add, Nat.add_assoc]
      · cases h
  · cases h

theorem fieldV_ok (hT : TabOK P T) {t : TypeId} {x v : SV} {f : Nat} {m : Nat} (h : fieldV T t x f = some v) (ox : okd W F m x) :
    ∃ u, (Instr.field t (den ρ x) f).run P w = .ok u w ∧ Good W F ρ m v u := by
  simp only [fieldV, Option.bind_eq_some_iff] at h
  obtain ⟨i, hi, fs, hfs, ⟨o, ft⟩, hf, fi, hfi, h⟩ := h
  obtain ⟨gs, hu, hg⟩ := stD_ok (hT t i hi) hfs
  split at h
  · rename_i cs
    subst hg
    simp only [List.getElem?_map, Option.map_eq_some_iff, Prod.mk.injEq] at hf
    obtain ⟨g, hg1, rfl, rfl⟩ := hf
    obtain ⟨p1, p2, p3, p4⟩ := partC_ok h (CellsOK.of_cellsL ρ cs) ox
    have h2 : gs[f]? = some g := by simpa using hg1
    refine ⟨den ρ v, ?_, rfl, p3, p4⟩
    have := run_part_of (w := w) (hT _ fi hfi) (vs := (cellsL ρ cs).toArray) (o := g.offset) (u := den ρ v) (by simpa using p2) (by simpa using p1)
    simp [Instr.field, run_underlying hu, h2, asAgg, den, this]
  · cases h

theorem toArr_ok (hT : TabOK P T) {rows : List (Option Row)} (hm : MemOK W F ρ rows w) {t : TypeId} {x v : SV} {ps : List Prop} (h : toArr T rows t x = some (ps, v)) (hp : All ps) (ox : okd W F rows.length x) :
    ∃ u, (Instr.arrayAt t (den ρ x)).run P w = .ok u w ∧ Good W F ρ rows.length v u := by
  simp only [toArr, Option.bind_eq_some_iff] at h
  obtain ⟨i, hi, ⟨n, e⟩, hd, h⟩ := h
  obtain ⟨hu, _⟩ := arrD_ok (hT t i hi) hd
  split at h
  · rename_i b off len cap
    cases h
    have h1 : n ≤ len := hp (n ≤ len) (by simp)
    refine ⟨_, ?_, rfl, ox, fun h => by cases h⟩
    have : ¬ len < n := by omega
    simp [Instr.arrayAt, run_underlying hu, den, this]
  · rename_i b len z
    simp only [Option.bind_eq_some_iff] at h
    obtain ⟨⟨r, k'⟩, hl, h⟩ := h
    obtain ⟨_, _, _, hk, _, _⟩ := onLen_ok hm hl
    rcases beq_some h with ⟨e2, h⟩ | ⟨e2, h⟩
    · cases h
    · cases h
      have h1 : n ≤ len := hp (n ≤ len) (by simp)
      have h2 : 0 < k' := hp (0 < k') (by simp)
      refine ⟨_, ?_, rfl, ox, fun h => by cases h⟩
      have : ¬ len < n := by omega
      simp [Instr.arrayAt, run_underlying hu, den, listV_some (hk h2), this]
  · rename_i b off len cap
    rcases ble_some h with ⟨e2, h⟩ | ⟨e2, h⟩
    · cases h
      refine ⟨_, ?_, rfl, ox, fun h => by cases h⟩
      simp at e2
      have : ¬ len < n := by omega
      simp [Instr.arrayAt, run_underlying hu, den, this]
    · cases h
  · rename_i k sv xs
    rcases beq_some h with ⟨e2, h⟩ | ⟨e2, h⟩
    · cases h
    · cases h
      have h1 : (n : Int) ≤ xs.length := hp ((n : Int) ≤ xs.length) (by simp)
      simp at e2
      refine ⟨_, ?_, rfl, ⟨ox, by omega, by omega⟩, fun h => by cases h⟩
      have h3 : ¬ xs.length < n := by omega
      rcases ox with ⟨a, cap, rfl, rfl, _⟩ | ⟨b, off, cap, rfl, _⟩
      · simp at h1; omega
      · simp [Instr.arrayAt, run_underlying hu, den, elemAddr, h3]
  · cases h

theorem lenS_ok (hT : TabOK P T) {t : TypeId} {i : TyI} (hi : T.at t = some i) {x v : SV} {m : Nat} (hf : lenFits i x = true) (h : lenS x = some v) (ox : okd W F m x) (ty : TypeId) :
    ∃ u, (Builtin.len_ #[t] ty #[den ρ x]).run P w = .ok u w ∧ Good W F ρ m v u := by
  obtain ⟨d, hu, _, hd⟩ := (hT t i hi).desc
  have sl : (∀ s, x ≠ .str s) → ∃ e, P.underlying t = some (.slice e) := by
    intro hs
    unfold lenFits at hf
    split at hf
    · split at hf
      · exact absurd rfl (hs _)
      · cases hf
    · rename_i e he
      rw [he] at hd
      cases d <;> simp [DescOK] at hd
      exact ⟨_, hu⟩
    · cases hf
  cases x <;> simp [lenS] at h
  case str s =>
    subst h
    have hu' : P.underlying t = some .string := by
      unfold lenFits at hf
      split at hf
      · rename_i he
        rw [he] at hd
        cases d <;> simp [DescOK] at hd
        exact hu
      · cases hf
      · cases hf
    exact ⟨_, by simp [Builtin.len_, run_underlying hu', den]; rfl, by simp [den, goInt], trivial, fun h => by cases h⟩
  case val u =>
    have hn : u = .slice none 0 0 := by
      have : isNilSlice u = true := by
        cases hq : isNilSlice u with
        | true => rfl
        | false => simp [hq] at h
      unfold isNilSlice at this
      split at this
      · rfl
      · cases this
    subst hn
    simp [isNilSlice] at h
    subst h
    obtain ⟨e, hu'⟩ := sl (fun s h => by cases h)
    exact ⟨_, by simp [Builtin.len_, run_underlying hu', den]; rfl, by simp [den, goInt], trivial, fun h => by cases h⟩
  case sl b off len cap =>
    subst h
    obtain ⟨e, hu'⟩ := sl (fun s h => by cases h)
    exact ⟨_, by simp [Builtin.len_, run_underlying hu', den]; rfl, by simp [den, goInt], trivial, fun h => by cases h⟩
  case os b off len cap =>
    subst h
    obtain ⟨e, hu'⟩ := sl (fun s h => by cases h)
    exact ⟨_, by simp [Builtin.len_, run_underlying hu', den]; rfl, by simp [den, goInt], trivial, fun h => by cases h⟩
  case on b len z =>
    subst h
    obtain ⟨e, hu'⟩ := sl (fun s h => by cases h)
    refine ⟨.int .i64 len, ?_, by simp [den], trivial, fun h => by cases h⟩
    simp only [den, listV]
    split <;> simp [Builtin.len_, run_underlying hu', goInt]
  case rd k sv xs =>
    subst h
    obtain ⟨e, hu'⟩ := sl (fun s h => by cases h)
    have : ∃ a cap, sv = .slice a xs.length cap := by
      rcases ox with ⟨a, cap, rfl, _⟩ | ⟨b, off, cap, rfl, _⟩
      · exact ⟨_, _, rfl⟩
      · exact ⟨_, _, rfl⟩
    obtain ⟨a, cap, rfl⟩ := this
    exact ⟨_, by simp [Builtin.len_, run_underlying hu', den]; rfl, by simp [den, goInt], trivial, fun h => by cases h⟩
  case rs sz sv n f =>
    subst h
    obtain ⟨e, hu'⟩ := sl (fun s h => by cases h)
    have : ∃ a cap, sv = .slice a n cap := by
      rcases ox.1.2 with ⟨a, cap, rfl, _⟩ | ⟨b, off, cap, rfl, _⟩
      · exact ⟨_, _, rfl⟩
      · exact ⟨_, _, rfl⟩
    obtain ⟨a, cap, rfl⟩ := this
    exact ⟨_, by simp [Builtin.len_, run_underlying hu', den]; rfl, by simp [den, goInt], trivial, fun h => by cases h⟩
end Sx
end Go.Proofs.Ytmmejomalfjcnaa
