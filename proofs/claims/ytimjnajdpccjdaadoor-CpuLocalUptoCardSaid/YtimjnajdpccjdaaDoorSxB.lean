/- The executor, laid together. No condition. -/
import Derived.Test.YtimjnajdpccjdaaDoorSxA
import Derived.Laws.Cells
import Derived.Laws.Tables
import Derived.Laws.BytesString
import Derived.Laws.Slices
import Derived.Laws.CopyRow
import Derived.Laws.MakeOwn
namespace Go.Proofs.YtimjnajdpccjdaaDoor
open Go.RowKit
set_option linter.unusedVariables false
set_option linter.unusedSectionVars false
set_option linter.unusedSimpArgs false
section
namespace Sx
variable {P : Program} {T : Tab} {W : World} {F : Nat -> Prop} {nt : Nat} {ρ ρ' : Num} {s : SS} {a : Act} {w : World}
theorem un_ok {op : UnOp} {x : SV} {ps : List Prop} {v : SV} {m : Nat} (h : un op x = some (ps, v)) (hp : All ps) : ∃ u, (Op.unary op (den ρ x)).run P w = .ok u w /\ Good W F ρ m v u := by
 cases op <;> simp only [un, Option.map_eq_some_iff, reduceCtorEq] at h
 ·obtain ⟨⟨k, n, c⟩, h1, h2⟩ := h
  rw [asI_ok h1 ρ]
  exact ⟨.int k (k.wrap (0 - n)), by simp [Op.unary, Op.intArith], arith_ok' h2 hp⟩
 ·obtain ⟨⟨k, n, c⟩, h1, h2⟩ := h
  simp at h2; obtain ⟨rfl, rfl⟩ := h2
  rw [asI_ok h1 ρ]
  exact ⟨_, rfl, by rw [mkI_den]; rfl, mkI_okd .., mkI_top _ _ _⟩
 ·obtain ⟨⟨b, c⟩, h1, h2⟩ := h
  simp at h2; obtain ⟨rfl, rfl⟩ := h2
  rw [asB_ok h1 ρ]
  exact ⟨.bool !b, rfl, by rw [mkB_den], mkB_okd .., mkB_top _ _⟩
theorem wider_wrap {k k' : IntKind} {n : Int} (h : wider k k' = true) (hn : InK k n) : k'.wrap n = n := by
 apply wrap_in
 cases k <;> cases k' <;> first | (simp [wider] at h; done) | (simp only [InK] at hn ⊢; omega)
theorem intD_ok {t : TypeId} {i : TyI} (h : TyOK P t i) {k : IntKind} (hk : intD i = some k) : P.underlying t = some (.int k) := by
 obtain ⟨d, hu, _, hd⟩ := h.desc
 unfold intD at hk
 split at hk <;> simp at hk
 rename_i e
 rw [e] at hd
 cases d <;> simp [DescOK] at hd
 rw [hu, hd, hk]
theorem arrD_ok {t : TypeId} {i : TyI} (h : TyOK P t i) {q : Nat × TypeId} (hk : arrD i = some q) : P.underlying t = some (.array q.1 q.2) /\ i.agg = true := by
 obtain ⟨d, hu, ha, hd⟩ := h.desc
 unfold arrD at hk
 split at hk <;> simp at hk
 rename_i e
 rw [e] at hd
 cases d <;> simp [DescOK] at hd
 subst hk
 exact ⟨by rw [hu, hd.1, hd.2], by rw [<- ha]; rfl⟩
theorem slD_ok {t : TypeId} {i : TyI} (h : TyOK P t i) {e : TypeId} (hk : slD i = some e) : P.underlying t = some (.slice e) := by
 obtain ⟨d, hu, _, hd⟩ := h.desc
 unfold slD at hk
 split at hk <;> simp at hk
 rename_i e
 rw [e] at hd
 cases d <;> simp [DescOK] at hd
 rw [hu, hd, hk]
theorem stD_ok {t : TypeId} {i : TyI} (h : TyOK P t i) {l : List (Nat × TypeId)} (hk : stD i = some l) : ∃ fs : Array Field, P.underlying t = some (.struct fs) /\ fs.toList.map (fun f => (f.offset, f.type)) = l := by
 obtain ⟨d, hu, _, hd⟩ := h.desc
 unfold stD at hk
 split at hk <;> simp at hk
 rename_i e
 rw [e] at hd
 cases d <;> simp [DescOK] at hd
 exact ⟨_, hu, by rw [hd, hk]⟩
theorem isStrD_ok {t : TypeId} {i : TyI} (h : TyOK P t i) (hk : isStrD i = true) : P.underlying t = some .string := by
 obtain ⟨d, hu, _, hd⟩ := h.desc
 unfold isStrD at hk
 split at hk <;> simp at hk
 rename_i e
 rw [e] at hd
 cases d <;> simp [DescOK] at hd
 exact hu
theorem conv_ok (hT : TabOK P T) {src dst : TypeId} {x : SV} {ps : List Prop} {v : SV} {m : Nat} (h : conv T dst x = some (ps, v)) (hp : All ps) (hsrc : (T.at src).isSome = true) :
  ∃ u, (convert src dst (den ρ x)).run P w = .ok u w /\ Good W F ρ m v u := by
 simp only [conv, Option.bind_eq_some_iff] at h
 obtain ⟨i, hi, k', hk, ⟨k, n, c⟩, hx, h⟩ := h
 have hu := intD_ok (hT dst i hi) hk
 obtain ⟨j, hs⟩ := Option.isSome_iff_exists.1 hsrc
 obtain ⟨sd, hsu, _, _⟩ := (hT src j hs).desc
 rw [asI_ok hx ρ]
 refine ⟨.int k' (k'.wrap n), by simp [convert, run_underlying hsu, run_underlying hu, Conv.intToInt], ?_⟩
 cases c with
 | true => simp at h; obtain ⟨rfl, rfl⟩ := h; exact ⟨rfl, trivial, fun h => by cases h⟩
 | false =>
   simp at h
   cases hw : wider k k' with
   | true =>
     simp [hw] at h; obtain ⟨rfl, rfl⟩ := h
     have := wider_wrap hw (hp (InK k n) (by simp))
     exact ⟨by simp [den, this], trivial, fun h => by cases h⟩
   | false => simp [hw] at h; obtain ⟨rfl, rfl⟩ := h; exact ⟨rfl, trivial, fun h => by cases h⟩
theorem rowOf_both {rows : List (Option Row)} {b : Nat} {r : Row} (h : rowOf rows b = some r) : rows[b]? = some (some r) /\ r.ob = none := by
 unfold rowOf at h
 split at h
 ·rename_i r0 hr
  rcases h0 : r0.ob with _ | x
  ·simp [h0] at h; subst h; exact ⟨hr, h0⟩
  ·simp [h0] at h
 ·cases h
theorem rowOf_get {rows : List (Option Row)} {b : Nat} {r : Row} (h : rowOf rows b = some r) : rows[b]? = some (some r) := (rowOf_both h).1
theorem rowOf_ob {rows : List (Option Row)} {b : Nat} {r : Row} (h : rowOf rows b = some r) : r.ob = none := (rowOf_both h).2
theorem rowOf_ok {rows : List (Option Row)} {b : Nat} {r : Row} (hm : MemOK W F ρ rows w) (h : rowOf rows b = some r) :
  ∃ l : List Value, CellsOK ρ r.cs l /\ okdL W F rows.length r.cs /\ (∀ o, o < l.length -> w.cell? ⟨(ρ b).1, o, none⟩ = l[o]?) /\ b < rows.length := by
 have hr := rowOf_get h
 obtain ⟨h1, h2⟩ := hm.row b r hr
 have hlt := (List.getElem?_eq_some_iff.1 hr).1
 rcases h1 with ⟨_, c, l, rest, h3, h4, h5, _⟩ | ⟨_, h3⟩
 ·refine ⟨l, h5, h2, fun o ho => ?_, hlt⟩
  have : c[o]? = c.toList[o]? := by simp
  simp only [World.cell?, h3]
  simp only [Option.isSome_none, Bool.false_eq_true, if_false]
  rw [this, h4, List.getElem?_append_left ho]
 ·obtain ⟨gs, h3, h4⟩ := h3
  obtain rfl := h4 (rowOf_ob h)
  exact ⟨[], h3, h2, fun o ho => by simp at ho, hlt⟩
theorem rowOf_block {rows : List (Option Row)} {b : Nat} {r : Row} (hm : MemOK W F ρ rows w) (h : rowOf rows b = some r) :
  (Has ρ b r /\ ∃ (c : Array Value) (l rest : List Value), w.heap[(ρ b).1]? = some (.cells c r.ty (0, 0)) /\ c.toList = l ++ rest /\ CellsOK ρ r.cs l /\ (r.sz = 0 -> rest = []) /\ (r.sz ≠ 0 -> c.size = (ρ b).2 * r.sz)) ∨ (¬ Has ρ b r /\ CellsOK ρ r.cs []) := by
 rcases (hm.row b r (rowOf_get h)).1 with h1 | ⟨h1, gs, h2, h3⟩
 ·exact .inl h1
 ·obtain rfl := h3 (rowOf_ob h)
  exact .inr ⟨h1, h2⟩
theorem addr_add (b o j : Nat) : (⟨b, o, none⟩ : Addr).add j = ⟨b, o + j, none⟩ := by unfold Addr.add; split <;> simp_all
theorem run_loadVar_of {t : TypeId} {i : TyI} (hi : TyOK P t i) (b o : Nat) (vs : List Value) (hc : ∀ j, o + j < vs.length -> j < i.size ∨ i.agg = false -> w.cell? ⟨b, o + j, none⟩ = vs[o + j]?) (hl : i.agg = true -> o + i.size <= vs.length) (u : Value)
  (hu : if i.agg then u = .agg ((vs.drop o).take i.size).toArray else vs[o]? = some u) : (loadVar t ⟨b, o, none⟩).run P w = .ok u w := by
 have ha := hi.run_agg w
 have hs := hi.run_size w
 cases hag : i.agg with
 | true =>
   rw [hag] at ha
   simp [hag] at hu hl
   have h1 := run_loadCells_list (P := P) w ⟨b, o, none⟩ ((vs.drop o).take i.size) (fun j v hv => by
    rw [addr_add]
    rw [List.getElem?_take] at hv
    split at hv
    ·rw [hc j (by omega) (.inl (by assumption))]; simpa using hv
    ·cases hv)
   have h2 : ((vs.drop o).take i.size).length = i.size := by simp; omega
   rw [h2] at h1
   simp [loadVar, ha, hs, h1, hu]
 | false =>
   rw [hag] at ha
   simp [hag] at hu
   have := hc 0 (by simpa using (List.getElem?_eq_some_iff.1 hu).1) (.inr hag)
   simp only [Nat.add_zero] at this
   simp [loadVar, ha, this, hu]
theorem run_loadVar_cell {t : TypeId} {i : TyI} (hi : TyOK P t i) (ha : i.agg = false) {b o : Nat} {u : Value} (hc : w.cell? ⟨b, o, none⟩ = some u) : (loadVar t ⟨b, o, none⟩).run P w = .ok u w := by
 have h := hi.run_agg w
 rw [ha] at h
 simp [loadVar, h, hc]
theorem partC_ok {i : TyI} {l : List SV} {off : Nat} {v : SV} {vs : List Value} {m : Nat} (h : partC i l off = some v) (hc : CellsOK ρ l vs) (ho : okdL W F m l) :
  (if i.agg then den ρ v = .agg ((vs.drop off).take i.size).toArray else vs[off]? = some (den ρ v)) /\ (i.agg = true -> off + i.size <= vs.length) /\ okd W F m v /\ v ≠ .top := by
 unfold partC at h
 rcases cond_some h with ⟨e, h⟩ | ⟨e, h⟩
 ·simp only [Option.bind_eq_some_iff] at h
  obtain ⟨c, ⟨r, h1, h2⟩, h3⟩ := h
  rcases cond_some h3 with ⟨e3, h3⟩ | ⟨e3, h3⟩
  ·cases h3
   obtain ⟨d1, d2⟩ := dropC_ok hc h1
   obtain ⟨t1, t2⟩ := takeC_ok d1 h2
   have := t1.noTop e3
   refine ⟨by simp [e, den, this], fun _ => by simp at t2; omega, okdL_takeC (okdL_dropC ho h1) h2, fun h => by cases h⟩
  ·cases h3
 ·have hne : v ≠ .top := by rintro rfl; split at h <;> simp_all
  have h' : cellAt l off = some v := by
   cases hx : cellAt l off with
   | none => simp [hx] at h
   | some u => cases u <;> simp [hx] at h <;> simp [h]
  rcases cellAt_ok hc h' with h2 | h2
  ·exact absurd h2 hne
  ·exact ⟨by simp [e, h2], (fun h => by rw [e] at h; cases h), okdL_cellAt ho h', hne⟩
theorem intsAt_ok : ∀ {l : List SV} {o : Nat} {q : IntKind × Nat × List Int} {vs : List Value}, intsAt l o = some q -> CellsOK ρ l vs -> ∀ j, j < q.2.1 -> vs[o + j]? = some (.int q.1 (q.2.2.getD j 0))
 | [], o, q, vs, h, hc, j, hj => by simp [intsAt] at h
 | c :: r, o, q, vs, h, hc, j, hj => by
   by_cases hi : ∃ k n xs, c = .ints k n xs
   ·obtain ⟨k, n, xs, rfl⟩ := hi
    obtain ⟨t, rfl, h2⟩ := hc
    simp only [intsAt] at h
    rcases beq_some h with ⟨e, h⟩ | ⟨e, h⟩
    ·cases h; subst e
     rw [List.getElem?_append_left (by simp [intCells_length]; omega)]
     simpa using intCells_get k n xs j hj
    ·rcases ble_some h with ⟨e2, h⟩ | ⟨e2, h⟩
     ·have := intsAt_ok h h2 j hj
      rw [List.getElem?_append_right (by simp [intCells_length]; omega), intCells_length, show o + j - n = o - n + j by omega]
      exact this
     ·cases h
   ·rcases Classical.em (∃ z n f, c = SV.many z n f) with ⟨_, _, _, rfl⟩ | hm9
    ·simp [intsAt] at h
    have e1 : intsAt (c :: r) o = bif Nat.beq o 0 then none else intsAt r (o - 1) := by cases c <;> first | rfl | exact absurd ⟨_, _, _, rfl⟩ hi | exact absurd ⟨_, _, _, rfl⟩ hm9
    rw [e1] at h
    rcases beq_some h with ⟨e, h⟩ | ⟨e, h⟩
    ·cases h
    ·have : ∃ v t, vs = v :: t /\ CellsOK ρ r t := by
      cases hs : single c with
      | true => obtain ⟨t, e, h2⟩ := hc.one hs; exact ⟨_, t, e, h2⟩
      | false =>
        cases c <;> simp [single] at hs
        ·exact hc
        ·exact absurd ⟨_, _, _, rfl⟩ hi
        ·exact absurd ⟨_, _, _, rfl⟩ hm9
     obtain ⟨v, t, rfl, h2⟩ := this
     have := intsAt_ok h h2 j hj
     rw [show o + j = (o - 1 + j) + 1 by omega]
     simpa using this
theorem runI_ok {k : IntKind} : ∀ {l : List SV} {vs : List Value}, CellsOK ρ l vs -> ∀ j, j < (runI k l).length -> vs[j]? = some (.int k ((runI k l).getD j 0))
 | [], vs, hc, j, hj => by simp [runI] at hj
 | c :: r, vs, hc, j, hj => by
   have one : ∀ (k' : IntKind) (n : Int), single c = true -> den ρ c = .int k' n -> runI k (c :: r) = (bif decide (k' = k) then n :: runI k r else []) -> vs[j]? = some (.int k ((runI k (c :: r)).getD j 0)) := fun k' n hs hd he => by
    obtain ⟨t, rfl, h2⟩ := CellsOK.one hs hc
    by_cases hk : k' = k
    ·subst hk
     have he : runI k' (c :: r) = n :: runI k' r := by rw [he]; simp
     rw [he] at hj ⊢
     cases j with
     | zero => simp [hd]
     | succ j =>
       have := runI_ok h2 j (by simpa using hj)
       simpa using this
    ·rw [he] at hj
     simp [hk] at hj
   cases c <;> first | exact one _ _ rfl rfl rfl | (simp [runI] at hj)
theorem intsAtX_ok {l : List SV} {o : Nat} {q : IntKind × Nat × List Int} {vs : List Value} (h : intsAtX l o = some q) (hc : CellsOK ρ l vs) (j : Nat) (hj : j < q.2.1) : vs[o + j]? = some (.int q.1 (q.2.2.getD j 0)) := by
 unfold intsAtX at h
 split at h
 ·rename_i q' hq
  cases h
  exact intsAt_ok hq hc j hj
 ·unfold runAt at h
  simp only [Option.bind_eq_some_iff, Option.map_eq_some_iff] at h
  obtain ⟨l', h1, k, h2, h3⟩ := h
  cases h3
  have hd := (dropC_ok hc h1).1
  have := runI_ok (k := k) hd j hj
  rw [List.getElem?_drop] at this
  exact this
mutual
theorem okd_mono {n m : Nat} (h : n <= m) : ∀ {c : SV}, okd W F n c -> okd W F m c
 | .ptr i _, hc => Nat.lt_of_lt_of_le hc h
 | .pte i _ _, hc => Nat.lt_of_lt_of_le hc h
 | .ptm i _ _ _, hc => Nat.lt_of_lt_of_le hc h
 | .many _ _ _, hc => hc
 | .sl i _ _ _, hc => Nat.lt_of_lt_of_le hc h
 | .os i _ _ _, hc => Nat.lt_of_lt_of_le hc h
 | .on i _ _, hc => Nat.lt_of_lt_of_le hc h
 | .ow i _ _ _ _ _, hc => Nat.lt_of_lt_of_le hc h
 | .gpe _ _ _ _ _, hc => hc
 | .gp _ _, _ => trivial
 | .rd _ _ _, hc => hc
 | .rda _ _ _ _, hc => hc
 | .rs _ _ _ _, hc => hc
 | .rsa _ _ _ _ _ _, hc => hc
 | .agg cs, hc => okdL_mono h (l := cs) hc
 | .tup cs, hc => okdL_mono h (l := cs) hc
 | .fn _ x y, hc => ⟨okdL_mono h (l := x) hc.1, okdL_mono h (l := y) hc.2⟩
 | .top, _ | .lit _ _, _ | .int _ _, _ | .litb _, _ | .bool _, _ | .str _, _ | .val _, _ | .hnd _, _ | .ints _ _ _, _ => trivial
theorem okdL_mono {n m : Nat} (h : n <= m) : ∀ {l : List SV}, okdL W F n l -> okdL W F m l
 | [], _ => trivial
 | c :: l, hc => ⟨okd_mono h hc.1, okdL_mono h hc.2⟩
end
mutual
theorem den_congr {n : Nat} (h : ∀ i, i < n -> ρ' i = ρ i) : ∀ {c : SV}, okd W F n c -> den ρ' c = den ρ c
 | .ptr i _, hc => by simp [den, h i hc]
 | .pte i _ _, hc => by simp [den, h i hc]
 | .ptm i _ _ _, hc => by simp [den, h i hc]
 | .sl i _ _ _, hc => by simp [den, h i hc]
 | .os i _ _ _, hc => by simp [den, h i hc]
 | .on i _ _, hc => by simp [den, h i hc]
 | .ow i _ _ _ _ _, hc => by simp [den, h i hc]
 | .gpe _ _ _ _ _, _ => rfl
 | .gp _ _, _ => rfl
 | .agg cs, hc => by simp [den, cellsL_congr h (l := cs) hc]
 | .tup cs, hc => by simp [den, denL_congr h (l := cs) hc]
 | .fn _ x y, hc => by simp [den, denL_congr h (l := x) hc.1, denL_congr h (l := y) hc.2]
 | .rd _ _ _, _ | .rda _ _ _ _, _ | .rs _ _ _ _, _ | .rsa _ _ _ _ _ _, _ | .top, _ | .lit _ _, _ | .int _ _, _ | .litb _, _ | .bool _, _ | .str _, _ | .val _, _ | .hnd _, _ | .ints _ _ _, _ | .many _ _ _, _ => rfl
theorem denL_congr {n : Nat} (h : ∀ i, i < n -> ρ' i = ρ i) : ∀ {l : List SV}, okdL W F n l -> denL ρ' l = denL ρ l
 | [], _ => rfl
 | c :: l, hc => by simp [denL, den_congr h hc.1, denL_congr h hc.2]
theorem cellsL_congr {n : Nat} (h : ∀ i, i < n -> ρ' i = ρ i) : ∀ {l : List SV}, okdL W F n l -> cellsL ρ' l = cellsL ρ l
 | [], _ => rfl
 | c :: l, hc => by
   have h1 := den_congr h hc.1
   have h2 := cellsL_congr h hc.2
   cases c <;> simp_all [cellsL, den]
end
theorem Reads.cell {k : IntKind} {v : Value} {xs : List Int} {rows : List (Option Row)} (h : Reads W F k v xs) (hm : MemOK W F ρ rows w) {j : Nat} (hj : j < xs.length) :
  ∃ b off cap, v = .slice (some ⟨b, off, none⟩) xs.length cap /\ ∀ i, i < xs.length -> w.cell? ⟨b, off + i, none⟩ = some (.int k (xs.getD i 0)) := by
 rcases h with ⟨a, cap, rfl, rfl, _⟩ | ⟨b, off, cap, rfl, _, h1, h2, h3⟩
 ·simp at hj
 ·refine ⟨b, off, cap, rfl, fun i hi => ?_⟩
  rw [<- h3 i hi]
  exact World.cell?_of_block (w := W) (hm.frame.block b h1 h2)
theorem ReadsS.cell {sz n : Nat} {v : Value} {f : Nat -> List Value} {rows : List (Option Row)} (h : ReadsS W F sz v n f) (hm : MemOK W F ρ rows w) {j : Nat} (hj : j < n) :
  ∃ b off cap, v = .slice (some ⟨b, off, none⟩) n cap /\ ∀ e, e < n -> ∀ j, j < sz -> w.cell? ⟨b, off + e * sz + j, none⟩ = some ((f e).getD j undef) := by
 rcases h.2 with ⟨a, cap, rfl, rfl, _⟩ | ⟨b, off, cap, rfl, _, h1, h2, h3⟩
 ·omega
 ·refine ⟨b, off, cap, rfl, fun e he i hi => ?_⟩
  rw [<- h3 e he i hi]
  exact World.cell?_of_block (w := W) (hm.frame.block b h1 h2)
theorem glob_row {rows : List (Option Row)} (hm : MemOK W F ρ rows w) {g : Nat} {cs : List SV} (h : globCells g = some cs) : ∀ o, w.cell? ⟨g, o, none⟩ = (cellsL Num.zero cs)[o]? := by
 obtain ⟨h1, c, ty, fr, h2, h3⟩ := hm.glob g cs h
 have hb := hm.frame.block g (Array.getElem?_eq_some_iff.1 h2).1 h1
 intro o
 rw [h2] at hb
 simp only [World.cell?, hb]
 simp [<- h3]
theorem globs_plain : globs.all (fun p => plainL p.2) = true := by with_unfolding_all rfl
theorem glob_plain {g : Nat} {cs : List SV} (h : globCells g = some cs) : plainL cs = true := by
 have key : ∀ (l : List (Nat × List SV)), l.all (fun p => plainL p.2) = true -> List.lookup g l = some cs -> plainL cs = true := by
  intro l
  induction l with
  | nil => intro _ h; simp at h
  | cons p l ih =>
    intro ha h
    simp only [List.all_cons, Bool.and_eq_true] at ha
    obtain ⟨d, v⟩ := p
    simp only [List.lookup] at h
    split at h
    ·cases h; exact ha.1
    ·exact ih ha.2 h
 exact key _ globs_plain h
theorem plain_cellAt : ∀ {l : List SV} {o : Nat} {v : SV}, plainL l = true -> cellAt l o = some v -> v ≠ .top
 | [], o, v, h, hv => by simp [cellAt] at hv
 | c :: r, o, v, h, hv => by
   simp only [plainL, Bool.and_eq_true] at h
   have hc : c ≠ .top := by rintro rfl; simp [plain] at h
   cases c <;> simp only [cellAt, reduceCtorEq] at hv <;> rcases cond_some hv with ⟨e, hv⟩ | ⟨e, hv⟩ <;> first
    | exact plain_cellAt h.2 hv
    | (simp at hv; subst hv; first | exact hc | exact fun h => by cases h)
theorem glob_load {rows : List (Option Row)} (hm : MemOK W F ρ rows w) {t : TypeId} {i : TyI} (ty : TyOK P t i) {g : Nat} {cs : List SV} (hcs : globCells g = some cs) {v : SV} {off : Nat} (hv : partC i cs off = some v) (o : Nat) (ho : o = off) :
  ∃ u, (Instr.loadAt t (.pointer (some ⟨g, o, none⟩))).run P w = .ok u w /\ Good W F ρ rows.length v u := by
 subst ho
 have hp := glob_plain hcs
 obtain ⟨p1, p2, p3, p4⟩ := partC_ok (W := W) (F := F) (m := rows.length) hv (CellsOK.of_cellsL ρ cs) (plainL_okd _ _ _ hp)
 have hc := glob_row hm hcs
 rw [plainL_cells Num.zero ρ hp] at hc
 refine ⟨den ρ v, ?_, rfl, p3, p4⟩
 have := run_loadVar_of (w := w) ty g o (cellsL ρ cs) (fun j hj _ => hc _) p2 (den ρ v) p1
 simp [Instr.loadAt, Instr.sureAddr, this]
theorem glob_cell {rows : List (Option Row)} (hm : MemOK W F ρ rows w) {g : Nat} {cs : List SV} (hcs : globCells g = some cs) {u : SV} {o : Nat} (hu : cellAt cs o = some u) : w.cell? ⟨g, o, none⟩ = some (den ρ u) := by
 have hp := glob_plain hcs
 rw [glob_row hm hcs, plainL_cells Num.zero ρ hp]
 rcases cellAt_ok (CellsOK.of_cellsL ρ cs) hu with h | h
 ·exact absurd h (plain_cellAt hp hu)
 ·exact h
theorem colC_ok {cs : List SV} {off sz : Nat} : ∀ {n : Nat} {l : List SV}, colC cs off sz n = some l -> l.length = n /\ ∀ j, j < n -> ∃ u, l[j]? = some u /\ cellAt cs (off + j * sz) = some u
 | 0, l, h => by simp [colC] at h; subst h; exact ⟨rfl, fun j hj => by omega⟩
 | n + 1, l, h => by
   simp only [colC] at h
   split at h
   ·rename_i l' c h1 h2
    cases h
    obtain ⟨i1, i2⟩ := colC_ok h1
    refine ⟨by simp [i1], fun j hj => ?_⟩
    by_cases hjn : j < n
    ·obtain ⟨u, u1, u2⟩ := i2 j hjn
     exact ⟨u, by rw [List.getElem?_append_left (by omega)]; exact u1, u2⟩
    ·obtain rfl : j = n := by omega
     exact ⟨c, by rw [List.getElem?_append_right (by omega)]; simp [i1], h2⟩
   ·cases h
theorem colI_ok {k : IntKind} : ∀ {l : List SV} {xs : List Int}, colI k l = some xs -> xs.length = l.length /\ ∀ j (u : SV), l[j]? = some u -> ∃ cl, asI u = some (k, xs.getD j 0, cl)
 | [], xs, h => by simp [colI] at h; subst h; exact ⟨rfl, fun j u h => by simp at h⟩
 | c :: r, xs, h => by
   simp only [colI] at h
   split at h
   ·rename_i q l' h1 h2
    rcases cond_some h with ⟨e, h⟩ | ⟨e, h⟩
    ·cases h
     obtain ⟨i1, i2⟩ := colI_ok h2
     refine ⟨by simp [i1], fun j u hu => ?_⟩
     cases j with
     | zero => simp at hu; subst hu; obtain ⟨k', m, cl⟩ := q; simp at e; subst e; exact ⟨cl, h1⟩
     | succ j => simpa using i2 j u (by simpa using hu)
    ·cases h
   ·cases h
theorem colS_ok : ∀ {l : List SV} {xs : List ByteArray}, colS l = some xs -> xs.length = l.length /\ ∀ j (u : SV), l[j]? = some u -> u = .str (xs.getD j ⟨#[]⟩)
 | [], xs, h => by simp [colS] at h; subst h; exact ⟨rfl, fun j u h => by simp at h⟩
 | c :: r, xs, h => by
   cases c <;> simp only [colS, Option.map_eq_some_iff, reduceCtorEq] at h
   obtain ⟨l', h2, h⟩ := h
   cases h
   obtain ⟨i1, i2⟩ := colS_ok h2
   refine ⟨by simp [i1], fun j u hu => ?_⟩
   cases j with
   | zero => simp at hu; subst hu; rfl
   | succ j => simpa using i2 j u (by simpa using hu)
theorem pickC_ok {l : List SV} {e : Int} {v : SV} {m : Nat} (h : pickC l e = some v) (he : e.toNat < l.length) : (l[e.toNat]?).map (den ρ) = some (den ρ v) /\ okd W F m v /\ v ≠ .top := by
 have hu : l[e.toNat]? = some l[e.toNat] := by simp
 unfold pickC at h
 cases l with
 | nil => cases h
 | cons c r =>
   simp only at h
   split at h
   ·rename_i q hq
    simp only [Option.map_eq_some_iff] at h
    obtain ⟨xs, h1, h⟩ := h
    cases h
    obtain ⟨cl, h2⟩ := (colI_ok h1).2 _ _ hu
    rw [hu]
    exact ⟨by simp [asI_ok h2 ρ, den], trivial, fun h => by cases h⟩
   ·simp only [Option.map_eq_some_iff] at h
    obtain ⟨xs, h1, h⟩ := h
    cases h
    have h2 := (colS_ok h1).2 _ _ hu
    rw [hu]
    exact ⟨by rw [Option.map_some, h2], trivial, fun h => by cases h⟩
theorem cellsL_app (ρ : Num) : ∀ (a b : List SV), cellsL ρ (a ++ b) = cellsL ρ a ++ cellsL ρ b
 | [], b => rfl
 | c :: a, b => by
   cases hs : single c with
   | true => rw [List.cons_append, cellsL_one hs, cellsL_one hs, cellsL_app ρ a b, List.cons_append]
   | false =>
     cases c <;> simp [single] at hs
     ·simp only [List.cons_append, cellsL, cellsL_app ρ a b]
     ·simp only [List.cons_append, cellsL, cellsL_app ρ a b, List.append_assoc]
     ·simp only [List.cons_append, cellsL, cellsL_app ρ a b, List.append_assoc]
theorem cellsL_singles (ρ : Num) (k : IntKind) (xs : List Int) : ∀ n, cellsL ρ (singlesS k xs n) = intCells k n xs
 | 0 => rfl
 | n + 1 => by
   rw [singlesS, cellsL_app, cellsL_singles ρ k xs n]
   simp [intCells, cellsL, den, List.range_succ]
theorem okdL_singles (n' : Nat) (k : IntKind) (xs : List Int) : ∀ n, okdL W F n' (singlesS k xs n)
 | 0 => trivial
 | n + 1 => by
   rw [singlesS]
   have app : ∀ (a b : List SV), okdL W F n' a -> okdL W F n' b -> okdL W F n' (a ++ b) := by
    intro a
    induction a with
    | nil => intro b _ h; exact h
    | cons c a ih => intro b h1 h2; exact ⟨h1.1, ih b h1.2 h2⟩
   exact app _ _ (okdL_singles n' k xs n) ⟨trivial, trivial⟩
theorem cellsL_piece (ρ : Num) (k : IntKind) (n : Nat) (xs : List Int) : cellsL ρ (pieceS k n xs) = intCells k n xs := by
 unfold pieceS
 cases Nat.ble n 8 with
 | true => exact cellsL_singles ρ k xs n
 | false => simp [cellsL]
theorem okdL_piece (n' : Nat) (k : IntKind) (n : Nat) (xs : List Int) : okdL W F n' (pieceS k n xs) := by
 unfold pieceS
 cases Nat.ble n 8 with
 | true => exact okdL_singles n' k xs n
 | false => exact ⟨trivial, trivial⟩
theorem loadS_ok (hT : TabOK P T) {rows : List (Option Row)} (hm : MemOK W F ρ rows w) {t : TypeId} {x v : SV} {ps : List Prop} (h : loadS T rows t x = some (ps, v)) (hp : All ps) (ox : okd W F rows.length x) :
  ∃ u, (Instr.loadAt t (den ρ x)).run P w = .ok u w /\ Good W F ρ rows.length v u := by
 simp only [loadS, Option.bind_eq_some_iff] at h
 obtain ⟨i, hi, h⟩ := h
 have ty := hT t i hi
 split at h
 ·rename_i b off
  simp only [Option.bind_eq_some_iff, Option.map_eq_some_iff] at h
  obtain ⟨r, hr, v', hv, h⟩ := h
  cases h
  obtain ⟨c, h2, h3, h4, _⟩ := rowOf_ok hm hr
  obtain ⟨p1, p2, p3, p4⟩ := partC_ok hv h2 h3
  refine ⟨den ρ v, ?_, rfl, p3, p4⟩
  have := run_loadVar_of (w := w) ty (ρ b).1 off c (fun j hj _ => h4 _ hj) p2 (den ρ v) p1
  simp [Instr.loadAt, Instr.sureAddr, den, this]
 ·rename_i b off e
  rcases cond_some h with ⟨ea, h⟩ | ⟨ea, h⟩
  ·simp only [Option.bind_eq_some_iff] at h
   obtain ⟨d, hd, h⟩ := h
   rcases cond_some h with ⟨es, h⟩ | ⟨es, h⟩
   ·simp only [Option.bind_eq_some_iff, Option.map_eq_some_iff] at h
    obtain ⟨r, hr, q, hq, h⟩ := h
    cases h
    simp only [Bool.and_eq_true] at es
    have es1 := Nat.eq_of_beq_eq_true es.1
    have es2 : 0 < d.1 := Nat.le_of_ble_eq_true es.2
    obtain ⟨c, h2, h3, h4, _⟩ := rowOf_ok hm hr
    have e0 : 0 <= e := hp _ (by simp)
    have e1 : e + d.1 <= q.2.1 := hp (e + d.1 <= q.2.1) (by simp)
    have e2 : q.2.2.length = q.2.1 := hp (q.2.2.length = q.2.1) (by simp)
    have hc : ∀ j, j < d.1 -> c[off + e.toNat + j]? = some (.int q.1 (q.2.2.getD (e.toNat + j) 0)) := fun j hj => by
     have := intsAt_ok hq h2 (e.toNat + j) (by omega)
     rwa [<- Nat.add_assoc] at this
    have hlen : off + e.toNat + d.1 <= c.length := by
     have := hc (d.1 - 1) (by omega)
     have := (List.getElem?_eq_some_iff.1 this).1
     omega
    refine ⟨_, ?_, rfl, okdL_piece _ _ _ _, fun h => by cases h⟩
    have := run_loadVar_of (w := w) ty (ρ b).1 (off + e.toNat) c (fun j hj _ => h4 _ hj) (fun _ => by omega) (den ρ (.agg (pieceS q.1 d.1 ((q.2.2.drop e.toNat).take d.1)))) (by
     simp only [ea, if_true, den, cellsL_piece]
     congr 2
     apply List.ext_getElem?
     intro j
     by_cases hj : j < d.1
     ·rw [intCells_get _ _ _ _ hj, List.getElem?_take_of_lt (by omega), List.getElem?_drop, hc j hj]
      have h2 : e.toNat + j < q.2.2.length := by omega
      simp [List.getD, h2, hj]
     ·rw [List.getElem?_eq_none (by simp [intCells_length]; omega), List.getElem?_eq_none (by simp; omega)])
    simp only [Instr.loadAt, Instr.sureAddr, den]
    simpa [den] using this
   ·cases h
  ·simp only [Option.bind_eq_some_iff, Option.map_eq_some_iff] at h
   obtain ⟨r, hr, q, hq, h⟩ := h
   cases h
   obtain ⟨c, h2, h3, h4, _⟩ := rowOf_ok hm hr
   have e0 : 0 <= e := hp _ (by simp)
   have e1 : e < q.2.1 := hp _ (by simp)
   have hc := intsAtX_ok hq h2 e.toNat (by omega)
   refine ⟨_, ?_, rfl, trivial, fun h => by cases h⟩
   have := run_loadVar_of (w := w) ty (ρ b).1 (off + e.toNat) c (fun j hj _ => h4 _ hj) (fun h => by rw [ea] at h; cases h) (.int q.1 (q.2.2.getD e.toNat 0)) (by simp [ea]; simpa using hc)
   simp only [Instr.loadAt, Instr.sureAddr, den]
   simpa using this
 ·rename_i g
  simp only [Option.bind_eq_some_iff, Option.map_eq_some_iff] at h
  obtain ⟨cs, hcs, v', hv, h⟩ := h
  cases h
  exact glob_load hm ty hcs hv 0 rfl
 ·rename_i g off
  simp only [Option.bind_eq_some_iff, Option.map_eq_some_iff] at h
  obtain ⟨cs, hcs, v', hv, h⟩ := h
  cases h
  exact glob_load hm ty hcs hv off rfl
 ·rename_i g off sz n e
  rcases cond_some h with ⟨ea, h⟩ | ⟨ea, h⟩
  ·cases h
  ·simp only [Option.bind_eq_some_iff, Option.map_eq_some_iff] at h
   obtain ⟨cs, hcs, l, hl, v', hv, h⟩ := h
   cases h
   obtain ⟨e0, e1⟩ := ox
   obtain ⟨g1, g2⟩ := colC_ok (off := off) (sz := sz) hl
   obtain ⟨p1, p2, p3⟩ := pickC_ok (ρ := ρ) (W := W) (F := F) (m := rows.length) hv (by omega)
   have hcell : w.cell? ⟨g, off + e.toNat * sz, none⟩ = some (den ρ v) := by
    rw [<- p1]
    obtain ⟨u, u1, u2⟩ := g2 e.toNat (by omega)
    rw [u1]
    simp only [Option.map_some]
    exact glob_cell hm hcs u2
   refine ⟨_, ?_, rfl, p2, p3⟩
   have := run_loadVar_cell (w := w) ty ea hcell
   simp only [Instr.loadAt, Instr.sureAddr, den]
   simpa using this
 ·rename_i k sv xs e
  obtain ⟨ho, e0, e1⟩ := ox
  obtain ⟨b, off, cap, rfl, hc⟩ := ho.cell hm (j := e.toNat) (by omega)
  rcases cond_some h with ⟨ea, h⟩ | ⟨ea, h⟩
  ·simp only [Option.bind_eq_some_iff] at h
   obtain ⟨q, hq, h⟩ := h
   rcases beq_some h with ⟨es, h⟩ | ⟨es, h⟩
   ·cases h
    have el : e + q.1 <= xs.length := hp _ (by simp)
    refine ⟨_, ?_, rfl, okdL_piece _ _ _ _, fun h => by cases h⟩
    let vs : List Value := List.replicate off (.int k 0) ++ xs.map (Value.int k)
    have hvs : ∀ i, i < xs.length -> vs[off + i]? = some (.int k (xs.getD i 0)) := by
     intro i hi
     rw [List.getElem?_append_right (by simp)]
     simp [hi]
    have := run_loadVar_of (w := w) ty b (off + e.toNat) vs (fun j _ hj => by
     have : j < i.size := by rcases hj with h | h; exact h; rw [ea] at h; cases h
     rw [show off + e.toNat + j = off + (e.toNat + j) by omega, hc _ (by omega), hvs _ (by omega)]) (fun _ => by simp [vs]; omega)
     (den ρ (.agg (pieceS k q.1 ((xs.drop e.toNat).take q.1)))) (by
       simp only [ea, if_true, den, cellsL_piece]
       congr 2
       apply List.ext_getElem?
       intro j
       by_cases hj : j < q.1
       ·rw [intCells_get _ _ _ _ hj, List.getElem?_take_of_lt (by omega), List.getElem?_drop, show off + e.toNat + j = off + (e.toNat + j) by omega, hvs _ (by omega)]
        have h1 : j < ((xs.drop e.toNat).take q.1).length := by simp; omega
        have h2 : e.toNat + j < xs.length := by omega
        simp [List.getD, h2, hj]
       ·rw [List.getElem?_eq_none (by simp [intCells_length]; omega), List.getElem?_eq_none (by simp [vs]; omega)])
    simp only [Instr.loadAt, Instr.sureAddr, den, elemAddr]
    simpa [den] using this
   ·cases h
  ·cases h
   refine ⟨_, ?_, rfl, trivial, fun h => by cases h⟩
   have := run_loadVar_cell (w := w) ty ea (hc e.toNat (by omega))
   simp only [Instr.loadAt, Instr.sureAddr, den, elemAddr]
   simpa using this
 ·rename_i sz sv n f e off
  simp only [Option.map_eq_some_iff] at h
  obtain ⟨v', hv, h⟩ := h
  cases h
  obtain ⟨⟨ho, hk⟩, e0, e1, e2⟩ := ox
  have hen : e.toNat < n := by omega
  obtain ⟨b, o, cap, rfl, hc⟩ := ho.cell hm hen
  have hl := ho.1 e.toNat hen
  have hcg : cellsL Num.zero (f e.toNat) = cellsL ρ (f e.toNat) := cellsL_congr (W := W) (F := F) (n := 0) (fun i hi => absurd hi (by omega)) (hk e.toNat hen)
  obtain ⟨p1, p2, p3, p4⟩ := partC_ok hv (CellsOK.of_cellsL ρ (f e.toNat)) (hk e.toNat hen)
  rw [<- hcg] at p1 p2
  have hl : (cellsL Num.zero (f e.toNat)).length = sz := hl
  have hcc : ∀ j, j < sz -> w.cell? ⟨b, o + e.toNat * sz + j, none⟩ = some ((cellsL Num.zero (f e.toNat)).getD j undef) := hc e.toNat hen
  generalize cellsL Num.zero (f e.toNat) = cl at *
  refine ⟨_, ?_, rfl, okd_mono (Nat.zero_le _) p3, p4⟩
  have key : (loadVar t ⟨b, o + e.toNat * sz + off, none⟩).run P w = .ok (den ρ v) w := by
   cases ha : i.agg with
   | true =>
     simp only [ha, if_true] at p1
     have p2 := p2 ha
     refine run_loadVar_of (w := w) ty b (o + e.toNat * sz + off) (List.replicate (o + e.toNat * sz) (Value.int .i64 0) ++ cl) (fun j _ hj => ?_) (fun ha => by simp [hl]; omega) (den ρ v) ?_
     ·have hj : j < i.size := by rcases hj with hj | hj; exact hj; rw [ha] at hj; cases hj
      rw [Nat.add_assoc, hcc (off + j) (by omega), List.getElem?_append_right (by simp)]
      simp only [List.length_replicate]
      rw [show o + e.toNat * sz + (off + j) - (o + e.toNat * sz) = off + j by omega, List.getD_eq_getElem?_getD, List.getElem?_eq_getElem (by omega)]
      rfl
     ·simp only [ha, if_true]
      have hd : (List.replicate (o + e.toNat * sz) (Value.int .i64 0) ++ cl).drop (o + e.toNat * sz + off) = cl.drop off := by
       rw [List.drop_append, List.drop_eq_nil_of_le (by simp), List.nil_append]
       congr 1
       simp
      rw [p1, hd]
   | false =>
     simp only [ha, Bool.false_eq_true, if_false] at p1
     have hlt := (List.getElem?_eq_some_iff.1 p1).1
     refine run_loadVar_cell (w := w) ty ha ?_
     rw [hcc off (by omega), List.getD_eq_getElem?_getD, p1]
     rfl
  simp only [Instr.loadAt, Instr.sureAddr, den, elemCell]
  simpa using key
 ·rename_i b sz e off
  simp only [Option.bind_eq_some_iff] at h
  obtain ⟨r, hr, ⟨z, n, f⟩, hq, h⟩ := h
  rcases beq_some h with ⟨es, h⟩ | ⟨es, h⟩
  ·simp only [Option.map_eq_some_iff] at h
   obtain ⟨v', hv, h⟩ := h
   cases h
   have es : z = sz := es
   subst es
   have e0 : 0 <= e := hp _ (by simp)
   have e1 : e < n := hp (e < n) (by simp)
   obtain ⟨c, h2, h3, h4, _⟩ := rowOf_ok hm hr
   have hcs := manyOf_ok hq
   simp only at hcs
   rw [hcs] at h2 h3
   obtain ⟨tl, rfl, htl⟩ := h2
   have : tl = [] := htl
   subst this
   simp only [List.append_nil] at h4
   obtain ⟨s1, s2⟩ := h3.1 e.toNat (by omega)
   have seg := recCells_seg (n := n) (by omega) s1 s2 ρ
   have hln : (cellsL ρ (f e.toNat)).length = z := by rw [scL_cells s1]; simpa using s2
   have hrl := recCells_length z n f
   have hbig : e.toNat * z + z <= n * z := by
    have : (e.toNat + 1) * z <= n * z := Nat.mul_le_mul_right _ (by omega)
    rwa [Nat.succ_mul] at this
   obtain ⟨p1, p2, p3, p4⟩ := partC_ok (ρ := ρ) hv (CellsOK.of_cellsL ρ _) (scL_okd (W := W) (F := F) (m := rows.length) s1)
   refine ⟨den ρ v, ?_, rfl, p3, p4⟩
   have key : (loadVar t ⟨(ρ b).1, e.toNat * z + off, none⟩).run P w = .ok (den ρ v) w := by
    cases ha : i.agg with
    | true =>
      simp only [ha, if_true] at p1
      have p2 := p2 ha
      refine run_loadVar_of (w := w) ty (ρ b).1 (e.toNat * z + off) (recCells z n f) (fun j hj _ => h4 _ hj) (fun _ => by omega) (den ρ v) ?_
      simp only [ha, if_true]
      rw [p1]
      congr 2
      apply List.ext_getElem?
      intro j
      by_cases hj : j < i.size
      ·rw [List.getElem?_take_of_lt hj, List.getElem?_take_of_lt hj, List.getElem?_drop, List.getElem?_drop, Nat.add_assoc, seg (off + j) (by omega)]
      ·rw [List.getElem?_eq_none (by simp; omega), List.getElem?_eq_none (by simp; omega)]
    | false =>
      simp only [ha, Bool.false_eq_true, if_false] at p1
      have hlt := (List.getElem?_eq_some_iff.1 p1).1
      refine run_loadVar_cell (w := w) ty ha ?_
      rw [h4 _ (by omega), seg off (by omega)]
      exact p1
   simp only [Instr.loadAt, Instr.sureAddr, den]
   simpa using key
  ·cases h
 ·cases h
end Sx
end
section
namespace Sx
variable {P : Program} {T : Tab} {W : World} {F : Nat -> Prop} {nt : Nat} {ρ : Num} {s : SS} {a : Act} {w : World}
theorem place_ok {c : Bool} {n : Int} {len b off size m : Nat} {ps : List Prop} {v : SV} (h : place c n len b off size = some (ps, v)) (hp : All ps) (hb : b < m) (hc : c = true -> c = true) :
  0 <= n /\ n < len /\ Good W F ρ m v (.pointer (some ⟨(ρ b).1, off + n.toNat * size, none⟩)) := by
 unfold place at h
 rcases cond_some h with ⟨e, h⟩ | ⟨e, h⟩
 ·rcases cond_some h with ⟨e2, h⟩ | ⟨e2, h⟩
  ·cases h
   simp at e2
   exact ⟨e2.1, e2.2, rfl, hb, fun h => by cases h⟩
  ·cases h
 ·rcases beq_some h with ⟨e2, h⟩ | ⟨e2, h⟩
  ·cases h
   subst e2
   exact ⟨hp _ (by simp), hp (n < len) (by simp), by simp [den], hb, fun h => by cases h⟩
  ·cases h
theorem gplace_ok {c : Bool} {n : Int} {len g off size m : Nat} {ps : List Prop} {v : SV} (h : gplace c n len g off size = some (ps, v)) (hp : All ps) :
  0 <= n /\ n < len /\ Good W F ρ m v (.pointer (some ⟨g, off + n.toNat * size, none⟩)) := by
 unfold gplace at h
 rcases cond_some h with ⟨e, h⟩ | ⟨e, h⟩
 ·rcases cond_some h with ⟨e2, h⟩ | ⟨e2, h⟩
  ·cases h
   simp at e2
   exact ⟨e2.1, e2.2, rfl, trivial, fun h => by cases h⟩
  ·cases h
 ·cases h
  have h0 : 0 <= n := hp _ (by simp)
  have h1 : n < len := hp (n < len) (by simp)
  exact ⟨h0, h1, by simp [den], ⟨h0, h1⟩, fun h => by cases h⟩
theorem suffV_some {b : Nat × Nat} {z : Bool} {p o n : Nat} {m : Bool} (h : b.2 ≠ 0) (h2 : b.2 ≠ o) : suffV b z p o n m = .slice (some ⟨b.1, o, none⟩) n (if m = true then n else b.2 - o) := by
 unfold suffV
 rw [if_neg (by simp [h]), if_neg h2]
theorem onLen_ok {rows : List (Option Row)} (hm : MemOK W F ρ rows w) {b : Nat} {r : Row} {k : Nat} (h : onLen rows b = some (r, k)) : rowOf rows b = some r /\ r.sz ≠ 0 /\ k = widthL r.cs /\ (0 < k -> (ρ b).2 ≠ 0) /\ b < rows.length /\ (∀ n, n * r.sz <= k -> n <= (ρ b).2 ∨ (ρ b).2 = 0 /\ n = 0) := by
 simp only [onLen, Option.bind_eq_some_iff] at h
 obtain ⟨r', hr, h⟩ := h
 rcases beq_some h with ⟨e, h⟩ | ⟨e, h⟩
 ·cases h
 ·cases h
  have hlt := (List.getElem?_eq_some_iff.1 (rowOf_get hr)).1
  rcases rowOf_block hm hr with ⟨h1, c, l, rest, h2, h3, h4, _, h5⟩ | ⟨h1, h2⟩
  ·refine ⟨hr, e, rfl, fun _ => ?_, hlt, fun n hn => .inl ?_⟩
   ·rcases h1.2 with h1 | h1
    ·exact absurd h1 e
    ·exact h1
   ·have h6 := h5 e
    have h7 := h4.length
    have h8 : c.size = l.length + rest.length := by rw [<- Array.length_toList, h3, List.length_append]
    have : n * r.sz <= (ρ b).2 * r.sz := by omega
    exact Nat.le_of_mul_le_mul_right this (Nat.pos_of_ne_zero e)
  ·have h0 : widthL r.cs = 0 := by have := h2.length; simpa using this.symm
   refine ⟨hr, e, rfl, fun h3 => by omega, hlt, fun n hn => .inr ⟨?_, ?_⟩⟩
   ·unfold Has at h1
    cases hk : (ρ b).2 with
    | zero => rfl
    | succ j => exact absurd ⟨rowOf_ob hr, .inr (by omega)⟩ h1
   ·rw [h0] at hn
    have : n * r.sz = 0 := by omega
    rcases Nat.mul_eq_zero.1 this with h | h
    ·exact h
    ·exact absurd h e
theorem listV_some {b : Nat × Nat} {len : Nat} {z : Bool} (h : b.2 ≠ 0) : listV b len z = .slice (some ⟨b.1, 0, none⟩) len b.2 := by
 unfold listV; rw [if_neg (fun h2 => h h2.2)]
theorem indexA_ok (hT : TabOK P T) {rows : List (Option Row)} (hm : MemOK W F ρ rows w) {t : TypeId} {x ix v : SV} {ps : List Prop} (h : indexA T rows t x ix = some (ps, v)) (hp : All ps) (ox : okd W F rows.length x) :
  ∃ u, (Instr.indexAt t (den ρ x) (den ρ ix)).run P w = .ok u w /\ Good W F ρ rows.length v u := by
 simp only [indexA, Option.bind_eq_some_iff] at h
 obtain ⟨i, hi, ⟨k, n, c⟩, hx, h⟩ := h
 have ty := hT t i hi
 rw [asI_ok hx ρ]
 split at h
 ·rename_i g
  simp only [Option.bind_eq_some_iff] at h
  obtain ⟨⟨len, e⟩, hd, ei, he, h⟩ := h
  obtain ⟨hu, _⟩ := arrD_ok ty hd
  obtain ⟨h0, h1, hg⟩ := gplace_ok (W := W) (F := F) (ρ := ρ) h hp
  refine ⟨_, ?_, hg⟩
  simp [Instr.indexAt, asIntOf, run_underlying hu, Instr.sureAddr, den, h0, h1, (hT e ei he).run_size w, addr_add]
 ·rename_i g off
  simp only [Option.bind_eq_some_iff] at h
  obtain ⟨⟨len, e⟩, hd, ei, he, h⟩ := h
  obtain ⟨hu, _⟩ := arrD_ok ty hd
  obtain ⟨h0, h1, hg⟩ := gplace_ok (W := W) (F := F) (ρ := ρ) h hp
  refine ⟨_, ?_, hg⟩
  simp [Instr.indexAt, asIntOf, run_underlying hu, Instr.sureAddr, den, h0, h1, (hT e ei he).run_size w, addr_add]
 ·rename_i b off len cap
  simp only [Option.bind_eq_some_iff] at h
  obtain ⟨e, hd, ei, he, h⟩ := h
  have hu := slD_ok ty hd
  rcases beq_some h with ⟨es, h⟩ | ⟨es, h⟩
  ·cases h
   have h0 : 0 <= n := hp _ (by simp)
   have h1 : n < len := hp (n < len) (by simp)
   refine ⟨_, ?_, rfl, ox, fun h => by cases h⟩
   have e3 : ((off : Int) + n).toNat = off + n.toNat := by omega
   simp [Instr.indexAt, asIntOf, run_underlying hu, Instr.sureAddr, den, h0, h1, (hT e ei he).run_size w, addr_add, es, e3]
  ·cases h
 ·rename_i b len z
  simp only [Option.bind_eq_some_iff] at h
  obtain ⟨e, hd, ei, he, ⟨r, k'⟩, hl, h⟩ := h
  have hu := slD_ok ty hd
  obtain ⟨_, _, hkk, hk, _, _⟩ := onLen_ok hm hl
  split at h
  ·rename_i y hy
   obtain ⟨y1, y2, y3⟩ := y
   rcases cond_some h with ⟨es, h⟩ | ⟨es, h⟩
   ·cases h
    simp only [Bool.and_eq_true] at es
    have es1 := Nat.eq_of_beq_eq_true es.1
    have es2 : 0 < y1 := Nat.le_of_ble_eq_true es.2
    try simp only at es1
    have h0 : 0 <= n := hp _ (by simp)
    have h1 : n < len := hp (n < len) (by simp)
    have h2 : len <= y2 := hp (len <= y2) (by simp)
    have hcs := manyOf_ok hy
    simp only at hcs
    rw [hcs] at hkk
    have hpos : 0 < k' := by
     rw [hkk]
     simp only [widthL, width, Nat.add_zero]
     exact Nat.mul_pos (by omega) es2
    refine ⟨_, ?_, rfl, ox, fun h => by cases h⟩
    simp [Instr.indexAt, asIntOf, run_underlying hu, Instr.sureAddr, den, listV_some (hk hpos), h0, h1, (hT e ei he).run_size w, addr_add, es1]
   ·cases h
  rcases cond_some h with ⟨es, h⟩ | ⟨es, h⟩
  ·cases h
   have h0 : 0 <= n := hp _ (by simp)
   have h1 : n < len := hp (n < len) (by simp)
   have h2 : n.toNat * ei.size < k' := hp (n.toNat * ei.size < k') (by simp)
   refine ⟨_, ?_, rfl, ox, fun h => by cases h⟩
   simp [Instr.indexAt, asIntOf, run_underlying hu, Instr.sureAddr, den, listV_some (hk (by omega)), h0, h1, (hT e ei he).run_size w, addr_add]
  ·rcases beq_some h with ⟨es2, h⟩ | ⟨es2, h⟩
   ·cases h
    have h0 : 0 <= n := hp _ (by simp)
    have h1 : n < len := hp (n < len) (by simp)
    have h2 : n.toNat < k' := hp (n.toNat < k') (by simp)
    refine ⟨_, ?_, rfl, ox, fun h => by cases h⟩
    simp [Instr.indexAt, asIntOf, run_underlying hu, Instr.sureAddr, den, listV_some (hk (by omega)), h0, h1, (hT e ei he).run_size w, addr_add, es2]
   ·cases h
 ·rename_i b z p o m c
  simp only [Option.bind_eq_some_iff] at h
  obtain ⟨e, hd, ei, he, ⟨r, k'⟩, hl, h⟩ := h
  have hu := slD_ok ty hd
  obtain ⟨_, _, _, hk, _, hcap⟩ := onLen_ok hm hl
  rcases cond_some h with ⟨es, h⟩ | ⟨es, h⟩
  ·cases h
   simp only [Bool.and_eq_true] at es
   have e1 := Nat.eq_of_beq_eq_true es.1
   have e2 := Nat.eq_of_beq_eq_true es.2
   try simp only at e2
   have h0 : 0 <= n := hp _ (by simp)
   have h1 : n < m := hp (n < m) (by simp)
   have h2 : o + m <= k' := hp (o + m <= k') (by simp)
   refine ⟨_, ?_, rfl, ox, fun h => by cases h⟩
   have e3 : ((o : Int) + n).toNat = o + n.toNat := by omega
   have hc := hcap (o + m) (by rw [e2]; omega)
   have ed : den ρ (.ow b z p o m c) = suffV (ρ b) z p o m c := rfl
   have ne1 : (ρ b).2 ≠ 0 := hk (by omega)
   have ne2 : (ρ b).2 ≠ o := by omega
   rw [ed, suffV_some ne1 ne2]
   simp [Instr.indexAt, asIntOf, run_underlying hu, Instr.sureAddr, den, h0, h1, (hT e ei he).run_size w, addr_add, e1, e3]
  ·cases h
 ·rename_i b off
  simp only [Option.bind_eq_some_iff] at h
  obtain ⟨⟨len, e⟩, hd, ei, he, h⟩ := h
  obtain ⟨hu, _⟩ := arrD_ok ty hd
  obtain ⟨h0, h1, hg⟩ := place_ok (W := W) (F := F) (ρ := ρ) h hp ox (fun h => h)
  refine ⟨_, ?_, hg⟩
  simp [Instr.indexAt, asIntOf, run_underlying hu, Instr.sureAddr, den, h0, h1, (hT e ei he).run_size w, addr_add]
 ·rename_i b off len cap
  simp only [Option.bind_eq_some_iff] at h
  obtain ⟨e, hd, ei, he, h⟩ := h
  have hu := slD_ok ty hd
  obtain ⟨h0, h1, hg⟩ := place_ok (W := W) (F := F) (ρ := ρ) h hp ox (fun h => h)
  refine ⟨_, ?_, hg⟩
  simp [Instr.indexAt, asIntOf, run_underlying hu, Instr.sureAddr, den, h0, h1, (hT e ei he).run_size w, addr_add]
 ·rename_i k' sv xs
  simp only [Option.bind_eq_some_iff] at h
  obtain ⟨e, hd, ei, he, h⟩ := h
  have hu := slD_ok ty hd
  rcases beq_some h with ⟨es, h⟩ | ⟨es, h⟩
  ·cases h
   have h0 : 0 <= n := hp _ (by simp)
   have h1 : n < xs.length := hp (n < xs.length) (by simp)
   refine ⟨_, ?_, rfl, ⟨ox, h0, h1⟩, fun h => by cases h⟩
   rcases ox with ⟨a, cap, rfl, rfl, _⟩ | ⟨b, off, cap, rfl, _⟩
   ·simp at h1; omega
   ·simp [Instr.indexAt, asIntOf, run_underlying hu, Instr.sureAddr, den, elemAddr, h0, h1, (hT e ei he).run_size w, addr_add, es]
  ·cases h
 ·rename_i sz sv len g
  simp only [Option.bind_eq_some_iff] at h
  obtain ⟨e, hd, ei, he, h⟩ := h
  have hu := slD_ok ty hd
  rcases cond_some h with ⟨es, h⟩ | ⟨es, h⟩
  ·cases h
   simp only [Bool.and_eq_true] at es
   have es1 := Nat.eq_of_beq_eq_true es.1
   have es2 : 0 < sz := Nat.le_of_ble_eq_true es.2
   have h0 : 0 <= n := hp _ (by simp)
   have h1 : n < len := hp (n < len) (by simp)
   refine ⟨_, ?_, rfl, ⟨ox, h0, h1, es2⟩, fun h => by cases h⟩
   rcases ox.1.2 with ⟨a, cap, rfl, rfl, _⟩ | ⟨b, off, cap, rfl, _⟩
   ·simp at h1; omega
   ·simp [Instr.indexAt, asIntOf, run_underlying hu, Instr.sureAddr, den, elemCell, h0, h1, (hT e ei he).run_size w, addr_add, es1]
  ·cases h
 ·rename_i sz sv len g e off
  simp only [Option.bind_eq_some_iff] at h
  obtain ⟨⟨dl, de⟩, hd, ei, he, h⟩ := h
  obtain ⟨hu, _⟩ := arrD_ok ty hd
  rcases cond_some h with ⟨es, h⟩ | ⟨es, h⟩
  ·cases h
   simp only [Bool.and_eq_true, decide_eq_true_eq] at es
   obtain ⟨⟨⟨_, h0⟩, h1⟩, h2⟩ := es
   have h2 : off + n.toNat * ei.size < sz := Nat.le_of_ble_eq_true h2
   obtain ⟨oy, e0, e1, e2⟩ := ox
   refine ⟨_, ?_, rfl, ⟨oy, e0, e1, h2⟩, fun h => by cases h⟩
   rcases oy.1.2 with ⟨a, cap, rfl, rfl, _⟩ | ⟨b, o, cap, rfl, _⟩
   ·simp at e1; omega
   ·simp [Instr.indexAt, asIntOf, run_underlying hu, Instr.sureAddr, den, elemCell, h0, h1, (hT de ei he).run_size w, addr_add, Nat.add_assoc]
  ·cases h
 ·cases h
theorem run_part_of {t : TypeId} {i : TyI} (hi : TyOK P t i) {vs : Array Value} {o : Nat} {u : Value} (hl : i.agg = true -> o + i.size <= vs.size)
  (hu : if i.agg then u = .agg ((vs.toList.drop o).take i.size).toArray else vs.toList[o]? = some u) : (part t vs o).run P w = .ok u w := by
 have ha := hi.run_agg w
 have hs := hi.run_size w
 cases hag : i.agg with
 | true =>
   rw [hag] at ha
   simp [hag] at hu hl
   simp only [part, Sem.run_bind, ha, Result.andThen_ok, if_true, hs, Sem.run_pure]
   rw [hu]
   congr 2
   apply Array.ext'
   simp [List.drop_take]
 | false =>
   rw [hag] at ha
   simp [hag] at hu
   simp [part, ha, hu]
theorem indexV_ok (hT : TabOK P T) {t : TypeId} {x ix v : SV} {ps : List Prop} {m : Nat} (h : indexV T t x ix = some (ps, v)) (hp : All ps) (ox : okd W F m x) :
  ∃ u, (Instr.index t (den ρ x) (den ρ ix)).run P w = .ok u w /\ Good W F ρ m v u := by
 unfold indexV at h
 cases h
theorem fieldA_ok (hT : TabOK P T) {t : TypeId} {x v : SV} {f : Nat} {m : Nat} (h : fieldA T t x f = some v) (ox : okd W F m x) :
  ∃ u, (Instr.fieldAt t (den ρ x) f).run P w = .ok u w /\ Good W F ρ m v u := by
 simp only [fieldA, Option.bind_eq_some_iff] at h
 obtain ⟨i, hi, fs, hfs, ⟨o, ft⟩, hf, fi, hfi, h⟩ := h
 obtain ⟨gs, hu, hg⟩ := stD_ok (hT t i hi) hfs
 split at h
 ·rename_i b off
  rcases beq_some h with ⟨e, h⟩ | ⟨e, h⟩
  ·cases h
  ·cases h
   subst hg
   simp only [List.getElem?_map, Option.map_eq_some_iff, Prod.mk.injEq] at hf
   obtain ⟨g, hg1, rfl, rfl⟩ := hf
   refine ⟨_, ?_, rfl, ox, fun h => by cases h⟩
   have h2 : gs[f]? = some g := by simpa using hg1
   have hs := (hT g.type fi hfi).run_size w
   simp at e
   simp [Instr.fieldAt, run_underlying hu, h2, Instr.sureAddr, den, fieldPlace, hs, e, addr_add]
 ·rename_i g'
  rcases beq_some h with ⟨e, h⟩ | ⟨e, h⟩
  ·cases h
  ·cases h
   subst hg
   simp only [List.getElem?_map, Option.map_eq_some_iff, Prod.mk.injEq] at hf
   obtain ⟨g, hg1, rfl, rfl⟩ := hf
   refine ⟨_, ?_, rfl, trivial, fun h => by cases h⟩
   have h2 : gs[f]? = some g := by simpa using hg1
   have hs := (hT g.type fi hfi).run_size w
   simp at e
   simp [Instr.fieldAt, run_underlying hu, h2, Instr.sureAddr, den, fieldPlace, hs, e, addr_add]
 ·rename_i g' off
  rcases beq_some h with ⟨e, h⟩ | ⟨e, h⟩
  ·cases h
  ·cases h
   subst hg
   simp only [List.getElem?_map, Option.map_eq_some_iff, Prod.mk.injEq] at hf
   obtain ⟨g, hg1, rfl, rfl⟩ := hf
   refine ⟨_, ?_, rfl, trivial, fun h => by cases h⟩
   have h2 : gs[f]? = some g := by simpa using hg1
   have hs := (hT g.type fi hfi).run_size w
   simp at e
   simp [Instr.fieldAt, run_underlying hu, h2, Instr.sureAddr, den, fieldPlace, hs, e, addr_add]
 ·rename_i g' off sz n e'
  rcases beq_some h with ⟨e, h⟩ | ⟨e, h⟩
  ·cases h
  ·cases h
   subst hg
   simp only [List.getElem?_map, Option.map_eq_some_iff, Prod.mk.injEq] at hf
   obtain ⟨g, hg1, rfl, rfl⟩ := hf
   refine ⟨_, ?_, rfl, ox, fun h => by cases h⟩
   have h2 : gs[f]? = some g := by simpa using hg1
   have hs := (hT g.type fi hfi).run_size w
   simp at e
   have e5 : off + e'.toNat * sz + g.offset = off + g.offset + e'.toNat * sz := by omega
   simp [Instr.fieldAt, run_underlying hu, h2, Instr.sureAddr, den, fieldPlace, hs, e, addr_add, e5]
 ·rename_i sz sv n g' e' off
  rcases beq_some h with ⟨e, h⟩ | ⟨e, h⟩
  ·cases h
  ·rcases cond_some h with ⟨es, h⟩ | ⟨es, h⟩
   ·cases h
    subst hg
    simp only [List.getElem?_map, Option.map_eq_some_iff, Prod.mk.injEq] at hf
    obtain ⟨g, hg1, rfl, rfl⟩ := hf
    have es : off + g.offset < sz := Nat.le_of_ble_eq_true es
    obtain ⟨oy, e0, e1, e2⟩ := ox
    refine ⟨_, ?_, rfl, ⟨oy, e0, e1, es⟩, fun h => by cases h⟩
    have h2 : gs[f]? = some g := by simpa using hg1
    have hs := (hT g.type fi hfi).run_size w
    simp at e
    rcases oy.1.2 with ⟨a, cap, rfl, rfl, _⟩ | ⟨b, o, cap, rfl, _⟩
    ·simp at e1; omega
    ·simp [Instr.fieldAt, run_underlying hu, h2, Instr.sureAddr, den, elemCell, fieldPlace, hs, e, addr_add, Nat.add_assoc]
   ·cases h
 ·rename_i b sz e' off
  rcases beq_some h with ⟨e, h⟩ | ⟨e, h⟩
  ·cases h
  ·cases h
   subst hg
   simp only [List.getElem?_map, Option.map_eq_some_iff, Prod.mk.injEq] at hf
   obtain ⟨g, hg1, rfl, rfl⟩ := hf
   refine ⟨_, ?_, rfl, ox, fun h => by cases h⟩
   have h2 : gs[f]? = some g := by simpa using hg1
   have hs := (hT g.type fi hfi).run_size w
   simp at e
   simp [Instr.fieldAt, run_underlying hu, h2, Instr.sureAddr, den, fieldPlace, hs, e, addr_add, Nat.add_assoc]
 ·cases h
theorem fieldV_ok (hT : TabOK P T) {t : TypeId} {x v : SV} {f : Nat} {m : Nat} (h : fieldV T t x f = some v) (ox : okd W F m x) :
  ∃ u, (Instr.field t (den ρ x) f).run P w = .ok u w /\ Good W F ρ m v u := by
 simp only [fieldV, Option.bind_eq_some_iff] at h
 obtain ⟨i, hi, fs, hfs, ⟨o, ft⟩, hf, fi, hfi, h⟩ := h
 obtain ⟨gs, hu, hg⟩ := stD_ok (hT t i hi) hfs
 split at h
 ·rename_i cs
  subst hg
  simp only [List.getElem?_map, Option.map_eq_some_iff, Prod.mk.injEq] at hf
  obtain ⟨g, hg1, rfl, rfl⟩ := hf
  obtain ⟨p1, p2, p3, p4⟩ := partC_ok h (CellsOK.of_cellsL ρ cs) ox
  have h2 : gs[f]? = some g := by simpa using hg1
  refine ⟨den ρ v, ?_, rfl, p3, p4⟩
  have := run_part_of (w := w) (hT _ fi hfi) (vs := (cellsL ρ cs).toArray) (o := g.offset) (u := den ρ v) (by simpa using p2) (by simpa using p1)
  simp [Instr.field, run_underlying hu, h2, asAgg, den, this]
 ·cases h
theorem toArr_ok (hT : TabOK P T) {rows : List (Option Row)} (hm : MemOK W F ρ rows w) {t : TypeId} {x v : SV} {ps : List Prop} (h : toArr T rows t x = some (ps, v)) (hp : All ps) (ox : okd W F rows.length x) :
  ∃ u, (Instr.arrayAt t (den ρ x)).run P w = .ok u w /\ Good W F ρ rows.length v u := by
 unfold toArr at h
 cases h
theorem lenS_ok (hT : TabOK P T) {t : TypeId} {i : TyI} (hi : T.at t = some i) {x v : SV} {m : Nat} (hf : lenFits i x = true) (h : lenS x = some v) (ox : okd W F m x) (ty : TypeId) :
  ∃ u, (Builtin.len_ #[t] ty #[den ρ x]).run P w = .ok u w /\ Good W F ρ m v u := by
 obtain ⟨d, hu, _, hd⟩ := (hT t i hi).desc
 have sl : (∀ s, x ≠ .str s) -> ∃ e, P.underlying t = some (.slice e) := by
  intro hs
  unfold lenFits at hf
  split at hf
  ·split at hf
   ·exact absurd rfl (hs _)
   ·cases hf
  ·rename_i e he
   rw [he] at hd
   cases d <;> simp [DescOK] at hd
   exact ⟨_, hu⟩
  ·cases hf
 cases x <;> simp [lenS] at h
 case str s =>
  subst h
  have hu' : P.underlying t = some .string := by
   unfold lenFits at hf
   split at hf
   ·rename_i he
    rw [he] at hd
    cases d <;> simp [DescOK] at hd
    exact hu
   ·cases hf
   ·cases hf
  exact ⟨_, by simp [Builtin.len_, run_underlying hu', den]; rfl, by simp [den, goInt], trivial, fun h => by cases h⟩
 case val u =>
  have hn : u = .slice none 0 0 := by
   have : isNilSlice u = true := by
    cases hq : isNilSlice u with
    | true => rfl
    | false => simp [hq] at h
   unfold isNilSlice at this
   split at this
   ·rfl
   ·cases this
  subst hn
  simp [isNilSlice] at h
  subst h
  obtain ⟨e, hu'⟩ := sl (fun s h => by cases h)
  exact ⟨_, by simp [Builtin.len_, run_underlying hu', den]; rfl, by simp [den, goInt], trivial, fun h => by cases h⟩
 case sl b off len cap =>
  subst h
  obtain ⟨e, hu'⟩ := sl (fun s h => by cases h)
  exact ⟨_, by simp [Builtin.len_, run_underlying hu', den]; rfl, by simp [den, goInt], trivial, fun h => by cases h⟩
 case os b off len cap =>
  subst h
  obtain ⟨e, hu'⟩ := sl (fun s h => by cases h)
  exact ⟨_, by simp [Builtin.len_, run_underlying hu', den]; rfl, by simp [den, goInt], trivial, fun h => by cases h⟩
 case on b len z =>
  subst h
  obtain ⟨e, hu'⟩ := sl (fun s h => by cases h)
  refine ⟨.int .i64 len, ?_, by simp [den], trivial, fun h => by cases h⟩
  simp only [den, listV]
  split <;> simp [Builtin.len_, run_underlying hu', goInt]
 case ow b z p o len m =>
  subst h
  obtain ⟨e, hu'⟩ := sl (fun s h => by cases h)
  refine ⟨.int .i64 len, ?_, by simp [den], trivial, fun h => by cases h⟩
  simp only [den, suffV]
  split <;> simp [Builtin.len_, run_underlying hu', goInt]
 case rd k sv xs =>
  subst h
  obtain ⟨e, hu'⟩ := sl (fun s h => by cases h)
  have : ∃ a cap, sv = .slice a xs.length cap := by
   rcases ox with ⟨a, cap, rfl, _⟩ | ⟨b, off, cap, rfl, _⟩
   ·exact ⟨_, _, rfl⟩
   ·exact ⟨_, _, rfl⟩
  obtain ⟨a, cap, rfl⟩ := this
  exact ⟨_, by simp [Builtin.len_, run_underlying hu', den]; rfl, by simp [den, goInt], trivial, fun h => by cases h⟩
 case rs sz sv n f =>
  subst h
  obtain ⟨e, hu'⟩ := sl (fun s h => by cases h)
  have : ∃ a cap, sv = .slice a n cap := by
   rcases ox.1.2 with ⟨a, cap, rfl, _⟩ | ⟨b, off, cap, rfl, _⟩
   ·exact ⟨_, _, rfl⟩
   ·exact ⟨_, _, rfl⟩
  obtain ⟨a, cap, rfl⟩ := this
  exact ⟨_, by simp [Builtin.len_, run_underlying hu', den]; rfl, by simp [den, goInt], trivial, fun h => by cases h⟩
end Sx
end
section
namespace Sx
variable {P : Program} {T : Tab} {W : World} {F : Nat -> Prop} {nt : Nat} {ρ : Num} {s : SS} {a : Act} {w : World}
def Src (w : World) (k : IntKind) (u : Value) (n : Nat) (xs : List Int) : Prop :=
 (∃ a cap, u = .slice a n cap /\ n = 0) ∨ (∃ b off cap, u = .slice (some ⟨b, off, none⟩) n cap /\ ∀ j, j < n -> w.cell? ⟨b, off + j, none⟩ = some (.int k (xs.getD j 0))) ∨
 (∃ s : ByteArray, u = .string s /\ n = s.size /\ xs = bytesI s /\ k = .u8)
theorem toInts_ok {k : IntKind} : ∀ {l : List SV} {ps : List Prop} {n : Nat} {xs : List Int} {vs : List Value}, toInts k l = some (ps, n, xs) -> All ps -> CellsOK ρ l vs -> xs.length = n /\ vs = intCells k n xs
 | [], ps, n, xs, vs, h, hp, hc => by
   simp only [toInts, Option.some.injEq, Prod.mk.injEq] at h
   obtain ⟨rfl, rfl, rfl⟩ := h
   exact ⟨rfl, hc⟩
 | c :: r, ps, n, xs, vs, h, hp, hc => by
   have app : ∀ (a b : Nat) (ys zs : List Int), ys.length = a -> intCells k (a + b) (ys ++ zs) = intCells k a ys ++ intCells k b zs := by
    intro a b ys zs hl
    apply List.ext_getElem?
    intro j
    by_cases hj : j < a
    ·rw [intCells_get _ _ _ _ (by omega), List.getElem?_append_left (by simp [intCells_length]; omega), intCells_get _ _ _ _ hj]
     simp [List.getD, List.getElem?_append_left (show j < ys.length by omega)]
    ·by_cases hj2 : j < a + b
     ·rw [intCells_get _ _ _ _ hj2, List.getElem?_append_right (by simp [intCells_length]; omega), intCells_length, intCells_get _ _ _ _ (by omega)]
      simp [List.getD, List.getElem?_append_right (show ys.length <= j by omega), hl]
     ·rw [List.getElem?_eq_none (by simp [intCells_length]; omega), List.getElem?_eq_none (by simp [intCells_length]; omega)]
   by_cases hi : ∃ k n xs, c = .ints k n xs
   ·obtain ⟨k', n', xs', rfl⟩ := hi
    obtain ⟨t, rfl, h2⟩ := hc
    simp only [toInts] at h
    rcases cond_some h with ⟨e, h⟩ | ⟨e, h⟩
    ·have e : k' = k := by simpa using e
     subst e
     split at h
     ·cases h
      have : t = [] := h2
      subst this
      exact ⟨hp (xs.length = n) (by simp), by simp⟩
     ·simp only [Option.map_eq_some_iff] at h
      obtain ⟨⟨p2, n2, x2⟩, hh, he⟩ := h
      cases he
      obtain ⟨i1, i2⟩ := toInts_ok hh (fun p hq => hp p (by simp [hq])) h2
      have l1 : xs'.length = n' := hp (xs'.length = n') (by simp)
      refine ⟨by simp [l1, i1], ?_⟩
      simp only
      rw [app _ _ _ _ l1, i2]
    ·cases h
   ·have hform : toInts k (c :: r) = (match asI c, toInts k r with
     | some q, some p => bif decide (q.1 = k) then some (p.1, p.2.1 + 1, q.2.1 :: p.2.2) else none
     | _, _ => none) := by cases c <;> first | rfl | exact absurd ⟨_, _, _, rfl⟩ hi
    rw [hform] at h
    split at h
    ·rename_i q p h1 h2
     rcases cond_some h with ⟨e, h⟩ | ⟨e, h⟩
     ·have e : q.1 = k := by simpa using e
      cases h
      obtain ⟨p2, n2, x2⟩ := p
      have hs : single c = true := by cases c <;> simp [asI] at h1 <;> rfl
      obtain ⟨t, rfl, h3⟩ := hc.one hs
      obtain ⟨i1, i2⟩ := toInts_ok h2 hp h3
      refine ⟨by simp [i1], ?_⟩
      have := app 1 n2 [q.2.1] x2 rfl
      simp only [List.singleton_append] at this
      simp only
      rw [Nat.add_comm n2 1, this, asI_ok (k := q.1) (n := q.2.1) (c := q.2.2) (by rw [h1]) ρ, e, i2]
      simp [intCells]
     ·cases h
    ·cases h
theorem onePiece_ok {l : List SV} {q : IntKind × Nat × List Int} (h : onePiece l = some q) : l = [.ints q.1 q.2.1 q.2.2] := by
 unfold onePiece at h
 split at h
 ·cases h; rfl
 ·cases h
theorem sliceInts_ok {rows : List (Option Row)} (hm : MemOK W F ρ rows w) {k : IntKind} {v : SV} {ps : List Prop} {n : Nat} {xs : List Int} (h : sliceInts rows k v = some (ps, n, xs)) (hp : All ps) (ov : okd W F rows.length v) :
  xs.length = n /\ Src w k (den ρ v) n xs /\ ((∃ a c, den ρ v = .slice a n c) ∨ ∃ s, v = .str s) := by
 unfold sliceInts at h
 split at h
 ·rename_i k' u ys
  rcases cond_some h with ⟨e, h⟩ | ⟨e, h⟩
  ·cases h
   have e : k' = k := by simpa using e
   subst e
   refine ⟨rfl, ?_⟩
   rcases ov with ⟨a, cap, rfl, rfl, _⟩ | ⟨b, off, cap, rfl, _, h1, h2, h3⟩
   ·exact ⟨.inl ⟨a, cap, rfl, rfl⟩, .inl ⟨_, _, rfl⟩⟩
   ·refine ⟨.inr (.inl ⟨b, off, cap, rfl, fun j hj => ?_⟩), .inl ⟨_, _, rfl⟩⟩
    rw [<- h3 j hj]
    exact World.cell?_of_block (w := W) (hm.frame.block b h1 h2)
  ·cases h
 ·rename_i b off len cap
  simp only [Option.bind_eq_some_iff] at h
  obtain ⟨r, hr, q, hq, h⟩ := h
  rcases cond_some h with ⟨e, h⟩ | ⟨e, h⟩
  ·cases h
   have e : q.1 = k := by simpa using e
   subst e
   have h1 : off + n <= q.2.1 := hp (off + n <= q.2.1) (by simp)
   have h2 : q.2.2.length = q.2.1 := hp (q.2.2.length = q.2.1) (by simp)
   obtain ⟨l, c2, c3, c4, _⟩ := rowOf_ok hm hr
   rw [onePiece_ok hq] at c2
   obtain ⟨t, rfl, h3⟩ := c2
   have : t = [] := h3
   subst this
   refine ⟨by simp; omega, .inr (.inl ⟨_, _, _, rfl, fun j hj => ?_⟩), .inl ⟨_, _, rfl⟩⟩
   rw [c4 (off + j) (by simp [intCells_length]; omega), List.append_nil, intCells_get _ _ _ _ (by omega)]
   simp [List.getD, hj]
  ·cases h
 ·rename_i b len z
  simp only [Option.bind_eq_some_iff] at h
  obtain ⟨⟨r, kk⟩, hr, q, hq, h⟩ := h
  rcases cond_some h with ⟨e, h⟩ | ⟨e, h⟩
  ·cases h
   have e : q.1 = k := by simpa using e
   subst e
   have h1 : n = q.2.1 := hp (n = q.2.1) (by simp)
   have h2 : q.2.2.length = q.2.1 := hp (q.2.2.length = q.2.1) (by simp)
   obtain ⟨hr, hz, hkk, hpos, _⟩ := onLen_ok hm hr
   obtain ⟨l, c2, c3, c4, _⟩ := rowOf_ok hm hr
   have hop := onePiece_ok hq
   simp only at hop
   rw [hop] at c2 hkk
   obtain ⟨t, rfl, h3⟩ := c2
   have : t = [] := h3
   subst this
   refine ⟨by omega, ?_, .inl ?_⟩
   ·simp only [den]
    by_cases hn : n = 0
    ·left
     unfold listV
     split
     ·exact ⟨_, _, rfl, hn⟩
     ·exact ⟨_, _, rfl, hn⟩
    ·right; left
     rw [listV_some (hpos (by simp [widthL, width] at hkk; omega))]
     refine ⟨_, _, _, rfl, fun j hj => ?_⟩
     rw [Nat.zero_add, c4 j (by simp [intCells_length]; omega), List.append_nil, intCells_get _ _ _ _ (by omega)]
   ·simp only [den, listV]
    split <;> exact ⟨_, _, rfl⟩
  ·cases h
 ·rename_i b z p o len m
  simp only [Option.bind_eq_some_iff] at h
  obtain ⟨⟨r, kk⟩, hr, q, hq, h⟩ := h
  rcases cond_some h with ⟨e, h⟩ | ⟨e, h⟩
  ·cases h
   simp only [Bool.and_eq_true, decide_eq_true_eq] at e
   obtain ⟨e, ez⟩ := e
   have ez := Nat.eq_of_beq_eq_true ez
   try simp only at ez
   subst e
   have h1 : o + n <= q.2.1 := hp (o + n <= q.2.1) (by simp)
   have h2 : q.2.2.length = q.2.1 := hp (q.2.2.length = q.2.1) (by simp)
   obtain ⟨hr, hz, hkk, hpos, _, hcap⟩ := onLen_ok hm hr
   obtain ⟨l, c2, c3, c4, _⟩ := rowOf_ok hm hr
   have hop := onePiece_ok hq
   simp only at hop
   rw [hop] at c2 hkk
   have hw : kk = q.2.1 := by rw [hkk]; simp [widthL, width]
   obtain ⟨t, rfl, h3⟩ := c2
   have : t = [] := h3
   subst this
   refine ⟨by simp; omega, ?_, .inl ?_⟩
   ·simp only [den]
    by_cases hn : n = 0
    ·left
     unfold suffV
     split
     ·exact ⟨_, _, rfl, hn⟩
     ·exact ⟨_, _, rfl, hn⟩
    ·right; left
     have hc := hcap (o + n) (by rw [ez]; omega)
     have ne1 : (ρ b).2 ≠ 0 := hpos (by omega)
     have ne2 : (ρ b).2 ≠ o := by omega
     rw [suffV_some ne1 ne2]
     refine ⟨_, _, _, rfl, fun j hj => ?_⟩
     rw [c4 (o + j) (by simp [intCells_length]; omega), List.append_nil, intCells_get _ _ _ _ (by omega)]
     simp [List.getD, hj]
   ·simp only [den, suffV]
    split <;> exact ⟨_, _, rfl⟩
  ·cases h
 ·rename_i b off len cap
  simp only [Option.bind_eq_some_iff] at h
  obtain ⟨r, hr, d, hd, l, hl, h⟩ := h
  obtain ⟨c, c2, c3, c4, _⟩ := rowOf_ok hm hr
  obtain ⟨d1, d2⟩ := dropC_ok c2 hd
  obtain ⟨t1, t2⟩ := takeC_ok d1 hl
  obtain ⟨i1, i2⟩ := toInts_ok h hp t1
  have hlen : n = len := by
   have := congrArg List.length i2
   simp [intCells_length] at this t2
   omega
  subst hlen
  refine ⟨i1, .inr (.inl ⟨_, _, _, rfl, fun j hj => ?_⟩), .inl ⟨_, _, rfl⟩⟩
  have : ((c.drop off).take n)[j]? = some (.int k (xs.getD j 0)) := by rw [i2]; exact intCells_get _ _ _ _ hj
  rw [List.getElem?_take_of_lt hj, List.getElem?_drop] at this
  rw [c4 _ (List.getElem?_eq_some_iff.1 this).1, this]
 ·rename_i str
  rcases cond_some h with ⟨e, h⟩ | ⟨e, h⟩
  ·cases h
   exact ⟨by simp [bytesI], .inr (.inr ⟨str, rfl, rfl, rfl, by simpa using e⟩), .inr ⟨_, rfl⟩⟩
  ·cases h
 ·rename_i u
  rcases cond_some h with ⟨e, h⟩ | ⟨e, h⟩
  ·cases h
   unfold isNilSlice at e
   split at e
   ·exact ⟨rfl, .inl ⟨none, 0, rfl, rfl⟩, .inl ⟨_, _, rfl⟩⟩
   ·cases e
  ·cases h
 ·cases h
theorem Src.lenOf {k : IntKind} {u : Value} {n : Nat} {xs : List Int} (h : Src w k u n xs) (w' : World) : (Builtin.lenOf u).run P w' = .ok n w' := by
 rcases h with ⟨a, cap, rfl, rfl⟩ | ⟨b, off, cap, rfl, _⟩ | ⟨s, rfl, rfl, _⟩ <;> simp [Builtin.lenOf]
theorem Src.first {k : IntKind} {u : Value} {n : Nat} {xs : List Int} (h : Src w k u n xs) (hl : xs.length = n) {m : Nat} (hm : m <= n) {w' : World} (hw : ∀ a v, w.cell? a = some v -> w'.cell? a = some v) : (Builtin.firstCells 1 m u).run P w' = .ok (intCells k m xs).toArray w' := by
 rcases h with ⟨a, cap, rfl, rfl⟩ | ⟨b, off, cap, rfl, hc⟩ | ⟨s, rfl, rfl, rfl, rfl⟩
 ·obtain rfl : m = 0 := by omega
  cases a with
  | none => simp [Builtin.firstCells, intCells]
  | some a =>
    have := run_loadCells_list (P := P) w' a [] (by simp)
    simp at this
    simp [Builtin.firstCells, intCells, this]
 ·have := run_loadCells_list (P := P) w' ⟨b, off, none⟩ (intCells k m xs) (fun j v hv => by
   rw [addr_add]
   have hj : j < m := by have := (List.getElem?_eq_some_iff.1 hv).1; simpa [intCells_length] using this
   rw [intCells_get _ _ _ _ hj] at hv
   cases hv
   exact hw _ _ (hc j (by omega)))
  rw [intCells_length] at this
  simp [Builtin.firstCells, this]
 ·simp only [Builtin.firstCells, Sem.run_pure]
  congr 1
  apply Array.ext'
  apply List.ext_getElem?
  intro j
  by_cases hj : j < m
  ·have h2 : j < s.data.size := by have : s.size = s.data.size := rfl; omega
   have h3 : (s.extract 0 m).data = s.data.extract 0 m := by simp [ByteArray.data_extract]
   simp [h3, intCells, bytesI, hj, h2, List.getD, hm, Array.getElem?_eq_getElem h2]
  ·have h3 : (s.extract 0 m).data = s.data.extract 0 m := by simp [ByteArray.data_extract]
   rw [List.getElem?_eq_none, List.getElem?_eq_none]
   ·simp [intCells_length]; omega
   ·simp [h3]; omega
theorem convS_ok (hT : TabOK P T) {rows : List (Option Row)} (hm : MemOK W F ρ rows w) {src dst : TypeId} {x : SV} {ps : List Prop} {v : SV} (h : convS T rows src dst x = some (ps, v)) (hp : All ps) (ox : okd W F rows.length x) :
  ∃ u, (convert src dst (den ρ x)).run P w = .ok u w /\ Good W F ρ rows.length v u := by
 unfold convS at h
 cases h
theorem listV_suff (b : Nat × Nat) (n : Nat) (z : Bool) : listV b n z = suffV b z 0 0 n false := by
 unfold listV suffV
 by_cases h : z = true /\ b.2 = 0
 ·rw [if_pos h, if_pos h]
 ·rw [if_neg h, if_neg h]; simp
theorem optI_ok (st : Sat W F nt ρ s a w) {x : Option Operand} {q : Option (Int × Bool)} (h : optI s.tm x = some q) : ∃ k, x.map a.eval = q.map fun q => .int k q.1 := by
 cases x with
 | none => simp [optI] at h; subst h; exact ⟨.i64, rfl⟩
 | some x =>
   simp only [optI, Option.bind_eq_some_iff, Option.map_eq_some_iff] at h
   obtain ⟨v, hv, ⟨k, n, c⟩, hq, h⟩ := h
   subst h
   exact ⟨k, by simp [(ev_ok st hv).1, asI_ok hq ρ]⟩
theorem sliceS_ok (hT : TabOK P T) {rows : List (Option Row)} (hm : MemOK W F ρ rows w) {t : TypeId} {x : SV} {lo hi mx : Option (Int × Bool)} {ps : List Prop} {v : SV} (h : sliceS T rows t x lo hi mx = some (ps, v)) (hp : All ps) (ox : okd W F rows.length x) (kl kh km : IntKind) :
  ∃ u, (Instr.sliceAt t (den ρ x) (lo.map fun q => .int kl q.1) (hi.map fun q => .int kh q.1) (mx.map fun q => .int km q.1)).run P w = .ok u w /\ Good W F ρ rows.length v u := by
 unfold sliceS at h
 cases h
end Sx
end
section
namespace Sx
variable {P : Program} {T : Tab} {W : World} {F : Nat -> Prop} {nt : Nat} {ρ : Num} {s : SS} {a : Act} {w : World}
theorem take_set_last : ∀ (l : List Value) (n : Nat) (v : Value), n < l.length -> (l.take (n + 1)).set n v = l.take n ++ [v]
 | [], n, v, h => by simp at h
 | x :: l, 0, v, h => by simp
 | x :: l, n + 1, v, h => by simpa using take_set_last l n v (by simpa using h)
theorem foldl_set (off : Nat) : ∀ (vs : List Value) (k : Nat) (cells : Array Value), off + k + vs.length <= cells.size ->
  ((vs.zipIdx k).foldl (fun (cs : Array Value) (p : Value × Nat) => cs.setIfInBounds (off + p.2) p.1) cells).toList = cells.toList.take (off + k) ++ vs ++ cells.toList.drop (off + k + vs.length)
 | [], k, cells, h => by simp
 | v :: vs, k, cells, h => by
   simp only [List.zipIdx_cons, List.foldl_cons]
   rw [foldl_set off vs (k + 1) _ (by simp at h ⊢; omega)]
   simp at h
   have h1 : off + k < cells.size := by omega
   have h1' : cells.toList.length = cells.size := by simp
   simp only [Array.toList_setIfInBounds, List.length_cons]
   rw [List.take_set, List.drop_set_of_lt (by omega)]
   have e1 : (cells.toList.take (off + (k + 1))).set (off + k) v = cells.toList.take (off + k) ++ [v] := take_set_last _ _ _ (by rw [h1']; exact h1)
   rw [e1]
   simp only [List.append_assoc, List.singleton_append, List.cons_append]
   rw [show off + (k + 1) + vs.length = off + k + (vs.length + 1) by omega]
   simp
theorem cellsL_append (x y : List SV) : cellsL ρ (x ++ y) = cellsL ρ x ++ cellsL ρ y := by
 induction x with
 | nil => rfl
 | cons c x ih => cases c <;> simp_all [cellsL]
theorem noTop_append : ∀ {x y : List SV}, noTop x = true -> noTop y = true -> noTop (x ++ y) = true
 | [], y, _, h => h
 | c :: x, y, h, k => by cases c <;> simp_all [noTop, noTop_append (x := x) (y := y)]
theorem cellsB_noTop : ∀ {l : List SV}, cellsB l = true -> noTop l = true
 | [], _ => rfl
 | c :: r, h => by
   simp [cellsB] at h
   have := cellsB_noTop h.2
   cases c <;> simp_all [noTop, cellB]
theorem noTop_takeC : ∀ {l l' : List SV} {o : Nat}, noTop l = true -> takeC l o = some l' -> noTop l' = true
 | [], l', o, h, hv => by
   simp only [takeC] at hv
   rcases beq_some hv with ⟨e, hx⟩ | ⟨e, hx⟩ <;> cases hx; rfl
 | c :: r, l', o, h, hv => by
   have hr : noTop r = true := by cases c <;> simp_all [noTop]
   cases c <;> simp only [takeC, reduceCtorEq] at hv <;> rcases beq_some hv with ⟨e, hx⟩ | ⟨e, hx⟩ <;> first
    | (cases hx; rfl)
    | (simp [noTop] at h; done)
    | (rcases ble_some hx with ⟨e2, hy⟩ | ⟨e2, hy⟩
       ·simp only [Option.map_eq_some_iff] at hy
        obtain ⟨l2, hz, rfl⟩ := hy
        simpa [noTop] using noTop_takeC hr hz
       ·cases hy)
    | (simp only [Option.map_eq_some_iff] at hx
       obtain ⟨l2, hz, rfl⟩ := hx
       simpa [noTop] using noTop_takeC hr hz)
theorem noTop_dropC : ∀ {l l' : List SV} {o : Nat}, noTop l = true -> dropC l o = some l' -> noTop l' = true
 | [], l', o, h, hv => by
   simp only [dropC] at hv
   rcases beq_some hv with ⟨e, hx⟩ | ⟨e, hx⟩ <;> cases hx; rfl
 | c :: r, l', o, h, hv => by
   have hr : noTop r = true := by cases c <;> simp_all [noTop]
   cases c <;> simp only [dropC, reduceCtorEq] at hv <;> rcases beq_some hv with ⟨e, hx⟩ | ⟨e, hx⟩ <;> first
    | (cases hx; exact h)
    | (simp [noTop] at h; done)
    | (rcases ble_some hx with ⟨e2, hy⟩ | ⟨e2, hy⟩
       ·exact noTop_dropC hr hy
       ·cases hy)
    | exact noTop_dropC hr hx
theorem overC_ok {l new l' : List SV} {o m : Nat} (h : overC l o m new = some l') (hw : (cellsL ρ new).length = m) (ht : noTop l = true) (hn : noTop new = true) :
  cellsL ρ l' = (cellsL ρ l).take o ++ cellsL ρ new ++ (cellsL ρ l).drop (o + m) /\ o + m <= (cellsL ρ l).length /\ noTop l' = true := by
 unfold overC at h
 split at h
 ·rename_i x y h1 h2
  cases h
  obtain ⟨t1, t2⟩ := takeC_ok (CellsOK.of_cellsL ρ l) h1
  obtain ⟨d1, d2⟩ := dropC_ok (CellsOK.of_cellsL ρ l) h2
  have n1 := noTop_takeC ht h1
  have n2 := noTop_dropC ht h2
  rw [cellsL_append, cellsL_append, <- t1.noTop n1, <- d1.noTop n2]
  exact ⟨rfl, d2, noTop_append (noTop_append n1 hn) n2⟩
 ·cases h
theorem overC_okd {l new l' : List SV} {o m n : Nat} (h : overC l o m new = some l') (ho : okdL W F n l) (hn : okdL W F n new) : okdL W F n l' := by
 unfold overC at h
 split at h
 ·rename_i x y h1 h2
  cases h
  exact okdL_append (okdL_append (okdL_takeC ho h1) hn) (okdL_dropC ho h2)
 ·cases h
theorem widthL_cells : ∀ (l : List SV), (cellsL ρ l).length = widthL l := fun l => (CellsOK.of_cellsL ρ l).length
theorem intCells_set {k : IntKind} {n : Nat} {xs : List Int} {o : Nat} {v : Int} (hl : xs.length = n) (ho : o < n) : intCells k n (xs.set o v) = (intCells k n xs).set o (.int k v) := by
 apply List.ext_getElem?
 intro j
 by_cases hj : j < n
 ·rw [intCells_get _ _ _ _ hj]
  by_cases hjo : j = o
  ·subst hjo
   rw [List.getElem?_set_self (by simp [intCells_length]; exact hj)]
   simp [List.getD, List.getElem?_set_self (show j < xs.length by omega)]
  ·rw [List.getElem?_set_ne (by omega), intCells_get _ _ _ _ hj]
   simp [List.getD, List.getElem?_set_ne (show o ≠ j by omega)]
 ·rw [List.getElem?_eq_none (by simp [intCells_length]; omega), List.getElem?_eq_none (by simp [intCells_length]; omega)]
theorem setIn_ok : ∀ {l : List SV} {o : Nat} {k : IntKind} {v : Int} {ps : List Prop} {l' : List SV} {vs : List Value} {n : Nat}, setIn l o k v = some (ps, l') -> All ps -> CellsOK ρ l vs -> okdL W F n l ->
  CellsOK ρ l' (vs.set o (.int k v)) /\ o < vs.length /\ okdL W F n l'
 | [], o, k, v, ps, l', vs, n, h, hp, hc, ho => by simp [setIn] at h
 | c :: r, o, k, v, ps, l', vs, n, h, hp, hc, ho => by
   by_cases hi : ∃ k n xs, c = .ints k n xs
   ·obtain ⟨k0, n0, xs, rfl⟩ := hi
    obtain ⟨t, rfl, h2⟩ := hc
    simp only [setIn] at h
    rcases blt_some h with ⟨e, hx⟩ | ⟨e, hx⟩ <;> clear h
    ·rcases cond_some hx with ⟨e2, hy⟩ | ⟨e2, hy⟩ <;> clear hx
     ·cases hy
      have e2 : k0 = k := by simpa using e2
      subst e2
      have hl : xs.length = n0 := hp _ (by simp)
      refine ⟨⟨t, ?_, h2⟩, by simp [intCells_length]; omega, ⟨trivial, ho.2⟩⟩
      rw [intCells_set hl e, List.set_append_left _ _ (by simp [intCells_length]; exact e)]
     ·cases hy
    ·simp only [Option.map_eq_some_iff] at hx
     obtain ⟨⟨p2, l2⟩, hx, hy⟩ := hx
     cases hy
     obtain ⟨i1, i2, i3⟩ := setIn_ok hx hp h2 ho.2
     refine ⟨⟨_, ?_, i1⟩, by simp [intCells_length]; omega, ⟨trivial, i3⟩⟩
     rw [List.set_append_right _ _ (by simp [intCells_length]; omega), intCells_length]
   ·rcases Classical.em (∃ z n f, c = SV.many z n f) with ⟨_, _, _, rfl⟩ | hm9
    ·simp [setIn] at h
    have e1 : setIn (c :: r) o k v = bif Nat.beq o 0 then none else (setIn r (o - 1) k v).map fun (p, l) => (p, c :: l) := by cases c <;> first | rfl | exact absurd ⟨_, _, _, rfl⟩ hi | exact absurd ⟨_, _, _, rfl⟩ hm9
    rw [e1] at h
    rcases beq_some h with ⟨e, hx⟩ | ⟨e, hx⟩ <;> clear h
    ·cases hx
    ·simp only [Option.map_eq_some_iff] at hx
     obtain ⟨⟨p2, l2⟩, hx, hy⟩ := hx
     cases hy
     obtain ⟨m, rfl⟩ : ∃ m, o = m + 1 := ⟨o - 1, by omega⟩
     simp only [Nat.add_sub_cancel] at hx
     cases hs : single c with
     | true =>
       obtain ⟨t, rfl, h2⟩ := hc.one hs
       obtain ⟨i1, i2, i3⟩ := setIn_ok hx hp h2 ho.2
       exact ⟨by simpa using CellsOK.mk_one hs i1, by simp; omega, ho.1, i3⟩
     | false =>
       cases c <;> simp [single] at hs
       ·obtain ⟨u, t, rfl, h2⟩ := hc
        obtain ⟨i1, i2, i3⟩ := setIn_ok hx hp h2 ho.2
        exact ⟨⟨u, _, by simp, i1⟩, by simp; omega, ho.1, i3⟩
       ·exact absurd ⟨_, _, _, rfl⟩ hi
       ·exact absurd ⟨_, _, _, rfl⟩ hm9
theorem set_eq_take_drop {α : Type} (l : List α) (o : Nat) (v : α) (h : o < l.length) : l.set o v = l.take o ++ [v] ++ l.drop (o + 1) := by
 rw [List.set_eq_take_append_cons_drop]
 simp [h]
theorem setD_ok : ∀ {l : List SV} {o : Nat} {k : IntKind} {v : Int} {l' : List SV}, setD l o k v = some l' -> ∃ ps, setIn l o k v = some (ps, l') /\ All ps
 | [], o, k, v, l', h => by simp [setD] at h
 | c :: r, o, k, v, l', h => by
   cases c <;> simp only [setD, reduceCtorEq] at h <;> simp only [setIn] <;> first
    | (rcases beq_some h with ⟨e, h⟩ | ⟨e, h⟩
       ·cases h
       ·simp only [Option.map_eq_some_iff] at h
        obtain ⟨l2, h9, rfl⟩ := h
        obtain ⟨ps, h1, h2⟩ := setD_ok h9
        have : Nat.beq o 0 = false := by cases hq : Nat.beq o 0 with
         | false => rfl
         | true => exact absurd (Nat.eq_of_beq_eq_true hq) e
        exact ⟨ps, by simp [this, h1], h2⟩)
    | (rcases cond_some h with ⟨e, h⟩ | ⟨e, h⟩
       ·rcases cond_some h with ⟨e2, h⟩ | ⟨e2, h⟩
        ·cases h
         simp only [Bool.and_eq_true] at e2
         refine ⟨_, by rw [e, e2.1]; rfl, fun p hp => ?_⟩
         rcases List.mem_singleton.1 hp with rfl
         exact Nat.eq_of_beq_eq_true e2.2
        ·cases h
       ·simp only [Option.map_eq_some_iff] at h
        obtain ⟨l2, h9, rfl⟩ := h
        obtain ⟨ps, h1, h2⟩ := setD_ok h9
        exact ⟨ps, by simp [e, h1], h2⟩)
theorem noTop_setIn : ∀ {l : List SV} {o : Nat} {k : IntKind} {v : Int} {ps : List Prop} {l' : List SV}, setIn l o k v = some (ps, l') -> noTop l = true -> noTop l' = true
 | [], o, k, v, ps, l', h, ht => by simp [setIn] at h
 | c :: r, o, k, v, ps, l', h, ht => by
   have ht2 : noTop r = true := by cases c <;> simp_all [noTop]
   cases c <;> simp only [setIn, reduceCtorEq] at h <;> first
    | (rcases beq_some h with ⟨e, h⟩ | ⟨e, h⟩
       ·cases h
       ·simp only [Option.map_eq_some_iff] at h
        obtain ⟨⟨p2, l2⟩, h9, hy⟩ := h
        cases hy
        have := noTop_setIn h9 ht2
        first | (simp [noTop] at ht; done) | (simp only [noTop]; exact this))
    | (rcases cond_some h with ⟨e, h⟩ | ⟨e, h⟩
       ·rcases cond_some h with ⟨e2, h⟩ | ⟨e2, h⟩
        ·cases h; simp only [noTop]; exact ht2
        ·cases h
       ·simp only [Option.map_eq_some_iff] at h
        obtain ⟨⟨p2, l2⟩, h9, hy⟩ := h
        cases hy
        simp only [noTop]; exact noTop_setIn h9 ht2)
theorem layC_ok {l new l' : List SV} {o m n : Nat} (h : layC l o m new = some l') (hw : (cellsL ρ new).length = m) (ht : noTop l = true) (hn : noTop new = true) (hl : okdL W F n l) (ho : okdL W F n new) :
  cellsL ρ l' = (cellsL ρ l).take o ++ cellsL ρ new ++ (cellsL ρ l).drop (o + m) /\ o + m <= (cellsL ρ l).length /\ noTop l' = true /\ okdL W F n l' := by
 unfold layC at h
 split at h
 ·rename_i c hc
  cases h
  obtain ⟨a1, a2, a3⟩ := overC_ok (ρ := ρ) hc hw ht hn
  exact ⟨a1, a2, a3, overC_okd hc hl ho⟩
 ·rename_i hov
  clear hov
  split at h
  ·rename_i c
   simp only [Option.bind_eq_some_iff] at h
   obtain ⟨⟨k, x, cl⟩, hq, h⟩ := h
   rcases beq_some h with ⟨e, h⟩ | ⟨e, h⟩
   ·obtain ⟨ps, h1, h2⟩ := setD_ok h
    obtain ⟨s1, s2, s3⟩ := setIn_ok h1 h2 (CellsOK.of_cellsL ρ l) hl
    have hs : single c = true := by cases c <;> simp [asI] at hq <;> rfl
    have hc : cellsL ρ [c] = [.int k x] := by rw [cellsL_one hs, asI_ok hq ρ]; rfl
    have ht2 := noTop_setIn h1 ht
    have := s1.noTop ht2
    rw [hc, e, <- this, set_eq_take_drop _ _ _ s2]
    exact ⟨rfl, by omega, ht2, s3⟩
   ·cases h
  ·cases h
theorem fillC_ok {place : Nat -> Option (Nat × Nat)} {n : Nat} : ∀ {ps : List (Nat × SV)} {l l' : List SV}, fillC place l ps = some l' -> noTop l = true -> okdL W F n l -> (∀ p ∈ ps, okd W F n p.2) ->
  Instr.fill place (cellsL ρ l).toArray (ps.map fun p => (p.1, den ρ p.2)) = some (cellsL ρ l').toArray /\ okdL W F n l' /\ noTop l' = true
 | [], l, l', h, ht, ho, _ => by simp [fillC] at h; subst h; exact ⟨rfl, ho, ht⟩
 | (i, v) :: ps, l, l', h, ht, ho, hp => by
   simp only [fillC] at h
   cases hpl : place i with
   | none => simp [hpl] at h
   | some q =>
     obtain ⟨off, size⟩ := q
     simp only [hpl, Option.bind_eq_some_iff] at h
     obtain ⟨new, hv, h⟩ := h
     rcases beq_some h with ⟨e, h⟩ | ⟨e, h⟩
     ·simp only [Option.bind_eq_some_iff] at h
      obtain ⟨c, hc, h⟩ := h
      obtain ⟨v1, v2, v3⟩ := valueCells_ok (ρ := ρ) hv (hp (i, v) (by simp))
      have hlen : (cellsL ρ new).length = size := by rw [widthL_cells, e]
      obtain ⟨o1, o2, o3, o4⟩ := layC_ok (ρ := ρ) hc hlen ht (cellsB_noTop v3) ho v2
      obtain ⟨f1, f2, f3⟩ := fillC_ok h o3 o4 (fun p hq => hp p (by simp [hq]))
      refine ⟨?_, f2, f3⟩
      rw [<- f1]
      have hsz : (den ρ v).cells.size = size := by rw [<- hlen, <- v1]; simp
      simp only [List.map_cons, Instr.fill, hpl, hsz]
      rw [if_neg (by simp; omega)]
      congr 1
      apply Array.ext'
      have hz : (den ρ v).cells.zipIdx.foldl (fun cs (p : Value × Nat) => cs.setIfInBounds (off + p.2) p.1) (cellsL ρ l).toArray
        = ((cellsL ρ new).zipIdx 0).foldl (fun (cs : Array Value) (p : Value × Nat) => cs.setIfInBounds (off + p.2) p.1) (cellsL ρ l).toArray := by
       rw [<- Array.foldl_toList, Array.toList_zipIdx, v1]
      have := foldl_set off (cellsL ρ new) 0 (cellsL ρ l).toArray (by simp; omega)
      simp only [Nat.add_zero] at this
      rw [o1, show off + size = off + (cellsL ρ new).length by rw [hlen]]
      rw [hz, this]
     ·cases h
theorem placesL_ok (hT : TabOK P T) : ∀ {fs : List Field} {pl : List (Nat × Nat)}, placesL T (fs.map fun f => (f.offset, f.type)) = some pl -> fs.mapM (fun f => (P.info? f.type).map fun i => (f.offset, i.size)) = some pl
 | [], pl, h => by simp [placesL] at h; subst h; rfl
 | f :: fs, pl, h => by
   simp only [List.map_cons, placesL] at h
   cases hi : T.at f.type with
   | none => simp [hi] at h
   | some i =>
     cases hr : placesL T (fs.map fun f => (f.offset, f.type)) with
     | none => simp [hi, hr] at h
     | some l =>
       simp [hi, hr] at h; subst h
       obtain ⟨it, z, h1, h2, _⟩ := (hT _ i hi).info
       have := placesL_ok hT hr
       simp [List.mapM_cons, h1, h2, this]
theorem buildS_ok (hT : TabOK P T) {t : TypeId} {ps : List (Nat × SV)} {v : SV} {m : Nat} (h : buildS T t ps = some v) (ho : ∀ p ∈ ps, okd W F m p.2) :
  ∃ u, (Instr.build t (ps.map fun p => (p.1, den ρ p.2)).toArray).run P w = .ok u w /\ Good W F ρ m v u := by
 simp only [buildS, Option.bind_eq_some_iff] at h
 obtain ⟨i, hi, h⟩ := h
 have ty := hT t i hi
 obtain ⟨it, z, i1, i2, _, i3, i4, i5⟩ := ty.info
 obtain ⟨d, d1, d2, d3⟩ := ty.desc
 rcases cond_some h with ⟨ea, h⟩ | ⟨ea, h⟩
 ·have hz : z.cells = (cellsL ρ i.zero).toArray := by
   apply Array.ext'
   rw [i4]; simpa using plainL_cells _ _ ty.zero
  split at h
  ·rename_i fs hd
   simp only [Option.bind_eq_some_iff, Option.map_eq_some_iff] at h
   obtain ⟨pl, hpl, c, hc, rfl⟩ := h
   obtain ⟨f1, f2, f3⟩ := fillC_ok (ρ := ρ) hc (plain_noTop ty.zero) (plainL_okd W F m ty.zero) ho
   rw [hd] at d3
   cases d <;> simp [DescOK] at d3
   subst d3
   refine ⟨_, run_build w t _ (cellsL ρ c).toArray ?_, rfl, f2, fun h => by cases h⟩
   simp only [Program.built, i1, d1, i3, placesL_ok hT hpl, hz]
   simpa using f1
  ·rename_i n e hd
   simp only [Option.bind_eq_some_iff, Option.map_eq_some_iff] at h
   obtain ⟨ei, he, c, hc, rfl⟩ := h
   obtain ⟨f1, f2, f3⟩ := fillC_ok (ρ := ρ) hc (plain_noTop ty.zero) (plainL_okd W F m ty.zero) ho
   rw [hd] at d3
   cases d <;> simp [DescOK] at d3
   obtain ⟨rfl, rfl⟩ := d3
   obtain ⟨et, ez, e1, e2, _⟩ := (hT _ ei he).info
   refine ⟨_, run_build w t _ (cellsL ρ c).toArray ?_, rfl, f2, fun h => by cases h⟩
   simp only [Program.built, i1, d1, i3, e1, e2, hz]
   simpa using f1
  ·cases h
 ·cases h
theorem pickS_ok {c : Bool} {x y v : SV} {m : Nat} (h : pickS c x y = some v) : (if c then den ρ x else den ρ y) = den ρ v /\ okd W F m v /\ v ≠ .top := by
 unfold pickS at h
 split at h
 ·rename_i p q h1 h2
  cases h
  rw [asB_ok (c := p.2) (b := p.1) h1 ρ, asB_ok (c := q.2) (b := q.1) h2 ρ]
  cases c <;> exact ⟨rfl, trivial, fun h => by cases h⟩
 ·split at h
  ·rename_i p q h1 h2
   rcases cond_some h with ⟨e, h⟩ | ⟨e, h⟩
   ·cases h
    simp at e
    rw [asI_ok (k := p.1) (n := p.2.1) (c := p.2.2) h1 ρ, asI_ok (k := q.1) (n := q.2.1) (c := q.2.2) h2 ρ, <- e]
    cases c <;> exact ⟨rfl, trivial, fun h => by cases h⟩
   ·cases h
  ·cases h
theorem extractS_ok {x v : SV} {i m : Nat} (h : extractS x i = some v) (ox : okd W F m x) : (Instr.extract (den ρ x) i).run P w = .ok (den ρ v) w /\ okd W F m v /\ v ≠ .top := by
 unfold extractS at h
 split at h
 ·rename_i vs
  simp only [Option.bind_eq_some_iff] at h
  obtain ⟨u, hu, h⟩ := h
  rcases cond_some h with ⟨e, h⟩ | ⟨e, h⟩
  ·cases h
   have hd : (denL ρ vs)[i]? = some (den ρ v) := by rw [denL_eq]; simp [hu]
   have ho : ∀ (l : List SV) (i : Nat), okdL W F m l -> l[i]? = some v -> okd W F m v := by
    intro l
    induction l with
    | nil => intro i _ h; simp at h
    | cons c l ih =>
      intro i h1 h2
      cases i with
      | zero => simp at h2; subst h2; exact h1.1
      | succ i => exact ih i h1.2 (by simpa using h2)
   exact ⟨by simp [Instr.extract, den, hd], ho vs i ox hu, by rintro rfl; cases e⟩
  ·cases h
 ·cases h
theorem pureOp_ok (hT : TabOK P T) (st : Sat W F nt ρ s a w) {o : Oper} {ps : List Prop} {v : SV} (h : pureOp T s o.op = some (ps, v)) (hp : All ps) :
  ∃ u, (execOp a.eval o).run P w = .ok (.value u) w /\ Good W F ρ s.rows.length v u := by
 cases hop : o.op <;> simp only [hop, pureOp, reduceCtorEq] at h
 case move x =>
  simp only [Option.map_eq_some_iff] at h
  obtain ⟨v', h1, h⟩ := h; cases h
  obtain ⟨e1, e2, e3⟩ := ev_ok st h1
  exact ⟨_, by simp [execOp, hop], e1, e2, e3⟩
 case assign x =>
  simp only [Option.map_eq_some_iff] at h
  obtain ⟨v', h1, h⟩ := h; cases h
  obtain ⟨e1, e2, e3⟩ := ev_ok st h1
  exact ⟨_, by simp [execOp, hop], e1, e2, e3⟩
 case pick c x y =>
  simp only [Option.bind_eq_some_iff] at h
  obtain ⟨c', h1, ⟨b, cl⟩, h2, h⟩ := h
  obtain ⟨e1, _, _⟩ := ev_ok st h1
  rw [asB_ok h2 ρ] at e1
  rcases cond_some h with ⟨e, h⟩ | ⟨e, h⟩
  ·simp only [Option.map_eq_some_iff] at h
   obtain ⟨v', h3, h⟩ := h; cases h
   obtain ⟨f1, f2, f3⟩ := ev_ok st h3
   refine ⟨den ρ v, ?_, rfl, f2, f3⟩
   cases b <;> simp at f1 <;> simp [execOp, hop, e1, asBool, f1]
  ·simp only [Option.bind_eq_some_iff, Option.map_eq_some_iff] at h
   obtain ⟨x', hx, y', hy, v', hv, h⟩ := h; cases h
   obtain ⟨f1, _, _⟩ := ev_ok st hx
   obtain ⟨g1, _, _⟩ := ev_ok st hy
   obtain ⟨p1, p2, p3⟩ := pickS_ok (ρ := ρ) (W := W) (F := F) (m := s.rows.length) hv
   refine ⟨den ρ v, ?_, rfl, p2, p3⟩
   rw [<- p1]
   cases b <;> simp [execOp, hop, e1, asBool, f1, g1]
 case build t parts =>
  simp only [Option.bind_eq_some_iff, Option.map_eq_some_iff] at h
  obtain ⟨ps', h1, v', h2, h⟩ := h; cases h
  obtain ⟨e1, e2⟩ := evP_ok st h1
  obtain ⟨u, hu, hg⟩ := buildS_ok (W := W) (F := F) (ρ := ρ) (w := w) (m := s.rows.length) hT h2 e2
  refine ⟨u, ?_, hg⟩
  have : (parts.map fun (i, x) => (i, a.eval x)) = (ps'.map fun p => (p.1, den ρ p.2)).toArray := by
   apply Array.ext'
   rw [Array.toList_map, e1]
  simp [execOp, hop, this, hu]
 case load t x =>
  simp only [Option.bind_eq_some_iff] at h
  obtain ⟨x', h1, h⟩ := h
  obtain ⟨e1, e2, _⟩ := ev_ok st h1
  obtain ⟨u, hu, hg⟩ := loadS_ok hT st.mem h hp e2
  exact ⟨u, by simp [execOp, hop, e1, hu], hg⟩
 case binOp op t x y yt =>
  simp only [Option.bind_eq_some_iff] at h
  obtain ⟨x', h1, y', h2, h⟩ := h
  obtain ⟨e1, _, _⟩ := ev_ok st h1
  obtain ⟨f1, _, _⟩ := ev_ok st h2
  obtain ⟨u, g1, g2, g3⟩ := bin_ok (W := W) (F := F) (ρ := ρ) (w := w) (m := s.rows.length) hT h hp x y
  exact ⟨u, run_bin_of op t x y yt o hop (by rw [e1, f1]; exact g1) (by rw [e1, f1]; exact g2), g3⟩
 case unOp op t x =>
  simp only [Option.bind_eq_some_iff] at h
  obtain ⟨x', h1, h⟩ := h
  obtain ⟨e1, _, _⟩ := ev_ok st h1
  obtain ⟨u, hu, hg⟩ := un_ok (P := P) (W := W) (F := F) (ρ := ρ) (w := w) (m := s.rows.length) h hp
  exact ⟨u, by simp [execOp, hop, e1, hu], hg⟩
 case convert src dst x =>
  rcases cond_some h with ⟨e, h⟩ | ⟨e, h⟩
  ·simp only [Option.bind_eq_some_iff] at h
   obtain ⟨x', h1, h⟩ := h
   obtain ⟨e1, e2, _⟩ := ev_ok st h1
   split at h
   ·rename_i r hr
    cases h
    obtain ⟨u, hu, hg⟩ := conv_ok (W := W) (F := F) (ρ := ρ) (w := w) (m := s.rows.length) hT hr hp e
    exact ⟨u, by simp [execOp, hop, e1, hu], hg⟩
   ·obtain ⟨u, hu, hg⟩ := convS_ok hT st.mem h hp e2
    exact ⟨u, by simp [execOp, hop, e1, hu], hg⟩
  ·cases h
 case sliceToArrayPointer t x =>
  simp only [Option.bind_eq_some_iff] at h
  obtain ⟨x', h1, h⟩ := h
  obtain ⟨e1, e2, _⟩ := ev_ok st h1
  obtain ⟨u, hu, hg⟩ := toArr_ok hT st.mem h hp e2
  exact ⟨u, by simp [execOp, hop, e1, hu], hg⟩
 case slice t x lo hi mx =>
  simp only [Option.bind_eq_some_iff] at h
  obtain ⟨x', h1, lo', h2, hi', h3, mx', h4, h⟩ := h
  obtain ⟨e1, e2, _⟩ := ev_ok st h1
  obtain ⟨kl, f1⟩ := optI_ok st h2
  obtain ⟨kh, f2⟩ := optI_ok st h3
  obtain ⟨km, f3⟩ := optI_ok st h4
  obtain ⟨u, hu, hg⟩ := sliceS_ok hT st.mem h hp e2 kl kh km
  exact ⟨u, by simp [execOp, hop, e1, f1, f2, f3, hu], hg⟩
 case makeFunc f first cap =>
  simp only [Option.bind_eq_some_iff, Option.map_eq_some_iff] at h
  obtain ⟨x', h1, y', h2, h⟩ := h; cases h
  obtain ⟨e1, e2⟩ := evL_ok st h1
  obtain ⟨f1, f2⟩ := evL_ok st h2
  have g1 : first.map a.eval = (denL ρ x').toArray := by apply Array.ext'; rw [Array.toList_map, e1]
  have g2 : cap.map a.eval = (denL ρ y').toArray := by apply Array.ext'; rw [Array.toList_map, f1]
  exact ⟨_, by simp [execOp, hop, Instr.makeFunc, g1, g2]; rfl, rfl, ⟨e2, f2⟩, fun h => by cases h⟩
 case fieldAddr t x f =>
  simp only [Option.bind_eq_some_iff, Option.map_eq_some_iff] at h
  obtain ⟨x', h1, v', h2, h⟩ := h; cases h
  obtain ⟨e1, e2, _⟩ := ev_ok st h1
  obtain ⟨u, hu, hg⟩ := fieldA_ok (ρ := ρ) (w := w) hT h2 e2
  exact ⟨u, by simp [execOp, hop, e1, hu], hg⟩
 case field t x f =>
  simp only [Option.bind_eq_some_iff, Option.map_eq_some_iff] at h
  obtain ⟨x', h1, v', h2, h⟩ := h; cases h
  obtain ⟨e1, e2, _⟩ := ev_ok st h1
  obtain ⟨u, hu, hg⟩ := fieldV_ok (ρ := ρ) (w := w) hT h2 e2
  exact ⟨u, by simp [execOp, hop, e1, hu], hg⟩
 case indexAddr t x i =>
  simp only [Option.bind_eq_some_iff] at h
  obtain ⟨x', h1, i', h2, h⟩ := h
  obtain ⟨e1, e2, _⟩ := ev_ok st h1
  obtain ⟨f1, _, _⟩ := ev_ok st h2
  obtain ⟨u, hu, hg⟩ := indexA_ok hT st.mem h hp e2
  exact ⟨u, by simp [execOp, hop, e1, f1, hu], hg⟩
 case index t x i =>
  simp only [Option.bind_eq_some_iff] at h
  obtain ⟨x', h1, i', h2, h⟩ := h
  obtain ⟨e1, e2, _⟩ := ev_ok st h1
  obtain ⟨f1, _, _⟩ := ev_ok st h2
  obtain ⟨u, hu, hg⟩ := indexV_ok (ρ := ρ) (w := w) hT h hp e2
  exact ⟨u, by simp [execOp, hop, e1, f1, hu], hg⟩
 case extract x i =>
  simp only [Option.bind_eq_some_iff, Option.map_eq_some_iff] at h
  obtain ⟨x', h1, v', h2, h⟩ := h; cases h
  obtain ⟨e1, e2, _⟩ := ev_ok st h1
  obtain ⟨u1, u2, u3⟩ := extractS_ok (P := P) (ρ := ρ) (w := w) h2 e2
  exact ⟨_, by simp [execOp, hop, e1, u1], rfl, u2, u3⟩
 case nilCheck x =>
  simp only [Option.bind_eq_some_iff] at h
  obtain ⟨x', h1, h⟩ := h
  obtain ⟨e1, e2, e3⟩ := ev_ok st h1
  rcases cond_some h with ⟨e, h⟩ | ⟨e, h⟩
  ·cases h
   refine ⟨den ρ v, ?_, rfl, e2, e3⟩
   cases v <;> simp [isPtr, isRsa] at e
   case rsa sz v n f i off =>
    obtain ⟨⟨⟨_, h2⟩, _⟩, h3, h4, _⟩ := e2
    rcases h2 with ⟨a, cap, rfl, h5, _⟩ | ⟨b, o, cap, rfl, _⟩
    ·omega
    ·simp [execOp, hop, e1, den, elemCell]
   all_goals simp [execOp, hop, e1, den]
  ·cases h
 case call c =>
  unfold lenCall at h
  split at h
  ·rename_i x t
   simp only [Option.bind_eq_some_iff] at h
   obtain ⟨i, hi, x', h1, h⟩ := h
   obtain ⟨e1, e2, _⟩ := ev_ok st h1
   rcases cond_some h with ⟨e, h⟩ | ⟨e, h⟩
   ·simp only [Option.map_eq_some_iff] at h
    obtain ⟨v', h2, h⟩ := h; cases h
    obtain ⟨u, hu, hg⟩ := lenS_ok (ρ := ρ) (w := w) hT hi e h2 e2 o.type
    refine ⟨u, ?_, hg⟩
    simp [execOp, hop, resolve, invoke, builtin, e1, hu]
   ·cases h
  ·cases h
end Sx
end
section
namespace Sx
variable {P : Program} {T : Tab} {W : World} {F : Nat -> Prop} {nt : Nat} {ρ ρ' : Num} {s : SS} {a : Act} {w : World}
theorem CellsOK.congr {n : Nat} (h : ∀ i, i < n -> ρ' i = ρ i) : ∀ {l : List SV} {vs : List Value}, okdL W F n l -> CellsOK ρ l vs -> CellsOK ρ' l vs
 | [], vs, _, hc => hc
 | c :: l, vs, ho, hc => by
   cases hs : single c with
   | true =>
     obtain ⟨t, rfl, h2⟩ := hc.one hs
     rw [<- den_congr h ho.1]
     exact .mk_one hs (h2.congr h ho.2)
   | false =>
     cases c <;> simp [single] at hs
     ·obtain ⟨v, t, rfl, h2⟩ := hc
      exact ⟨v, t, rfl, h2.congr h ho.2⟩
     ·obtain ⟨t, rfl, h2⟩ := hc
      exact ⟨t, rfl, h2.congr h ho.2⟩
     ·obtain ⟨t, rfl, h2⟩ := hc
      exact ⟨t, rfl, h2.congr h ho.2⟩
def ext (ρ : Num) (n : Nat) (b : Nat × Nat) : Num := fun i => if i = n then b else ρ i
theorem ext_new (ρ : Num) (n : Nat) (b : Nat × Nat) : ext ρ n b n = b := by simp [ext]
theorem get_push {rows : List (Option Row)} {r r' : Row} {i : Nat} (h : (rows ++ [some r])[i]? = some (some r')) : (rows[i]? = some (some r') /\ i < rows.length) ∨ (i = rows.length /\ r = r') := by
 by_cases hi : i < rows.length
 ·rw [List.getElem?_append_left hi] at h; exact .inl ⟨h, hi⟩
 ·rw [List.getElem?_append_right (by omega)] at h
  by_cases h0 : i - rows.length = 0
  ·rw [h0] at h; simp at h; exact .inr ⟨by omega, h⟩
  ·rw [List.getElem?_eq_none (by simp; omega)] at h; cases h
theorem RowOK.new {r : Row} {i : Nat} (c : Array Value) (l rest : List Value) (hh : Has ρ i r) (hb : w.heap[(ρ i).1]? = some (.cells c r.ty (0, 0))) (hl : c.toList = l ++ rest) (hc : CellsOK ρ r.cs l) (h0 : r.sz = 0 -> rest = []) (h1 : r.sz ≠ 0 -> c.size = (ρ i).2 * r.sz) : RowOK ρ w i r :=
 .inl ⟨hh, c, l, rest, hb, hl, hc, h0, h1⟩
theorem RowOK.plain {r : Row} {i : Nat} (c : Array Value) (hob : r.ob = none) (hz : r.sz = 0) (hb : w.heap[(ρ i).1]? = some (.cells c r.ty (0, 0))) (hc : CellsOK ρ r.cs c.toList) : RowOK ρ w i r :=
 .inl ⟨⟨hob, .inl hz⟩, c, c.toList, [], hb, by simp, hc, fun _ => rfl, fun h => absurd hz h⟩
theorem get_set {rows : List (Option Row)} {r r' : Row} {b i : Nat} (h : (rows.set b (some r))[i]? = some (some r')) : (i = b /\ r = r') ∨ (i ≠ b /\ rows[i]? = some (some r')) := by
 by_cases hib : i = b
 ·subst hib
  by_cases hl : i < rows.length
  ·rw [List.getElem?_set_self hl] at h; cases h; exact .inl ⟨rfl, rfl⟩
  ·rw [List.getElem?_eq_none (by simp; omega)] at h; cases h
 ·rw [List.getElem?_set_ne (by omega)] at h; exact .inr ⟨hib, h⟩
theorem MemOK.set {rows : List (Option Row)} (hm : MemOK W F ρ rows w) {b : Nat} {r : Row} (hr : rowOf rows b = some r) (hh : Has ρ b r) {cs : List SV} {c : Array Value} (hc : RowOK ρ (w.setRow (ρ b).1 c) b ⟨r.ty, cs, r.sz, none⟩) (ho : okdL W F rows.length cs) :
  MemOK W F ρ (rows.set b (some ⟨r.ty, cs, r.sz, none⟩)) (w.setRow (ρ b).1 c) := by
 have hb := rowOf_get hr
 have hmine := hm.mine b _ hb hh
 refine ⟨⟨hm.frame.os, hm.frame.tape, hm.frame.output, by simpa using hm.frame.size, fun k hk hf => ?_⟩, hm.glob, ?_, ?_, ?_, ?_⟩
 ·rw [setRow_other, hm.frame.block k hk hf]
  rintro rfl
  rcases hmine with h | h
  ·exact hf h
  ·omega
 ·intro i r' hi
  rcases get_set hi with ⟨rfl, rfl⟩ | ⟨hib, hi⟩
  ·exact ⟨hc, by simpa using ho⟩
  ·obtain ⟨h1, h2⟩ := hm.row i r' hi
   refine ⟨h1.map rfl rfl rfl rfl (fun hh2 => ?_) (fun _ h => h), by simpa using h2⟩
   rw [setRow_other _ _ _ _ (fun h => hib (hm.inj i b _ _ hi hb hh2 hh h))]
 ·intro i j r1 r2 hi hj h1 h2 he
  have live : ∀ (i : Nat) (r1 : Row), (rows.set b (some ⟨r.ty, cs, r.sz, none⟩))[i]? = some (some r1) -> Has ρ i r1 -> ∃ q, rows[i]? = some (some q) /\ Has ρ i q := by
   intro i r1 hi h1
   rcases get_set hi with ⟨rfl, rfl⟩ | ⟨hib, hi⟩
   ·exact ⟨_, hb, hh⟩
   ·exact ⟨_, hi, h1⟩
  obtain ⟨q1, g1, g2⟩ := live i r1 hi h1
  obtain ⟨q2, g3, g4⟩ := live j r2 hj h2
  exact hm.inj i j _ _ g1 g3 g2 g4 he
 ·intro i r' hi h1
  rcases get_set hi with ⟨rfl, rfl⟩ | ⟨hib, hi⟩
  ·exact hm.mine i _ hb hh
  ·exact hm.mine i _ hi h1
 ·obtain ⟨φ, hφ⟩ := hm.obs
  refine ⟨φ, hφ.keep (fun i r1 hi h1 => ?_) (by simp) (fun y hy hn => setRow_other _ _ _ _ (fun he => hn b r hb hh he.symm)) (fun j q hj hq => .inr ?_)⟩
  ·rcases get_set hi with ⟨rfl, rfl⟩ | ⟨hib, hi⟩
   ·exact absurd rfl h1
   ·exact ⟨r1, hi, rfl, rfl, fun _ h => h⟩
  ·rcases get_set hj with ⟨rfl, rfl⟩ | ⟨hib, hj⟩
   ·exact ⟨_, _, hb, hh, rfl⟩
   ·exact ⟨_, _, hj, hq, rfl⟩
theorem MemOK.step {rows : List (Option Row)} (hm : MemOK W F ρ rows w) {w' : World} (hf : Frm (fun _ => False) w w') : MemOK W F ρ rows w' := by
 refine ⟨⟨hf.os.trans hm.frame.os, hf.tape.trans hm.frame.tape, hf.output.trans hm.frame.output, Nat.le_trans hm.frame.size hf.size, fun b hb hn => ?_⟩, hm.glob, fun i r hi => ?_, hm.inj, hm.mine, ?_⟩
 ·rw [hf.block b (Nat.lt_of_lt_of_le hb hm.frame.size) id, hm.frame.block b hb hn]
 ·obtain ⟨h1, h2⟩ := hm.row i r hi
  exact ⟨h1.map rfl rfl rfl rfl (fun hh => hf.block _ (hm.lt hi hh) id) (fun _ h => h), h2⟩
 ·obtain ⟨φ, hφ⟩ := hm.obs
  exact ⟨φ, hφ.keep (fun i r hi _ => ⟨r, hi, rfl, rfl, fun _ h => h⟩) hf.size (fun y hy _ => hf.block y hy id) (fun j q hj hq => .inr ⟨j, q, hj, hq, rfl⟩)⟩
theorem MemOK.write {rows : List (Option Row)} (hm : MemOK W F ρ rows w) {b : Nat} {r : Row} (hr : rowOf rows b = some r) {c : Array Value} {l rest : List Value} (hh : Has ρ b r) (hc : w.heap[(ρ b).1]? = some (.cells c r.ty (0, 0))) (hl : c.toList = l ++ rest) (h0 : r.sz = 0 -> rest = []) (h1 : r.sz ≠ 0 -> c.size = (ρ b).2 * r.sz)
  {cs : List SV} {l' : List Value} (hn : l'.length = l.length) (hcs : CellsOK ρ cs l') (ho : okdL W F rows.length cs) : MemOK W F ρ (rows.set b (some ⟨r.ty, cs, r.sz, none⟩)) (w.setRow (ρ b).1 (l' ++ rest).toArray) := by
 refine hm.set hr hh (.inl ⟨⟨rfl, hh.2⟩, (l' ++ rest).toArray, l', rest, setRow_heap _ _ _ _ _ _ hc, by simp, hcs, h0, fun hz => ?_⟩) ho
 have : c.size = l.length + rest.length := by rw [<- Array.length_toList, hl, List.length_append]
 have := h1 hz
 simp [hn]; omega
theorem overC_cells {l new l' : List SV} {o m : Nat} {vs : List Value} (h : overC l o m new = some l') (hc : CellsOK ρ l vs) (hw : widthL new = m) :
  CellsOK ρ l' (vs.take o ++ cellsL ρ new ++ vs.drop (o + m)) /\ o + m <= vs.length := by
 unfold overC at h
 split at h
 ·rename_i x y h1 h2
  cases h
  obtain ⟨t1, t2⟩ := takeC_ok hc h1
  obtain ⟨d1, d2⟩ := dropC_ok hc h2
  exact ⟨(t1.append (CellsOK.of_cellsL ρ new)).append d1, d2⟩
 ·cases h
theorem setE_ok : ∀ {l : List SV} {o : Nat} {e : Int} {k : IntKind} {v : Int} {ps : List Prop} {l' : List SV} {vs : List Value} {n : Nat} {z : IntKind × Nat × List Int}, setE l o e k v = some (ps, l') -> intsAt l o = some z -> 0 <= e -> e < z.2.1 -> All ps -> CellsOK ρ l vs -> okdL W F n l ->
  CellsOK ρ l' (vs.set (o + e.toNat) (.int k v)) /\ o + e.toNat < vs.length /\ okdL W F n l'
 | [], o, e, k, v, ps, l', vs, n, z, h, hz, h0, h1, hp, hc, ho => by simp [setE] at h
 | c :: r, o, e, k, v, ps, l', vs, n, z, h, hz, h0, h1, hp, hc, ho => by
   by_cases hi : ∃ k n xs, c = .ints k n xs
   ·obtain ⟨k0, n0, xs, rfl⟩ := hi
    obtain ⟨t, rfl, h2⟩ := hc
    simp only [setE] at h
    simp only [intsAt] at hz
    rcases beq_some h with ⟨eo, hx⟩ | ⟨eo, hx⟩ <;> clear h
    ·subst eo
     simp at hz
     subst hz
     rcases cond_some hx with ⟨e2, hy⟩ | ⟨e2, hy⟩ <;> clear hx
     ·cases hy
      have e2 : k0 = k := by simpa using e2
      subst e2
      have hl : xs.length = n0 := hp _ (by simp)
      have hlt : e.toNat < n0 := by simp at h1; omega
      refine ⟨⟨t, ?_, h2⟩, by simp [intCells_length]; omega, ⟨trivial, ho.2⟩⟩
      rw [intCells_set hl hlt, Nat.zero_add, List.set_append_left _ _ (by simp [intCells_length]; exact hlt)]
     ·cases hy
    ·rcases beq_some hz with ⟨eo2, hz2⟩ | ⟨eo2, hz2⟩ <;> clear hz
     ·exact absurd eo2 eo
     ·rcases ble_some hx with ⟨e2, hy⟩ | ⟨e2, hy⟩ <;> clear hx
      ·rcases ble_some hz2 with ⟨e3, hz3⟩ | ⟨e3, hz3⟩ <;> clear hz2
       ·simp only [Option.map_eq_some_iff] at hy
        obtain ⟨⟨p2, l2⟩, hx, hy⟩ := hy
        cases hy
        obtain ⟨i1, i2, i3⟩ := setE_ok hx hz3 h0 h1 hp h2 ho.2
        refine ⟨⟨_, ?_, i1⟩, by simp [intCells_length]; omega, ⟨trivial, i3⟩⟩
        rw [List.set_append_right _ _ (by simp [intCells_length]; omega), intCells_length]
        congr 2
        omega
       ·omega
      ·cases hy
   ·rcases Classical.em (∃ z n f, c = SV.many z n f) with ⟨_, _, _, rfl⟩ | hm9
    ·simp [setE] at h
    have e1 : setE (c :: r) o e k v = bif Nat.beq o 0 then none else (setE r (o - 1) e k v).map fun (p, l) => (p, c :: l) := by cases c <;> first | rfl | exact absurd ⟨_, _, _, rfl⟩ hi | exact absurd ⟨_, _, _, rfl⟩ hm9
    have e2 : intsAt (c :: r) o = bif Nat.beq o 0 then none else intsAt r (o - 1) := by cases c <;> first | rfl | exact absurd ⟨_, _, _, rfl⟩ hi | exact absurd ⟨_, _, _, rfl⟩ hm9
    rw [e1] at h
    rw [e2] at hz
    rcases beq_some h with ⟨eo, hx⟩ | ⟨eo, hx⟩ <;> clear h
    ·cases hx
    ·rcases beq_some hz with ⟨eo2, hz2⟩ | ⟨eo2, hz2⟩ <;> clear hz
     ·exact absurd eo2 eo
     ·simp only [Option.map_eq_some_iff] at hx
      obtain ⟨⟨p2, l2⟩, hx, hy⟩ := hx
      cases hy
      obtain ⟨m, rfl⟩ : ∃ m, o = m + 1 := ⟨o - 1, by omega⟩
      simp only [Nat.add_sub_cancel] at hx hz2
      rw [show m + 1 + e.toNat = (m + e.toNat) + 1 by omega]
      cases hs : single c with
      | true =>
        obtain ⟨t, rfl, h2⟩ := hc.one hs
        obtain ⟨i1, i2, i3⟩ := setE_ok hx hz2 h0 h1 hp h2 ho.2
        exact ⟨by simpa using CellsOK.mk_one hs i1, by simp; omega, ho.1, i3⟩
      | false =>
        cases c <;> simp [single] at hs
        ·obtain ⟨u, t, rfl, h2⟩ := hc
         obtain ⟨i1, i2, i3⟩ := setE_ok hx hz2 h0 h1 hp h2 ho.2
         exact ⟨⟨u, _, by simp, i1⟩, by simp; omega, ho.1, i3⟩
        ·exact absurd ⟨_, _, _, rfl⟩ hi
        ·exact absurd ⟨_, _, _, rfl⟩ hm9
theorem run_storeVar_of {t : TypeId} {i : TyI} (hi : TyOK P t i) {b o : Nat} {c : Array Value} {ty : TypeId} (hc : w.heap[b]? = some (.cells c ty (0, 0))) {v : Value} {vs : List Value} (hv : v.cells.toList = vs) (hn : vs.length = i.size) (hl : o + vs.length <= c.size) (h1 : ∀ x ∈ vs, x.oneCell' = true) :
  (storeVar t ⟨b, o, none⟩ v).run P w = .ok () (w.setRow b (c.toList.take o ++ vs ++ c.toList.drop (o + vs.length)).toArray) := by
 have hs := hi.run_size w
 have := run_storeCells_at P b o ty vs 0 c w hc (by simpa using hl) h1
 have hsz : v.cells.size = i.size := by rw [<- hn, <- hv]; simp
 simp only [Nat.add_zero] at this
 simp [storeVar, hs, hsz, hv, this]
theorem storeS_ok (hT : TabOK P T) {rows : List (Option Row)} (hm : MemOK W F ρ rows w) {t : TypeId} {x v : SV} {ps : List Prop} {b : Nat} {r' : Row} (h : storeS T rows t x v = some (ps, b, r')) (hp : All ps) (ov : okd W F rows.length v) :
  ∃ w', (Instr.storeAt t (den ρ x) (den ρ v)).run P w = .ok () w' /\ MemOK W F ρ (rows.set b (some r')) w' := by
 simp only [storeS, Option.bind_eq_some_iff] at h
 obtain ⟨i, hi, h⟩ := h
 have ty := hT t i hi
 -- a row of which something is written
 have core : ∀ (b off : Nat) (r : Row) (cs : List SV) (new : List Value) (g : List Value -> List Value), rowOf rows b = some r -> (den ρ v).cells.toList = new -> new.length = i.size -> 0 < new.length -> (∀ y ∈ new, y.oneCell' = true) ->
   (∀ l, CellsOK ρ r.cs l -> CellsOK ρ cs (l.take off ++ new ++ l.drop (off + new.length)) /\ off + new.length <= l.length) -> okdL W F rows.length cs ->
   ∃ w', (Instr.storeAt t (.pointer (some ⟨(ρ b).1, off, none⟩)) (den ρ v)).run P w = .ok () w' /\ MemOK W F ρ (rows.set b (some ⟨r.ty, cs, r.sz, none⟩)) w' := by
  intro b off r cs new g hr hv hn hpos h1 hcs ho
  rcases rowOf_block hm hr with ⟨hh, c, l, rest, g1, g2, g3, g4, g5⟩ | ⟨_, g1⟩
  ·obtain ⟨e1, e2⟩ := hcs l g3
   have hsz : c.size = l.length + rest.length := by rw [<- Array.length_toList, g2, List.length_append]
   have hst := run_storeVar_of (w := w) ty g1 (o := off) (v := den ρ v) (vs := new) hv hn (by omega) h1
   refine ⟨_, by simp only [Instr.storeAt, Instr.sureAddr]; simpa using hst, ?_⟩
   have e3 : c.toList.take off ++ new ++ c.toList.drop (off + new.length) = (l.take off ++ new ++ l.drop (off + new.length)) ++ rest := by
    rw [g2, List.take_append_of_le_length (by omega), List.drop_append_of_le_length e2]
    simp [List.append_assoc]
   rw [<- List.append_assoc, e3]
   exact hm.write hr hh g1 g2 g4 g5 (by simp; omega) e1 ho
  ·have := (hcs [] g1).2
   have h5 : off + new.length <= 0 := this
   omega
 split at h
 ·rename_i b off
  simp only [Option.bind_eq_some_iff] at h
  obtain ⟨r, hr, new, hv, h⟩ := h
  obtain ⟨v1, v2, v3⟩ := valueCells_ok (ρ := ρ) hv ov
  have h1 := cellsB_one (ρ := ρ) v3 v2
  obtain ⟨_, _, g3, _⟩ := rowOf_ok hm hr
  rcases cond_some h with ⟨e0, hx⟩ | ⟨e0, hx⟩ <;> clear h
  ·simp only [Bool.and_eq_true] at e0
   have e := Nat.eq_of_beq_eq_true e0.1
   have epos : 0 < i.size := Nat.le_of_ble_eq_true e0.2
   have hn : (cellsL ρ new).length = i.size := by rw [widthL_cells, e]
   split at hx
   ·rename_i cs hcs
    cases hx
    refine core b off r cs (cellsL ρ new) id hr v1 hn (by omega) h1 (fun l hl => ?_) (overC_okd hcs g3 v2)
    obtain ⟨o1, o2⟩ := overC_cells hcs hl e
    rw [hn]; exact ⟨o1, o2⟩
   ·rcases cond_some hx with ⟨ea, hy⟩ | ⟨ea, hy⟩ <;> clear hx
    ·cases hy
    ·simp only [Option.bind_eq_some_iff, Option.map_eq_some_iff] at hy
     obtain ⟨⟨k, n, cl⟩, hq, ⟨p2, l2⟩, hs, hy⟩ := hy
     cases hy
     have hd := asI_ok hq ρ
     have hnew : cellsL ρ new = [.int k n] := by rw [<- v1, hd]; rfl
     obtain ⟨l0, hl0, _⟩ := rowOf_ok hm hr
     refine core b off r l2 [.int k n] id hr (by rw [v1, hnew]) (by rw [<- hn, hnew]) (by simp) (by simp [Value.oneCell']) (fun l hl => ?_) (setIn_ok hs hp hl0 g3).2.2
     obtain ⟨s1, s2, s3⟩ := setIn_ok hs hp hl g3
     rw [set_eq_take_drop _ _ _ s2] at s1
     exact ⟨by simpa using s1, by simp; omega⟩
  ·cases hx
 ·rename_i b off e
  rcases cond_some h with ⟨ea, hx⟩ | ⟨ea, hx⟩ <;> clear h
  ·cases hx
  ·rcases beq_some hx with ⟨es, hy⟩ | ⟨es, hy⟩ <;> clear hx
   ·simp only [Option.bind_eq_some_iff, Option.map_eq_some_iff] at hy
    obtain ⟨r, hr, z, hz, ⟨k, n, cl⟩, hq, ⟨p2, l2⟩, hs, hy⟩ := hy
    cases hy
    obtain ⟨l0, hl0, g3, _⟩ := rowOf_ok hm hr
    have e0 : 0 <= e := hp _ (by simp)
    have e1 : e < z.2.1 := hp (e < z.2.1) (by simp)
    have hd := asI_ok hq ρ
    have hp2 : All p2 := fun p hq => hp p (by simp [hq])
    refine core b (off + e.toNat) r l2 [.int k n] id hr (by rw [hd]; rfl) (by simp [es]) (by simp) (by simp [Value.oneCell']) (fun l hl => ?_) (setE_ok hs hz e0 e1 hp2 hl0 g3).2.2
    obtain ⟨s1, s2, s3⟩ := setE_ok hs hz e0 e1 hp2 hl g3
    rw [set_eq_take_drop _ _ _ s2] at s1
    exact ⟨by simpa using s1, by simp; omega⟩
   ·cases hy
 ·cases h
end Sx
end
section
namespace Sx
variable {P : Program} {T : Tab} {W : World} {F : Nat -> Prop} {nt : Nat} {ρ ρ' : Num} {s : SS} {a : Act} {w : World}
mutual
def noM (b : Nat) : SV -> Bool
 | .ptr i _ => !(Nat.beq i b)
 | .pte i _ _ => !(Nat.beq i b)
 | .ptm i _ _ _ => !(Nat.beq i b)
 | .sl i _ _ _ => !(Nat.beq i b)
 | .os i _ _ _ => !(Nat.beq i b)
 | .on i _ _ => !(Nat.beq i b)
 | .ow i _ _ _ _ _ => !(Nat.beq i b)
 | .agg cs => noML b cs
 | .tup cs => noML b cs
 | .fn _ x y => noML b x && noML b y
 | _ => true
def noML (b : Nat) : List SV -> Bool
 | [] => true
 | c :: cs => noM b c && noML b cs
end
mutual
theorem den_off {b : Nat} (h : ∀ i, i ≠ b -> ρ' i = ρ i) : ∀ {c : SV}, noM b c = true -> den ρ' c = den ρ c
 | .ptr i _, hc => by simp only [noM, Bool.not_eq_true'] at hc; simp [den, h i (Nat.ne_of_beq_eq_false hc)]
 | .pte i _ _, hc => by simp only [noM, Bool.not_eq_true'] at hc; simp [den, h i (Nat.ne_of_beq_eq_false hc)]
 | .ptm i _ _ _, hc => by simp only [noM, Bool.not_eq_true'] at hc; simp [den, h i (Nat.ne_of_beq_eq_false hc)]
 | .sl i _ _ _, hc => by simp only [noM, Bool.not_eq_true'] at hc; simp [den, h i (Nat.ne_of_beq_eq_false hc)]
 | .os i _ _ _, hc => by simp only [noM, Bool.not_eq_true'] at hc; simp [den, h i (Nat.ne_of_beq_eq_false hc)]
 | .on i _ _, hc => by simp only [noM, Bool.not_eq_true'] at hc; simp [den, h i (Nat.ne_of_beq_eq_false hc)]
 | .ow i _ _ _ _ _, hc => by simp only [noM, Bool.not_eq_true'] at hc; simp [den, h i (Nat.ne_of_beq_eq_false hc)]
 | .agg cs, hc => by simp only [noM] at hc; simp [den, cellsL_off h (l := cs) hc]
 | .tup cs, hc => by simp only [noM] at hc; simp [den, denL_off h (l := cs) hc]
 | .fn _ x y, hc => by simp only [noM, Bool.and_eq_true] at hc; simp [den, denL_off h (l := x) hc.1, denL_off h (l := y) hc.2]
 | .gp _ _, _ | .gpe _ _ _ _ _, _ | .rd _ _ _, _ | .rda _ _ _ _, _ | .rs _ _ _ _, _ | .rsa _ _ _ _ _ _, _ | .top, _ | .lit _ _, _ | .int _ _, _ | .litb _, _ | .bool _, _ | .str _, _ | .val _, _ | .hnd _, _ | .ints _ _ _, _ | .many _ _ _, _ => rfl
theorem denL_off {b : Nat} (h : ∀ i, i ≠ b -> ρ' i = ρ i) : ∀ {l : List SV}, noML b l = true -> denL ρ' l = denL ρ l
 | [], _ => rfl
 | c :: l, hc => by simp only [noML, Bool.and_eq_true] at hc; simp [denL, den_off h hc.1, denL_off h hc.2]
theorem cellsL_off {b : Nat} (h : ∀ i, i ≠ b -> ρ' i = ρ i) : ∀ {l : List SV}, noML b l = true -> cellsL ρ' l = cellsL ρ l
 | [], _ => rfl
 | c :: l, hc => by
   simp only [noML, Bool.and_eq_true] at hc
   have h1 := den_off h hc.1
   have h2 := cellsL_off h hc.2
   cases c <;> simp_all [cellsL, den]
end
theorem CellsOK.off {b : Nat} (h : ∀ i, i ≠ b -> ρ' i = ρ i) : ∀ {l : List SV} {vs : List Value}, noML b l = true -> CellsOK ρ l vs -> CellsOK ρ' l vs
 | [], vs, _, hc => hc
 | c :: l, vs, ho, hc => by
   simp only [noML, Bool.and_eq_true] at ho
   cases hs : single c with
   | true =>
     obtain ⟨t, rfl, h2⟩ := hc.one hs
     rw [<- den_off h ho.1]
     exact .mk_one hs (h2.off h ho.2)
   | false =>
     cases c <;> simp [single] at hs
     ·obtain ⟨v, t, rfl, h2⟩ := hc
      exact ⟨v, t, rfl, h2.off h ho.2⟩
     ·obtain ⟨t, rfl, h2⟩ := hc
      exact ⟨t, rfl, h2.off h ho.2⟩
     ·obtain ⟨t, rfl, h2⟩ := hc
      exact ⟨t, rfl, h2.off h ho.2⟩
theorem beq_ne {i b : Nat} (h : i ≠ b) : (!(Nat.beq i b)) = true := by
 cases hb : Nat.beq i b with
 | false => rfl
 | true => exact absurd (Nat.eq_of_beq_eq_true hb) h
mutual
theorem okd_noM {n b : Nat} (h : n <= b) : ∀ {c : SV}, okd W F n c -> noM b c = true
 | .ptr i _, hc => by have hc : i < n := hc; exact beq_ne (by omega)
 | .pte i _ _, hc => by have hc : i < n := hc; exact beq_ne (by omega)
 | .ptm i _ _ _, hc => by have hc : i < n := hc; exact beq_ne (by omega)
 | .sl i _ _ _, hc => by have hc : i < n := hc; exact beq_ne (by omega)
 | .os i _ _ _, hc => by have hc : i < n := hc; exact beq_ne (by omega)
 | .on i _ _, hc => by have hc : i < n := hc; exact beq_ne (by omega)
 | .ow i _ _ _ _ _, hc => by have hc : i < n := hc; exact beq_ne (by omega)
 | .agg cs, hc => okdL_noM h (l := cs) hc
 | .tup cs, hc => okdL_noM h (l := cs) hc
 | .fn _ x y, hc => by simp only [noM, Bool.and_eq_true]; exact ⟨okdL_noM h (l := x) hc.1, okdL_noM h (l := y) hc.2⟩
 | .gp _ _, _ | .gpe _ _ _ _ _, _ | .rd _ _ _, _ | .rda _ _ _ _, _ | .rs _ _ _ _, _ | .rsa _ _ _ _ _ _, _ | .top, _ | .lit _ _, _ | .int _ _, _ | .litb _, _ | .bool _, _ | .str _, _ | .val _, _ | .hnd _, _ | .ints _ _ _, _ | .many _ _ _, _ => rfl
theorem okdL_noM {n b : Nat} (h : n <= b) : ∀ {l : List SV}, okdL W F n l -> noML b l = true
 | [], _ => rfl
 | c :: l, hc => by simp only [noML, Bool.and_eq_true]; exact ⟨okd_noM h hc.1, okdL_noM h hc.2⟩
end
theorem ext_off (ρ : Num) (n : Nat) (b : Nat × Nat) : ∀ i, i ≠ n -> ext ρ n b i = ρ i := fun i h => by simp [ext, h]
theorem MemOK.gen {rows rows' : List (Option Row)} (hm : MemOK W F ρ rows w) {w' : World} {b : Nat} (hlen : rows'.length = rows.length) (hfr : Frm F W w') (hoff : ∀ i, i ≠ b -> ρ' i = ρ i)
  (hold : ∀ i r, i ≠ b -> rows'[i]? = some (some r) -> rows[i]? = some (some r) /\ noML b r.cs = true /\ (Has ρ i r -> w'.heap[(ρ i).1]? = w.heap[(ρ i).1]?))
  (hfr0 : ∀ y, y < w.heap.size -> (∀ j q, rows[j]? = some (some q) -> Has ρ j q -> (ρ j).1 ≠ y) -> w'.heap[y]? = w.heap[y]?) (hsize : w.heap.size <= w'.heap.size)
  (hnew : ∀ r, rows'[b]? = some (some r) -> r.ob = none /\ (Has ρ' b r -> w.heap.size <= (ρ' b).1 ∨ ∃ j' q', rows[j']? = some (some q') /\ Has ρ j' q' /\ (ρ j').1 = (ρ' b).1) /\ RowOK ρ' w' b r /\ okdL W F rows.length r.cs /\ (Has ρ' b r -> (F (ρ' b).1 ∨ W.heap.size <= (ρ' b).1) /\ ∀ j q, j ≠ b -> rows'[j]? = some (some q) -> Has ρ j q -> (ρ j).1 ≠ (ρ' b).1)) :
  MemOK W F ρ' rows' w' := by
 have has : ∀ (i : Nat) (r : Row), i ≠ b -> (Has ρ' i r ↔ Has ρ i r) := fun i r hi => by unfold Has; rw [hoff i hi]
 refine ⟨hfr, hm.glob, fun i r hi => ?_, fun i j r q hi hj h1 h2 he => ?_, fun i r hi h1 => ?_, ?_⟩
 ·by_cases hib : i = b
  ·subst hib
   obtain ⟨_, _, h1, h2, _⟩ := hnew r hi
   exact ⟨h1, by rw [hlen]; exact h2⟩
  ·obtain ⟨h1, h2, h3⟩ := hold i r hib hi
   obtain ⟨h4, h5⟩ := hm.row i r h1
   exact ⟨h4.map (hoff i hib) rfl rfl rfl h3 (fun vs hv => hv.off hoff h2), by rw [hlen]; exact h5⟩
 ·by_cases hib : i = b <;> by_cases hjb : j = b
  ·rw [hib, hjb]
  ·subst hib
   have := ((hnew r hi).2.2.2.2 h1).2 j q hjb hj ((has j q hjb).1 h2)
   rw [hoff j hjb] at he
   exact absurd he.symm this
  ·subst hjb
   have := ((hnew q hj).2.2.2.2 h2).2 i r hib hi ((has i r hib).1 h1)
   rw [hoff i hib] at he
   exact absurd he this
  ·rw [hoff i hib, hoff j hjb] at he
   exact hm.inj i j r q (hold i r hib hi).1 (hold j q hjb hj).1 ((has i r hib).1 h1) ((has j q hjb).1 h2) he
 ·by_cases hib : i = b
  ·subst hib; exact ((hnew r hi).2.2.2.2 h1).1
  ·rw [hoff i hib]
   exact hm.mine i r (hold i r hib hi).1 ((has i r hib).1 h1)
 ·obtain ⟨φ, hφ⟩ := hm.obs
  refine ⟨φ, hφ.keep (fun i r hi h1 => ?_) hsize hfr0 (fun j q hj hq => ?_)⟩
  ·by_cases hib : i = b
   ·subst hib; exact absurd (hnew r hi).1 h1
   ·exact ⟨r, (hold i r hib hi).1, rfl, hoff i hib, fun vs hv => hv.off hoff (hold i r hib hi).2.1⟩
  ·by_cases hjb : j = b
   ·subst hjb; exact (hnew q hj).2.1 hq
   ·exact .inr ⟨j, q, (hold j q hjb hj).1, (has j q hjb).1 hq, by rw [hoff j hjb]⟩
structure Free (rows : List (Option Row)) (b : Nat) : Prop where
 lt : b < rows.length
 none : rows[b]? = some none
 off : ∀ (i : Nat) (x : Row), rows[i]? = some (some x) -> noML b x.cs = true
theorem MemOK.fill {rows : List (Option Row)} (hm : MemOK W F ρ rows w) {b : Nat} (hb : Free rows b) {r : Row} {c : Array Value} {l rest : List Value} {cap : Nat} {w' : World} (hob : r.ob = none) (hw' : w' = w.alloc (.cells c r.ty) ∨ w' = w.drew.alloc (.cells c r.ty)) (hl : c.toList = l ++ rest) (hc : CellsOK ρ r.cs l) (ho : okdL W F rows.length r.cs) (hn : noML b r.cs = true)
  (h0 : r.sz = 0 -> rest = []) (h1 : r.sz ≠ 0 -> c.size = cap * r.sz) (h2 : r.sz ≠ 0 -> cap ≠ 0) : MemOK W F (ext ρ b (w.heap.size, cap)) (rows.set b (some r)) w' := by
 have hoff := ext_off ρ b (w.heap.size, cap)
 have hnew : w'.heap[w.heap.size]? = some (.cells c r.ty (0, 0)) := by
  rcases hw' with rfl | rfl
  ·exact heap_alloc_new w _
  ·exact heap_alloc_new w.drew _
 have hkeep : ∀ k, k < w.heap.size -> w'.heap[k]? = w.heap[k]? := by
  intro k hk
  rcases hw' with rfl | rfl
  ·exact Below.heap_alloc _ _ _ hk
  ·exact Below.heap_alloc w.drew _ _ hk
 have hfr : Frm (fun _ => False) w w' := by
  refine ⟨?_, ?_, ?_, ?_, fun k hk _ => hkeep k hk⟩ <;> rcases hw' with rfl | rfl <;> first | rfl | simp
 refine hm.gen (b := b) (by simp) (hm.frame.trans ⟨hfr.os, hfr.tape, hfr.output, hfr.size, fun k hk _ => hkeep k hk⟩) hoff (fun i x hib hi => ?_) (fun y hy _ => hkeep y hy) hfr.size (fun x hi => ?_)
 ·rw [List.getElem?_set_ne (by omega)] at hi
  exact ⟨hi, hb.off i x hi, fun hh => hkeep _ (hm.lt hi hh)⟩
 ·rw [List.getElem?_set_self hb.lt] at hi
  cases hi
  have hhas : Has (ext ρ b (w.heap.size, cap)) b r := by
   unfold Has
   rw [ext_new]
   by_cases hz : r.sz = 0
   ·exact ⟨hob, .inl hz⟩
   ·exact ⟨hob, .inr (h2 hz)⟩
  refine ⟨hob, fun _ => .inl (by rw [ext_new]; exact Nat.le_refl _), .inl ⟨hhas, c, l, rest, by rw [ext_new]; exact hnew, hl, hc.off hoff hn, h0, fun hz => by rw [ext_new]; exact h1 hz⟩, ho, fun _ => ⟨.inr (by rw [ext_new]; exact hm.frame.size), fun j q hj hq hh => ?_⟩⟩
  rw [List.getElem?_set_ne (by omega)] at hq
  rw [ext_new]
  have := hm.lt hq hh
  simp only; omega
end Sx
end
section
namespace Sx
variable {P : Program} {T : Tab} {W : World} {F : Nat -> Prop} {nt : Nat} {ρ ρ' : Num} {s : SS} {a : Act} {w : World}
theorem zerosL_cells (n : Nat) (z : List SV) : cellsL ρ (zerosL n z) = (List.replicate n (cellsL ρ z)).flatten := by
 induction n with
 | zero => rfl
 | succ n ih => simp [zerosL, cellsL_append, ih, List.replicate_succ]
theorem zerosL_okd (n m : Nat) {z : List SV} (h : okdL W F m z) : okdL W F m (zerosL n z) := by
 induction n with
 | zero => trivial
 | succ n ih => exact okdL_append h ih
theorem zerosL_noTop (n : Nat) {z : List SV} (h : noTop z = true) : noTop (zerosL n z) = true := by
 induction n with
 | zero => rfl
 | succ n ih => exact noTop_append h ih
theorem range_mod (z : List Value) (n : Nat) (hz : 0 < z.length) : (List.range (n * z.length)).map (fun i => z.toArray[i % z.toArray.size]!) = (List.replicate n z).flatten := by
 induction n with
 | zero => simp
 | succ n ih =>
   rw [Nat.succ_mul, List.range_add, List.map_append, ih, List.replicate_succ', List.flatten_append]
   congr 1
   apply List.ext_getElem?
   intro j
   by_cases hj : j < z.length
   ·simp [hj, Nat.add_mod, Nat.mod_eq_of_lt hj]
   ·simp [hj]
theorem newOp_ob {s : SS} {op : Op} {mk : Nat -> SV} {r : Row} (h : newOp T s op = some (mk, r)) : r.ob = none := by
 cases op <;> simp only [newOp, reduceCtorEq] at h
 case alloc t =>
  simp only [Option.map_eq_some_iff] at h
  obtain ⟨i, hi, h⟩ := h
  cases h; rfl
 case box t x =>
  simp only [Option.bind_eq_some_iff, Option.map_eq_some_iff] at h
  obtain ⟨v, hv, l, hl, h⟩ := h
  cases h; rfl
 case buildSlice t len parts =>
  simp only [Option.bind_eq_some_iff] at h
  obtain ⟨i, hi, e, he, ei, hei, ps, hps, h⟩ := h
  rcases cond_some h with ⟨_, h⟩ | ⟨_, h⟩
  ·simp only [Option.map_eq_some_iff] at h
   obtain ⟨l, hl, h⟩ := h
   cases h; rfl
  ·cases h
theorem newOp_ok (hT : TabOK P T) (st : Sat W F nt ρ s a w) {o : Oper} {mk : Nat -> SV} {r : Row} (h : newOp T s o.op = some (mk, r)) :
  (∃ c : Array Value, CellsOK ρ r.cs c.toList /\ okdL W F s.rows.length r.cs /\ r.sz = 0 /\ ∀ (b : Nat) (ρ' : Num), (ρ' b).1 = w.heap.size -> (execOp a.eval o).run P w = .ok (.value (den ρ' (mk b))) (w.alloc (.cells c r.ty))) /\ ∀ b n, b < n -> okd W F n (mk b) /\ mk b ≠ .top := by
 cases hop : o.op <;> simp only [hop, newOp, reduceCtorEq] at h
 case alloc t =>
  simp only [Option.map_eq_some_iff] at h
  obtain ⟨i, hi, h⟩ := h
  cases h
  have ty := hT t i hi
  obtain ⟨z, hz1, hz2⟩ := ty.run_zero w ρ
  refine ⟨⟨z.cells, by simp only [hz2]; exact CellsOK.of_cellsL ρ _, plainL_okd _ _ _ ty.zero, rfl, fun b ρ' hb => ?_⟩, fun b n hb => ⟨hb, fun h => by cases h⟩⟩
  simp only [den, hb]
  simp [execOp, hop, Instr.alloc, hz1, newVar, newRow]
 case box t x =>
  simp only [Option.bind_eq_some_iff, Option.map_eq_some_iff] at h
  obtain ⟨u, h1, l, h2, h⟩ := h
  cases h
  obtain ⟨e1, e2, _⟩ := ev_ok st h1
  obtain ⟨v1, v2, v3⟩ := valueCells_ok (ρ := ρ) h2 e2
  refine ⟨⟨(den ρ u).cells, by simp only [v1]; exact CellsOK.of_cellsL ρ _, v2, rfl, fun b ρ' hb => ?_⟩, fun b n hb => ⟨hb, fun h => by cases h⟩⟩
  simp only [den, hb]
  simp [execOp, hop, Instr.box, e1, newVar, newRow]
 case buildSlice t len parts =>
  simp only [Option.bind_eq_some_iff] at h
  obtain ⟨i, hi, e, he, ei, hei, ps', hps, h⟩ := h
  rcases cond_some h with ⟨ec, h⟩ | ⟨ec, h⟩
  ·simp only [Option.map_eq_some_iff] at h
   obtain ⟨l, hl, h⟩ := h
   cases h
   simp only [Bool.and_eq_true] at ec
   obtain ⟨⟨⟨c1, c2⟩, c3⟩, c4⟩ := ec
   have c1 : len * ei.size < 16777216 := by
    have := Nat.le_of_ble_eq_true (show Nat.ble (len * ei.size + 1) 16777216 = true from c1); omega
   have c2 := Nat.eq_of_beq_eq_true c2
   have c3 : 0 < ei.size := Nat.le_of_ble_eq_true (show Nat.ble (0 + 1) ei.size = true from c3)
   have c4 : 0 < len := Nat.le_of_ble_eq_true (show Nat.ble (0 + 1) len = true from c4)
   have hu := slD_ok (hT t i hi) he
   have tye := hT e ei hei
   obtain ⟨z, hz1, hz2⟩ := tye.run_zero w ρ
   obtain ⟨p1, p2⟩ := evP_ok st hps
   obtain ⟨f1, f2, f3⟩ := fillC_ok (ρ := ρ) (n := s.rows.length) hl (zerosL_noTop len (plain_noTop tye.zero)) (zerosL_okd len _ (plainL_okd _ _ _ tye.zero)) p2
   refine ⟨⟨(cellsL ρ l).toArray, by simpa using CellsOK.of_cellsL ρ l, f2, rfl, fun b ρ' hb => ?_⟩, fun b n hb => ⟨hb, fun h => by cases h⟩⟩
   simp only [den, hb]
   have hs := tye.run_size w
   have hzl : z.cells.toList.length = ei.size := by rw [hz2, widthL_cells, c2]
   have hcells : (Array.range (len * ei.size)).map (fun i => z.cells[i % z.cells.size]!) = (cellsL ρ (zerosL len ei.zero)).toArray := by
    apply Array.ext'
    rw [zerosL_cells, <- hz2, <- range_mod z.cells.toList len (by omega), hzl]
    simp [Array.toList_map, Array.toList_range]
   have h16 : ¬ (len * ei.size > 2 ^ 24) := by have : (2:Nat) ^ 24 = 16777216 := by decide
                                               omega
   have h0 : ¬ len * ei.size = 0 := by
    intro h
    rcases Nat.mul_eq_zero.1 h with h | h <;> omega
   have hfill' : Instr.fill (fun i => some (i * ei.size, ei.size)) ((Array.range (len * ei.size)).map (fun i => z.cells[i % z.cells.size]!)) (parts.toList.map fun x => (x.1, a.eval x.2)) = some (cellsL ρ l).toArray := by
    rw [hcells, p1]; exact f1
   simp only [execOp, hop, Instr.buildSlice, Sem.run_bind, run_underlying hu, Result.andThen_ok, hs, if_neg h16, if_neg h0, hz1]
   simp [h16, h0, hz1, hfill', newRow]
  ·cases h
theorem storeOp_ok (hT : TabOK P T) (st : Sat W F nt ρ s a w) {o : Oper} {ps : List Prop} {b : Nat} {r : Row} (h : storeOp T s o.op = some (ps, b, r)) (hp : All ps) :
  ∃ w', (execOp a.eval o).run P w = .ok .skip w' /\ MemOK W F ρ (s.rows.set b (some r)) w' := by
 cases hop : o.op <;> simp only [hop, storeOp, reduceCtorEq] at h
 case store t x y =>
  simp only [Option.bind_eq_some_iff] at h
  obtain ⟨x', h1, y', h2, h3⟩ := h
  obtain ⟨e1, _, _⟩ := ev_ok st h1
  obtain ⟨f1, f2, _⟩ := ev_ok st h2
  obtain ⟨w', g1, g2⟩ := storeS_ok hT st.mem h3 hp f2
  exact ⟨w', by simp [execOp, hop, e1, f1, g1], g2⟩
end Sx
end
section
namespace Sx
variable {P : Program} {T : Tab} {W : World} {F : Nat -> Prop} {nt : Nat} {ρ ρ' : Num} {s : SS} {a : Act} {w : World}
theorem app_room (w : World) (t u ty e : TypeId) (i : TypeInfo) (ht : P.underlying t = some (.slice e)) (hu : (∃ x, P.underlying u = some (.slice x)) ∨ P.underlying u = some .string) (hi : P.info? e = some i)
  (g n cap : Nat) (cur : Array Value) (hg : w.heap[g]? = some (.cells cur e (0, 0))) (x : Value) (m : Nat) (news : List Value) (hx : (Builtin.lenOf x).run P w = .ok m w) (hf : (Builtin.firstCells i.size m x).run P w = .ok news.toArray w)
  (hl : news.length = m * i.size) (h1 : ∀ y ∈ news, y.oneCell' = true) (hroom : n + m <= cap) (hfit : n * i.size + news.length <= cur.size) :
  (Builtin.append_ #[t, u] ty #[.slice (some ⟨g, 0, none⟩) n cap, x]).run P w =
    .ok (.slice (some ⟨g, 0, none⟩) (n + m) cap) (w.setRow g (cur.toList.take (n * i.size) ++ news ++ cur.toList.drop (n * i.size + news.length)).toArray) := by
 have hst := run_storeCells_at P g (n * i.size) e news 0 cur w hg (by simpa using hfit) h1
 simp only [Nat.add_zero] at hst
 rcases hu with ⟨y, hu⟩ | hu <;> simp [Builtin.append_, run_underlying ht, run_underlying hu, sizeOf, typeInfo, hi, hx, hroom, hf, Addr.add_lit, hst]
theorem app_grow (w : World) (t u ty e : TypeId) (i : TypeInfo) (z : Value) (ht : P.underlying t = some (.slice e)) (hu : (∃ x, P.underlying u = some (.slice x)) ∨ P.underlying u = some .string) (hi : P.info? e = some i) (hz : i.zero = some z)
  (base : Option Addr) (n cap : Nat) (olds : List Value) (ho : (Builtin.firstCells i.size n (.slice base n cap)).run P w.drew = .ok olds.toArray w.drew) (x : Value) (m : Nat) (news : List Value) (hx : (Builtin.lenOf x).run P w = .ok m w) (hf : (Builtin.firstCells i.size m x).run P w.drew = .ok news.toArray w.drew)
  (hg : cap < n + m) (h63 : ((n + m : Nat) : Int) <= 9223372036854775807) (hfit : Builtin.nextslicecap (n + m) cap * i.bytes <= 281474976710656) :
  (Builtin.append_ #[t, u] ty #[.slice base n cap, x]).run P w =
    .ok (.slice (some ⟨w.heap.size, 0, none⟩) (n + m) (grownCap w (n + m) cap e)) (w.drew.alloc (.cells (olds ++ news ++ (Builtin.zeroCells z.cells (grownCap w (n + m) cap e - (n + m))).toList).toArray e)) := by
 have hn : ¬ (n + m <= cap) := by omega
 have h63' : ¬ (9223372036854775807 < ((n : Int) + (m : Int))) := by omega
 have h48' : ¬ (281474976710656 < Builtin.nextslicecap (n + m) cap * i.bytes) := by omega
 have key : (olds ++ news ++ (Builtin.zeroCells z.cells (grownCap w (n + m) cap e - (n + m))).toList).toArray = olds.toArray ++ news.toArray ++ Builtin.zeroCells z.cells (grownCap w (n + m) cap e - (n + m)) := by
  apply Array.ext'; simp
 rw [key]
 have hlen := hx
 rcases hu with ⟨y, hu⟩ | hu <;> simp [Builtin.append_, run_underlying ht, run_underlying hu, sizeOf, typeInfo, zeroValue, hi, hz, hx, hn, h63', h48', Question.forced, hf, ho, newRow, grownCap] <;> (congr 2; apply Array.ext'; simp [List.append_assoc])
theorem app_none (w : World) (t u ty e : TypeId) (i : TypeInfo) (ht : P.underlying t = some (.slice e)) (hu : (∃ x, P.underlying u = some (.slice x)) ∨ P.underlying u = some .string) (hi : P.info? e = some i)
  (x : Value) (hx : (Builtin.lenOf x).run P w = .ok 0 w) (hf : (Builtin.firstCells i.size 0 x).run P w = .ok #[] w) :
  (Builtin.append_ #[t, u] ty #[.slice none 0 0, x]).run P w = .ok (.slice none 0 0) w := by
 rcases hu with ⟨y, hu⟩ | hu <;> simp [Builtin.append_, run_underlying ht, run_underlying hu, sizeOf, typeInfo, hi, hx, hf]
theorem appTy_ok (hT : TabOK P T) {t u : TypeId} (h : appTy T t u = true) : (∃ x, P.underlying u = some (.slice x)) ∨ P.underlying u = some .string := by
 unfold appTy at h
 split at h
 ·rename_i i hi
  cases hs : (slD i) with
  | some e => exact .inl ⟨e, slD_ok (hT u i hi) hs⟩
  | none => simp [hs] at h; exact .inr (isStrD_ok (hT u i hi) h)
 ·cases h
theorem most_fits {n old bytes : Nat} (h : old < n) (hn : n <= most) (hb : bytes <= 1024) : Builtin.nextslicecap n old * bytes <= 281474976710656 /\ (n : Int) <= 9223372036854775807 := by
 unfold most at hn
 refine ⟨?_, by omega⟩
 have h1 : Builtin.nextslicecap n old <= 2 * n := nextslicecap_le h
 have h2 : Builtin.nextslicecap n old * bytes <= 2 * n * 1024 := Nat.mul_le_mul h1 hb
 omega
def Gives (P : Program) (w : World) (sz : Nat) (u : Value) (m : Nat) (news : List Value) : Prop :=
 news.length = m * sz /\ (∀ y ∈ news, y.oneCell' = true) /\ ∀ w' : World, (∀ a v, w.cell? a = some v -> w'.cell? a = some v) -> (Builtin.lenOf u).run P w' = .ok m w' /\ (Builtin.firstCells sz m u).run P w' = .ok news.toArray w'
theorem grown_cells {z : Value} {sz : Nat} (hz : z.cells.size = sz) (w : World) (need old : Nat) (e : TypeId) {l : List Value} (hl : l.length = need * sz) :
  ((l ++ (Builtin.zeroCells z.cells (grownCap w need old e - need)).toList).toArray).size = grownCap w need old e * sz := by
 have hge := grownCap_ge w need old e
 simp only [List.size_toArray, List.length_append, hl, Array.length_toList, size_zeroCells, hz, <- Nat.add_mul]
 congr 1; omega
theorem app_nil (hT : TabOK P T) {rows : List (Option Row)} (hm : MemOK W F ρ rows w) {t u ty e : TypeId} {ei : TyI} (ht : P.underlying t = some (.slice e)) (hu : (∃ x, P.underlying u = some (.slice x)) ∨ P.underlying u = some .string) (hei : T.at e = some ei)
  (hby : ei.bytes <= 1024) (hsz : 0 < ei.size) (hzw : widthL ei.zero = ei.size) {x : Value} {m b : Nat} {news : List Value} (hx : Gives P w ei.size x m news) (hb : Free rows b) {cs : List SV} (hcs : CellsOK ρ cs news) (ho : okdL W F rows.length cs) (hn : noML b cs = true) (hmost : m <= most) :
  ∃ ρ' w', (Builtin.append_ #[t, u] ty #[.slice none 0 0, x]).run P w = .ok (den ρ' (.on b m true)) w' /\ MemOK W F ρ' (rows.set b (some ⟨e, cs, ei.size, none⟩)) w' /\ ∀ j, j ≠ b -> ρ' j = ρ j := by
 obtain ⟨it, z, h1, h2, h3, h4, h5, _⟩ := (hT e ei hei).info
 obtain ⟨x1, x2, x3⟩ := hx
 by_cases h0 : m = 0
 ·subst h0
  have hnil : news = [] := List.eq_nil_of_length_eq_zero (by simpa using x1)
  subst hnil
  obtain ⟨y1, y2⟩ := x3 w (fun _ _ h => h)
  have hr := app_none (P := P) w t u ty e it ht hu h1 x y1 (by rw [h2]; exact y2)
  have hoff := ext_off ρ b (0, 0)
  refine ⟨ext ρ b (0, 0), w, by rw [hr]; simp [den, ext_new, listV], ?_, hoff⟩
  refine hm.gen (b := b) (by simp) hm.frame hoff (fun i r hib hi => ?_) (fun _ _ _ => rfl) (Nat.le_refl _) (fun r hi => ?_)
  ·rw [List.getElem?_set_ne (by omega)] at hi
   exact ⟨hi, hb.off i r hi, fun _ => rfl⟩
  ·rw [List.getElem?_set_self hb.lt] at hi
   cases hi
   have hno : ¬ Has (ext ρ b (0, 0)) b ⟨e, cs, ei.size, none⟩ := by unfold Has; rw [ext_new]; simp; omega
   exact ⟨rfl, fun h => absurd h hno, .inr ⟨hno, [], hcs.off hoff hn, fun _ => rfl⟩, ho, fun h => absurd h hno⟩
 ·obtain ⟨y1, _⟩ := x3 w (fun _ _ h => h)
  obtain ⟨_, y2⟩ := x3 w.drew (fun _ _ h => h)
  obtain ⟨f1, f2⟩ := most_fits (n := m) (old := 0) (by omega) hmost hby
  have hz : z.cells.size = ei.size := by rw [<- Array.length_toList, h5, widthL_cells, hzw]
  have hr := app_grow (P := P) w t u ty e it z ht hu h1 h4 none 0 0 [] (by simp [Builtin.firstCells]) x m news y1 (by rw [h2]; exact y2) (by omega) (by simpa using f2) (by rw [h3]; simpa using f1)
  have hge := grownCap_ge w (0 + m) 0 e
  refine ⟨ext ρ b (w.heap.size, grownCap w (0 + m) 0 e), _, ?_, hm.fill hb (r := ⟨e, cs, ei.size, none⟩) (c := ([] ++ news ++ (Builtin.zeroCells z.cells (grownCap w (0 + m) 0 e - (0 + m))).toList).toArray) (l := news) (rest := (Builtin.zeroCells z.cells (grownCap w (0 + m) 0 e - (0 + m))).toList) (cap := grownCap w (0 + m) 0 e) rfl (.inr rfl) (by simp) hcs ho hn (fun h => by simp at h; omega) (fun _ => ?_) (fun _ => by omega), ext_off _ _ _⟩
  ·rw [hr]
   simp only [den, ext_new]
   rw [listV_some (show grownCap w (0 + m) 0 e ≠ 0 by omega)]
   simp
  ·have := grown_cells hz w (0 + m) 0 e (l := news) (by rw [x1]; simp)
   simpa using this
theorem app_on (hT : TabOK P T) {rows : List (Option Row)} (hm : MemOK W F ρ rows w) {t u ty e : TypeId} {ei : TyI} (ht : P.underlying t = some (.slice e)) (hu : (∃ x, P.underlying u = some (.slice x)) ∨ P.underlying u = some .string) (hei : T.at e = some ei)
  (hby : ei.bytes <= 1024) (hsz : 0 < ei.size) (hzw : widthL ei.zero = ei.size) {x : Value} {m b j len : Nat} {z0 : Bool} {r : Row} (hr : rowOf rows j = some r) (hrs : r.sz = ei.size) (hrt : r.ty = e) (hlen : widthL r.cs = len * ei.size)
  {news : List Value} (hx : Gives P w ei.size x m news) (hb : Free rows b) {cs : List SV} (hcs : ∀ l, CellsOK ρ r.cs l -> CellsOK ρ cs (l ++ news)) (ho : okdL W F rows.length cs) (hn : noML b cs = true) (hmost : len + m <= most) :
  ∃ ρ' w', (Builtin.append_ #[t, u] ty #[listV (ρ j) len z0, x]).run P w = .ok (den ρ' (.on b (len + m) z0)) w' /\ MemOK W F ρ' ((rows.set j none).set b (some ⟨e, cs, ei.size, none⟩)) w' /\ ∀ j, j ≠ b -> ρ' j = ρ j := by
 obtain ⟨it, z, h1, h2, h3, h4, h5, _⟩ := (hT e ei hei).info
 obtain ⟨x1, x2, x3⟩ := hx
 have hz : z.cells.size = ei.size := by rw [<- Array.length_toList, h5, widthL_cells, hzw]
 have hjr := rowOf_get hr
 have hjb : j ≠ b := by rintro rfl; rw [hb.none] at hjr; cases hjr
 have hjl := (List.getElem?_eq_some_iff.1 hjr).1
 -- the list given up
 have hkill : MemOK W F ρ (rows.set j none) w := by
  refine ⟨hm.frame, hm.glob, fun i q hi => ?_, fun i k q1 q2 hi hk => ?_, fun i q hi => ?_, ?_⟩
  ·by_cases hij : i = j
   ·subst hij; rw [List.getElem?_set_self hjl] at hi; cases hi
   ·rw [List.getElem?_set_ne (by omega)] at hi
    simpa using hm.row i q hi
  ·by_cases hij : i = j
   ·subst hij; rw [List.getElem?_set_self hjl] at hi; cases hi
   ·by_cases hkj : k = j
    ·subst hkj; rw [List.getElem?_set_self hjl] at hk; cases hk
    ·rw [List.getElem?_set_ne (by omega)] at hi hk
     exact hm.inj i k q1 q2 hi hk
  ·by_cases hij : i = j
   ·subst hij; rw [List.getElem?_set_self hjl] at hi; cases hi
   ·rw [List.getElem?_set_ne (by omega)] at hi
    exact hm.mine i q hi
  ·obtain ⟨φ, hφ⟩ := hm.obs
   have gone : ∀ (i : Nat) (q : Row), (rows.set j none)[i]? = some (some q) -> rows[i]? = some (some q) := by
    intro i q hi
    by_cases hij : i = j
    ·subst hij; rw [List.getElem?_set_self hjl] at hi; cases hi
    ·rwa [List.getElem?_set_ne (by omega)] at hi
   exact ⟨φ, hφ.keep (fun i r hi _ => ⟨r, gone i r hi, rfl, rfl, fun _ h => h⟩) (Nat.le_refl _) (fun _ _ _ => rfl) (fun i q hi hq => .inr ⟨i, q, gone i q hi, hq, rfl⟩)⟩
 have hfree : Free (rows.set j none) b := by
  refine ⟨by simpa using hb.lt, by rw [List.getElem?_set_ne (by omega)]; exact hb.none, fun i q hi => ?_⟩
  by_cases hij : i = j
  ·subst hij; rw [List.getElem?_set_self hjl] at hi; cases hi
  ·rw [List.getElem?_set_ne (by omega)] at hi; exact hb.off i q hi
 have ho' : okdL W F (rows.set j none).length cs := by simpa using ho
 obtain ⟨y1, y2⟩ := x3 w (fun _ _ h => h)
 obtain ⟨_, y3⟩ := x3 w.drew (fun _ _ h => h)
 -- where it must grow
 have grow : ∀ (base : Option Addr) (cap : Nat) (l : List Value), l.length = len * ei.size -> (Builtin.firstCells ei.size len (.slice base len cap)).run P w.drew = .ok l.toArray w.drew -> cap < len + m -> CellsOK ρ r.cs l ->
   ∃ ρ' w', (Builtin.append_ #[t, u] ty #[.slice base len cap, x]).run P w = .ok (den ρ' (.on b (len + m) z0)) w' /\ MemOK W F ρ' ((rows.set j none).set b (some ⟨e, cs, ei.size, none⟩)) w' /\ ∀ j, j ≠ b -> ρ' j = ρ j := by
  intro base cap l hl hf hg hc
  obtain ⟨f1, f2⟩ := most_fits (n := len + m) (old := cap) hg hmost hby
  have hrun := app_grow (P := P) w t u ty e it z ht hu h1 h4 base len cap l (by rw [h2]; exact hf) x m news y1 (by rw [h2]; exact y3) hg f2 (by rw [h3]; exact f1)
  have hge := grownCap_ge w (len + m) cap e
  refine ⟨ext ρ b (w.heap.size, grownCap w (len + m) cap e), _, ?_, hkill.fill hfree (r := ⟨e, cs, ei.size, none⟩) (c := (l ++ news ++ (Builtin.zeroCells z.cells (grownCap w (len + m) cap e - (len + m))).toList).toArray) (l := l ++ news) (rest := (Builtin.zeroCells z.cells (grownCap w (len + m) cap e - (len + m))).toList) (cap := grownCap w (len + m) cap e) rfl (.inr rfl) (by simp) (hcs l hc) ho' hn (fun h => by simp at h; omega) (fun _ => ?_) (fun _ => by omega), ext_off _ _ _⟩
  ·rw [hrun]
   simp only [den, ext_new]
   rw [listV_some (show grownCap w (len + m) cap e ≠ 0 by omega)]
  ·exact grown_cells hz w (len + m) cap e (l := l ++ news) (by rw [List.length_append, hl, x1, Nat.add_mul])
 rcases rowOf_block hm hr with ⟨hh, c, l, rest, g1, g2, g3, g4, g5⟩ | ⟨hh, g3⟩
 ·have hk : (ρ j).2 ≠ 0 := by rcases hh.2 with h | h; omega; exact h
  rw [listV_some hk]
  have hl := g3.length
  rw [hlen] at hl
  have hcz := g5 (by omega)
  rw [hrs] at hcz
  have hcl : c.size = l.length + rest.length := by rw [<- Array.length_toList, g2, List.length_append]
  by_cases hroom : len + m <= (ρ j).2
  ·rw [hrt] at g1
   have hfit : len * ei.size + news.length <= c.size := by rw [x1, hcz, <- Nat.add_mul]; exact Nat.mul_le_mul_right _ hroom
   have hrun := app_room (P := P) w t u ty e it ht hu h1 (ρ j).1 len (ρ j).2 c g1 x m news y1 (by rw [h2]; exact y2) (by rw [h2]; exact x1) x2 hroom (by rw [h2]; exact hfit)
   rw [h2] at hrun
   have hcells : c.toList.take (len * ei.size) ++ news ++ c.toList.drop (len * ei.size + news.length) = (l ++ news) ++ rest.drop news.length := by
    rw [g2, List.take_append_of_le_length (by omega), List.take_of_length_le (by omega), <- hl, List.drop_append, List.drop_eq_nil_of_le (by omega)]
    simp
   rw [hcells] at hrun
   have hoff := ext_off ρ b (ρ j)
   have hmj := hm.mine j r hjr hh
   refine ⟨ext ρ b (ρ j), w.setRow (ρ j).1 (l ++ news ++ rest.drop news.length).toArray, ?_, ?_, hoff⟩
   ·rw [hrun]; simp only [den, ext_new]; rw [listV_some hk]
   ·refine hm.gen (b := b) (by simp) ⟨hm.frame.os, hm.frame.tape, hm.frame.output, by simpa using hm.frame.size, fun k hk hf => ?_⟩ hoff (fun i q hib hi => ?_) (fun y hy hn => setRow_other _ _ _ _ (fun he => ?_)) (by simp) (fun q hi => ?_)
    ·rw [setRow_other, hm.frame.block k hk hf]
     rintro rfl
     rcases hmj with h | h
     ·exact hf h
     ·omega
    ·rw [List.getElem?_set_ne (by omega)] at hi
     have hij : i ≠ j := by rintro rfl; rw [List.getElem?_set_self hjl] at hi; cases hi
     have hoffi := hfree.off i q hi
     rw [List.getElem?_set_ne (by omega)] at hi
     refine ⟨hi, hoffi, fun hq => setRow_other _ _ _ _ (fun he => ?_)⟩
     exact hij (hm.inj i j q r hi hjr hq hh he)
    ·exact hn j r hjr hh he.symm
    ·rw [List.getElem?_set_self hfree.lt] at hi
     cases hi
     have hhas : Has (ext ρ b (ρ j)) b ⟨e, cs, ei.size, none⟩ := by unfold Has; rw [ext_new]; exact ⟨rfl, .inr hk⟩
     refine ⟨rfl, fun _ => .inr ⟨j, r, hjr, hh, by rw [ext_new]⟩, .inl ⟨hhas, (l ++ news ++ rest.drop news.length).toArray, l ++ news, rest.drop news.length, ?_, by simp, (hcs l g3).off hoff hn, fun h => by simp at h; omega, fun _ => ?_⟩, ho, fun _ => ⟨by rw [ext_new]; exact hmj, fun i q hib hi hq => ?_⟩⟩
     ·rw [ext_new]; exact setRow_heap _ _ _ _ _ _ g1
     ·rw [ext_new, <- hcz]
      simp
      have := hfit
      omega
     ·rw [List.getElem?_set_ne (by omega)] at hi
      rw [ext_new]
      have hij : i ≠ j := by rintro rfl; rw [List.getElem?_set_self hjl] at hi; cases hi
      rw [List.getElem?_set_ne (by omega)] at hi
      exact fun he => hij (hm.inj i j q r hi hjr hq hh he)
  ·refine grow (some ⟨(ρ j).1, 0, none⟩) (ρ j).2 l (by omega) ?_ (by omega) g3
   have hl2 := run_loadCells_list (P := P) w.drew ⟨(ρ j).1, 0, none⟩ l (fun k v hv => by
    rw [addr_add, Nat.zero_add]
    have hk := (List.getElem?_eq_some_iff.1 hv).1
    have : c[k]? = c.toList[k]? := by simp
    show w.cell? _ = _
    simp only [World.cell?, g1]
    simp only [Option.isSome_none, Bool.false_eq_true, if_false]
    rw [this, g2, List.getElem?_append_left hk, hv])
   rw [hl] at hl2
   simp [Builtin.firstCells, hl2]
 ·have hk : (ρ j).2 = 0 := by
   unfold Has at hh
   cases hq : (ρ j).2 with
   | zero => rfl
   | succ k => exact absurd ⟨rowOf_ob hr, .inr (by omega)⟩ hh
  have hl0 := g3.length
  rw [hlen] at hl0
  have hlen0 : len = 0 := by
   have : len * ei.size = 0 := by simpa using hl0.symm
   rcases Nat.mul_eq_zero.1 this with h | h
   ·exact h
   ·omega
  subst hlen0
  by_cases h0 : m = 0
  ·subst h0
   have hnil : news = [] := List.eq_nil_of_length_eq_zero (by simpa using x1)
   subst hnil
   have hoff := ext_off ρ b (ρ j)
   have hrun : (Builtin.append_ #[t, u] ty #[listV (ρ j) 0 z0, x]).run P w = .ok (listV (ρ j) 0 z0) w := by
    unfold listV
    split
    ·exact app_none (P := P) w t u ty e it ht hu h1 x y1 (by rw [h2]; exact y2)
    ·rw [hk]
     rcases hu with ⟨y, hu⟩ | hu <;> simp [Builtin.append_, run_underlying ht, run_underlying hu, sizeOf, typeInfo, h1, h2, y1, y2, storeCells]
   refine ⟨ext ρ b (ρ j), w, by rw [hrun]; simp [den, ext_new], ?_, hoff⟩
   refine hkill.gen (b := b) (by simp) hm.frame hoff (fun i r hib hi => ?_) (fun _ _ _ => rfl) (Nat.le_refl _) (fun r hi => ?_)
   ·rw [List.getElem?_set_ne (by omega)] at hi
    exact ⟨hi, hfree.off i r hi, fun _ => rfl⟩
   ·rw [List.getElem?_set_self hfree.lt] at hi
    cases hi
    have hno : ¬ Has (ext ρ b (ρ j)) b ⟨e, cs, ei.size, none⟩ := by unfold Has; rw [ext_new, hk]; simp; omega
    have := hcs [] g3
    exact ⟨rfl, fun h => absurd h hno, .inr ⟨hno, [], by simpa using this.off hoff hn, fun _ => rfl⟩, ho', fun h => absurd h hno⟩
  ·unfold listV
   split
   ·exact grow none 0 [] (by simp) (by simp [Builtin.firstCells]) (by omega) g3
   ·rw [hk]
    refine grow (some ⟨(ρ j).1, 0, none⟩) 0 [] (by simp) ?_ (by omega) g3
    have := run_loadCells_list (P := P) w.drew ⟨(ρ j).1, 0, none⟩ [] (by simp)
    simp at this
    simp [Builtin.firstCells, this]
theorem app_full (hT : TabOK P T) {rows : List (Option Row)} (hm : MemOK W F ρ rows w) {t u ty e : TypeId} {ei : TyI} (ht : P.underlying t = some (.slice e)) (hu : (∃ x, P.underlying u = some (.slice x)) ∨ P.underlying u = some .string) (hei : T.at e = some ei)
  (hby : ei.bytes <= 1024) (hsz : 0 < ei.size) (hzw : widthL ei.zero = ei.size) {x : Value} {m j n b : Nat} {z0 : Bool} {r : Row} (hr : rowOf rows j = some r) (hrs : r.sz = ei.size) (hrt : r.ty = e) (hlen : n * ei.size <= widthL r.cs)
  {news : List Value} (hx : Gives P w ei.size x m news) {cs : List SV} (hcs : ∀ l, CellsOK ρ r.cs l -> CellsOK ρ cs (l.take (n * ei.size) ++ news)) (hb : Free rows b) (ho : okdL W F rows.length cs) (hn : noML b cs = true) (hmost : n + m <= most) :
  (m = 0 -> (Builtin.append_ #[t, u] ty #[suffV (ρ j) z0 0 0 n true, x]).run P w = .ok (suffV (ρ j) z0 0 0 n true) w) /\
  (m ≠ 0 -> ∃ ρ' w', (Builtin.append_ #[t, u] ty #[suffV (ρ j) z0 0 0 n true, x]).run P w = .ok (den ρ' (.on b (n + m) false)) w' /\ MemOK W F ρ' (rows.set b (some ⟨e, cs, ei.size, none⟩)) w' /\ ∀ i, i ≠ b -> ρ' i = ρ i) := by
 obtain ⟨it, z, h1, h2, h3, h4, h5, _⟩ := (hT e ei hei).info
 obtain ⟨x1, x2, x3⟩ := hx
 have hz : z.cells.size = ei.size := by rw [<- Array.length_toList, h5, widthL_cells, hzw]
 obtain ⟨y1, y2⟩ := x3 w (fun _ _ h => h)
 obtain ⟨_, y3⟩ := x3 w.drew (fun _ _ h => h)
 have hno : ¬ Has ρ j r -> n = 0 /\ CellsOK ρ r.cs [] := by
  intro hh
  rcases rowOf_block hm hr with ⟨h, _⟩ | ⟨_, g3⟩
  ·exact absurd h hh
  ·have hl0 := g3.length
   have : n * ei.size = 0 := by simp at hl0; omega
   rcases Nat.mul_eq_zero.1 this with h | h
   ·exact ⟨h, g3⟩
   ·omega
 have hc0 : (ρ j).2 = 0 -> n = 0 /\ CellsOK ρ r.cs [] := fun hk => hno fun hh => by
  rcases hh.2 with h | h
  ·omega
  ·exact h hk
 refine ⟨fun h0 => ?_, fun h0 => ?_⟩
 ·subst h0
  have hnil : news = [] := List.eq_nil_of_length_eq_zero (by simpa using x1)
  subst hnil
  unfold suffV
  by_cases hz : z0 = true /\ (ρ j).2 = 0
  ·rw [if_pos hz]
   obtain ⟨rfl, _⟩ := hc0 hz.2
   exact app_none (P := P) w t u ty e it ht hu h1 x y1 (by rw [h2]; exact y2)
  ·rw [if_neg hz]
   rcases hu with ⟨y, hu⟩ | hu <;> simp [Builtin.append_, run_underlying ht, run_underlying hu, sizeOf, typeInfo, h1, h2, y1, y2, storeCells]
 ·have grow : ∀ (base : Option Addr) (cap : Nat) (l0 l : List Value), l0.take (n * ei.size) = l -> l.length = n * ei.size -> (Builtin.firstCells ei.size n (.slice base n cap)).run P w.drew = .ok l.toArray w.drew -> cap < n + m -> CellsOK ρ r.cs l0 ->
    ∃ ρ' w', (Builtin.append_ #[t, u] ty #[.slice base n cap, x]).run P w = .ok (den ρ' (.on b (n + m) false)) w' /\ MemOK W F ρ' (rows.set b (some ⟨e, cs, ei.size, none⟩)) w' /\ ∀ i, i ≠ b -> ρ' i = ρ i := by
   intro base cap l0 l hl0 hl hf hg hc
   have hcl := hcs l0 hc
   rw [hl0] at hcl
   obtain ⟨f1, f2⟩ := most_fits (n := n + m) (old := cap) hg hmost hby
   have hrun := app_grow (P := P) w t u ty e it z ht hu h1 h4 base n cap l (by rw [h2]; exact hf) x m news y1 (by rw [h2]; exact y3) hg f2 (by rw [h3]; exact f1)
   have hge := grownCap_ge w (n + m) cap e
   have hfill := hm.fill hb (r := ⟨e, cs, ei.size, none⟩) (c := (l ++ news ++ (Builtin.zeroCells z.cells (grownCap w (n + m) cap e - (n + m))).toList).toArray) (l := l ++ news) (rest := (Builtin.zeroCells z.cells (grownCap w (n + m) cap e - (n + m))).toList) (cap := grownCap w (n + m) cap e) rfl (.inr rfl) (by simp) hcl ho hn (fun h => by simp at h; omega) (fun _ => grown_cells hz w (n + m) cap e (l := l ++ news) (by rw [List.length_append, hl, x1, Nat.add_mul])) (fun _ => by omega)
   refine ⟨ext ρ b (w.heap.size, grownCap w (n + m) cap e), _, ?_, hfill, ext_off _ _ _⟩
   rw [hrun]
   simp only [den, ext_new]
   rw [listV_some (show grownCap w (n + m) cap e ≠ 0 by omega)]
  have nilc : ∀ (b : Nat) (o : Nat), (Builtin.firstCells ei.size 0 (.slice (some ⟨b, o, none⟩) 0 0)).run P w.drew = .ok #[] w.drew := fun b o => by
   have := run_loadCells_list (P := P) w.drew ⟨b, o, none⟩ [] (by simp)
   simp at this
   simp [Builtin.firstCells, this]
  unfold suffV
  by_cases hz : z0 = true /\ (ρ j).2 = 0
  ·rw [if_pos hz]
   obtain ⟨rfl, g3⟩ := hc0 hz.2
   exact grow none 0 [] [] (by simp) (by simp) (by simp [Builtin.firstCells]) (by omega) g3
  ·rw [if_neg hz]
   simp only [ite_self, if_true]
   rcases rowOf_block hm hr with ⟨hh, c, l, rest, g1, g2, g3, g4, g5⟩ | ⟨hh, g3⟩
   ·have hl := g3.length
    have hlt : (l.take (n * ei.size)).length = n * ei.size := by rw [List.length_take]; omega
    refine grow (some ⟨(ρ j).1, 0, none⟩) n l (l.take (n * ei.size)) rfl hlt ?_ (by omega) g3
    have hl2 := run_loadCells_list (P := P) w.drew ⟨(ρ j).1, 0, none⟩ (l.take (n * ei.size)) (fun k v hv => by
     rw [addr_add, Nat.zero_add]
     have hkt := (List.getElem?_eq_some_iff.1 hv).1
     rw [List.getElem?_take_of_lt (by omega)] at hv
     have hk := (List.getElem?_eq_some_iff.1 hv).1
     have : c[k]? = c.toList[k]? := by simp
     show w.cell? _ = _
     simp only [World.cell?, g1]
     simp only [Option.isSome_none, Bool.false_eq_true, if_false]
     rw [this, g2, List.getElem?_append_left hk, hv])
    rw [hlt] at hl2
    simp [Builtin.firstCells, hl2]
   ·obtain ⟨rfl, g3⟩ := hno hh
    exact grow (some ⟨(ρ j).1, 0, none⟩) 0 [] [] (by simp) (by simp) (nilc _ _) (by omega) g3
theorem app_any (hT : TabOK P T) {rows : List (Option Row)} (hm : MemOK W F ρ rows w) {t u ty e : TypeId} {ei : TyI} (ht : P.underlying t = some (.slice e)) (hu : (∃ x, P.underlying u = some (.slice x)) ∨ P.underlying u = some .string) (hei : T.at e = some ei)
  (hby : ei.bytes <= 1024) (hsz : 0 < ei.size) (hzw : widthL ei.zero = ei.size) {x : Value} {m n cap b : Nat} {base : Option Addr} {olds news : List Value} (hl : Gives P w ei.size (.slice base n cap) n olds) (hx : Gives P w ei.size x m news)
  (hb : Free rows b) {cs : List SV} (hcs : CellsOK ρ cs (olds ++ news)) (ho : okdL W F rows.length cs) (hn : noML b cs = true) (hg : cap < n + m) (hmost : n + m <= most) :
  ∃ ρ' w', (Builtin.append_ #[t, u] ty #[.slice base n cap, x]).run P w = .ok (den ρ' (.on b (n + m) false)) w' /\ MemOK W F ρ' (rows.set b (some ⟨e, cs, ei.size, none⟩)) w' /\ ∀ i, i ≠ b -> ρ' i = ρ i := by
 obtain ⟨it, z, h1, h2, h3, h4, h5, _⟩ := (hT e ei hei).info
 obtain ⟨l1, l2, l3⟩ := hl
 obtain ⟨x1, x2, x3⟩ := hx
 have hz : z.cells.size = ei.size := by rw [<- Array.length_toList, h5, widthL_cells, hzw]
 obtain ⟨y1, y2⟩ := x3 w (fun _ _ h => h)
 obtain ⟨_, y3⟩ := x3 w.drew (fun _ _ h => h)
 obtain ⟨_, y4⟩ := l3 w.drew (fun _ _ h => h)
 obtain ⟨f1, f2⟩ := most_fits (n := n + m) (old := cap) hg hmost hby
 have hrun := app_grow (P := P) w t u ty e it z ht hu h1 h4 base n cap olds (by rw [h2]; exact y4) x m news y1 (by rw [h2]; exact y3) hg f2 (by rw [h3]; exact f1)
 have hge := grownCap_ge w (n + m) cap e
 have hfill := hm.fill hb (r := ⟨e, cs, ei.size, none⟩) (c := (olds ++ news ++ (Builtin.zeroCells z.cells (grownCap w (n + m) cap e - (n + m))).toList).toArray) (l := olds ++ news) (rest := (Builtin.zeroCells z.cells (grownCap w (n + m) cap e - (n + m))).toList) (cap := grownCap w (n + m) cap e) rfl (.inr rfl) (by simp) hcs ho hn (fun h => by simp at h; omega) (fun _ => grown_cells hz w (n + m) cap e (l := olds ++ news) (by rw [List.length_append, l1, x1, Nat.add_mul])) (fun _ => by omega)
 refine ⟨ext ρ b (w.heap.size, grownCap w (n + m) cap e), _, ?_, hfill, ext_off _ _ _⟩
 rw [hrun]
 simp only [den, ext_new]
 rw [listV_some (show grownCap w (n + m) cap e ≠ 0 by omega)]
end Sx
end
section
namespace Sx
variable {P : Program} {T : Tab} {W : World} {F : Nat -> Prop} {nt : Nat} {ρ ρ' : Num} {s : SS} {a : Act} {w : World}
theorem intCells_map (k : IntKind) (xs : List Int) : intCells k xs.length xs = xs.map (Value.int k) := by
 apply List.ext_getElem?
 intro j
 by_cases hj : j < xs.length
 ·rw [intCells_get _ _ _ _ hj]; simp [List.getD, hj]
 ·rw [List.getElem?_eq_none (by simp [intCells_length]; omega), List.getElem?_eq_none (by simp; omega)]
theorem gives_ints {rows : List (Option Row)} (hm : MemOK W F ρ rows w) {k : IntKind} {v : SV} {ps : List Prop} {n : Nat} {xs : List Int} (h : sliceInts rows k v = some (ps, n, xs)) (hp : All ps) (ov : okd W F rows.length v) : xs.length = n /\ Gives P w 1 (den ρ v) n (intCells k n xs) := by
 obtain ⟨h1, h2, _⟩ := sliceInts_ok hm h hp ov
 refine ⟨h1, by simp [intCells_length], ?_, fun w' hw => ⟨h2.lenOf w', h2.first h1 (Nat.le_refl _) hw⟩⟩
 intro y hy
 simp only [intCells, List.mem_map] at hy
 obtain ⟨j, _, rfl⟩ := hy
 rfl
theorem noML_takeC {b : Nat} : ∀ {l l' : List SV} {o : Nat}, noML b l = true -> takeC l o = some l' -> noML b l' = true
 | [], l', o, h, hv => by
   simp only [takeC] at hv
   rcases cond_some hv with ⟨e, hv⟩ | ⟨e, hv⟩ <;> simp at hv
   subst hv; rfl
 | c :: r, l', o, h, hv => by
   simp only [noML, Bool.and_eq_true] at h
   cases c <;> simp only [takeC, reduceCtorEq] at hv <;> rcases cond_some hv with ⟨e, hv⟩ | ⟨e, hv⟩ <;> first
    | (simp at hv; subst hv; rfl)
    | (rcases cond_some hv with ⟨e2, hv⟩ | ⟨e2, hv⟩
       ·simp only [Option.map_eq_some_iff] at hv
        obtain ⟨l2, hx, rfl⟩ := hv
        simp only [noML, Bool.and_eq_true]
        exact ⟨h.1, noML_takeC h.2 hx⟩
       ·simp at hv)
    | (simp only [Option.map_eq_some_iff] at hv
       obtain ⟨l2, hx, rfl⟩ := hv
       simp only [noML, Bool.and_eq_true]
       exact ⟨h.1, noML_takeC h.2 hx⟩)
theorem noML_dropC {b : Nat} : ∀ {l l' : List SV} {o : Nat}, noML b l = true -> dropC l o = some l' -> noML b l' = true
 | [], l', o, h, hv => by
   simp only [dropC] at hv
   rcases cond_some hv with ⟨e, hv⟩ | ⟨e, hv⟩ <;> simp at hv
   subst hv; rfl
 | c :: r, l', o, h, hv => by
   have h' := h
   simp only [noML, Bool.and_eq_true] at h
   cases c <;> simp only [dropC, reduceCtorEq] at hv <;> rcases cond_some hv with ⟨e, hv⟩ | ⟨e, hv⟩ <;> first
    | (simp at hv; subst hv; exact h')
    | exact noML_dropC h.2 hv
    | (rcases cond_some hv with ⟨e2, hv⟩ | ⟨e2, hv⟩
       ·exact noML_dropC h.2 hv
       ·simp at hv)
theorem noML_append {b : Nat} : ∀ {x y : List SV}, noML b x = true -> noML b y = true -> noML b (x ++ y) = true
 | [], y, _, h => h
 | c :: r, y, h, k => by simp only [noML, Bool.and_eq_true, List.cons_append] at *; exact ⟨h.1, noML_append h.2 k⟩
theorem gives_cells {rows : List (Option Row)} (hm : MemOK W F ρ rows w) {sz : Nat} {v : SV} {n : Nat} {l : List SV} (h : sliceCells rows sz v = some (n, l)) (hB : cellsB l = true) (hsz : 0 < sz) :
  Gives P w sz (den ρ v) n (cellsL ρ l) /\ okdL W F rows.length l /\ ∀ b, (∀ (i : Nat) (x : Row), rows[i]? = some (some x) -> noML b x.cs = true) -> noML b l = true := by
 have mk : ∀ (b off n cap : Nat) (l : List SV) (z : Option Bool), okdL W F rows.length l -> widthL l = n * sz -> (∀ j, j < n * sz -> w.cell? ⟨b, off + j, none⟩ = (cellsL ρ l)[j]?) -> cellsB l = true -> Gives P w sz (.slice (some ⟨b, off, none⟩) n cap) n (cellsL ρ l) := by
  intro b off n cap l z ho hw hc hB
  have hl : (cellsL ρ l).length = n * sz := by rw [widthL_cells, hw]
  refine ⟨hl, cellsB_one hB ho, fun w' hw' => ⟨by simp [Builtin.lenOf], ?_⟩⟩
  have := run_loadCells_list (P := P) w' ⟨b, off, none⟩ (cellsL ρ l) (fun j u hu => by
   rw [addr_add]
   refine hw' _ _ ?_
   rw [hc j (by have := (List.getElem?_eq_some_iff.1 hu).1; omega), hu])
  rw [hl] at this
  simp [Builtin.firstCells, this]
 unfold sliceCells at h
 split at h
 ·rename_i b off len cap
  simp only [Option.bind_eq_some_iff] at h
  obtain ⟨r, hr, d, hd, l', hl, h⟩ := h
  rcases cond_some h with ⟨e, h⟩ | ⟨e, h⟩
  ·cases h
   obtain ⟨c, c2, c3, c4, _⟩ := rowOf_ok hm hr
   obtain ⟨d1, d2⟩ := dropC_ok c2 hd
   obtain ⟨t1, t2⟩ := takeC_ok d1 hl
   have hn := t1.noTop e
   have hok := okdL_takeC (okdL_dropC c3 hd) hl
   refine ⟨mk _ off n cap l none hok ?_ (fun j hj => ?_) hB, hok, fun b hb => noML_takeC (noML_dropC (hb _ _ (rowOf_get hr)) hd) hl⟩
   ·have := t1.length
    simp at this t2
    omega
   ·simp at t2
    rw [<- hn, c4 _ (by omega), List.getElem?_take_of_lt hj, List.getElem?_drop]
  ·cases h
 ·rename_i b len z
  simp only [Option.bind_eq_some_iff] at h
  obtain ⟨⟨r, kk⟩, hr, h⟩ := h
  rcases cond_some h with ⟨e, h⟩ | ⟨e, h⟩
  ·cases h
   simp only [Bool.and_eq_true] at e
   have e1 := Nat.eq_of_beq_eq_true e.1
   obtain ⟨hr, hz0, hkk, hpos, _⟩ := onLen_ok hm hr
   obtain ⟨c, c2, c3, c4, _⟩ := rowOf_ok hm hr
   have hn := c2.noTop e.2
   have hcl := c2.length
   refine ⟨?_, c3, fun b hb => hb _ _ (rowOf_get hr)⟩
   simp only [den, listV]
   split
   ·rename_i hz
    have hw0 : kk = 0 := by
     cases hq : kk with
     | zero => rfl
     | succ j => exact absurd hz.2 (hpos (by omega))
    have hn0 : n = 0 := by
     have : n * sz = 0 := by omega
     rcases Nat.mul_eq_zero.1 this with h | h
     ·exact h
     ·omega
    subst hn0
    have hl0 : cellsL ρ r.cs = [] := List.eq_nil_of_length_eq_zero (by rw [widthL_cells, <- hkk, hw0])
    exact ⟨by simp [hl0], by simp [hl0], fun w' _ => ⟨by simp [Builtin.lenOf], by simp [Builtin.firstCells, hl0]⟩⟩
   ·exact mk _ 0 n _ r.cs none c3 e1.symm (fun j hj => by rw [Nat.zero_add, c4 _ (by omega), hn]) hB
  ·cases h
 ·rename_i u
  rcases cond_some h with ⟨e, h⟩ | ⟨e, h⟩
  ·cases h
   unfold isNilSlice at e
   split at e
   ·exact ⟨⟨by simp [cellsL], by simp [cellsL], fun w' _ => ⟨by simp [den, Builtin.lenOf], by simp [den, Builtin.firstCells, cellsL]⟩⟩, trivial, fun b _ => rfl⟩
   ·cases e
  ·cases h
 ·cases h
theorem gives_at {b off n sz cap : Nat} {l : List Value} (hl : l.length = n * sz) (h1 : ∀ y ∈ l, y.oneCell' = true) (hc : ∀ j, j < n * sz -> w.cell? ⟨b, off + j, none⟩ = l[j]?) : Gives P w sz (.slice (some ⟨b, off, none⟩) n cap) n l := by
 refine ⟨hl, h1, fun w' hw' => ⟨by simp [Builtin.lenOf], ?_⟩⟩
 have := run_loadCells_list (P := P) w' ⟨b, off, none⟩ l (fun j u hu => by
  rw [addr_add]
  refine hw' _ _ ?_
  rw [hc j (by have := (List.getElem?_eq_some_iff.1 hu).1; omega), hu])
 rw [hl] at this
 simp [Builtin.firstCells, this]
theorem gives_zero {sz cap : Nat} {a : Option Addr} : Gives P w sz (.slice a 0 cap) 0 [] := by
 refine ⟨by simp, fun y hy => (by cases hy), fun w' _ => ⟨by simp [Builtin.lenOf], ?_⟩⟩
 cases a with
 | none => simp [Builtin.firstCells]
 | some a =>
   have := run_loadCells_list (P := P) w' a [] (by simp)
   simp at this
   simp [Builtin.firstCells, this]
theorem recCells_one {sz n : Nat} {f : Nat -> List SV} (h : ∀ e, e < n -> scL (f e) = true /\ (f e).length = sz) : ∀ y ∈ recCells sz n f, y.oneCell' = true := by
 intro y hy
 simp only [recCells, List.mem_flatMap, List.mem_map, List.mem_range] at hy
 obtain ⟨e, he, k, hk, rfl⟩ := hy
 exact scL_one (h e he).1 k (by rw [(h e he).2]; exact hk)
theorem recCells_nil {sz n : Nat} {f : Nat -> List SV} (h : n * sz = 0) : recCells sz n f = [] := List.eq_nil_of_length_eq_zero (by rw [recCells_length]; exact h)
theorem gives_many {rows : List (Option Row)} (hm : MemOK W F ρ rows w) {sz : Nat} {y : SV} {ps : List Prop} {m : Nat} {g : Nat -> List SV} (h : manySrc rows sz y = some (ps, m, g)) (hp : All ps) (oy : okd W F rows.length y) (hsz : 0 < sz) :
  Gives P w sz (den ρ y) m (recCells sz m g) /\ ∀ e, e < m -> scL (g e) = true /\ (g e).length = sz := by
 unfold manySrc at h
 split at h
 ·rename_i z v m g
  rcases beq_some h with ⟨e, h⟩ | ⟨e, h⟩
  ·cases h
   subst e
   have hs : ∀ e, e < m -> scL (g e) = true := hp _ (by simp)
   have hl : ∀ e, e < m -> (g e).length = z := fun e he => by
    have h1 : (cellsL Num.zero (g e)).length = z := oy.1.1 e he
    rw [scL_cells (hs e he)] at h1
    simpa using h1
   have hb : ∀ e, e < m -> scL (g e) = true /\ (g e).length = z := fun e he => ⟨hs e he, hl e he⟩
   refine ⟨?_, hb⟩
   by_cases h0 : m = 0
   ·subst h0
    rw [recCells_nil (by simp)]
    rcases oy.1.2 with ⟨a, cap, rfl, _, _⟩ | ⟨b, off, cap, rfl, _⟩
    ·exact gives_zero
    ·exact gives_zero
   ·obtain ⟨b, off, cap, rfl, hc⟩ := oy.1.cell hm (j := 0) (by omega)
    refine gives_at (recCells_length z m g) (recCells_one hb) fun j hj => ?_
    have hz : 0 < z := hsz
    have e1 : j / z < m := (Nat.div_lt_iff_lt_mul hz).2 hj
    have e2 : j % z < z := Nat.mod_lt _ hz
    have e3 : j / z * z + j % z = j := by rw [Nat.mul_comm]; exact Nat.div_add_mod j z
    have hcc := hc (j / z) e1 (j % z) e2
    rw [Nat.add_assoc, e3] at hcc
    rw [hcc]
    have hsg := recCells_seg (n := m) e1 (hs _ e1) (hl _ e1) Num.zero (j % z) e2
    rw [e3] at hsg
    rw [hsg]
    have hlen : j % z < (cellsL Num.zero (g (j / z))).length := by rw [oy.1.1 _ e1]; exact e2
    rw [List.getD_eq_getElem?_getD, List.getElem?_eq_getElem hlen]
    rfl
  ·cases h
 ·rename_i b m z
  simp only [Option.bind_eq_some_iff] at h
  obtain ⟨r, hr, ⟨z', n, g⟩, hq, h⟩ := h
  rcases cond_some h with ⟨e, h⟩ | ⟨e, h⟩
  ·cases h
   simp only [Bool.and_eq_true] at e
   have e1 := Nat.eq_of_beq_eq_true e.1
   have e2 : z' = sz := Nat.eq_of_beq_eq_true e.2
   subst e2
   have hle : m <= n := hp (m <= n) (by simp)
   have hcs := manyOf_ok hq
   simp only at hcs
   obtain ⟨_, _, c3, _⟩ := rowOf_ok hm hr
   rw [hcs] at c3
   have hb : ∀ e, e < m -> scL (g e) = true /\ (g e).length = z' := fun e he => c3.1 e (by omega)
   refine ⟨?_, hb⟩
   rcases rowOf_block hm hr with ⟨hh, c, l, rest, g1, g2, g3, g4, g5⟩ | ⟨hh, g3⟩
   ·rw [hcs] at g3
    obtain ⟨tl, rfl, htl⟩ := g3
    have : tl = [] := htl
    subst this
    have hk : (ρ b).2 ≠ 0 := by rcases hh.2 with h | h; omega; exact h
    simp only [den]
    rw [listV_some hk]
    refine gives_at (recCells_length z' m g) (recCells_one hb) fun j hj => ?_
    have hj2 : j < (recCells z' n g).length := by
     rw [recCells_length]
     exact Nat.lt_of_lt_of_le hj (Nat.mul_le_mul_right _ hle)
    have hd : recCells z' n g = recCells z' m g ++ recCells z' (n - m) (fun e => g (m + e)) := by rw [<- recCells_add]; congr 1; omega
    show w.cell? _ = _
    simp only [World.cell?, g1]
    simp only [Option.isSome_none, Bool.false_eq_true, if_false, Nat.zero_add]
    have : c[j]? = c.toList[j]? := by simp
    rw [this, g2, List.append_nil, hd, List.append_assoc, List.getElem?_append_left (by rw [recCells_length]; exact hj)]
   ·rw [hcs] at g3
    have h0 : n * z' = 0 := by have := g3.length; simpa [widthL, width] using this.symm
    have hn0 : n = 0 := by
     rcases Nat.mul_eq_zero.1 h0 with h | h
     ·exact h
     ·omega
    have hm0 : m = 0 := by omega
    subst hm0
    rw [recCells_nil (by simp)]
    simp only [den, listV]
    split <;> exact gives_zero
  ·cases h
 ·rename_i b off cap
  simp only [Option.bind_eq_some_iff] at h
  obtain ⟨r, hr, d, hd, l, hl, h⟩ := h
  rcases cond_some h with ⟨e, h⟩ | ⟨e, h⟩
  ·cases h
   simp only [Bool.and_eq_true] at e
   have e2 := Nat.eq_of_beq_eq_true e.2
   have hB : ∀ {l : List SV}, scL l = true -> cellsB l = true /\ noTop l = true := by
    intro l
    induction l with
    | nil => intro _; exact ⟨rfl, rfl⟩
    | cons c l ih =>
      intro h
      simp only [scL, Bool.and_eq_true] at h
      obtain ⟨h1, h2⟩ := ih h.2
      have := h.1
      cases c <;> simp [scV] at this <;> exact ⟨by simp [cellsB, cellB, h1], by simpa [noTop] using h2⟩
   obtain ⟨b1, b2⟩ := hB e.1
   obtain ⟨g1, _⟩ := gives_cells (P := P) hm (sz := sz) (v := .sl b off 1 cap) (n := 1) (l := l) (by
    simp only [sliceCells, Option.bind_eq_some_iff]
    exact ⟨r, hr, d, hd, l, by rw [Nat.one_mul]; exact hl, by rw [b2]; rfl⟩) b1 hsz
   have hcells : cellsL ρ l = recCells sz 1 (fun _ => l) := by
    rw [scL_cells e.1]
    unfold recCells
    simp only [List.range_one, List.flatMap_cons, List.flatMap_nil, List.append_nil]
    apply List.ext_getElem?
    intro k
    by_cases hk : k < sz
    ·have : k < l.length := by omega
     simp [hk, List.getD, this]
    ·rw [List.getElem?_eq_none (by simp; omega), List.getElem?_eq_none (by simp; omega)]
   rw [hcells] at g1
   exact ⟨g1, fun _ _ => ⟨e.1, e2⟩⟩
  ·cases h
 ·cases h
theorem manyRowOf_ok {sz m : Nat} {cs : List SV} {q : Nat × Nat × (Nat -> List SV)} (h : manyRowOf sz cs = some q) (hz : q.1 = sz) (ho : okdL W F m cs) : (∀ l, CellsOK ρ cs l -> l = recCells sz q.2.1 q.2.2) /\ (∀ e, e < q.2.1 -> scL (q.2.2 e) = true /\ (q.2.2 e).length = sz) /\ widthL cs = q.2.1 * sz := by
 unfold manyRowOf at h
 split at h
 ·rename_i y hy
  cases h
  have hcs := manyOf_ok hy
  subst hz
  rw [hcs] at ho ⊢
  refine ⟨?_, ho.1, by simp [widthL, width]⟩
  rintro l ⟨tl, rfl, htl⟩
  have : tl = [] := htl
  subst this
  simp
 ·rcases cond_some h with ⟨e, h⟩ | ⟨e, h⟩
  ·cases h
   simp only [Bool.and_eq_true] at e
   have e2 := Nat.eq_of_beq_eq_true e.2
   have nt : ∀ {l : List SV}, scL l = true -> noTop l = true := by
    intro l
    induction l with
    | nil => intro _; rfl
    | cons c l ih =>
      intro h
      simp only [scL, Bool.and_eq_true] at h
      have := h.1
      cases c <;> simp [scV] at this <;> simpa [noTop] using ih h.2
   have hcells : cellsL ρ cs = recCells sz 1 (fun _ => cs) := by
    rw [scL_cells e.1]
    unfold recCells
    simp only [List.range_one, List.flatMap_cons, List.flatMap_nil, List.append_nil]
    apply List.ext_getElem?
    intro k
    by_cases hk : k < sz
    ·have : k < cs.length := by omega
     simp [hk, List.getD, this]
    ·rw [List.getElem?_eq_none (by simp; omega), List.getElem?_eq_none (by simp; omega)]
   refine ⟨fun l hl => by rw [hl.noTop (nt e.1), hcells], fun _ _ => ⟨e.1, e2⟩, ?_⟩
   have := widthL_cells (ρ := ρ) cs
   rw [<- this, scL_cells e.1]
   simp [e2]
  ·cases h
theorem isZero1_ok {k : IntKind} {l : List SV} (h : isZero1 k l = true) : l = [.lit k 0] := by
 unfold isZero1 at h
 split at h
 ·simp only [Bool.and_eq_true, decide_eq_true_eq] at h
  obtain ⟨rfl, rfl⟩ := h; rfl
 ·cases h
theorem listOp_ok (hT : TabOK P T) (st : Sat W F nt ρ s a w) {o : Oper} {b : Nat} {e' e : Eff} (h : listOp T s b o.op = some e') (he : e ∈ sides e') (hp : All e.ps) (hb : isNew o.op = true -> Free s.rows b) :
  ∃ (ρ' : Num) (w' : World), (execOp a.eval o).run P w = .ok (.value (den ρ' e.v)) w' /\ MemOK W F ρ' (putsL e.puts s.rows) w' /\ (∀ j, j ≠ b ∨ isNew o.op = false -> ρ' j = ρ j) /\ okd W F s.rows.length e.v /\ e.v ≠ .top := by
 have one : ∀ e1 : Eff, e1.alt = none -> e ∈ sides e1 -> e = e1 := fun e1 h1 h2 => by unfold sides at h2; rw [h1] at h2; simpa using h2
 unfold listOp at h
 split at h
 ·rename_i t len cap hop
  have hfree := hb (by rw [hop]; rfl)
  simp only [Option.bind_eq_some_iff] at h
  obtain ⟨l', h1, c', h2, h⟩ := h
  obtain ⟨e1, _, _⟩ := ev_ok st h1
  obtain ⟨f1, _, _⟩ := ev_ok st h2
  simp only [makeS, Option.bind_eq_some_iff] at h
  obtain ⟨i, hi, te, hte, ei, hei, k, hk, ⟨kl, l, cl⟩, hl, ⟨kc, c, cc⟩, hc, h⟩ := h
  have hq0 := cond_some h
  clear h
  rcases hq0 with ⟨ec, h⟩ | ⟨ec, h⟩
  ·cases h
   obtain rfl := one _ rfl he
   simp only [Bool.and_eq_true] at ec
   obtain ⟨⟨c1, c2⟩, c3⟩ := ec
   have c1 := Nat.eq_of_beq_eq_true c1
   have c2 := Nat.le_of_ble_eq_true c2
   have c3 := isZero1_ok c3
   have g0 : 0 <= l := hp _ (by simp)
   have g1 : l <= c := hp (l <= c) (by simp)
   have g2 : c <= (most : Nat) := hp (c <= (most : Nat)) (by simp)
   have hu := slD_ok (hT t i hi) hte
   obtain ⟨it, z, i1, i2, i3, i4, i5, _⟩ := (hT te ei hei).info
   rw [asI_ok hl ρ] at e1
   rw [asI_ok hc ρ] at f1
   have hby : (it.bytes : Int) * c <= 281474976710656 := by
    have h1 : (it.bytes : Int) * c <= 1024 * c := Int.mul_le_mul_of_nonneg_right (by omega) (by omega)
    unfold most at g2
    omega
   have hz : z.cells = #[.int k 0] := by apply Array.ext'; rw [i5, c3]; rfl
   have hcells : madeCells z.cells (c.toNat * it.size) = (intCells k l.toNat (List.replicate l.toNat 0) ++ List.replicate (c.toNat - l.toNat) (Value.int k 0)).toArray := by
    rw [i2, c1, hz]
    apply Array.ext'
    apply List.ext_getElem?
    intro j
    by_cases hj : j < l.toNat
    ·rw [List.getElem?_append_left (by simp [intCells_length]; omega), intCells_get _ _ _ _ hj]
     have : j < c.toNat := by omega
     simp [madeCells, this, Nat.mod_one, List.getD, hj]
    ·by_cases hj2 : j < c.toNat
     ·rw [List.getElem?_append_right (by simp [intCells_length]; omega), intCells_length]
      have : j - l.toNat < c.toNat - l.toNat := by omega
      simp [madeCells, hj2, Nat.mod_one, List.getElem?_replicate, this]
     ·rw [List.getElem?_eq_none (by simp [madeCells]; omega), List.getElem?_eq_none (by simp [intCells_length]; omega)]
   have hr := run_make (P := P) w t te it z hu i1 i4 kl kc l c g0 g1 hby (by unfold most at g2; omega)
   rw [hcells] at hr
   have hcs : CellsOK ρ [.ints k l.toNat (List.replicate l.toNat 0)] (intCells k l.toNat (List.replicate l.toNat 0)) := ⟨[], by simp, rfl⟩
   refine ⟨ext ρ b (w.heap.size, c.toNat), w.alloc (.cells (intCells k l.toNat (List.replicate l.toNat 0) ++ List.replicate (c.toNat - l.toNat) (Value.int k 0)).toArray te), ?_, ?_, fun j hj => ext_off _ _ _ j (by rcases hj with h | h; exact h; simp [hop, isNew] at h), ?_, fun h => by cases h⟩
   ·simp only [execOp, hop, e1, f1, Sem.run_bind, hr, Result.andThen_ok, den, ext_new]
    simp [listV]
   ·simp only [putsL]
    by_cases h0 : c.toNat = 0
    ·have hl0 : l.toNat = 0 := by omega
     have hoff := ext_off ρ b (w.heap.size, c.toNat)
     refine st.mem.gen (b := b) (by simp) (st.mem.frame.trans ⟨rfl, rfl, rfl, by simp, fun b hb _ => Below.heap_alloc _ _ _ hb⟩) hoff (fun i r hib hi => ?_) (fun y hy _ => Below.heap_alloc _ _ _ hy) (by simp) (fun r hi => ?_)
     ·rw [List.getElem?_set_ne (by omega)] at hi
      exact ⟨hi, hfree.off i r hi, fun hh => Below.heap_alloc _ _ _ (st.mem.lt hi hh)⟩
     ·rw [List.getElem?_set_self hfree.lt] at hi
      cases hi
      have hno : ¬ Has (ext ρ b (w.heap.size, c.toNat)) b ⟨te, [.ints k l.toNat (List.replicate l.toNat 0)], 1, none⟩ := by unfold Has; rw [ext_new]; simp; omega
      exact ⟨rfl, fun h => absurd h hno, .inr ⟨hno, [], ⟨[], by simp [hl0, intCells], rfl⟩, fun _ => rfl⟩, ⟨trivial, trivial⟩, fun h => absurd h hno⟩
    ·refine st.mem.fill hfree (r := ⟨te, [.ints k l.toNat (List.replicate l.toNat 0)], 1, none⟩) rfl (.inl rfl) (l := intCells k l.toNat (List.replicate l.toNat 0)) (rest := List.replicate (c.toNat - l.toNat) (Value.int k 0)) (cap := c.toNat) (by simp) hcs ⟨trivial, trivial⟩ rfl (fun h => by simp at h) (fun _ => by simp [intCells_length]; omega) (fun _ => h0)
   ·exact hfree.lt
  ·cases h
 ·rename_i x y t u hop
  have hfree := hb (by rw [hop]; rfl)
  have hq0 := cond_some h
  clear h
  rcases hq0 with ⟨eu, h⟩ | ⟨eu, h⟩
  ·have hu := appTy_ok hT eu
   simp only [Option.bind_eq_some_iff] at h
   obtain ⟨x', h1, y', h2, h⟩ := h
   obtain ⟨e1, ox, nx⟩ := ev_ok st h1
   obtain ⟨f1, oy, ny⟩ := ev_ok st h2
   unfold appendS at h
   have hq8 := cond_some h
   clear h
   rcases hq8 with ⟨eu9, h⟩ | ⟨eu9, h⟩
   ·simp only [appendM, Option.bind_eq_some_iff] at h
    obtain ⟨i, hi, te, hte, ei, hei, h⟩ := h
    have ht := slD_ok (hT t i hi) hte
    have hq10 := cond_some h
    clear h
    rcases hq10 with ⟨ec, h⟩ | ⟨ec, h⟩
    ·simp only [Bool.and_eq_true] at ec
     obtain ⟨⟨c1, c2⟩, c3⟩ := ec
     have c1 := Nat.le_of_ble_eq_true c1
     have c2 : 0 < ei.size := Nat.le_of_ble_eq_true c2
     have c3 := Nat.eq_of_beq_eq_true c3
     have fin : ∀ (ρ' : Num) (w' : World) (v : SV) (pl : List (Nat × Option Row)), (Builtin.append_ #[t, u] o.type #[den ρ x', den ρ y']).run P w = .ok (den ρ' v) w' -> MemOK W F ρ' (putsL pl s.rows) w' -> (∀ j, j ≠ b -> ρ' j = ρ j) -> (∃ n z, v = .on b n z) ->
       ∃ (ρ' : Num) (w' : World), (execOp a.eval o).run P w = .ok (.value (den ρ' v)) w' /\ MemOK W F ρ' (putsL pl s.rows) w' /\ (∀ j, j ≠ b ∨ isNew o.op = false -> ρ' j = ρ j) /\ okd W F s.rows.length v /\ v ≠ .top := by
      rintro ρ' w' v pl hr hm hoff ⟨n, z, rfl⟩
      refine ⟨ρ', w', ?_, hm, fun j hj => hoff j (by rcases hj with h | h; exact h; simp [hop, isNew] at h), hfree.lt, fun h => by cases h⟩
      simp only [execOp, hop, resolve, invoke, builtin, Sem.run_bind, Sem.run_pure, Result.andThen_ok, List.map_toArray, List.map_cons, List.map_nil, e1, f1, hr]
     simp only [Option.bind_eq_some_iff] at h
     obtain ⟨⟨p2, m, g⟩, hq, h⟩ := h
     have hp2 : ∀ {l : List Prop}, All (p2 ++ l) -> All p2 := fun hl p hp => hl p (by simp [hp])
     split at h
     ·rename_i v
      have hq11 := cond_some h
      clear h
      rcases hq11 with ⟨ev, h⟩ | ⟨ev, h⟩
      ·cases h
       obtain rfl := one _ rfl he
       have hv : v = .slice none 0 0 := by
        unfold isNilSlice at ev
        split at ev
        ·rfl
        ·cases ev
       subst hv
       obtain ⟨gg, gs⟩ := gives_many (P := P) st.mem hq (hp2 hp) oy c2
       obtain ⟨ρ', w', r1, r2, r3⟩ := app_nil (ty := o.type) hT st.mem ht hu hei c1 c2 c3 gg hfree (cs := [.many ei.size m g]) ⟨[], by simp, rfl⟩ ⟨gs, trivial⟩ rfl (hp (m <= most) (by simp))
       exact fin ρ' w' _ _ r1 r2 r3 ⟨_, _, rfl⟩
      ·cases h
     ·rename_i j len z
      simp only [Option.bind_eq_some_iff] at h
      obtain ⟨r, hr, ⟨z', n, f⟩, hpi, h⟩ := h
      have hq12 := cond_some h
      clear h
      rcases hq12 with ⟨ek, h⟩ | ⟨ek, h⟩
      ·cases h
       obtain rfl := one _ rfl he
       simp only [Bool.and_eq_true, decide_eq_true_eq] at ek
       obtain ⟨⟨k2, k3⟩, k4⟩ := ek
       have k2 := Nat.eq_of_beq_eq_true k2
       have k4 := Nat.eq_of_beq_eq_true k4
       have l2 : len = n := hp (len = n) (by simp)
       have l4 : n + m <= most := hp (n + m <= most) (by simp)
       have l5 : ∀ x, x < n + m -> shapeL (f x) (g (x - n)) = true := hp (∀ x, x < n + m -> shapeL (f x) (g (x - n)) = true) (by simp)
       subst l2
       obtain ⟨gg, gs⟩ := gives_many (P := P) st.mem hq (hp2 hp) oy c2
       obtain ⟨_, _, o3, _⟩ := rowOf_ok st.mem hr
       obtain ⟨q1, q2, q3⟩ := manyRowOf_ok (ρ := ρ) hpi k4 o3
       obtain ⟨z1, z2⟩ := recCells_zip (fun e he => (q2 e he).2) (fun e he => (gs e he).2) l5
       obtain ⟨ρ', w', r1, r2, r3⟩ := app_on (ty := o.type) (z0 := z) (len := len) hT st.mem ht hu hei c1 c2 c3 hr k2 k3 q3 gg hfree (cs := [.many ei.size (len + m) (fun x => zipL (x < len) (f x) (g (x - len)))]) (fun l hl => ⟨[], by rw [z1, q1 l hl]; simp, rfl⟩) ⟨z2, trivial⟩ rfl l4
       exact fin ρ' w' _ [(j, none), (b, _)] r1 r2 r3 ⟨_, _, rfl⟩
      ·cases h
     ·cases h
    ·cases h
   simp only [appendS0, Option.bind_eq_some_iff] at h
   obtain ⟨i, hi, te, hte, ei, hei, h⟩ := h
   have ht := slD_ok (hT t i hi) hte
   have hq0 := cond_some h
   clear h
   rcases hq0 with ⟨ec, h⟩ | ⟨ec, h⟩
   ·simp only [Bool.and_eq_true] at ec
    obtain ⟨⟨c1, c2⟩, c3⟩ := ec
    have c1 := Nat.le_of_ble_eq_true c1
    have c2 : 0 < ei.size := Nat.le_of_ble_eq_true c2
    have c3 := Nat.eq_of_beq_eq_true c3
    have fin : ∀ (ρ' : Num) (w' : World) (v : SV) (pl : List (Nat × Option Row)), (Builtin.append_ #[t, u] o.type #[den ρ x', den ρ y']).run P w = .ok (den ρ' v) w' -> MemOK W F ρ' (putsL pl s.rows) w' -> (∀ j, j ≠ b -> ρ' j = ρ j) -> (∃ n z, v = .on b n z) ->
      ∃ (ρ' : Num) (w' : World), (execOp a.eval o).run P w = .ok (.value (den ρ' v)) w' /\ MemOK W F ρ' (putsL pl s.rows) w' /\ (∀ j, j ≠ b ∨ isNew o.op = false -> ρ' j = ρ j) /\ okd W F s.rows.length v /\ v ≠ .top := by
     rintro ρ' w' v pl hr hm hoff ⟨n, z, rfl⟩
     refine ⟨ρ', w', ?_, hm, fun j hj => hoff j (by rcases hj with h | h; exact h; simp [hop, isNew] at h), hfree.lt, fun h => by cases h⟩
     simp only [execOp, hop, resolve, invoke, builtin, Sem.run_bind, Sem.run_pure, Result.andThen_ok, List.map_toArray, List.map_cons, List.map_nil, e1, f1, hr]
    split at h
    ·rename_i k hk
     have hq0 := beq_some h
     clear h
     rcases hq0 with ⟨es, h⟩ | ⟨es, h⟩
     ·simp only [Option.bind_eq_some_iff] at h
      obtain ⟨⟨p2, m, ys⟩, hq, h⟩ := h
      have hp2 : ∀ {l : List Prop}, All (p2 ++ l) -> All p2 := fun hl p hp => hl p (by simp [hp])
      split at h
      ·rename_i v
       have hq0 := cond_some h
       clear h
       rcases hq0 with ⟨ev, h⟩ | ⟨ev, h⟩
       ·cases h
        obtain rfl := one _ rfl he
        have hv : v = .slice none 0 0 := by
         unfold isNilSlice at ev
         split at ev
         ·rfl
         ·cases ev
        subst hv
        obtain ⟨l1, g⟩ := gives_ints st.mem hq (hp2 hp) oy
        rw [<- es] at g
        obtain ⟨ρ', w', r1, r2, r3⟩ := app_nil (ty := o.type) hT st.mem ht hu hei c1 c2 c3 g hfree (cs := [.ints k m ys]) ⟨[], by simp, rfl⟩ ⟨trivial, trivial⟩ rfl (hp (m <= most) (by simp))
        rw [es] at r2
        exact fin ρ' w' _ _ r1 r2 r3 ⟨_, _, rfl⟩
       ·cases h
      ·rename_i j len z
       simp only [Option.bind_eq_some_iff] at h
       obtain ⟨r, hr, ⟨k2, n, xs⟩, hpi, h⟩ := h
       have hq0 := cond_some h
       clear h
       rcases hq0 with ⟨ek, h⟩ | ⟨ek, h⟩
       ·cases h
        obtain rfl := one _ rfl he
        simp only [Bool.and_eq_true, decide_eq_true_eq] at ek
        obtain ⟨⟨rfl, k3⟩, k4⟩ := ek
        have k3 := Nat.eq_of_beq_eq_true k3
        have l2 : len = n := hp (len = n) (by simp)
        have l3 : xs.length = n := hp (xs.length = n) (by simp)
        have l4 : n + m <= most := hp (n + m <= most) (by simp)
        subst l2
        obtain ⟨l1, g⟩ := gives_ints st.mem hq (hp2 hp) oy
        rw [<- es] at g
        have hop1 := onePiece_ok hpi
        obtain ⟨ρ', w', r1, r2, r3⟩ := app_on (ty := o.type) (z0 := z) (len := len) hT st.mem ht hu hei c1 c2 c3 hr (by omega) k4 (by rw [hop1, es]; simp [widthL, width]) g hfree (cs := [.ints k2 (len + m) (xs ++ ys)]) (by
         rw [hop1]
         rintro l ⟨tl, rfl, htl⟩
         have : tl = [] := htl
         subst this
         refine ⟨[], ?_, rfl⟩
         have h1 := intCells_map k2 (xs ++ ys)
         rw [List.length_append, l3, l1] at h1
         have h2 := intCells_map k2 xs
         rw [l3] at h2
         have h3 := intCells_map k2 ys
         rw [l1] at h3
         simp [h1, h2, h3]) ⟨trivial, trivial⟩ rfl l4
        rw [es] at r2
        exact fin ρ' w' _ [(j, none), (b, _)] r1 r2 r3 ⟨_, _, rfl⟩
       ·cases h
      ·rename_i j z n
       simp only [Option.bind_eq_some_iff] at h
       obtain ⟨r, hr, ⟨k2, n2, xs⟩, hpi, h⟩ := h
       have hq0 := cond_some h
       clear h
       rcases hq0 with ⟨ek, h⟩ | ⟨ek, h⟩
       ·cases h
        simp only [Bool.and_eq_true, decide_eq_true_eq] at ek
        obtain ⟨⟨rfl, k3⟩, k4⟩ := ek
        have k3 := Nat.eq_of_beq_eq_true k3
        have hop1 := onePiece_ok hpi
        simp only at hop1
        have both : All (p2 ++ [n <= n2, xs.length = n2, n + m <= most]) -> (m = 0 -> ∃ (ρ' : Num) (w' : World), (execOp a.eval o).run P w = .ok (.value (den ρ' (.ow j z 0 0 n true))) w' /\ MemOK W F ρ' (putsL [] s.rows) w' /\ (∀ j, j ≠ b ∨ isNew o.op = false -> ρ' j = ρ j) /\ okd W F s.rows.length (.ow j z 0 0 n true) /\ (.ow j z 0 0 n true : SV) ≠ .top) /\
          (m ≠ 0 -> ∃ (ρ' : Num) (w' : World), (execOp a.eval o).run P w = .ok (.value (den ρ' (.on b (n + m) false))) w' /\ MemOK W F ρ' (putsL [(b, some ⟨te, [.ints k2 (n + m) (xs.take n ++ ys)], 1, none⟩)] s.rows) w' /\ (∀ j, j ≠ b ∨ isNew o.op = false -> ρ' j = ρ j) /\ okd W F s.rows.length (.on b (n + m) false) /\ (.on b (n + m) false : SV) ≠ .top) := by
         intro hp
         have l2 : n <= n2 := hp (n <= n2) (by simp)
         have l3 : xs.length = n2 := hp (xs.length = n2) (by simp)
         have l4 : n + m <= most := hp (n + m <= most) (by simp)
         obtain ⟨l1, g⟩ := gives_ints (P := P) st.mem hq (hp2 hp) oy
         rw [<- es] at g
         have key := app_full (ty := o.type) (z0 := z) (n := n) (m := m) hT st.mem ht hu hei c1 c2 c3 hr (by omega) k4 (by rw [hop1, es]; simp [widthL, width]; omega) g (cs := [.ints k2 (n + m) (xs.take n ++ ys)]) (by
          rw [hop1]
          rintro l ⟨tl, rfl, htl⟩
          have : tl = [] := htl
          subst this
          refine ⟨[], ?_, rfl⟩
          have h1 := intCells_map k2 (xs.take n ++ ys)
          rw [List.length_append, List.length_take, l3, l1, Nat.min_eq_left l2] at h1
          have h2 := intCells_map k2 xs
          rw [l3] at h2
          have h3 := intCells_map k2 ys
          rw [l1] at h3
          rw [List.append_nil, List.append_nil, h1, h2, h3, es, Nat.mul_one, List.map_append, List.map_take]) hfree ⟨trivial, trivial⟩ rfl l4
         refine ⟨fun hm0 => ⟨ρ, w, ?_, st.mem, fun _ _ => rfl, ox, fun h => by cases h⟩, fun hm0 => ?_⟩
         ·have e1' : a.eval x = suffV (ρ j) z 0 0 n true := e1
          simp only [execOp, hop, resolve, invoke, builtin, Sem.run_bind, Sem.run_pure, Result.andThen_ok, List.map_toArray, List.map_cons, List.map_nil, e1', f1, key.1 hm0]
          rfl
         ·obtain ⟨ρ', w', r1, r2, r3⟩ := key.2 hm0
          rw [es] at r2
          exact fin ρ' w' _ [(b, _)] r1 r2 r3 ⟨_, _, rfl⟩
        unfold sides at he
        cases hy : hasOne y' with
        | true =>
          simp only [hy, cond_true, List.mem_singleton] at he
          subst he
          refine (both hp).2 ?_
          unfold hasOne at hy
          split at hy
          ·rename_i b2 off len cap
           have hlen : 0 < len := Nat.le_of_ble_eq_true hy
           obtain ⟨_, _, g⟩ := sliceInts_ok st.mem hq (hp2 hp) oy
           rcases g with ⟨a, c, g⟩ | ⟨s, g⟩
           ·cases g; omega
           ·cases g
          ·cases hy
        | false =>
          simp only [hy, cond_false, List.mem_cons, List.not_mem_nil, or_false] at he
          rcases he with rfl | rfl
          ·exact (both (fun p h => hp p (List.mem_cons_of_mem _ h))).1 (hp _ (List.mem_cons_self ..))
          ·exact (both (fun p h => hp p (List.mem_cons_of_mem _ h))).2 (hp _ (List.mem_cons_self ..))
       ·cases h
      ·cases h
     ·cases h
    ·simp only [Option.bind_eq_some_iff] at h
     obtain ⟨⟨m, cs⟩, hq, h⟩ := h
     split at h
     ·rename_i v
      have hq0 := cond_some h
      clear h
      rcases hq0 with ⟨ev, h⟩ | ⟨ev, h⟩
      ·cases h
       obtain rfl := one _ rfl he
       simp only [Bool.and_eq_true] at ev
       have hv : v = .slice none 0 0 := by
        have ev := ev.1
        unfold isNilSlice at ev
        split at ev
        ·rfl
        ·cases ev
       subst hv
       obtain ⟨g, g2, g3⟩ := gives_cells st.mem hq ev.2 c2
       obtain ⟨ρ', w', r1, r2, r3⟩ := app_nil (ty := o.type) hT st.mem ht hu hei c1 c2 c3 g hfree (cs := cs) (CellsOK.of_cellsL ρ cs) g2 (g3 b hfree.off) (hp (m <= most) (by simp))
       exact fin ρ' w' _ _ r1 r2 r3 ⟨_, _, rfl⟩
      ·cases h
     ·rename_i j len z
      simp only [Option.bind_eq_some_iff] at h
      obtain ⟨r, hr, h⟩ := h
      have hq0 := cond_some h
      clear h
      rcases hq0 with ⟨ek, h⟩ | ⟨ek, h⟩
      ·cases h
       obtain rfl := one _ rfl he
       simp only [Bool.and_eq_true, decide_eq_true_eq] at ek
       obtain ⟨⟨⟨k1, k2⟩, k3⟩, k4⟩ := ek
       have k2 := Nat.eq_of_beq_eq_true k2
       have k4 := Nat.eq_of_beq_eq_true k4
       have l4 : len + m <= most := hp (len + m <= most) (by simp)
       obtain ⟨g, g2, g3⟩ := gives_cells st.mem hq k1 c2
       obtain ⟨_, _, o3, _⟩ := rowOf_ok st.mem hr
       obtain ⟨ρ', w', r1, r2, r3⟩ := app_on (ty := o.type) (z0 := z) (len := len) hT st.mem ht hu hei c1 c2 c3 hr k2 k3 k4.symm g hfree (cs := r.cs ++ cs) (fun l hl => hl.append (CellsOK.of_cellsL ρ cs)) (okdL_append o3 g2) (noML_append (hfree.off _ _ (rowOf_get hr)) (g3 b hfree.off)) l4
       exact fin ρ' w' _ [(j, none), (b, _)] r1 r2 r3 ⟨_, _, rfl⟩
      ·cases h
     ·rename_i j off n cap
      simp only [Option.bind_eq_some_iff] at h
      obtain ⟨⟨n2, os⟩, hq2, h⟩ := h
      have hq0 := cond_some h
      clear h
      rcases hq0 with ⟨ek, h⟩ | ⟨ek, h⟩
      ·cases h
       obtain rfl := one _ rfl he
       simp only [Bool.and_eq_true] at ek
       obtain ⟨⟨⟨k0, k1⟩, k2⟩, k3⟩ := ek
       have k2 : cap < n + m := Nat.le_of_ble_eq_true k2
       have k3 := Nat.eq_of_beq_eq_true k3
       subst k3
       obtain ⟨g, g2, g3⟩ := gives_cells st.mem hq k1 c2
       obtain ⟨v1, v2, v3⟩ := gives_cells (P := P) st.mem hq2 k0 c2
       obtain ⟨ρ', w', r1, r2, r3⟩ := app_any (ty := o.type) hT st.mem ht hu hei c1 c2 c3 v1 g hfree (cs := os ++ cs) ((CellsOK.of_cellsL ρ os).append (CellsOK.of_cellsL ρ cs)) (okdL_append v2 g2) (noML_append (v3 b hfree.off) (g3 b hfree.off)) k2 (hp _ (by simp))
       exact fin ρ' w' _ [(b, _)] r1 r2 r3 ⟨_, _, rfl⟩
      ·cases h
     ·cases h
   ·cases h
  ·cases h
 ·rename_i x y t us hop
  have hnn : isNew o.op = false := by rw [hop]; rfl
  simp only [Option.bind_eq_some_iff] at h
  obtain ⟨x', h1, y', h2, h⟩ := h
  obtain ⟨e1, ox, nx⟩ := ev_ok st h1
  obtain ⟨f1, oy, ny⟩ := ev_ok st h2
  unfold copyS at h
  cases h
 ·rename_i x t hop
  simp only [Option.bind_eq_some_iff] at h
  obtain ⟨x', h1, h⟩ := h
  obtain ⟨e1, ox, nx⟩ := ev_ok st h1
  unfold clearS at h
  cases h
 ·cases h
theorem plainL_noML {b : Nat} : ∀ {l : List SV}, plainL l = true -> noML b l = true
 | [], _ => rfl
 | c :: r, h => by
   simp only [plainL, Bool.and_eq_true] at h
   simp only [noML, Bool.and_eq_true]
   exact ⟨by cases c <;> first | rfl | simp [plain] at h, plainL_noML h.2⟩
theorem ev_noM {tm : List (Nat × SV)} {b : Nat} (hb : ∀ d sv, tm.lookup d = some sv -> sv = .top ∨ noM b sv = true) {x : Operand} {v : SV} (h : ev tm x = some v) : noM b v = true := by
 cases x with
 | tmp t =>
   simp only [ev] at h
   cases hl : tm.lookup t with
   | none => simp [hl] at h
   | some sv =>
     have hne : sv ≠ .top := by rintro rfl; simp [hl] at h
     have hv : sv = v := by
      rw [hl] at h
      cases sv <;> first | exact (Option.some.inj h) | exact absurd rfl hne
     subst hv
     rcases hb t sv hl with h | h
     ·exact absurd h hne
     ·exact h
 | const u => simp [ev] at h; subst h; cases u <;> rfl
 | global g => simp [ev] at h; subst h; rfl
 | func f => simp [ev] at h; subst h; rfl
theorem valueCells_noM {b : Nat} {v : SV} {l : List SV} (h : valueCells v = some l) (hv : noM b v = true) : noML b l = true := by
 cases v <;> simp only [valueCells] at h <;> first
  | (rcases cond_some h with ⟨e, h⟩ | ⟨e, h⟩
     ·cases h; first | exact hv | (simp only [noML, hv]; rfl)
     ·cases h)
  | cases h
theorem overC_noML {b : Nat} {l new l' : List SV} {o m : Nat} (h : overC l o m new = some l') (hl : noML b l = true) (hn : noML b new = true) : noML b l' = true := by
 unfold overC at h
 split at h
 ·rename_i x y h1 h2
  cases h
  exact noML_append (noML_append (noML_takeC hl h1) hn) (noML_dropC hl h2)
 ·cases h
theorem setIn_noML {b : Nat} : ∀ {l : List SV} {o : Nat} {k : IntKind} {v : Int} {ps : List Prop} {l' : List SV}, setIn l o k v = some (ps, l') -> noML b l = true -> noML b l' = true
 | [], o, k, v, ps, l', h, ht => by simp [setIn] at h
 | c :: r, o, k, v, ps, l', h, ht => by
   simp only [noML, Bool.and_eq_true] at ht
   cases c <;> simp only [setIn, reduceCtorEq] at h <;> first
    | (rcases beq_some h with ⟨e, h⟩ | ⟨e, h⟩
       ·cases h
       ·simp only [Option.map_eq_some_iff] at h
        obtain ⟨⟨p2, l2⟩, h9, hy⟩ := h
        cases hy
        simp only [noML, Bool.and_eq_true]
        exact ⟨ht.1, setIn_noML h9 ht.2⟩)
    | (rcases cond_some h with ⟨e, h⟩ | ⟨e, h⟩
       ·rcases cond_some h with ⟨e2, h⟩ | ⟨e2, h⟩
        ·cases h; simp only [noML, Bool.and_eq_true]; exact ⟨rfl, ht.2⟩
        ·cases h
       ·simp only [Option.map_eq_some_iff] at h
        obtain ⟨⟨p2, l2⟩, h9, hy⟩ := h
        cases hy
        simp only [noML, Bool.and_eq_true]; exact ⟨rfl, setIn_noML h9 ht.2⟩)
theorem layC_noML {b : Nat} {l new l' : List SV} {o m : Nat} (h : layC l o m new = some l') (hl : noML b l = true) (hn : noML b new = true) : noML b l' = true := by
 unfold layC at h
 split at h
 ·rename_i c hc
  cases h
  exact overC_noML hc hl hn
 ·split at h
  ·simp only [Option.bind_eq_some_iff] at h
   obtain ⟨q, hq, h⟩ := h
   rcases beq_some h with ⟨e, h⟩ | ⟨e, h⟩
   ·obtain ⟨ps, h1, _⟩ := setD_ok h
    exact setIn_noML h1 hl
   ·cases h
  ·cases h
theorem fillC_noML {b : Nat} {place : Nat -> Option (Nat × Nat)} : ∀ {ps : List (Nat × SV)} {l l' : List SV}, fillC place l ps = some l' -> noML b l = true -> (∀ p ∈ ps, noM b p.2 = true) -> noML b l' = true
 | [], l, l', h, hl, _ => by simp [fillC] at h; subst h; exact hl
 | (i, v) :: r, l, l', h, hl, hp => by
   simp only [fillC] at h
   split at h
   ·cases h
   ·simp only [Option.bind_eq_some_iff] at h
    obtain ⟨new, hv, h⟩ := h
    rcases beq_some h with ⟨e, h⟩ | ⟨e, h⟩
    ·simp only [Option.bind_eq_some_iff] at h
     obtain ⟨c, hc, h⟩ := h
     exact fillC_noML h (layC_noML hc hl (valueCells_noM hv (hp (i, v) (by simp)))) (fun p hq => hp p (by simp [hq]))
    ·cases h
theorem zerosL_noML {b : Nat} (n : Nat) {z : List SV} (h : noML b z = true) : noML b (zerosL n z) = true := by
 induction n with
 | zero => rfl
 | succ n ih => exact noML_append h ih
theorem evP_noM {tm : List (Nat × SV)} {b : Nat} (hb : ∀ d sv, tm.lookup d = some sv -> sv = .top ∨ noM b sv = true) : ∀ {xs : List (Nat × Operand)} {vs : List (Nat × SV)}, evP tm xs = some vs -> ∀ p ∈ vs, noM b p.2 = true
 | [], vs, h => by simp [evP] at h; subst h; intro p hp; cases hp
 | (i, x) :: xs, vs, h => by
   simp only [evP] at h
   split at h
   ·rename_i v us h1 h2
    cases h
    intro p hp
    rcases List.mem_cons.1 hp with rfl | hp
    ·exact ev_noM hb h1
    ·exact evP_noM hb h2 p hp
   ·cases h
theorem newOp_noML (hT : TabOK P T) {op : Op} {b : Nat} {mk : Nat -> SV} {r : Row} (h : newOp T s op = some (mk, r)) (hb : ∀ d sv, s.tm.lookup d = some sv -> sv = .top ∨ noM b sv = true) : noML b r.cs = true := by
 cases op <;> simp only [newOp, reduceCtorEq] at h
 case alloc t =>
  simp only [Option.map_eq_some_iff] at h
  obtain ⟨i, hi, h⟩ := h
  cases h
  exact plainL_noML (hT t i hi).zero
 case box t x =>
  simp only [Option.bind_eq_some_iff, Option.map_eq_some_iff] at h
  obtain ⟨u, h1, l, h2, h⟩ := h
  cases h
  exact valueCells_noM h2 (ev_noM hb h1)
 case buildSlice t len parts =>
  simp only [Option.bind_eq_some_iff] at h
  obtain ⟨i, hi, e, he, ei, hei, ps', hps, h⟩ := h
  rcases cond_some h with ⟨ec, h⟩ | ⟨ec, h⟩
  ·simp only [Option.map_eq_some_iff] at h
   obtain ⟨l, hl, h⟩ := h
   cases h
   exact fillC_noML hl (zerosL_noML _ (plainL_noML (hT e ei hei).zero)) (evP_noM hb hps)
  ·cases h
theorem effOp_ok (hT : TabOK P T) (st : Sat W F nt ρ s a w) {o : Oper} {b : Nat} {e' e : Eff} (h : effOp T s b o.op = some e') (he : e ∈ sides e') (hp : All e.ps) (hb : isNew o.op = true -> Free s.rows b) (hbm : isNew o.op = true -> ∀ d sv, s.tm.lookup d = some sv -> sv = .top ∨ noM b sv = true) :
  ∃ (ρ' : Num) (w' : World), (∀ (K : Act -> World -> Prop) (Q : Exit -> Act -> World -> Prop), K (a.put o.dst (den ρ' e.v)) w' -> o.wp P a w K Q) /\ MemOK W F ρ' (putsL e.puts s.rows) w' /\ (∀ j, j ≠ b ∨ isNew o.op = false -> ρ' j = ρ j) /\ okd W F s.rows.length e.v /\ e.v ≠ .top := by
 have one : ∀ e1 : Eff, e1.alt = none -> e ∈ sides e1 -> e = e1 := fun e1 h1 h2 => by unfold sides at h2; rw [h1] at h2; simpa using h2
 unfold effOp at h
 split at h
 ·rename_i mk r hn
  cases h
  obtain rfl := one _ rfl he
  have hnew : isNew o.op = true := by
   cases hop : o.op <;> first | rfl | (simp [hop, newOp] at hn)
  have hfree := hb hnew
  obtain ⟨⟨c, c1, c2, c3, c4⟩, c5⟩ := newOp_ok hT st hn
  have hnm : noML b r.cs = true := newOp_noML hT hn (hbm hnew)
  refine ⟨ext ρ b (w.heap.size, 0), w.alloc (.cells c r.ty), fun K Q hK => ?_, ?_, fun j hj => ext_off _ _ _ j (by rcases hj with h | h; exact h; rw [hnew] at h; cases h), (c5 b _ hfree.lt).1, (c5 b _ hfree.lt).2⟩
  ·unfold Oper.wp
   rw [c4 b (ext ρ b (w.heap.size, 0)) (by rw [ext_new])]
   exact hK
  ·exact st.mem.fill hfree (newOp_ob hn) (.inl rfl) (l := c.toList) (rest := []) (by simp) c1 c2 hnm (fun _ => rfl) (fun h => absurd c3 h) (fun h => absurd c3 h)
 ·split at h
  ·rename_i ps c r hs
   cases h
   obtain rfl := one _ rfl he
   obtain ⟨w', g1, g2⟩ := storeOp_ok hT st hs hp
   refine ⟨ρ, w', fun K Q hK => ?_, g2, fun _ _ => rfl, trivial, fun h => by cases h⟩
   unfold Oper.wp
   rw [g1]
   exact hK
  ·obtain ⟨ρ', w', g1, g2, g3, g4, g5⟩ := listOp_ok hT st h he hp hb
   refine ⟨ρ', w', fun K Q hK => ?_, g2, g3, g4, g5⟩
   unfold Oper.wp
   rw [g1]
   exact hK
end Sx
end
section
namespace Sx
variable {W : World} {F : Nat -> Prop} {ρ ρ' : Num} {w : World}
def phOK (r : Row) : Bool := r.ob.isNone && Nat.blt 0 r.sz && (match r.cs with
 | [] => true
 | [.ints _ 0 []] => true
 | [.many _ 0 _] => true
 | _ => false)
def isNilV : SV -> Bool
 | .val v => isNilSlice v
 | _ => false
def nzAt (i : Nat) : List (TypeId × Nat × Row) -> List (Option Row) -> List (Option Row)
 | [], rows => rows
 | (ty, p, ph) :: l, rows => nzAt i l (match rows[i]? with
   | some (some r) => bif decide (r.ty = ty) && r.ob.isNone && phOK ph then (match r.cs[p]? with
     | some v => bif isNilV v then rows.set i (some ⟨r.ty, r.cs.set p (.on rows.length 0 true), r.sz, none⟩) ++ [some ph] else rows
     | none => rows) else rows
   | _ => rows)
def nzAll (t : List (TypeId × Nat × Row)) : List Nat -> List (Option Row) -> List (Option Row)
 | [], rows => rows
 | i :: is, rows => nzAll t is (nzAt i t rows)
def nz (rows : List (Option Row)) : List (Option Row) := match nilTab with
 | [] => rows
 | t => nzAll t (List.range rows.length) rows
def phOf (q : Row) : Row := ⟨q.ty, (match q.cs with
 | [.ints k _ _] => [.ints k 0 []]
 | [.many z _ f] => [.many z 0 f]
 | _ => []), q.sz, none⟩
def promoT (rt : List (Option Row)) : List (Nat × SV) -> SS -> SS
 | [], s => s
 | (d, v) :: l, s => promoT rt l (match v, s.tm.lookup d with
   | .on j _ _, some u => bif isNilV u then (match rt[j]? with
     | some (some q) => bif phOK (phOf q) then ⟨(d, .on s.rows.length 0 true) :: s.tm, s.rows ++ [some (phOf q)]⟩ else s
     | _ => s) else s
   | _, _ => s)
def prepS (t s : SS) : SS := promoT t.rows t.tm ⟨s.tm, nz s.rows⟩
theorem isNilV_ok {v : SV} (h : isNilV v = true) : v = .val (.slice none 0 0) := by
 cases v <;> simp [isNilV] at h
 unfold isNilSlice at h
 split at h
 ·rfl
 ·cases h
def addN (ρ : Num) (n : Nat) : Num := fun i => if i = n then (0, 0) else ρ i
theorem addN_lt {n i : Nat} (h : i < n) : addN ρ n i = ρ i := by simp only [addN]; rw [if_neg (by omega)]
theorem addN_eq {n : Nat} : addN ρ n n = (0, 0) := by simp [addN]
theorem MemOK.phantom {rows : List (Option Row)} (hm : MemOK W F ρ rows w) {q : Row} (hq : phOK q = true) : MemOK W F (addN ρ rows.length) (rows ++ [some q]) w := by
 simp only [phOK, Bool.and_eq_true] at hq
 obtain ⟨⟨q1, q2⟩, q3⟩ := hq
 have q2 := Nat.le_of_ble_eq_true q2
 have hasn : ¬ Has (addN ρ rows.length) rows.length q := by
  rintro ⟨_, h⟩
  rw [addN_eq] at h
  rcases h with h | h
  ·omega
  ·exact h rfl
 have get : ∀ {i : Nat} {r : Row}, (rows ++ [some q])[i]? = some (some r) -> (i < rows.length /\ rows[i]? = some (some r)) ∨ (i = rows.length /\ r = q) := by
  intro i r h
  by_cases hl : i < rows.length
  ·rw [List.getElem?_append_left hl] at h; exact .inl ⟨hl, h⟩
  ·rw [List.getElem?_append_right (by omega)] at h
   by_cases h0 : i - rows.length = 0
   ·rw [h0] at h; simp at h; exact .inr ⟨by omega, h.symm⟩
   ·rw [List.getElem?_eq_none (by simp; omega)] at h; cases h
 have cong : ∀ i, i < rows.length -> addN ρ rows.length i = ρ i := fun i h => addN_lt h
 refine ⟨hm.frame, hm.glob, fun i r hi => ?_, fun i j r u hi hj h1 h2 he => ?_, fun i r hi hh => ?_, ?_⟩
 ·rcases get hi with ⟨hl, hi⟩ | ⟨rfl, rfl⟩
  ·obtain ⟨c1, c2⟩ := hm.row i r hi
   exact ⟨c1.map (cong i hl) rfl rfl rfl (fun _ => rfl) (fun vs hv => CellsOK.congr cong c2 hv), okdL_mono (by simp) c2⟩
  ·refine ⟨.inr ⟨hasn, [], ?_, fun _ => rfl⟩, ?_⟩
   ·split at q3
    ·rename_i e; rw [e]; rfl
    ·rename_i k e; rw [e]; exact ⟨[], rfl, rfl⟩
    ·rename_i k f e; rw [e]; exact ⟨[], rfl, rfl⟩
    ·cases q3
   ·split at q3
    ·rename_i e; rw [e]; trivial
    ·rename_i k e; rw [e]; exact ⟨trivial, trivial⟩
    ·rename_i k f e; rw [e]; exact ⟨fun e he => absurd he (by omega), trivial⟩
    ·cases q3
 ·rcases get hi with ⟨hl, hi⟩ | ⟨rfl, rfl⟩
  ·rcases get hj with ⟨kl, hj⟩ | ⟨rfl, rfl⟩
   ·rw [cong i hl, cong j kl] at he
    exact hm.inj i j r u hi hj (h1.map (cong i hl) rfl rfl) (h2.map (cong j kl) rfl rfl) he
   ·exact absurd h2 hasn
  ·exact absurd h1 hasn
 ·rcases get hi with ⟨hl, hi⟩ | ⟨rfl, rfl⟩
  ·rw [cong i hl]; exact hm.mine i r hi (hh.map (cong i hl) rfl rfl)
  ·exact absurd hh hasn
 ·obtain ⟨φ, hφ⟩ := hm.obs
  refine ⟨φ, hφ.keep (fun i r hi ho => ?_) (Nat.le_refl _) (fun _ _ _ => rfl) (fun j u hj hu => .inr ?_)⟩
  ·rcases get hi with ⟨hl, hi⟩ | ⟨rfl, rfl⟩
   ·exact ⟨r, hi, rfl, cong i hl, fun vs hv => CellsOK.congr cong (hm.row i r hi).2 hv⟩
   ·exfalso
    cases hqo : r.ob with
    | none => exact ho hqo
    | some x => rw [hqo] at q1; cases q1
  ·rcases get hj with ⟨hl, hj⟩ | ⟨rfl, rfl⟩
   ·exact ⟨j, u, hj, hu.map (cong j hl) rfl rfl, by rw [cong j hl]⟩
   ·exact absurd hu hasn
theorem CellsOK.setN {b : Nat} (hb : ρ b = (0, 0)) : ∀ {l : List SV} {vs : List Value} {p : Nat}, CellsOK ρ l vs -> l[p]? = some (.val (.slice none 0 0)) -> CellsOK ρ (l.set p (.on b 0 true)) vs
 | [], vs, p, h, hp => by simp at hp
 | c :: l, vs, 0, h, hp => by
   simp at hp; subst hp
   obtain ⟨t, rfl, h2⟩ := h.one rfl
   have : den ρ (.val (.slice none 0 0)) = den ρ (.on b 0 true) := by simp [den, listV, hb]
   rw [this]
   exact .mk_one rfl h2
 | c :: l, vs, p + 1, h, hp => by
   simp only [List.getElem?_cons_succ] at hp
   simp only [List.set_cons_succ]
   cases hs : single c with
   | true =>
     obtain ⟨t, rfl, h2⟩ := h.one hs
     exact .mk_one hs (h2.setN hb hp)
   | false =>
     cases c <;> simp [single] at hs
     ·obtain ⟨v, t, rfl, h2⟩ := h
      exact ⟨v, t, rfl, h2.setN hb hp⟩
     ·obtain ⟨t, rfl, h2⟩ := h
      exact ⟨t, rfl, h2.setN hb hp⟩
     ·obtain ⟨t, rfl, h2⟩ := h
      exact ⟨t, rfl, h2.setN hb hp⟩
theorem okdL_set {n : Nat} {u : SV} (hu : okd W F n u) : ∀ {l : List SV} {p : Nat}, okdL W F n l -> okdL W F n (l.set p u)
 | [], p, h => by simpa using h
 | c :: l, 0, h => ⟨hu, h.2⟩
 | c :: l, p + 1, h => ⟨h.1, okdL_set hu h.2⟩
theorem MemOK.nilCell {rows : List (Option Row)} (hm : MemOK W F ρ rows w) {i p b : Nat} {r : Row} (hi : rows[i]? = some (some r)) (ho : r.ob = none) (hp : r.cs[p]? = some (.val (.slice none 0 0))) (hb : ρ b = (0, 0)) (hbl : b < rows.length) :
  MemOK W F ρ (rows.set i (some ⟨r.ty, r.cs.set p (.on b 0 true), r.sz, none⟩)) w := by
 have get : ∀ {j : Nat} {u : Row}, (rows.set i (some ⟨r.ty, r.cs.set p (.on b 0 true), r.sz, none⟩))[j]? = some (some u) -> (j = i /\ u = ⟨r.ty, r.cs.set p (.on b 0 true), r.sz, none⟩) ∨ (j ≠ i /\ rows[j]? = some (some u)) := by
  intro j u h
  by_cases hj : j = i
  ·subst hj
   rw [List.getElem?_set_self (List.getElem?_eq_some_iff.1 hi).1] at h
   cases h; exact .inl ⟨rfl, rfl⟩
  ·rw [List.getElem?_set_ne (fun e => hj e.symm)] at h; exact .inr ⟨hj, h⟩
 have has : ∀ {x : Row}, x = ⟨r.ty, r.cs.set p (.on b 0 true), r.sz, none⟩ -> Has ρ i x -> Has ρ i r := by
  rintro x rfl h; exact h.map rfl rfl ho.symm
 refine ⟨hm.frame, hm.glob, fun j u hj => ?_, fun j k u v hj hk h1 h2 he => ?_, fun j u hj hh => ?_, ?_⟩
 ·rw [List.length_set]
  rcases get hj with ⟨rfl, rfl⟩ | ⟨hji, hj⟩
  ·obtain ⟨c1, c2⟩ := hm.row j r hi
   exact ⟨c1.map rfl rfl rfl ho.symm (fun _ => rfl) (fun vs hv => hv.setN hb hp), okdL_set (u := .on b 0 true) hbl c2⟩
  ·exact hm.row j u hj
 ·rcases get hj with ⟨rfl, e1⟩ | ⟨hji, hj'⟩ <;> rcases get hk with ⟨rfl, e2⟩ | ⟨hki, hk'⟩
  ·rfl
  ·exact hm.inj _ k r v hi hk' (has e1 h1) h2 he
  ·exact hm.inj j _ u r hj' hi h1 (has e2 h2) he
  ·exact hm.inj j k u v hj' hk' h1 h2 he
 ·rcases get hj with ⟨rfl, e1⟩ | ⟨hji, hj⟩
  ·exact hm.mine j r hi (has e1 hh)
  ·exact hm.mine j u hj hh
 ·obtain ⟨φ, hφ⟩ := hm.obs
  refine ⟨φ, hφ.keep (fun j u hj ho' => ?_) (Nat.le_refl _) (fun _ _ _ => rfl) (fun j u hj hu => .inr ?_)⟩
  ·rcases get hj with ⟨rfl, rfl⟩ | ⟨hji, hj⟩
   ·exact absurd rfl ho'
   ·exact ⟨u, hj, rfl, rfl, fun _ h => h⟩
  ·rcases get hj with ⟨rfl, e1⟩ | ⟨hji, hj⟩
   ·exact ⟨j, r, hi, has e1 hu, rfl⟩
   ·exact ⟨j, u, hj, hu, rfl⟩
def More (W : World) (F : Nat -> Prop) (w : World) (ρ : Num) (rows rows' : List (Option Row)) : Prop :=
 ∃ ρ', MemOK W F ρ' rows' w /\ rows.length <= rows'.length /\ ∀ i, i < rows.length -> ρ' i = ρ i
theorem More.trans {a b c : List (Option Row)} (h : More W F w ρ a b) (k : ∀ ρ', MemOK W F ρ' b w -> More W F w ρ' b c) : More W F w ρ a c := by
 obtain ⟨ρ1, h1, h2, h3⟩ := h
 obtain ⟨ρ2, k1, k2, k3⟩ := k ρ1 h1
 exact ⟨ρ2, k1, Nat.le_trans h2 k2, fun i hi => (k3 i (Nat.lt_of_lt_of_le hi h2)).trans (h3 i hi)⟩
theorem nzAt_ok (i : Nat) : ∀ (t : List (TypeId × Nat × Row)) {rows : List (Option Row)} {ρ : Num}, MemOK W F ρ rows w -> More W F w ρ rows (nzAt i t rows)
 | [], rows, ρ, hm => ⟨ρ, hm, Nat.le_refl _, fun _ _ => rfl⟩
 | (ty, p, ph) :: l, rows, ρ, hm => by
   simp only [nzAt]
   refine More.trans (b := _) ?_ fun ρ' h => nzAt_ok i l h
   have self : More W F w ρ rows rows := ⟨ρ, hm, Nat.le_refl _, fun _ _ => rfl⟩
   split
   ·rename_i r hi
    cases hc : (decide (r.ty = ty) && r.ob.isNone && phOK ph) with
    | false => exact self
    | true =>
      simp only [cond_true]
      simp only [Bool.and_eq_true] at hc
      have ho : r.ob = none := by
       cases h : r.ob with
       | none => rfl
       | some x => rw [h] at hc; cases hc.1.2
      split
      ·rename_i v hv
       cases hn : isNilV v with
       | false => exact self
       | true =>
         simp only [cond_true]
         have := isNilV_ok hn
         subst this
         have hlt := (List.getElem?_eq_some_iff.1 hi).1
         have h1 := hm.phantom hc.2
         have h2 := h1.nilCell (i := i) (p := p) (b := rows.length) (r := r) (by rw [List.getElem?_append_left hlt]; exact hi) ho hv addN_eq (by simp)
         rw [List.set_append_left _ _ hlt] at h2
         exact ⟨_, h2, by simp, fun j hj => addN_lt hj⟩
      ·exact self
   ·exact self
theorem nzAll_ok (t : List (TypeId × Nat × Row)) : ∀ (l : List Nat) {rows : List (Option Row)} {ρ : Num}, MemOK W F ρ rows w -> More W F w ρ rows (nzAll t l rows)
 | [], rows, ρ, hm => ⟨ρ, hm, Nat.le_refl _, fun _ _ => rfl⟩
 | i :: l, rows, ρ, hm => (nzAt_ok i t hm).trans fun ρ' h => nzAll_ok t l h
theorem nz_ok {rows : List (Option Row)} (hm : MemOK W F ρ rows w) : More W F w ρ rows (nz rows) := by
 unfold nz
 split
 ·exact ⟨ρ, hm, Nat.le_refl _, fun _ _ => rfl⟩
 ·exact nzAll_ok _ _ hm
end Sx
end
section
namespace Sx
variable {P : Program} {W : World} {F : Nat -> Prop} {ρ ρ' ρ0 : Num} {s : SS} {a : Act} {w : World}
abbrev ORows := List (Option Row)
def kindL (R : ORows) (i : Nat) : Option IntKind := match rowOf R i with
 | some r => match r.cs with
   | .ints k _ _ :: _ => some k
   | c :: _ => (asI c).map fun q => q.1
   | [] => none
 | none => none
def capOK : SV -> List Prop
 | .sl _ _ len cap => [len <= cap]
 | .os _ _ len cap => [len <= cap]
 | _ => []
def isOwn : SV -> Option Nat
 | .sl i _ _ _ | .os i _ _ _ | .on i _ _ | .ow i _ _ _ _ _ => some i
 | _ => none
def own1 (R : ORows) : SV -> Bool
 | .on i _ _ | .ow i _ _ _ _ _ => match rowOf R i with
   | some r => Nat.beq r.sz 1
   | none => false
 | _ => true
def onow : SV -> SV
 | .on i len z => .ow i z 0 0 len false
 | c => c
def onos : SV -> SV
 | .sl i o len cap => .os i o len cap
 | c => onow c
def pickO (R : ORows) (k : IntKind) (c : SV) : SV := bif (sliceInts R k (onow c)).isSome then onow c else onos c
def readArgs (R : ORows) (v : Nat -> Value) : Nat -> List SV -> Option (List Prop × List SV)
 | _, [] => some ([], [])
 | n, c :: cs => match isOwn c with
   | some i => bif own1 R c then (kindL R i).bind fun k => (sliceInts R k (pickO R k c)).bind fun q => (readArgs R v (n + 1) cs).map fun p => (q.1 ++ capOK c ++ p.1, .rd k (v n) q.2.2 :: p.2) else none
   | none => (readArgs R v (n + 1) cs).map fun p => (p.1, c :: p.2)
def ownL : List SV -> List Nat
 | [] => []
 | c :: cs => match isOwn c with
   | some i => i :: ownL cs
   | none => ownL cs
theorem Reads.at (hf : Frm F W w) {F0 : Nat -> Prop} (h0 : ∀ b, F0 b -> F b ∨ W.heap.size <= b) {k : IntKind} {v : Value} {xs : List Int} (h : Reads W F k v xs) : Reads w F0 k v xs := by
 rcases h with ⟨a, cap, h1, h2, h3⟩ | ⟨b, off, cap, rfl, h0', h1, h2, h3⟩
 ·exact .inl ⟨a, cap, h1, h2, h3⟩
 ·refine .inr ⟨b, off, cap, rfl, h0', Nat.lt_of_lt_of_le h1 hf.size, fun h => ?_, fun j hj => by rw [World.cell?_of_block (w := W) (hf.block b h1 h2)]; exact h3 j hj⟩
  rcases h0 b h with h | h
  ·exact h2 h
  ·omega
theorem ReadsS.at (hf : Frm F W w) {F0 : Nat -> Prop} (h0 : ∀ b, F0 b -> F b ∨ W.heap.size <= b) {sz m : Nat} {v : Value} {f : Nat -> List Value} (h : ReadsS W F sz v m f) : ReadsS w F0 sz v m f := by
 refine ⟨h.1, ?_⟩
 rcases h.2 with ⟨a, cap, h1, h2, h3⟩ | ⟨b, off, cap, rfl, h0', h1, h2, h3⟩
 ·exact .inl ⟨a, cap, h1, h2, h3⟩
 ·refine .inr ⟨b, off, cap, rfl, h0', Nat.lt_of_lt_of_le h1 hf.size, fun h => ?_, fun e he j hj => by rw [World.cell?_of_block (w := W) (hf.block b h1 h2)]; exact h3 e he j hj⟩
  rcases h0 b h with h | h
  ·exact h2 h
  ·omega
theorem own_reads {R : ORows} (hm : MemOK W F ρ R w) {k : IntKind} {c : SV} {i n : Nat} {ps : List Prop} {xs : List Int} (hi : isOwn c = some i) (h : sliceInts R k c = some (ps, n, xs)) (hp : All ps) (hc : All (capOK c)) (hz : own1 R c = true) (oc : okd W F R.length c) {F0 : Nat -> Prop}
  (hF : ∀ q, R[i]? = some (some q) -> Has ρ i q -> ¬ F0 (ρ i).1) : Reads w F0 k (den ρ c) xs := by
 obtain ⟨g1, g2, g3⟩ := sliceInts_ok hm h hp oc
 subst g1
 -- its room
 have key : ∃ a cap, den ρ c = .slice a xs.length cap /\ (a = none -> cap = 0 /\ xs.length = 0) /\ (xs.length ≠ 0 -> ∃ off r, a = some ⟨(ρ i).1, off, none⟩ /\ xs.length <= cap /\ R[i]? = some (some r) /\ Has ρ i r) := by
  cases c <;> simp only [isOwn, reduceCtorEq, Option.some.injEq] at hi <;> subst hi
  case sl b off len cap =>
   simp only [sliceInts, Option.bind_eq_some_iff] at h
   obtain ⟨r, hr, d, hd, l, hl, h⟩ := h
   have hlen : len = xs.length := by
    rcases g3 with ⟨a, cp, e⟩ | ⟨s, e⟩
    ·simp [den] at e; exact e.2.1
    ·cases e
   subst hlen
   refine ⟨_, _, rfl, (fun h => by cases h), fun hne => ⟨off, r, rfl, hc _ (by simp [capOK]), rowOf_get hr, ?_⟩⟩
   rcases rowOf_block hm hr with ⟨hh, _⟩ | ⟨_, q3⟩
   ·exact hh
   ·obtain ⟨d1, d2⟩ := dropC_ok q3 hd
    obtain ⟨t1, t2⟩ := takeC_ok d1 hl
    have hz : (List.drop off ([] : List Value)).length = 0 := by simp
    rw [hz] at t2
    omega
  case os b off len cap =>
   simp only [sliceInts, Option.bind_eq_some_iff] at h
   obtain ⟨r, hr, q, hq, h⟩ := h
   have hlen : len = xs.length := by
    rcases g3 with ⟨a, cp, e⟩ | ⟨s, e⟩
    ·simp [den] at e; exact e.2.1
    ·cases e
   subst hlen
   rcases cond_some h with ⟨_, hx⟩ | ⟨_, hx⟩
   ·simp only [Option.some.injEq, Prod.mk.injEq] at hx
    obtain ⟨rfl, _, _⟩ := hx
    have h1 := hp (off + xs.length <= q.2.1) (by simp)
    refine ⟨_, _, rfl, (fun h => by cases h), fun hne => ⟨off, r, rfl, hc _ (by simp [capOK]), rowOf_get hr, ?_⟩⟩
    rcases rowOf_block hm hr with ⟨hh, _⟩ | ⟨_, q3⟩
    ·exact hh
    ·rw [onePiece_ok hq] at q3
     have := q3.length
     simp [widthL, width] at this
     omega
   ·cases hx
  case on b len z =>
   simp only [sliceInts, Option.bind_eq_some_iff] at h
   obtain ⟨⟨r, kk⟩, hl, q, hq, h⟩ := h
   obtain ⟨hr, _, hkk, hpos, _, hcp⟩ := onLen_ok hm hl
   have hlen : len = xs.length := by
    rcases g3 with ⟨a, cp, e⟩ | ⟨s, e⟩
    ·simp only [den, listV] at e
     split at e <;> cases e <;> rfl
    ·cases e
   subst hlen
   have hsz : r.sz = 1 := by
    simp only [own1, hr] at hz
    exact Nat.eq_of_beq_eq_true hz
   rcases cond_some h with ⟨_, hx⟩ | ⟨_, hx⟩
   ·simp only [Option.some.injEq, Prod.mk.injEq] at hx
    obtain ⟨rfl, _, _⟩ := hx
    have h1 := hp (xs.length = q.2.1) (by simp)
    have hop := onePiece_ok hq
    simp only at hop
    rw [hop] at hkk
    have hkk : kk = q.2.1 := by rw [hkk]; simp [widthL, width]
    have hcp := hcp xs.length (by rw [hsz]; omega)
    simp only [den, listV]
    split
    ·rename_i hzz
     refine ⟨_, _, rfl, fun _ => ⟨rfl, by rcases hcp with h | ⟨_, h⟩ <;> omega⟩, fun hne => ?_⟩
     rcases hcp with h | ⟨_, h⟩ <;> omega
    ·refine ⟨_, _, rfl, (fun h => by cases h), fun hne => ⟨0, r, rfl, by rcases hcp with h | ⟨_, h⟩ <;> omega, rowOf_get hr, ?_⟩⟩
     have := hpos (by omega)
     exact ⟨rowOf_ob hr, .inr this⟩
   ·cases hx
  case ow b z p o len m =>
   simp only [sliceInts, Option.bind_eq_some_iff] at h
   obtain ⟨⟨r, kk⟩, hl, q, hq, h⟩ := h
   obtain ⟨hr, _, hkk, hpos, _, hcp⟩ := onLen_ok hm hl
   have hlen : len = xs.length := by
    rcases g3 with ⟨a, cp, e⟩ | ⟨s, e⟩
    ·simp only [den, suffV] at e
     split at e <;> cases e <;> rfl
    ·cases e
   subst hlen
   have hsz : r.sz = 1 := by
    simp only [own1, hr] at hz
    exact Nat.eq_of_beq_eq_true hz
   rcases cond_some h with ⟨_, hx⟩ | ⟨_, hx⟩
   ·simp only [Option.some.injEq, Prod.mk.injEq] at hx
    obtain ⟨rfl, _, _⟩ := hx
    have h1 := hp (o + xs.length <= q.2.1) (by simp)
    have hop := onePiece_ok hq
    simp only at hop
    rw [hop] at hkk
    have hkk : kk = q.2.1 := by rw [hkk]; simp [widthL, width]
    have hcp := hcp (o + xs.length) (by rw [hsz]; omega)
    simp only [den, suffV]
    split
    ·rename_i hzz
     refine ⟨_, _, rfl, fun _ => ⟨rfl, by rcases hcp with h | ⟨_, h⟩ <;> omega⟩, fun hne => ?_⟩
     rcases hcp with h | ⟨_, h⟩ <;> omega
    ·refine ⟨_, _, rfl, (fun h => by cases h), fun hne => ⟨_, r, rfl, by (split <;> (rcases hcp with h | ⟨_, h⟩ <;> omega)), rowOf_get hr, ?_⟩⟩
     have := hpos (by omega)
     exact ⟨rowOf_ob hr, .inr this⟩
   ·cases hx
 obtain ⟨a, cap, e1, e2, e3⟩ := key
 by_cases h0 : xs.length = 0
 ·have hx : xs = [] := List.eq_nil_of_length_eq_zero h0
  exact .inl ⟨a, cap, e1, hx, fun h => (e2 h).1⟩
 ·obtain ⟨off, r, rfl, e4, e5, e6⟩ := e3 h0
  right
  rcases g2 with ⟨a, cp, e, hn⟩ | ⟨b2, o2, cp, e, hcell⟩ | ⟨s, e, _⟩
  ·exact absurd hn h0
  ·rw [e1] at e
   cases e
   exact ⟨_, _, _, e1, e4, hm.lt e5 e6, hF r e5 e6, hcell⟩
  ·rw [e1] at e; cases e
theorem onow_own (c : SV) : isOwn (onow c) = isOwn c := by cases c <;> rfl
theorem onow_own1 (R : ORows) (c : SV) : own1 R (onow c) = own1 R c := by cases c <;> rfl
theorem onow_cap {c : SV} {p : Prop} (h : p ∈ capOK (onow c)) : p ∈ capOK c := by cases c <;> first | exact h | (simp [onow, capOK] at h)
theorem onow_okd {c : SV} {n : Nat} (h : okd W F n c) : okd W F n (onow c) := by cases c <;> exact h
theorem onow_den (c : SV) : den ρ (onow c) = den ρ c := by
 cases c <;> first | rfl | skip
 rename_i i len z
 simp only [onow, den, suffV, listV]
 split
 ·rfl
 ·simp
theorem onos_own (c : SV) : isOwn (onos c) = isOwn c := by cases c <;> rfl
theorem onos_own1 (R : ORows) (c : SV) : own1 R (onos c) = own1 R c := by cases c <;> rfl
theorem onos_cap {c : SV} {p : Prop} (h : p ∈ capOK (onos c)) : p ∈ capOK c := by cases c <;> first | exact h | (simp [onos, onow, capOK] at h)
theorem onos_okd {c : SV} {n : Nat} (h : okd W F n c) : okd W F n (onos c) := by cases c <;> exact h
theorem onos_den (c : SV) : den ρ (onos c) = den ρ c := by
 cases c <;> first | rfl | (rename_i x y z; exact onow_den (.on x y z))
section
variable {R : ORows} {k : IntKind}
theorem pickO_is (c : SV) : pickO R k c = onow c ∨ pickO R k c = onos c := by
 unfold pickO
 cases (sliceInts R k (onow c)).isSome <;> simp
theorem pickO_own (c : SV) : isOwn (pickO R k c) = isOwn c := by rcases pickO_is (R := R) (k := k) c with h | h <;> rw [h] <;> first | exact onow_own c | exact onos_own c
theorem pickO_own1 (R' : ORows) (c : SV) : own1 R' (pickO R k c) = own1 R' c := by rcases pickO_is (R := R) (k := k) c with h | h <;> rw [h] <;> first | exact onow_own1 R' c | exact onos_own1 R' c
theorem pickO_cap {c : SV} {p : Prop} (h : p ∈ capOK (pickO R k c)) : p ∈ capOK c := by rcases pickO_is (R := R) (k := k) c with e | e <;> rw [e] at h <;> first | exact onow_cap h | exact onos_cap h
theorem pickO_okd {c : SV} {n : Nat} (h : okd W F n c) : okd W F n (pickO R k c) := by rcases pickO_is (R := R) (k := k) c with e | e <;> rw [e] <;> first | exact onow_okd h | exact onos_okd h
theorem pickO_den (c : SV) : den ρ (pickO R k c) = den ρ c := by rcases pickO_is (R := R) (k := k) c with e | e <;> rw [e] <;> first | exact onow_den c | exact onos_den c
end
theorem readArgs_den {R : ORows} {v : Nat -> Value} : ∀ {args args' : List SV} {n : Nat} {ps : List Prop}, readArgs R v n args = some (ps, args') -> (∀ i c, args[i]? = some c -> v (n + i) = den ρ c) -> denL ρ args' = denL ρ args
 | [], args', n, ps, h, hv => by simp only [readArgs, Option.some.injEq, Prod.mk.injEq] at h; obtain ⟨_, rfl⟩ := h; rfl
 | c :: cs, args', n, ps, h, hv => by
   simp only [readArgs] at h
   have hv' : ∀ i c', cs[i]? = some c' -> v (n + 1 + i) = den ρ c' := fun i c' hc => by have := hv (i + 1) c' (by simpa using hc); rw [<- this]; congr 1; omega
   cases hi : isOwn c with
   | none =>
     simp only [hi, Option.map_eq_some_iff] at h
     obtain ⟨⟨p2, l2⟩, hx, h⟩ := h
     cases h
     simp only [denL, readArgs_den hx hv']
   | some i =>
     simp only [hi] at h
     cases ho1 : own1 R c with
     | false => rw [ho1] at h; cases h
     | true =>
       rw [ho1] at h
       simp only [cond_true, Option.bind_eq_some_iff, Option.map_eq_some_iff] at h
       obtain ⟨k, hk, ⟨q1, q2, q3⟩, hq, ⟨p2, l2⟩, hx, h⟩ := h
       cases h
       have := hv 0 c (by simp)
       simp only [Nat.add_zero] at this
       simp only [denL, den, readArgs_den hx hv', this]
end Sx
end
end Go.Proofs.YtimjnajdpccjdaaDoor
