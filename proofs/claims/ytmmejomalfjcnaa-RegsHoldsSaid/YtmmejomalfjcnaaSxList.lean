/- Lists: append, make, copy, clear do what the executor says. No condition. -/
import Derived.Test.YtmmejomalfjcnaaSxMem2
namespace Go.Proofs.Ytmmejomalfjcnaa
open Go.RowKit
set_option linter.unusedVariables false
set_option linter.unusedSimpArgs false
namespace Sx
variable {P : Program} {T : Tab} {W : World} {F : Nat → Prop} {nt : Nat} {ρ ρ' : Num} {s : SS} {a : Act} {w : World}

theorem app_room (w : World) (t u ty e : TypeId) (i : TypeInfo) (ht : P.underlying t = some (.slice e)) (hu : (∃ x, P.underlying u = some (.slice x)) ∨ P.underlying u = some .string) (hi : P.info? e = some i)
    (g n cap : Nat) (cur : Array Value) (hg : w.heap[g]? = some (.cells cur e (0, 0))) (x : Value) (m : Nat) (news : List Value) (hx : (Builtin.lenOf x).run P w = .ok m w) (hf : (Builtin.firstCells i.size m x).run P w = .ok news.toArray w)
    (hl : news.length = m * i.size) (h1 : ∀ y ∈ news, y.oneCell' = true) (hroom : n + m ≤ cap) (hfit : n * i.size + news.length ≤ cur.size) :
    (Builtin.append_ #[t, u] ty #[.slice (some ⟨g, 0, none⟩) n cap, x]).run P w =
      .ok (.slice (some ⟨g, 0, none⟩) (n + m) cap) (w.setRow g (cur.toList.take (n * i.size) ++ news ++ cur.toList.drop (n * i.size + news.length)).toArray) := by
  have hst := run_storeCells_at P g (n * i.size) e news 0 cur w hg (by simpa using hfit) h1
  simp only [Nat.add_zero] at hst
  rcases hu with ⟨y, hu⟩ | hu <;> simp [Builtin.append_, run_underlying ht, run_underlying hu, sizeOf, typeInfo, hi, hx, hroom, hf, Addr.add_lit, hst]

theorem app_grow (w : World) (t u ty e : TypeId) (i : TypeInfo) (z : Value) (ht : P.underlying t = some (.slice e)) (hu : (∃ x, P.underlying u = some (.slice x)) ∨ P.underlying u = some .string) (hi : P.info? e = some i) (hz : i.zero = some z)
    (base : Option Addr) (n cap : Nat) (olds : List Value) (ho : (Builtin.firstCells i.size n (.slice base n cap)).run P w.drew = .ok olds.toArray w.drew) (x : Value) (m : Nat) (news : List Value) (hx : (Builtin.lenOf x).run P w = .ok m w) (hf : (Builtin.firstCells i.size m x).run P w.drew = .ok news.toArray w.drew)
    (hg : cap < n + m) (h63 : ((n + m : Nat) : Int) ≤ 9223372036854775807) (hfit : Builtin.nextslicecap (n + m) cap * i.bytes ≤ 281474976710656) :
    (Builtin.append_ #[t, u] ty #[.slice base n cap, x]).run P w =
      .ok (.slice (some ⟨w.heap.size, 0, none⟩) (n + m) (grownCap w (n + m) cap e)) (w.drew.alloc (.cells (olds ++ news ++ (Builtin.zeroCells z.cells (grownCap w (n + m) cap e - (n + m))).toList).toArray e)) := by
  have hn : ¬ (n + m ≤ cap) := by omega
  have h63' : ¬ (9223372036854775807 < ((n : Int) + (m : Int))) := by omega
  have h48' : ¬ (281474976710656 < Builtin.nextslicecap (n + m) cap * i.bytes) := by omega
  have key : (olds ++ news ++ (Builtin.zeroCells z.cells (grownCap w (n + m) cap e - (n + m))).toList).toArray = olds.toArray ++ news.toArray ++ Builtin.zeroCells z.cells (grownCap w (n + m) cap e - (n + m)) := by
    apply Array.ext'; simp
  rw [key]
  have hlen := hx
  rcases hu with ⟨y, hu⟩ | hu <;> simp [Builtin.append_, run_underlying ht, run_underlying hu, sizeOf, typeInfo, zeroValue, hi, hz, hx, hn, h63', h48', Question.forced, hf, ho, newRow, grownCap] <;> (congr 2; apply Array.ext'; simp [List.append_assoc])

theorem app_none (w : World) (t u ty e : TypeId) (i : TypeInfo) (ht : P.underlying t = some (.slice e)) (hu : (∃ x, P.underlying u = some (.slice x)) ∨ P.underlying u = some .string) (hi : P.info? e = some i)
    (x : Value) (hx : (Builtin.lenOf x).run P w = .ok 0 w) (hf : (Builtin.firstCells i.size 0 x).run P w = .ok #[] w) :
    (Builtin.append_ #[t, u] ty #[.slice none 0 0, x]).run P w = .ok (.slice none 0 0) w := by
  rcases hu with ⟨y, hu⟩ | hu <;> simp [Builtin.append_, run_underlying ht, run_underlying hu, sizeOf, typeInfo, hi, hx, hf]

theorem appTy_ok (hT : TabOK P T) {t u : TypeId} (h : appTy T t u = true) : (∃ x, P.underlying u = some (.slice x)) ∨ P.underlying u = some .string := by
  unfold appTy at h
  split at h
  · rename_i i hi
    cases hs : (slD i) with
    | some e => exact .inl ⟨e, slD_ok (hT u i hi) hs⟩
    | none => simp [hs] at h; exact .inr (isStrD_ok (hT u i hi) h)
  · cases h

theorem most_fits {n old bytes : Nat} (h : old < n) (hn : n ≤ most) (hb : bytes ≤ 1024) : Builtin.nextslicecap n old * bytes ≤ 281474976710656 ∧ (n : Int) ≤ 9223372036854775807 := by
  unfold most at hn
  refine ⟨?_, by omega⟩
  have h1 : Builtin.nextslicecap n old ≤ 2 * n := nextslicecap_le h
  have h2 : Builtin.nextslicecap n old * bytes ≤ 2 * n * 1024 := Nat.mul_le_mul h1 hb
  omega
/-- The cells of what is appended, in any world that has them. -/
def Gives (P : Program) (w : World) (sz : Nat) (u : Value) (m : Nat) (news : List Value) : Prop :=
  news.length = m * sz ∧ (∀ y ∈ news, y.oneCell' = true) ∧ ∀ w' : World, (∀ a v, w.cell? a = some v → w'.cell? a = some v) → (Builtin.lenOf u).run P w' = .ok m w' ∧ (Builtin.firstCells sz m u).run P w' = .ok news.toArray w'

theorem grown_cells {z : Value} {sz : Nat} (hz : z.cells.size = sz) (w : World) (need old : Nat) (e : TypeId) {l : List Value} (hl : l.length = need * sz) :
    ((l ++ (Builtin.zeroCells z.cells (grownCap w need old e - need)).toList).toArray).size = grownCap w need old e * sz := by
  have hge := grownCap_ge w need old e
  simp only [List.size_toArray, List.length_append, hl, Array.length_toList, size_zeroCells, hz, ← Nat.add_mul]
  congr 1; omega

theorem app_nil (hT : TabOK P T) {rows : List (Option Row)} (hm : MemOK W F ρ rows w) {t u ty e : TypeId} {ei : TyI} (ht : P.underlying t = some (.slice e)) (hu : (∃ x, P.underlying u = some (.slice x)) ∨ P.underlying u = some .string) (hei : T.at e = some ei)
    (hby : ei.bytes ≤ 1024) (hsz : 0 < ei.size) (hzw : widthL ei.zero = ei.size) {x : Value} {m b : Nat} {news : List Value} (hx : Gives P w ei.size x m news) (hb : Free rows b) {cs : List SV} (hcs : CellsOK ρ cs news) (ho : okdL W F rows.length cs) (hn : noML b cs = true) (hmost : m ≤ most) :
    ∃ ρ' w', (Builtin.append_ #[t, u] ty #[.slice none 0 0, x]).run P w = .ok (den ρ' (.on b m true)) w' ∧ MemOK W F ρ' (rows.set b (some ⟨e, cs, ei.size⟩)) w' ∧ ∀ j, j ≠ b → ρ' j = ρ j := by
  obtain ⟨it, z, h1, h2, h3, h4, h5, _⟩ := (hT e ei hei).info
  obtain ⟨x1, x2, x3⟩ := hx
  by_cases h0 : m = 0
  · subst h0
    have hnil : news = [] := List.eq_nil_of_length_eq_zero (by simpa using x1)
    subst hnil
    obtain ⟨y1, y2⟩ := x3 w (fun _ _ h => h)
    have hr := app_none (P := P) w t u ty e it ht hu h1 x y1 (by rw [h2]; exact y2)
    have hoff := ext_off ρ b (0, 0)
    refine ⟨ext ρ b (0, 0), w, by rw [hr]; simp [den, ext_new, listV], ?_, hoff⟩
    refine hm.gen (b := b) (by simp) hm.frame hoff (fun i r hib hi => ?_) (fun r hi => ?_)
    · rw [List.getElem?_set_ne (by omega)] at hi
      exact ⟨hi, hb.off i r hi, fun _ => rfl⟩
    · rw [List.getElem?_set_self hb.lt] at hi
      cases hi
      have hno : ¬ Has (ext ρ b (0, 0)) b ⟨e, cs, ei.size⟩ := by unfold Has; rw [ext_new]; simp; omega
      exact ⟨.inr ⟨hno, hcs.off hoff hn⟩, ho, fun h => absurd h hno⟩
  · obtain ⟨y1, _⟩ := x3 w (fun _ _ h => h)
    obtain ⟨_, y2⟩ := x3 w.drew (fun _ _ h => h)
    obtain ⟨f1, f2⟩ := most_fits (n := m) (old := 0) (by omega) hmost hby
    have hz : z.cells.size = ei.size := by rw [← Array.length_toList, h5, widthL_cells, hzw]
    have hr := app_grow (P := P) w t u ty e it z ht hu h1 h4 none 0 0 [] (by simp [Builtin.firstCells]) x m news y1 (by rw [h2]; exact y2) (by omega) (by simpa using f2) (by rw [h3]; simpa using f1)
    have hge := grownCap_ge w (0 + m) 0 e
    refine ⟨ext ρ b (w.heap.size, grownCap w (0 + m) 0 e), _, ?_, hm.fill hb (r := ⟨e, cs, ei.size⟩) (c := ([] ++ news ++ (Builtin.zeroCells z.cells (grownCap w (0 + m) 0 e - (0 + m))).toList).toArray) (l := news) (rest := (Builtin.zeroCells z.cells (grownCap w (0 + m) 0 e - (0 + m))).toList) (cap := grownCap w (0 + m) 0 e) (.inr rfl) (by simp) hcs ho hn (fun h => by simp at h; omega) (fun _ => ?_) (fun _ => by omega), ext_off _ _ _⟩
    · rw [hr]
      simp only [den, ext_new]
      rw [listV_some (show grownCap w (0 + m) 0 e ≠ 0 by omega)]
      simp
    · have := grown_cells hz w (0 + m) 0 e (l := news) (by rw [x1]; simp)
      simpa using this

theorem app_on (hT : TabOK P T) {rows : List (Option Row)} (hm : MemOK W F ρ rows w) {t u ty e : TypeId} {ei : TyI} (ht : P.underlying t = some (.slice e)) (hu : (∃ x, P.underlying u = some (.slice x)) ∨ P.underlying u = some .string) (hei : T.at e = some ei)
    (hby : ei.bytes ≤ 1024) (hsz : 0 < ei.size) (hzw : widthL ei.zero = ei.size) {x : Value} {m b j len : Nat} {z0 : Bool} {r : Row} (hr : rowOf rows j = some r) (hrs : r.sz = ei.size) (hrt : r.ty = e) (hlen : widthL r.cs = len * ei.size)
    {news : List Value} (hx : Gives P w ei.size x m news) (hb : Free rows b) {cs : List SV} (hcs : ∀ l, CellsOK ρ r.cs l → CellsOK ρ cs (l ++ news)) (ho : okdL W F rows.length cs) (hn : noML b cs = true) (hmost : len + m ≤ most) :
    ∃ ρ' w', (Builtin.append_ #[t, u] ty #[listV (ρ j) len z0, x]).run P w = .ok (den ρ' (.on b (len + m) z0)) w' ∧ MemOK W F ρ' ((rows.set j none).set b (some ⟨e, cs, ei.size⟩)) w' ∧ ∀ j, j ≠ b → ρ' j = ρ j := by
  obtain ⟨it, z, h1, h2, h3, h4, h5, _⟩ := (hT e ei hei).info
  obtain ⟨x1, x2, x3⟩ := hx
  have hz : z.cells.size = ei.size := by rw [← Array.length_toList, h5, widthL_cells, hzw]
  have hjr := rowOf_get hr
  have hjb : j ≠ b := by rintro rfl; rw [hb.none] at hjr; cases hjr
  have hjl := (List.getElem?_eq_some_iff.1 hjr).1
  -- the list given up
  have hkill : MemOK W F ρ (rows.set j none) w := by
    refine ⟨hm.frame, hm.glob, fun i q hi => ?_, fun i k q1 q2 hi hk => ?_, fun i q hi => ?_⟩
    · by_cases hij : i = j
      · subst hij; rw [List.getElem?_set_self hjl] at hi; cases hi
      · rw [List.getElem?_set_ne (by omega)] at hi
        simpa using hm.row i q hi
    · by_cases hij : i = j
      · subst hij; rw [List.getElem?_set_self hjl] at hi; cases hi
      · by_cases hkj : k = j
        · subst hkj; rw [List.getElem?_set_self hjl] at hk; cases hk
        · rw [List.getElem?_set_ne (by omega)] at hi hk
          exact hm.inj i k q1 q2 hi hk
    · by_cases hij : i = j
      · subst hij; rw [List.getElem?_set_self hjl] at hi; cases hi
      · rw [List.getElem?_set_ne (by omega)] at hi
        exact hm.mine i q hi
  have hfree : Free (rows.set j none) b := by
    refine ⟨by simpa using hb.lt, by rw [List.getElem?_set_ne (by omega)]; exact hb.none, fun i q hi => ?_⟩
    by_cases hij : i = j
    · subst hij; rw [List.getElem?_set_self hjl] at hi; cases hi
    · rw [List.getElem?_set_ne (by omega)] at hi; exact hb.off i q hi
  have ho' : okdL W F (rows.set j none).length cs := by simpa using ho
  obtain ⟨y1, y2⟩ := x3 w (fun _ _ h => h)
  obtain ⟨_, y3⟩ := x3 w.drew (fun _ _ h => h)
  -- where it must grow
  have grow : ∀ (base : Option Addr) (cap : Nat) (l : List Value), l.length = len * ei.size → (Builtin.firstCells ei.size len (.slice base len cap)).run P w.drew = .ok l.toArray w.drew → cap < len + m → CellsOK ρ r.cs l →
      ∃ ρ' w', (Builtin.append_ #[t, u] ty #[.slice base len cap, x]).run P w = .ok (den ρ' (.on b (len + m) z0)) w' ∧ MemOK W F ρ' ((rows.set j none).set b (some ⟨e, cs, ei.size⟩)) w' ∧ ∀ j, j ≠ b → ρ' j = ρ j := by
    intro base cap l hl hf hg hc
    obtain ⟨f1, f2⟩ := most_fits (n := len + m) (old := cap) hg hmost hby
    have hrun := app_grow (P := P) w t u ty e it z ht hu h1 h4 base len cap l (by rw [h2]; exact hf) x m news y1 (by rw [h2]; exact y3) hg f2 (by rw [h3]; exact f1)
    have hge := grownCap_ge w (len + m) cap e
    refine ⟨ext ρ b (w.heap.size, grownCap w (len + m) cap e), _, ?_, hkill.fill hfree (r := ⟨e, cs, ei.size⟩) (c := (l ++ news ++ (Builtin.zeroCells z.cells (grownCap w (len + m) cap e - (len + m))).toList).toArray) (l := l ++ news) (rest := (Builtin.zeroCells z.cells (grownCap w (len + m) cap e - (len + m))).toList) (cap := grownCap w (len + m) cap e) (.inr rfl) (by simp) (hcs l hc) ho' hn (fun h => by simp at h; omega) (fun _ => ?_) (fun _ => by omega), ext_off _ _ _⟩
    · rw [hrun]
      simp only [den, ext_new]
      rw [listV_some (show grownCap w (len + m) cap e ≠ 0 by omega)]
    · exact grown_cells hz w (len + m) cap e (l := l ++ news) (by rw [List.length_append, hl, x1, Nat.add_mul])
  rcases rowOf_block hm hr with ⟨hh, c, l, rest, g1, g2, g3, g4, g5⟩ | ⟨hh, g3⟩
  · have hk : (ρ j).2 ≠ 0 := by rcases hh with h | h; omega; exact h
    rw [listV_some hk]
    have hl := g3.length
    rw [hlen] at hl
    have hcz := g5 (by omega)
    rw [hrs] at hcz
    have hcl : c.size = l.length + rest.length := by rw [← Array.length_toList, g2, List.length_append]
    by_cases hroom : len + m ≤ (ρ j).2
    · rw [hrt] at g1
      have hfit : len * ei.size + news.length ≤ c.size := by rw [x1, hcz, ← Nat.add_mul]; exact Nat.mul_le_mul_right _ hroom
      have hrun := app_room (P := P) w t u ty e it ht hu h1 (ρ j).1 len (ρ j).2 c g1 x m news y1 (by rw [h2]; exact y2) (by rw [h2]; exact x1) x2 hroom (by rw [h2]; exact hfit)
      rw [h2] at hrun
      have hcells : c.toList.take (len * ei.size) ++ news ++ c.toList.drop (len * ei.size + news.length) = (l ++ news) ++ rest.drop news.length := by
        rw [g2, List.take_append_of_le_length (by omega), List.take_of_length_le (by omega), ← hl, List.drop_append, List.drop_eq_nil_of_le (by omega)]
        simp
      rw [hcells] at hrun
      have hoff := ext_off ρ b (ρ j)
      have hmj := hm.mine j r hjr hh
      refine ⟨ext ρ b (ρ j), w.setRow (ρ j).1 (l ++ news ++ rest.drop news.length).toArray, ?_, ?_, hoff⟩
      · rw [hrun]; simp only [den, ext_new]; rw [listV_some hk]
      · refine hkill.gen (b := b) (by simp) ⟨hm.frame.os, hm.frame.tape, hm.frame.output, by simpa using hm.frame.size, fun k hk hf => ?_⟩ hoff (fun i q hib hi => ?_) (fun q hi => ?_)
        · rw [setRow_other, hm.frame.block k hk hf]
          rintro rfl
          rcases hmj with h | h
          · exact hf h
          · omega
        · rw [List.getElem?_set_ne (by omega)] at hi
          refine ⟨hi, hfree.off i q hi, fun hq => setRow_other _ _ _ _ (fun he => ?_)⟩
          have hij : i ≠ j := by rintro rfl; rw [List.getElem?_set_self hjl] at hi; cases hi
          rw [List.getElem?_set_ne (by omega)] at hi
          exact hij (hm.inj i j q r hi hjr hq hh he)
        · rw [List.getElem?_set_self hfree.lt] at hi
          cases hi
          have hhas : Has (ext ρ b (ρ j)) b ⟨e, cs, ei.size⟩ := by unfold Has; rw [ext_new]; exact .inr hk
          refine ⟨.inl ⟨hhas, (l ++ news ++ rest.drop news.length).toArray, l ++ news, rest.drop news.length, ?_, by simp, (hcs l g3).off hoff hn, fun h => by simp at h; omega, fun _ => ?_⟩, ho', fun _ => ⟨by rw [ext_new]; exact hmj, fun i q hib hi hq => ?_⟩⟩
          · rw [ext_new]; exact setRow_heap _ _ _ _ _ _ g1
          · rw [ext_new, ← hcz]
            simp
            have := hfit
            omega
          · rw [List.getElem?_set_ne (by omega)] at hi
            rw [ext_new]
            have hij : i ≠ j := by rintro rfl; rw [List.getElem?_set_self hjl] at hi; cases hi
            rw [List.getElem?_set_ne (by omega)] at hi
            exact fun he => hij (hm.inj i j q r hi hjr hq hh he)
    · refine grow (some ⟨(ρ j).1, 0, none⟩) (ρ j).2 l (by omega) ?_ (by omega) g3
      have hl2 := run_loadCells_list (P := P) w.drew ⟨(ρ j).1, 0, none⟩ l (fun k v hv => by
        rw [addr_add, Nat.zero_add]
        have hk := (List.getElem?_eq_some_iff.1 hv).1
        have : c[k]? = c.toList[k]? := by simp
        show w.cell? _ = _
        simp only [World.cell?, g1]
        simp only [Option.isSome_none, Bool.false_eq_true, if_false]
        rw [this, g2, List.getElem?_append_left hk, hv])
      rw [hl] at hl2
      simp [Builtin.firstCells, hl2]
  · have hk : (ρ j).2 = 0 := by
      unfold Has at hh
      cases hq : (ρ j).2 with
      | zero => rfl
      | succ k => exact absurd (.inr (by omega)) hh
    have hl0 := g3.length
    rw [hlen] at hl0
    have hlen0 : len = 0 := by
      have : len * ei.size = 0 := by simpa using hl0.symm
      rcases Nat.mul_eq_zero.1 this with h | h
      · exact h
      · omega
    subst hlen0
    by_cases h0 : m = 0
    · subst h0
      have hnil : news = [] := List.eq_nil_of_length_eq_zero (by simpa using x1)
      subst hnil
      have hoff := ext_off ρ b (ρ j)
      have hrun : (Builtin.append_ #[t, u] ty #[listV (ρ j) 0 z0, x]).run P w = .ok (listV (ρ j) 0 z0) w := by
        unfold listV
        split
        · exact app_none (P := P) w t u ty e it ht hu h1 x y1 (by rw [h2]; exact y2)
        · rw [hk]
          rcases hu with ⟨y, hu⟩ | hu <;> simp [Builtin.append_, run_underlying ht, run_underlying hu, sizeOf, typeInfo, h1, h2, y1, y2, storeCells]
      refine ⟨ext ρ b (ρ j), w, by rw [hrun]; simp [den, ext_new], ?_, hoff⟩
      refine hkill.gen (b := b) (by simp) hm.frame hoff (fun i r hib hi => ?_) (fun r hi => ?_)
      · rw [List.getElem?_set_ne (by omega)] at hi
        exact ⟨hi, hfree.off i r hi, fun _ => rfl⟩
      · rw [List.getElem?_set_self hfree.lt] at hi
        cases hi
        have hno : ¬ Has (ext ρ b (ρ j)) b ⟨e, cs, ei.size⟩ := by unfold Has; rw [ext_new, hk]; simp; omega
        have := hcs [] g3
        exact ⟨.inr ⟨hno, by simpa using this.off hoff hn⟩, ho', fun h => absurd h hno⟩
    · unfold listV
      split
      · exact grow none 0 [] (by simp) (by simp [Builtin.firstCells]) (by omega) g3
      · rw [hk]
        refine grow (some ⟨(ρ j).1, 0, none⟩) 0 [] (by simp) ?_ (by omega) g3
        have := run_loadCells_list (P := P) w.drew ⟨(ρ j).1, 0, none⟩ [] (by simp)
        simp at this
        simp [Builtin.firstCells, this]
end Sx
end Go.Proofs.Ytmmejomalfjcnaa
