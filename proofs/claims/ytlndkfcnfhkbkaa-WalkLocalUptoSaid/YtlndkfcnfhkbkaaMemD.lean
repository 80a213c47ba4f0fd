/- A memory's pages copied, handed out. No condition beyond lengths. -/
import Derived.Test.YtlndkfcnfhkbkaaMemC
namespace Go.Proofs.Ytlndkfcnfhkbkaa
open Go.RowKit Sx
set_option linter.unusedVariables false
set_option linter.unusedSimpArgs false
set_option maxRecDepth 100000
set_option maxHeartbeats 4000000
theorem reTy {W : World} {F : Nat → Prop} {ρ : Num} {rows : List (Option Row)} {w : World} (hm : MemOK W F ρ rows w) {i : Nat} {r : Row} (hi : rows[i]? = some (some r)) (hr : r.ob ≠ none) (t1 : TypeId) : MemOK W F ρ (rows.set i (some ⟨t1, r.cs, r.sz, r.ob⟩)) w := by
  have get : ∀ {j : Nat} {q : Row}, (rows.set i (some ⟨t1, r.cs, r.sz, r.ob⟩))[j]? = some (some q) → ∃ q', rows[j]? = some (some q') ∧ q'.cs = q.cs ∧ q'.sz = q.sz ∧ q'.ob = q.ob ∧ (q.ob = none → q' = q) := by
    intro j q h
    rcases get_set h with ⟨rfl, rfl⟩ | ⟨_, h⟩
    · exact ⟨r, hi, rfl, rfl, rfl, fun h => absurd h hr⟩
    · exact ⟨q, h, rfl, rfl, rfl, fun _ => rfl⟩
  have has : ∀ {j : Nat} {q q' : Row}, q'.sz = q.sz → q'.ob = q.ob → Has ρ j q → Has ρ j q' := fun h1 h2 h => h.map rfl h1.symm h2.symm
  refine ⟨hm.frame, hm.glob, fun j q hj => ?_, fun j l q u hj hl h1 h2 he => ?_, fun j q hj hh => ?_, ?_⟩
  · obtain ⟨q', g1, g2, g3, g4, g5⟩ := get hj
    obtain ⟨c1, c2⟩ := hm.row j q' g1
    rw [g2] at c2
    refine ⟨?_, by simpa using c2⟩
    by_cases ho : q.ob = none
    · rw [← g5 ho]; exact c1
    · rcases c1 with ⟨h, _⟩ | ⟨h, gs, h3, h4⟩
      · exact absurd (g4 ▸ h.1) ho
      · exact .inr ⟨fun h => ho h.1, gs, by rw [← g2]; exact h3, fun h => absurd h ho⟩
  · obtain ⟨q', g1, g2, g3, g4, g5⟩ := get hj
    obtain ⟨u', k1, k2, k3, k4, k5⟩ := get hl
    exact hm.inj j l q' u' g1 k1 (has g3 g4 h1) (has k3 k4 h2) he
  · obtain ⟨q', g1, g2, g3, g4, g5⟩ := get hj
    exact hm.mine j q' g1 (has g3 g4 hh)
  · obtain ⟨φ, hφ⟩ := hm.obs
    refine ⟨φ, hφ.keep (fun j q hj _ => ?_) (Nat.le_refl _) (fun _ _ _ => rfl) (fun j q hj hq => .inr ?_)⟩
    · obtain ⟨q', g1, g2, g3, g4, g5⟩ := get hj
      exact ⟨q', g1, g4, rfl, fun gs h => by rw [← g2]; exact h⟩
    · obtain ⟨q', g1, g2, g3, g4, g5⟩ := get hj
      exact ⟨j, q', g1, has g3 g4 hq, rfl⟩
theorem atT_ok (t : Bool) (k : Int) (a b ta tb : Nat) (m : Int) (ps qs : List (List Int)) (h0 : a = ps.length) (h1 : b = qs.length) (h2 : t = true) (h3 : 0 ≤ k) (h4 : k < ps.length) : SemCall Try.prog 93 [.ptr 0 0, .agg [.bool t, .int .i64 k]] [some ⟨181, [.on 1 a false, .on 2 b false, .int .i64 m], 0, none⟩, some ⟨0, [], 0, some (.fam (.boxes 257 183 .u32 1024 ta ps []))⟩, some ⟨0, [], 0, some (.fam (.boxes 257 183 .u32 1024 tb qs []))⟩] (AltK [⟨none, .ptr 3 0, [some ⟨181, [.on 1 a false, .on 2 b false, .int .i64 m], 0, none⟩, some ⟨1, [.ptr 3 0], 0, some (.fam (.boxes 257 183 .u32 1024 ta ps [k.toNat]))⟩, some ⟨0, [], 0, some (.fam (.boxes 257 183 .u32 1024 tb qs []))⟩, some ⟨257, [.ints .u32 1024 (ps.getD k.toNat [])], 0, none⟩]⟩]) := by
  intro W F ρ w hm ho
  obtain ⟨f, g, ⟨c1, f1, f2⟩, ⟨c2, g1, g2⟩, hc⟩ := at_world hm rfl rfl rfl h0 h1 t k
  refine hc.mono ?_
  rintro e w' ⟨rfl, hfr⟩
  have hm' := hm.step hfr
  have keep : ∀ i c, w.heap[(ρ i).1]? = some (.cells c 183 (0, 0)) → w'.heap[(ρ i).1]? = some (.cells c 183 (0, 0)) := fun i c h => by
    rw [hfr.block _ (Array.getElem?_eq_some_iff.1 h).1 id]; exact h
  obtain ⟨ρ', r1, ⟨c, r2, r3⟩, r4⟩ := hm'.openBox (i := 1) (e := k.toNat) rfl (by omega) (by simp)
  refine ⟨ρ', _, _, ⟨_, List.mem_singleton.2 rfl, trivial, rfl, rfl⟩, ?_, ?_, reTy r4 (i := 1) rfl (by simp) 1, by simp, r1⟩
  · rw [keep 1 c1 f1] at r2
    obtain rfl : c1 = c := by simpa using r2
    rw [f2 _ (by omega)] at r3
    unfold atV
    subst h2
    rw [if_pos rfl, if_pos ⟨by omega, by omega⟩, Option.some.inj r3]
    rfl
  · show 3 < 4; omega
def c_atT : ECon
  | [.ptr 0 0, .agg [.bool t, .int .i64 k]], [some ⟨181, [.on 1 a false, .on 2 b false, .int .i64 m], 0, none⟩, some ⟨0, [], 0, some (.fam (.boxes 257 183 .u32 1024 ta ps []))⟩, some ⟨0, [], 0, some (.fam (.boxes 257 183 .u32 1024 tb qs []))⟩] => some ([a = ps.length, b = qs.length, t = true, 0 ≤ k, k < ps.length], [⟨none, .ptr 3 0, [some ⟨181, [.on 1 a false, .on 2 b false, .int .i64 m], 0, none⟩, some ⟨1, [.ptr 3 0], 0, some (.fam (.boxes 257 183 .u32 1024 ta ps [k.toNat]))⟩, some ⟨0, [], 0, some (.fam (.boxes 257 183 .u32 1024 tb qs []))⟩, some ⟨257, [.ints .u32 1024 (ps.getD k.toNat [])], 0, none⟩]⟩])
  | _, _ => none
theorem c_atT_e : EEntry Try.prog 93 c_atT := by
  refine ⟨callFunc_ok Try.func93 (by kernel_rfl) (by kernel_rfl), fun args rows ps alts h hp => ?_⟩
  unfold c_atT at h
  split at h
  · cases h; exact atT_ok _ _ _ _ _ _ _ _ _ (hp _ (List.mem_of_getElem? (i := 0) rfl)) (hp _ (List.mem_of_getElem? (i := 1) rfl)) (hp _ (List.mem_of_getElem? (i := 2) rfl)) (hp _ (List.mem_of_getElem? (i := 3) rfl)) (hp _ (List.mem_of_getElem? (i := 4) rfl))
  · cases h
theorem atF_ok (t : Bool) (k : Int) (a b ta tb : Nat) (m : Int) (ps qs : List (List Int)) (h0 : a = ps.length) (h1 : b = qs.length) (h2 : t = false) (h3 : 0 ≤ k) (h4 : k < qs.length) : SemCall Try.prog 93 [.ptr 0 0, .agg [.bool t, .int .i64 k]] [some ⟨181, [.on 1 a false, .on 2 b false, .int .i64 m], 0, none⟩, some ⟨0, [], 0, some (.fam (.boxes 257 183 .u32 1024 ta ps []))⟩, some ⟨0, [], 0, some (.fam (.boxes 257 183 .u32 1024 tb qs []))⟩] (AltK [⟨none, .ptr 3 0, [some ⟨181, [.on 1 a false, .on 2 b false, .int .i64 m], 0, none⟩, some ⟨1, [], 0, some (.fam (.boxes 257 183 .u32 1024 ta ps []))⟩, some ⟨0, [.ptr 3 0], 0, some (.fam (.boxes 257 183 .u32 1024 tb qs [k.toNat]))⟩, some ⟨257, [.ints .u32 1024 (qs.getD k.toNat [])], 0, none⟩]⟩]) := by
  intro W F ρ w hm ho
  obtain ⟨f, g, ⟨c1, f1, f2⟩, ⟨c2, g1, g2⟩, hc⟩ := at_world hm rfl rfl rfl h0 h1 t k
  refine hc.mono ?_
  rintro e w' ⟨rfl, hfr⟩
  have hm' := hm.step hfr
  have keep : ∀ i c, w.heap[(ρ i).1]? = some (.cells c 183 (0, 0)) → w'.heap[(ρ i).1]? = some (.cells c 183 (0, 0)) := fun i c h => by
    rw [hfr.block _ (Array.getElem?_eq_some_iff.1 h).1 id]; exact h
  obtain ⟨ρ', r1, ⟨c, r2, r3⟩, r4⟩ := hm'.openBox (i := 2) (e := k.toNat) rfl (by omega) (by simp)
  refine ⟨ρ', _, _, ⟨_, List.mem_singleton.2 rfl, trivial, rfl, rfl⟩, ?_, ?_, reTy r4 (i := 1) rfl (by simp) 1, by simp, r1⟩
  · rw [keep 2 c2 g1] at r2
    obtain rfl : c2 = c := by simpa using r2
    rw [g2 _ (by omega)] at r3
    unfold atV
    subst h2
    rw [if_neg (by simp), if_pos ⟨by omega, by omega⟩, Option.some.inj r3]
    rfl
  · show 3 < 4; omega
def c_atF : ECon
  | [.ptr 0 0, .agg [.bool t, .int .i64 k]], [some ⟨181, [.on 1 a false, .on 2 b false, .int .i64 m], 0, none⟩, some ⟨0, [], 0, some (.fam (.boxes 257 183 .u32 1024 ta ps []))⟩, some ⟨0, [], 0, some (.fam (.boxes 257 183 .u32 1024 tb qs []))⟩] => some ([a = ps.length, b = qs.length, t = false, 0 ≤ k, k < qs.length], [⟨none, .ptr 3 0, [some ⟨181, [.on 1 a false, .on 2 b false, .int .i64 m], 0, none⟩, some ⟨1, [], 0, some (.fam (.boxes 257 183 .u32 1024 ta ps []))⟩, some ⟨0, [.ptr 3 0], 0, some (.fam (.boxes 257 183 .u32 1024 tb qs [k.toNat]))⟩, some ⟨257, [.ints .u32 1024 (qs.getD k.toNat [])], 0, none⟩]⟩])
  | _, _ => none
theorem c_atF_e : EEntry Try.prog 93 c_atF := by
  refine ⟨callFunc_ok Try.func93 (by kernel_rfl) (by kernel_rfl), fun args rows ps alts h hp => ?_⟩
  unfold c_atF at h
  split at h
  · cases h; exact atF_ok _ _ _ _ _ _ _ _ _ (hp _ (List.mem_of_getElem? (i := 0) rfl)) (hp _ (List.mem_of_getElem? (i := 1) rfl)) (hp _ (List.mem_of_getElem? (i := 2) rfl)) (hp _ (List.mem_of_getElem? (i := 3) rfl)) (hp _ (List.mem_of_getElem? (i := 4) rfl))
  · cases h
theorem atN_ok (t : Bool) (k : Int) (a b ta tb : Nat) (m : Int) (ps qs : List (List Int)) (h0 : a = ps.length) (h1 : b = qs.length) (h2 : (t = true ∧ ¬ (0 ≤ k ∧ k < ps.length)) ∨ (t = false ∧ ¬ (0 ≤ k ∧ k < qs.length))) : SemCall Try.prog 93 [.ptr 0 0, .agg [.bool t, .int .i64 k]] [some ⟨181, [.on 1 a false, .on 2 b false, .int .i64 m], 0, none⟩, some ⟨0, [], 0, some (.fam (.boxes 257 183 .u32 1024 ta ps []))⟩, some ⟨0, [], 0, some (.fam (.boxes 257 183 .u32 1024 tb qs []))⟩] (AltK [⟨none, .val (.pointer none), [some ⟨181, [.on 1 a false, .on 2 b false, .int .i64 m], 0, none⟩, some ⟨1, [], 0, some (.fam (.boxes 257 183 .u32 1024 ta ps []))⟩, some ⟨0, [], 0, some (.fam (.boxes 257 183 .u32 1024 tb qs []))⟩]⟩]) := by
  intro W F ρ w hm ho
  obtain ⟨f, g, ⟨c1, f1, f2⟩, ⟨c2, g1, g2⟩, hc⟩ := at_world hm rfl rfl rfl h0 h1 t k
  refine hc.mono ?_
  rintro e w' ⟨rfl, hfr⟩
  have hm' := hm.step hfr
  have keep : ∀ i c, w.heap[(ρ i).1]? = some (.cells c 183 (0, 0)) → w'.heap[(ρ i).1]? = some (.cells c 183 (0, 0)) := fun i c h => by
    rw [hfr.block _ (Array.getElem?_eq_some_iff.1 h).1 id]; exact h
  refine ⟨ρ, _, _, ⟨_, List.mem_singleton.2 rfl, trivial, rfl, rfl⟩, ?_, trivial, reTy hm' (i := 1) rfl (by simp) 1, Nat.le_refl _, fun _ _ => rfl⟩
  unfold atV
  rcases h2 with ⟨rfl, h2⟩ | ⟨rfl, h2⟩
  · rw [if_pos rfl, if_neg h2]; rfl
  · rw [if_neg (by simp), if_neg h2]; rfl
def c_atN : ECon
  | [.ptr 0 0, .agg [.bool t, .int .i64 k]], [some ⟨181, [.on 1 a false, .on 2 b false, .int .i64 m], 0, none⟩, some ⟨0, [], 0, some (.fam (.boxes 257 183 .u32 1024 ta ps []))⟩, some ⟨0, [], 0, some (.fam (.boxes 257 183 .u32 1024 tb qs []))⟩] => some ([a = ps.length, b = qs.length, (t = true ∧ ¬ (0 ≤ k ∧ k < ps.length)) ∨ (t = false ∧ ¬ (0 ≤ k ∧ k < qs.length))], [⟨none, .val (.pointer none), [some ⟨181, [.on 1 a false, .on 2 b false, .int .i64 m], 0, none⟩, some ⟨1, [], 0, some (.fam (.boxes 257 183 .u32 1024 ta ps []))⟩, some ⟨0, [], 0, some (.fam (.boxes 257 183 .u32 1024 tb qs []))⟩]⟩])
  | _, _ => none
theorem c_atN_e : EEntry Try.prog 93 c_atN := by
  refine ⟨callFunc_ok Try.func93 (by kernel_rfl) (by kernel_rfl), fun args rows ps alts h hp => ?_⟩
  unfold c_atN at h
  split at h
  · cases h; exact atN_ok _ _ _ _ _ _ _ _ _ (hp _ (List.mem_of_getElem? (i := 0) rfl)) (hp _ (List.mem_of_getElem? (i := 1) rfl)) (hp _ (List.mem_of_getElem? (i := 2) rfl))
  · cases h
theorem atTS_ok (u : Bool) (l : Int) (k0 a b ta tb : Nat) (m : Int) (ps qs : List (List Int)) (xs : List Int) (h0 : a = ps.length) (h1 : b = qs.length) (h2 : u = true) (h3 : l = (k0 : Int)) (h4 : k0 < ps.length) : SemCall Try.prog 93 [.ptr 0 0, .agg [.bool u, .int .i64 l]] [some ⟨181, [.on 1 a false, .on 2 b false, .int .i64 m], 0, none⟩, some ⟨1, [.ptr 3 0], 0, some (.fam (.boxes 257 183 .u32 1024 ta ps [k0]))⟩, some ⟨0, [], 0, some (.fam (.boxes 257 183 .u32 1024 tb qs []))⟩, some ⟨257, [.ints .u32 1024 xs], 0, none⟩] (AltK [⟨none, .ptr 3 0, [some ⟨181, [.on 1 a false, .on 2 b false, .int .i64 m], 0, none⟩, some ⟨1, [.ptr 3 0], 0, some (.fam (.boxes 257 183 .u32 1024 ta ps [k0]))⟩, some ⟨0, [], 0, some (.fam (.boxes 257 183 .u32 1024 tb qs []))⟩, some ⟨257, [.ints .u32 1024 xs], 0, none⟩]⟩]) := by
  intro W F ρ w hm ho
  obtain ⟨f, g, ⟨c1, f1, f2⟩, ⟨c2, g1, g2⟩, hc⟩ := at_world hm rfl rfl rfl h0 h1 u l
  refine hc.mono ?_
  rintro e w' ⟨rfl, hfr⟩
  have hm' := hm.step hfr
  have keep : ∀ i c, w.heap[(ρ i).1]? = some (.cells c 183 (0, 0)) → w'.heap[(ρ i).1]? = some (.cells c 183 (0, 0)) := fun i c h => by
    rw [hfr.block _ (Array.getElem?_eq_some_iff.1 h).1 id]; exact h
  obtain ⟨c, r2, r3⟩ := hm'.lentAt (i := 1) rfl
  refine ⟨ρ, _, _, ⟨_, List.mem_singleton.2 rfl, trivial, rfl, rfl⟩, ?_, ?_, hm', Nat.le_refl _, fun _ _ => rfl⟩
  · rw [keep 1 c1 f1] at r2
    obtain rfl : c1 = c := by simpa using r2
    rw [f2 _ (by omega)] at r3
    unfold atV
    subst h2 h3
    rw [if_pos rfl, if_pos ⟨by omega, by omega⟩, Int.toNat_natCast, Option.some.inj r3]
    rfl
  · show 3 < 4; omega
def c_atTS : ECon
  | [.ptr 0 0, .agg [.bool u, .int .i64 l]], [some ⟨181, [.on 1 a false, .on 2 b false, .int .i64 m], 0, none⟩, some ⟨1, [.ptr 3 0], 0, some (.fam (.boxes 257 183 .u32 1024 ta ps [k0]))⟩, some ⟨0, [], 0, some (.fam (.boxes 257 183 .u32 1024 tb qs []))⟩, some ⟨257, [.ints .u32 1024 xs], 0, none⟩] => some ([a = ps.length, b = qs.length, u = true, l = (k0 : Int), k0 < ps.length], [⟨none, .ptr 3 0, [some ⟨181, [.on 1 a false, .on 2 b false, .int .i64 m], 0, none⟩, some ⟨1, [.ptr 3 0], 0, some (.fam (.boxes 257 183 .u32 1024 ta ps [k0]))⟩, some ⟨0, [], 0, some (.fam (.boxes 257 183 .u32 1024 tb qs []))⟩, some ⟨257, [.ints .u32 1024 xs], 0, none⟩]⟩])
  | _, _ => none
theorem c_atTS_e : EEntry Try.prog 93 c_atTS := by
  refine ⟨callFunc_ok Try.func93 (by kernel_rfl) (by kernel_rfl), fun args rows ps alts h hp => ?_⟩
  unfold c_atTS at h
  split at h
  · cases h; exact atTS_ok _ _ _ _ _ _ _ _ _ _ _ (hp _ (List.mem_of_getElem? (i := 0) rfl)) (hp _ (List.mem_of_getElem? (i := 1) rfl)) (hp _ (List.mem_of_getElem? (i := 2) rfl)) (hp _ (List.mem_of_getElem? (i := 3) rfl)) (hp _ (List.mem_of_getElem? (i := 4) rfl))
  · cases h
theorem atTT_ok (u : Bool) (l : Int) (k0 a b ta tb : Nat) (m : Int) (ps qs : List (List Int)) (xs : List Int) (h0 : a = ps.length) (h1 : b = qs.length) (h2 : u = true) (h3 : 0 ≤ l) (h4 : l < ps.length) (h5 : ¬ l = (k0 : Int)) : SemCall Try.prog 93 [.ptr 0 0, .agg [.bool u, .int .i64 l]] [some ⟨181, [.on 1 a false, .on 2 b false, .int .i64 m], 0, none⟩, some ⟨1, [.ptr 3 0], 0, some (.fam (.boxes 257 183 .u32 1024 ta ps [k0]))⟩, some ⟨0, [], 0, some (.fam (.boxes 257 183 .u32 1024 tb qs []))⟩, some ⟨257, [.ints .u32 1024 xs], 0, none⟩] (AltK [⟨none, .ptr 4 0, [some ⟨181, [.on 1 a false, .on 2 b false, .int .i64 m], 0, none⟩, some ⟨1, [.ptr 4 0, .ptr 3 0], 0, some (.fam (.boxes 257 183 .u32 1024 ta ps [l.toNat, k0]))⟩, some ⟨0, [], 0, some (.fam (.boxes 257 183 .u32 1024 tb qs []))⟩, some ⟨257, [.ints .u32 1024 xs], 0, none⟩, some ⟨257, [.ints .u32 1024 (ps.getD l.toNat [])], 0, none⟩]⟩]) := by
  intro W F ρ w hm ho
  obtain ⟨f, g, ⟨c1, f1, f2⟩, ⟨c2, g1, g2⟩, hc⟩ := at_world hm rfl rfl rfl h0 h1 u l
  refine hc.mono ?_
  rintro e w' ⟨rfl, hfr⟩
  have hm' := hm.step hfr
  have keep : ∀ i c, w.heap[(ρ i).1]? = some (.cells c 183 (0, 0)) → w'.heap[(ρ i).1]? = some (.cells c 183 (0, 0)) := fun i c h => by
    rw [hfr.block _ (Array.getElem?_eq_some_iff.1 h).1 id]; exact h
  obtain ⟨ρ', r1, ⟨c, r2, r3⟩, r4⟩ := hm'.openBox (i := 1) (e := l.toNat) rfl (by omega) (by simp; try omega)
  refine ⟨ρ', _, _, ⟨_, List.mem_singleton.2 rfl, trivial, rfl, rfl⟩, ?_, ?_, r4, by simp, r1⟩
  · rw [keep 1 c1 f1] at r2
    obtain rfl : c1 = c := by simpa using r2
    rw [f2 _ (by omega)] at r3
    unfold atV
    subst h2
    rw [if_pos rfl, if_pos ⟨by omega, by omega⟩, Option.some.inj r3]
    rfl
  · show 4 < 5; omega
def c_atTT : ECon
  | [.ptr 0 0, .agg [.bool u, .int .i64 l]], [some ⟨181, [.on 1 a false, .on 2 b false, .int .i64 m], 0, none⟩, some ⟨1, [.ptr 3 0], 0, some (.fam (.boxes 257 183 .u32 1024 ta ps [k0]))⟩, some ⟨0, [], 0, some (.fam (.boxes 257 183 .u32 1024 tb qs []))⟩, some ⟨257, [.ints .u32 1024 xs], 0, none⟩] => some ([a = ps.length, b = qs.length, u = true, 0 ≤ l, l < ps.length, ¬ l = (k0 : Int)], [⟨none, .ptr 4 0, [some ⟨181, [.on 1 a false, .on 2 b false, .int .i64 m], 0, none⟩, some ⟨1, [.ptr 4 0, .ptr 3 0], 0, some (.fam (.boxes 257 183 .u32 1024 ta ps [l.toNat, k0]))⟩, some ⟨0, [], 0, some (.fam (.boxes 257 183 .u32 1024 tb qs []))⟩, some ⟨257, [.ints .u32 1024 xs], 0, none⟩, some ⟨257, [.ints .u32 1024 (ps.getD l.toNat [])], 0, none⟩]⟩])
  | _, _ => none
theorem c_atTT_e : EEntry Try.prog 93 c_atTT := by
  refine ⟨callFunc_ok Try.func93 (by kernel_rfl) (by kernel_rfl), fun args rows ps alts h hp => ?_⟩
  unfold c_atTT at h
  split at h
  · cases h; exact atTT_ok _ _ _ _ _ _ _ _ _ _ _ (hp _ (List.mem_of_getElem? (i := 0) rfl)) (hp _ (List.mem_of_getElem? (i := 1) rfl)) (hp _ (List.mem_of_getElem? (i := 2) rfl)) (hp _ (List.mem_of_getElem? (i := 3) rfl)) (hp _ (List.mem_of_getElem? (i := 4) rfl)) (hp _ (List.mem_of_getElem? (i := 5) rfl))
  · cases h
theorem atTF_ok (u : Bool) (l : Int) (k0 a b ta tb : Nat) (m : Int) (ps qs : List (List Int)) (xs : List Int) (h0 : a = ps.length) (h1 : b = qs.length) (h2 : u = false) (h3 : 0 ≤ l) (h4 : l < qs.length) : SemCall Try.prog 93 [.ptr 0 0, .agg [.bool u, .int .i64 l]] [some ⟨181, [.on 1 a false, .on 2 b false, .int .i64 m], 0, none⟩, some ⟨1, [.ptr 3 0], 0, some (.fam (.boxes 257 183 .u32 1024 ta ps [k0]))⟩, some ⟨0, [], 0, some (.fam (.boxes 257 183 .u32 1024 tb qs []))⟩, some ⟨257, [.ints .u32 1024 xs], 0, none⟩] (AltK [⟨none, .ptr 4 0, [some ⟨181, [.on 1 a false, .on 2 b false, .int .i64 m], 0, none⟩, some ⟨1, [.ptr 3 0], 0, some (.fam (.boxes 257 183 .u32 1024 ta ps [k0]))⟩, some ⟨0, [.ptr 4 0], 0, some (.fam (.boxes 257 183 .u32 1024 tb qs [l.toNat]))⟩, some ⟨257, [.ints .u32 1024 xs], 0, none⟩, some ⟨257, [.ints .u32 1024 (qs.getD l.toNat [])], 0, none⟩]⟩]) := by
  intro W F ρ w hm ho
  obtain ⟨f, g, ⟨c1, f1, f2⟩, ⟨c2, g1, g2⟩, hc⟩ := at_world hm rfl rfl rfl h0 h1 u l
  refine hc.mono ?_
  rintro e w' ⟨rfl, hfr⟩
  have hm' := hm.step hfr
  have keep : ∀ i c, w.heap[(ρ i).1]? = some (.cells c 183 (0, 0)) → w'.heap[(ρ i).1]? = some (.cells c 183 (0, 0)) := fun i c h => by
    rw [hfr.block _ (Array.getElem?_eq_some_iff.1 h).1 id]; exact h
  obtain ⟨ρ', r1, ⟨c, r2, r3⟩, r4⟩ := hm'.openBox (i := 2) (e := l.toNat) rfl (by omega) (by simp; try omega)
  refine ⟨ρ', _, _, ⟨_, List.mem_singleton.2 rfl, trivial, rfl, rfl⟩, ?_, ?_, r4, by simp, r1⟩
  · rw [keep 2 c2 g1] at r2
    obtain rfl : c2 = c := by simpa using r2
    rw [g2 _ (by omega)] at r3
    unfold atV
    subst h2
    rw [if_neg (by simp), if_pos ⟨by omega, by omega⟩, Option.some.inj r3]
    rfl
  · show 4 < 5; omega
def c_atTF : ECon
  | [.ptr 0 0, .agg [.bool u, .int .i64 l]], [some ⟨181, [.on 1 a false, .on 2 b false, .int .i64 m], 0, none⟩, some ⟨1, [.ptr 3 0], 0, some (.fam (.boxes 257 183 .u32 1024 ta ps [k0]))⟩, some ⟨0, [], 0, some (.fam (.boxes 257 183 .u32 1024 tb qs []))⟩, some ⟨257, [.ints .u32 1024 xs], 0, none⟩] => some ([a = ps.length, b = qs.length, u = false, 0 ≤ l, l < qs.length], [⟨none, .ptr 4 0, [some ⟨181, [.on 1 a false, .on 2 b false, .int .i64 m], 0, none⟩, some ⟨1, [.ptr 3 0], 0, some (.fam (.boxes 257 183 .u32 1024 ta ps [k0]))⟩, some ⟨0, [.ptr 4 0], 0, some (.fam (.boxes 257 183 .u32 1024 tb qs [l.toNat]))⟩, some ⟨257, [.ints .u32 1024 xs], 0, none⟩, some ⟨257, [.ints .u32 1024 (qs.getD l.toNat [])], 0, none⟩]⟩])
  | _, _ => none
theorem c_atTF_e : EEntry Try.prog 93 c_atTF := by
  refine ⟨callFunc_ok Try.func93 (by kernel_rfl) (by kernel_rfl), fun args rows ps alts h hp => ?_⟩
  unfold c_atTF at h
  split at h
  · cases h; exact atTF_ok _ _ _ _ _ _ _ _ _ _ _ (hp _ (List.mem_of_getElem? (i := 0) rfl)) (hp _ (List.mem_of_getElem? (i := 1) rfl)) (hp _ (List.mem_of_getElem? (i := 2) rfl)) (hp _ (List.mem_of_getElem? (i := 3) rfl)) (hp _ (List.mem_of_getElem? (i := 4) rfl))
  · cases h
theorem atTN_ok (u : Bool) (l : Int) (k0 a b ta tb : Nat) (m : Int) (ps qs : List (List Int)) (xs : List Int) (h0 : a = ps.length) (h1 : b = qs.length) (h2 : (u = true ∧ ¬ (0 ≤ l ∧ l < ps.length)) ∨ (u = false ∧ ¬ (0 ≤ l ∧ l < qs.length))) : SemCall Try.prog 93 [.ptr 0 0, .agg [.bool u, .int .i64 l]] [some ⟨181, [.on 1 a false, .on 2 b false, .int .i64 m], 0, none⟩, some ⟨1, [.ptr 3 0], 0, some (.fam (.boxes 257 183 .u32 1024 ta ps [k0]))⟩, some ⟨0, [], 0, some (.fam (.boxes 257 183 .u32 1024 tb qs []))⟩, some ⟨257, [.ints .u32 1024 xs], 0, none⟩] (AltK [⟨none, .val (.pointer none), [some ⟨181, [.on 1 a false, .on 2 b false, .int .i64 m], 0, none⟩, some ⟨1, [.ptr 3 0], 0, some (.fam (.boxes 257 183 .u32 1024 ta ps [k0]))⟩, some ⟨0, [], 0, some (.fam (.boxes 257 183 .u32 1024 tb qs []))⟩, some ⟨257, [.ints .u32 1024 xs], 0, none⟩]⟩]) := by
  intro W F ρ w hm ho
  obtain ⟨f, g, ⟨c1, f1, f2⟩, ⟨c2, g1, g2⟩, hc⟩ := at_world hm rfl rfl rfl h0 h1 u l
  refine hc.mono ?_
  rintro e w' ⟨rfl, hfr⟩
  have hm' := hm.step hfr
  have keep : ∀ i c, w.heap[(ρ i).1]? = some (.cells c 183 (0, 0)) → w'.heap[(ρ i).1]? = some (.cells c 183 (0, 0)) := fun i c h => by
    rw [hfr.block _ (Array.getElem?_eq_some_iff.1 h).1 id]; exact h
  refine ⟨ρ, _, _, ⟨_, List.mem_singleton.2 rfl, trivial, rfl, rfl⟩, ?_, trivial, hm', Nat.le_refl _, fun _ _ => rfl⟩
  unfold atV
  rcases h2 with ⟨rfl, h2⟩ | ⟨rfl, h2⟩
  · rw [if_pos rfl, if_neg h2]; rfl
  · rw [if_neg (by simp), if_neg h2]; rfl
def c_atTN : ECon
  | [.ptr 0 0, .agg [.bool u, .int .i64 l]], [some ⟨181, [.on 1 a false, .on 2 b false, .int .i64 m], 0, none⟩, some ⟨1, [.ptr 3 0], 0, some (.fam (.boxes 257 183 .u32 1024 ta ps [k0]))⟩, some ⟨0, [], 0, some (.fam (.boxes 257 183 .u32 1024 tb qs []))⟩, some ⟨257, [.ints .u32 1024 xs], 0, none⟩] => some ([a = ps.length, b = qs.length, (u = true ∧ ¬ (0 ≤ l ∧ l < ps.length)) ∨ (u = false ∧ ¬ (0 ≤ l ∧ l < qs.length))], [⟨none, .val (.pointer none), [some ⟨181, [.on 1 a false, .on 2 b false, .int .i64 m], 0, none⟩, some ⟨1, [.ptr 3 0], 0, some (.fam (.boxes 257 183 .u32 1024 ta ps [k0]))⟩, some ⟨0, [], 0, some (.fam (.boxes 257 183 .u32 1024 tb qs []))⟩, some ⟨257, [.ints .u32 1024 xs], 0, none⟩]⟩])
  | _, _ => none
theorem c_atTN_e : EEntry Try.prog 93 c_atTN := by
  refine ⟨callFunc_ok Try.func93 (by kernel_rfl) (by kernel_rfl), fun args rows ps alts h hp => ?_⟩
  unfold c_atTN at h
  split at h
  · cases h; exact atTN_ok _ _ _ _ _ _ _ _ _ _ _ (hp _ (List.mem_of_getElem? (i := 0) rfl)) (hp _ (List.mem_of_getElem? (i := 1) rfl)) (hp _ (List.mem_of_getElem? (i := 2) rfl))
  · cases h
theorem atFS_ok (u : Bool) (l : Int) (k0 a b ta tb : Nat) (m : Int) (ps qs : List (List Int)) (xs : List Int) (h0 : a = ps.length) (h1 : b = qs.length) (h2 : u = false) (h3 : l = (k0 : Int)) (h4 : k0 < qs.length) : SemCall Try.prog 93 [.ptr 0 0, .agg [.bool u, .int .i64 l]] [some ⟨181, [.on 1 a false, .on 2 b false, .int .i64 m], 0, none⟩, some ⟨1, [], 0, some (.fam (.boxes 257 183 .u32 1024 ta ps []))⟩, some ⟨0, [.ptr 3 0], 0, some (.fam (.boxes 257 183 .u32 1024 tb qs [k0]))⟩, some ⟨257, [.ints .u32 1024 xs], 0, none⟩] (AltK [⟨none, .ptr 3 0, [some ⟨181, [.on 1 a false, .on 2 b false, .int .i64 m], 0, none⟩, some ⟨1, [], 0, some (.fam (.boxes 257 183 .u32 1024 ta ps []))⟩, some ⟨0, [.ptr 3 0], 0, some (.fam (.boxes 257 183 .u32 1024 tb qs [k0]))⟩, some ⟨257, [.ints .u32 1024 xs], 0, none⟩]⟩]) := by
  intro W F ρ w hm ho
  obtain ⟨f, g, ⟨c1, f1, f2⟩, ⟨c2, g1, g2⟩, hc⟩ := at_world hm rfl rfl rfl h0 h1 u l
  refine hc.mono ?_
  rintro e w' ⟨rfl, hfr⟩
  have hm' := hm.step hfr
  have keep : ∀ i c, w.heap[(ρ i).1]? = some (.cells c 183 (0, 0)) → w'.heap[(ρ i).1]? = some (.cells c 183 (0, 0)) := fun i c h => by
    rw [hfr.block _ (Array.getElem?_eq_some_iff.1 h).1 id]; exact h
  obtain ⟨c, r2, r3⟩ := hm'.lentAt (i := 2) rfl
  refine ⟨ρ, _, _, ⟨_, List.mem_singleton.2 rfl, trivial, rfl, rfl⟩, ?_, ?_, hm', Nat.le_refl _, fun _ _ => rfl⟩
  · rw [keep 2 c2 g1] at r2
    obtain rfl : c2 = c := by simpa using r2
    rw [g2 _ (by omega)] at r3
    unfold atV
    subst h2 h3
    rw [if_neg (by simp), if_pos ⟨by omega, by omega⟩, Int.toNat_natCast, Option.some.inj r3]
    rfl
  · show 3 < 4; omega
def c_atFS : ECon
  | [.ptr 0 0, .agg [.bool u, .int .i64 l]], [some ⟨181, [.on 1 a false, .on 2 b false, .int .i64 m], 0, none⟩, some ⟨1, [], 0, some (.fam (.boxes 257 183 .u32 1024 ta ps []))⟩, some ⟨0, [.ptr 3 0], 0, some (.fam (.boxes 257 183 .u32 1024 tb qs [k0]))⟩, some ⟨257, [.ints .u32 1024 xs], 0, none⟩] => some ([a = ps.length, b = qs.length, u = false, l = (k0 : Int), k0 < qs.length], [⟨none, .ptr 3 0, [some ⟨181, [.on 1 a false, .on 2 b false, .int .i64 m], 0, none⟩, some ⟨1, [], 0, some (.fam (.boxes 257 183 .u32 1024 ta ps []))⟩, some ⟨0, [.ptr 3 0], 0, some (.fam (.boxes 257 183 .u32 1024 tb qs [k0]))⟩, some ⟨257, [.ints .u32 1024 xs], 0, none⟩]⟩])
  | _, _ => none
theorem c_atFS_e : EEntry Try.prog 93 c_atFS := by
  refine ⟨callFunc_ok Try.func93 (by kernel_rfl) (by kernel_rfl), fun args rows ps alts h hp => ?_⟩
  unfold c_atFS at h
  split at h
  · cases h; exact atFS_ok _ _ _ _ _ _ _ _ _ _ _ (hp _ (List.mem_of_getElem? (i := 0) rfl)) (hp _ (List.mem_of_getElem? (i := 1) rfl)) (hp _ (List.mem_of_getElem? (i := 2) rfl)) (hp _ (List.mem_of_getElem? (i := 3) rfl)) (hp _ (List.mem_of_getElem? (i := 4) rfl))
  · cases h
theorem atFF_ok (u : Bool) (l : Int) (k0 a b ta tb : Nat) (m : Int) (ps qs : List (List Int)) (xs : List Int) (h0 : a = ps.length) (h1 : b = qs.length) (h2 : u = false) (h3 : 0 ≤ l) (h4 : l < qs.length) (h5 : ¬ l = (k0 : Int)) : SemCall Try.prog 93 [.ptr 0 0, .agg [.bool u, .int .i64 l]] [some ⟨181, [.on 1 a false, .on 2 b false, .int .i64 m], 0, none⟩, some ⟨1, [], 0, some (.fam (.boxes 257 183 .u32 1024 ta ps []))⟩, some ⟨0, [.ptr 3 0], 0, some (.fam (.boxes 257 183 .u32 1024 tb qs [k0]))⟩, some ⟨257, [.ints .u32 1024 xs], 0, none⟩] (AltK [⟨none, .ptr 4 0, [some ⟨181, [.on 1 a false, .on 2 b false, .int .i64 m], 0, none⟩, some ⟨1, [], 0, some (.fam (.boxes 257 183 .u32 1024 ta ps []))⟩, some ⟨0, [.ptr 4 0, .ptr 3 0], 0, some (.fam (.boxes 257 183 .u32 1024 tb qs [l.toNat, k0]))⟩, some ⟨257, [.ints .u32 1024 xs], 0, none⟩, some ⟨257, [.ints .u32 1024 (qs.getD l.toNat [])], 0, none⟩]⟩]) := by
  intro W F ρ w hm ho
  obtain ⟨f, g, ⟨c1, f1, f2⟩, ⟨c2, g1, g2⟩, hc⟩ := at_world hm rfl rfl rfl h0 h1 u l
  refine hc.mono ?_
  rintro e w' ⟨rfl, hfr⟩
  have hm' := hm.step hfr
  have keep : ∀ i c, w.heap[(ρ i).1]? = some (.cells c 183 (0, 0)) → w'.heap[(ρ i).1]? = some (.cells c 183 (0, 0)) := fun i c h => by
    rw [hfr.block _ (Array.getElem?_eq_some_iff.1 h).1 id]; exact h
  obtain ⟨ρ', r1, ⟨c, r2, r3⟩, r4⟩ := hm'.openBox (i := 2) (e := l.toNat) rfl (by omega) (by simp; try omega)
  refine ⟨ρ', _, _, ⟨_, List.mem_singleton.2 rfl, trivial, rfl, rfl⟩, ?_, ?_, r4, by simp, r1⟩
  · rw [keep 2 c2 g1] at r2
    obtain rfl : c2 = c := by simpa using r2
    rw [g2 _ (by omega)] at r3
    unfold atV
    subst h2
    rw [if_neg (by simp), if_pos ⟨by omega, by omega⟩, Option.some.inj r3]
    rfl
  · show 4 < 5; omega
def c_atFF : ECon
  | [.ptr 0 0, .agg [.bool u, .int .i64 l]], [some ⟨181, [.on 1 a false, .on 2 b false, .int .i64 m], 0, none⟩, some ⟨1, [], 0, some (.fam (.boxes 257 183 .u32 1024 ta ps []))⟩, some ⟨0, [.ptr 3 0], 0, some (.fam (.boxes 257 183 .u32 1024 tb qs [k0]))⟩, some ⟨257, [.ints .u32 1024 xs], 0, none⟩] => some ([a = ps.length, b = qs.length, u = false, 0 ≤ l, l < qs.length, ¬ l = (k0 : Int)], [⟨none, .ptr 4 0, [some ⟨181, [.on 1 a false, .on 2 b false, .int .i64 m], 0, none⟩, some ⟨1, [], 0, some (.fam (.boxes 257 183 .u32 1024 ta ps []))⟩, some ⟨0, [.ptr 4 0, .ptr 3 0], 0, some (.fam (.boxes 257 183 .u32 1024 tb qs [l.toNat, k0]))⟩, some ⟨257, [.ints .u32 1024 xs], 0, none⟩, some ⟨257, [.ints .u32 1024 (qs.getD l.toNat [])], 0, none⟩]⟩])
  | _, _ => none
theorem c_atFF_e : EEntry Try.prog 93 c_atFF := by
  refine ⟨callFunc_ok Try.func93 (by kernel_rfl) (by kernel_rfl), fun args rows ps alts h hp => ?_⟩
  unfold c_atFF at h
  split at h
  · cases h; exact atFF_ok _ _ _ _ _ _ _ _ _ _ _ (hp _ (List.mem_of_getElem? (i := 0) rfl)) (hp _ (List.mem_of_getElem? (i := 1) rfl)) (hp _ (List.mem_of_getElem? (i := 2) rfl)) (hp _ (List.mem_of_getElem? (i := 3) rfl)) (hp _ (List.mem_of_getElem? (i := 4) rfl)) (hp _ (List.mem_of_getElem? (i := 5) rfl))
  · cases h
theorem atFT_ok (u : Bool) (l : Int) (k0 a b ta tb : Nat) (m : Int) (ps qs : List (List Int)) (xs : List Int) (h0 : a = ps.length) (h1 : b = qs.length) (h2 : u = true) (h3 : 0 ≤ l) (h4 : l < ps.length) : SemCall Try.prog 93 [.ptr 0 0, .agg [.bool u, .int .i64 l]] [some ⟨181, [.on 1 a false, .on 2 b false, .int .i64 m], 0, none⟩, some ⟨1, [], 0, some (.fam (.boxes 257 183 .u32 1024 ta ps []))⟩, some ⟨0, [.ptr 3 0], 0, some (.fam (.boxes 257 183 .u32 1024 tb qs [k0]))⟩, some ⟨257, [.ints .u32 1024 xs], 0, none⟩] (AltK [⟨none, .ptr 4 0, [some ⟨181, [.on 1 a false, .on 2 b false, .int .i64 m], 0, none⟩, some ⟨1, [.ptr 4 0], 0, some (.fam (.boxes 257 183 .u32 1024 ta ps [l.toNat]))⟩, some ⟨0, [.ptr 3 0], 0, some (.fam (.boxes 257 183 .u32 1024 tb qs [k0]))⟩, some ⟨257, [.ints .u32 1024 xs], 0, none⟩, some ⟨257, [.ints .u32 1024 (ps.getD l.toNat [])], 0, none⟩]⟩]) := by
  intro W F ρ w hm ho
  obtain ⟨f, g, ⟨c1, f1, f2⟩, ⟨c2, g1, g2⟩, hc⟩ := at_world hm rfl rfl rfl h0 h1 u l
  refine hc.mono ?_
  rintro e w' ⟨rfl, hfr⟩
  have hm' := hm.step hfr
  have keep : ∀ i c, w.heap[(ρ i).1]? = some (.cells c 183 (0, 0)) → w'.heap[(ρ i).1]? = some (.cells c 183 (0, 0)) := fun i c h => by
    rw [hfr.block _ (Array.getElem?_eq_some_iff.1 h).1 id]; exact h
  obtain ⟨ρ', r1, ⟨c, r2, r3⟩, r4⟩ := hm'.openBox (i := 1) (e := l.toNat) rfl (by omega) (by simp; try omega)
  refine ⟨ρ', _, _, ⟨_, List.mem_singleton.2 rfl, trivial, rfl, rfl⟩, ?_, ?_, r4, by simp, r1⟩
  · rw [keep 1 c1 f1] at r2
    obtain rfl : c1 = c := by simpa using r2
    rw [f2 _ (by omega)] at r3
    unfold atV
    subst h2
    rw [if_pos rfl, if_pos ⟨by omega, by omega⟩, Option.some.inj r3]
    rfl
  · show 4 < 5; omega
def c_atFT : ECon
  | [.ptr 0 0, .agg [.bool u, .int .i64 l]], [some ⟨181, [.on 1 a false, .on 2 b false, .int .i64 m], 0, none⟩, some ⟨1, [], 0, some (.fam (.boxes 257 183 .u32 1024 ta ps []))⟩, some ⟨0, [.ptr 3 0], 0, some (.fam (.boxes 257 183 .u32 1024 tb qs [k0]))⟩, some ⟨257, [.ints .u32 1024 xs], 0, none⟩] => some ([a = ps.length, b = qs.length, u = true, 0 ≤ l, l < ps.length], [⟨none, .ptr 4 0, [some ⟨181, [.on 1 a false, .on 2 b false, .int .i64 m], 0, none⟩, some ⟨1, [.ptr 4 0], 0, some (.fam (.boxes 257 183 .u32 1024 ta ps [l.toNat]))⟩, some ⟨0, [.ptr 3 0], 0, some (.fam (.boxes 257 183 .u32 1024 tb qs [k0]))⟩, some ⟨257, [.ints .u32 1024 xs], 0, none⟩, some ⟨257, [.ints .u32 1024 (ps.getD l.toNat [])], 0, none⟩]⟩])
  | _, _ => none
theorem c_atFT_e : EEntry Try.prog 93 c_atFT := by
  refine ⟨callFunc_ok Try.func93 (by kernel_rfl) (by kernel_rfl), fun args rows ps alts h hp => ?_⟩
  unfold c_atFT at h
  split at h
  · cases h; exact atFT_ok _ _ _ _ _ _ _ _ _ _ _ (hp _ (List.mem_of_getElem? (i := 0) rfl)) (hp _ (List.mem_of_getElem? (i := 1) rfl)) (hp _ (List.mem_of_getElem? (i := 2) rfl)) (hp _ (List.mem_of_getElem? (i := 3) rfl)) (hp _ (List.mem_of_getElem? (i := 4) rfl))
  · cases h
theorem atFN_ok (u : Bool) (l : Int) (k0 a b ta tb : Nat) (m : Int) (ps qs : List (List Int)) (xs : List Int) (h0 : a = ps.length) (h1 : b = qs.length) (h2 : (u = true ∧ ¬ (0 ≤ l ∧ l < ps.length)) ∨ (u = false ∧ ¬ (0 ≤ l ∧ l < qs.length))) : SemCall Try.prog 93 [.ptr 0 0, .agg [.bool u, .int .i64 l]] [some ⟨181, [.on 1 a false, .on 2 b false, .int .i64 m], 0, none⟩, some ⟨1, [], 0, some (.fam (.boxes 257 183 .u32 1024 ta ps []))⟩, some ⟨0, [.ptr 3 0], 0, some (.fam (.boxes 257 183 .u32 1024 tb qs [k0]))⟩, some ⟨257, [.ints .u32 1024 xs], 0, none⟩] (AltK [⟨none, .val (.pointer none), [some ⟨181, [.on 1 a false, .on 2 b false, .int .i64 m], 0, none⟩, some ⟨1, [], 0, some (.fam (.boxes 257 183 .u32 1024 ta ps []))⟩, some ⟨0, [.ptr 3 0], 0, some (.fam (.boxes 257 183 .u32 1024 tb qs [k0]))⟩, some ⟨257, [.ints .u32 1024 xs], 0, none⟩]⟩]) := by
  intro W F ρ w hm ho
  obtain ⟨f, g, ⟨c1, f1, f2⟩, ⟨c2, g1, g2⟩, hc⟩ := at_world hm rfl rfl rfl h0 h1 u l
  refine hc.mono ?_
  rintro e w' ⟨rfl, hfr⟩
  have hm' := hm.step hfr
  have keep : ∀ i c, w.heap[(ρ i).1]? = some (.cells c 183 (0, 0)) → w'.heap[(ρ i).1]? = some (.cells c 183 (0, 0)) := fun i c h => by
    rw [hfr.block _ (Array.getElem?_eq_some_iff.1 h).1 id]; exact h
  refine ⟨ρ, _, _, ⟨_, List.mem_singleton.2 rfl, trivial, rfl, rfl⟩, ?_, trivial, hm', Nat.le_refl _, fun _ _ => rfl⟩
  unfold atV
  rcases h2 with ⟨rfl, h2⟩ | ⟨rfl, h2⟩
  · rw [if_pos rfl, if_neg h2]; rfl
  · rw [if_neg (by simp), if_neg h2]; rfl
def c_atFN : ECon
  | [.ptr 0 0, .agg [.bool u, .int .i64 l]], [some ⟨181, [.on 1 a false, .on 2 b false, .int .i64 m], 0, none⟩, some ⟨1, [], 0, some (.fam (.boxes 257 183 .u32 1024 ta ps []))⟩, some ⟨0, [.ptr 3 0], 0, some (.fam (.boxes 257 183 .u32 1024 tb qs [k0]))⟩, some ⟨257, [.ints .u32 1024 xs], 0, none⟩] => some ([a = ps.length, b = qs.length, (u = true ∧ ¬ (0 ≤ l ∧ l < ps.length)) ∨ (u = false ∧ ¬ (0 ≤ l ∧ l < qs.length))], [⟨none, .val (.pointer none), [some ⟨181, [.on 1 a false, .on 2 b false, .int .i64 m], 0, none⟩, some ⟨1, [], 0, some (.fam (.boxes 257 183 .u32 1024 ta ps []))⟩, some ⟨0, [.ptr 3 0], 0, some (.fam (.boxes 257 183 .u32 1024 tb qs [k0]))⟩, some ⟨257, [.ints .u32 1024 xs], 0, none⟩]⟩])
  | _, _ => none
theorem c_atFN_e : EEntry Try.prog 93 c_atFN := by
  refine ⟨callFunc_ok Try.func93 (by kernel_rfl) (by kernel_rfl), fun args rows ps alts h hp => ?_⟩
  unfold c_atFN at h
  split at h
  · cases h; exact atFN_ok _ _ _ _ _ _ _ _ _ _ _ (hp _ (List.mem_of_getElem? (i := 0) rfl)) (hp _ (List.mem_of_getElem? (i := 1) rfl)) (hp _ (List.mem_of_getElem? (i := 2) rfl))
  · cases h
theorem atNT_ok (u : Bool) (l : Int) (a b ta tb : Nat) (m : Int) (ps qs : List (List Int)) (h0 : a = ps.length) (h1 : b = qs.length) (h2 : u = true) (h3 : 0 ≤ l) (h4 : l < ps.length) : SemCall Try.prog 93 [.ptr 0 0, .agg [.bool u, .int .i64 l]] [some ⟨181, [.on 1 a false, .on 2 b false, .int .i64 m], 0, none⟩, some ⟨1, [], 0, some (.fam (.boxes 257 183 .u32 1024 ta ps []))⟩, some ⟨0, [], 0, some (.fam (.boxes 257 183 .u32 1024 tb qs []))⟩] (AltK [⟨none, .ptr 3 0, [some ⟨181, [.on 1 a false, .on 2 b false, .int .i64 m], 0, none⟩, some ⟨1, [.ptr 3 0], 0, some (.fam (.boxes 257 183 .u32 1024 ta ps [l.toNat]))⟩, some ⟨0, [], 0, some (.fam (.boxes 257 183 .u32 1024 tb qs []))⟩, some ⟨257, [.ints .u32 1024 (ps.getD l.toNat [])], 0, none⟩]⟩]) := by
  intro W F ρ w hm ho
  obtain ⟨f, g, ⟨c1, f1, f2⟩, ⟨c2, g1, g2⟩, hc⟩ := at_world hm rfl rfl rfl h0 h1 u l
  refine hc.mono ?_
  rintro e w' ⟨rfl, hfr⟩
  have hm' := hm.step hfr
  have keep : ∀ i c, w.heap[(ρ i).1]? = some (.cells c 183 (0, 0)) → w'.heap[(ρ i).1]? = some (.cells c 183 (0, 0)) := fun i c h => by
    rw [hfr.block _ (Array.getElem?_eq_some_iff.1 h).1 id]; exact h
  obtain ⟨ρ', r1, ⟨c, r2, r3⟩, r4⟩ := hm'.openBox (i := 1) (e := l.toNat) rfl (by omega) (by simp; try omega)
  refine ⟨ρ', _, _, ⟨_, List.mem_singleton.2 rfl, trivial, rfl, rfl⟩, ?_, ?_, r4, by simp, r1⟩
  · rw [keep 1 c1 f1] at r2
    obtain rfl : c1 = c := by simpa using r2
    rw [f2 _ (by omega)] at r3
    unfold atV
    subst h2
    rw [if_pos rfl, if_pos ⟨by omega, by omega⟩, Option.some.inj r3]
    rfl
  · show 3 < 4; omega
def c_atNT : ECon
  | [.ptr 0 0, .agg [.bool u, .int .i64 l]], [some ⟨181, [.on 1 a false, .on 2 b false, .int .i64 m], 0, none⟩, some ⟨1, [], 0, some (.fam (.boxes 257 183 .u32 1024 ta ps []))⟩, some ⟨0, [], 0, some (.fam (.boxes 257 183 .u32 1024 tb qs []))⟩] => some ([a = ps.length, b = qs.length, u = true, 0 ≤ l, l < ps.length], [⟨none, .ptr 3 0, [some ⟨181, [.on 1 a false, .on 2 b false, .int .i64 m], 0, none⟩, some ⟨1, [.ptr 3 0], 0, some (.fam (.boxes 257 183 .u32 1024 ta ps [l.toNat]))⟩, some ⟨0, [], 0, some (.fam (.boxes 257 183 .u32 1024 tb qs []))⟩, some ⟨257, [.ints .u32 1024 (ps.getD l.toNat [])], 0, none⟩]⟩])
  | _, _ => none
theorem c_atNT_e : EEntry Try.prog 93 c_atNT := by
  refine ⟨callFunc_ok Try.func93 (by kernel_rfl) (by kernel_rfl), fun args rows ps alts h hp => ?_⟩
  unfold c_atNT at h
  split at h
  · cases h; exact atNT_ok _ _ _ _ _ _ _ _ _ (hp _ (List.mem_of_getElem? (i := 0) rfl)) (hp _ (List.mem_of_getElem? (i := 1) rfl)) (hp _ (List.mem_of_getElem? (i := 2) rfl)) (hp _ (List.mem_of_getElem? (i := 3) rfl)) (hp _ (List.mem_of_getElem? (i := 4) rfl))
  · cases h
theorem atNF_ok (u : Bool) (l : Int) (a b ta tb : Nat) (m : Int) (ps qs : List (List Int)) (h0 : a = ps.length) (h1 : b = qs.length) (h2 : u = false) (h3 : 0 ≤ l) (h4 : l < qs.length) : SemCall Try.prog 93 [.ptr 0 0, .agg [.bool u, .int .i64 l]] [some ⟨181, [.on 1 a false, .on 2 b false, .int .i64 m], 0, none⟩, some ⟨1, [], 0, some (.fam (.boxes 257 183 .u32 1024 ta ps []))⟩, some ⟨0, [], 0, some (.fam (.boxes 257 183 .u32 1024 tb qs []))⟩] (AltK [⟨none, .ptr 3 0, [some ⟨181, [.on 1 a false, .on 2 b false, .int .i64 m], 0, none⟩, some ⟨1, [], 0, some (.fam (.boxes 257 183 .u32 1024 ta ps []))⟩, some ⟨0, [.ptr 3 0], 0, some (.fam (.boxes 257 183 .u32 1024 tb qs [l.toNat]))⟩, some ⟨257, [.ints .u32 1024 (qs.getD l.toNat [])], 0, none⟩]⟩]) := by
  intro W F ρ w hm ho
  obtain ⟨f, g, ⟨c1, f1, f2⟩, ⟨c2, g1, g2⟩, hc⟩ := at_world hm rfl rfl rfl h0 h1 u l
  refine hc.mono ?_
  rintro e w' ⟨rfl, hfr⟩
  have hm' := hm.step hfr
  have keep : ∀ i c, w.heap[(ρ i).1]? = some (.cells c 183 (0, 0)) → w'.heap[(ρ i).1]? = some (.cells c 183 (0, 0)) := fun i c h => by
    rw [hfr.block _ (Array.getElem?_eq_some_iff.1 h).1 id]; exact h
  obtain ⟨ρ', r1, ⟨c, r2, r3⟩, r4⟩ := hm'.openBox (i := 2) (e := l.toNat) rfl (by omega) (by simp; try omega)
  refine ⟨ρ', _, _, ⟨_, List.mem_singleton.2 rfl, trivial, rfl, rfl⟩, ?_, ?_, r4, by simp, r1⟩
  · rw [keep 2 c2 g1] at r2
    obtain rfl : c2 = c := by simpa using r2
    rw [g2 _ (by omega)] at r3
    unfold atV
    subst h2
    rw [if_neg (by simp), if_pos ⟨by omega, by omega⟩, Option.some.inj r3]
    rfl
  · show 3 < 4; omega
def c_atNF : ECon
  | [.ptr 0 0, .agg [.bool u, .int .i64 l]], [some ⟨181, [.on 1 a false, .on 2 b false, .int .i64 m], 0, none⟩, some ⟨1, [], 0, some (.fam (.boxes 257 183 .u32 1024 ta ps []))⟩, some ⟨0, [], 0, some (.fam (.boxes 257 183 .u32 1024 tb qs []))⟩] => some ([a = ps.length, b = qs.length, u = false, 0 ≤ l, l < qs.length], [⟨none, .ptr 3 0, [some ⟨181, [.on 1 a false, .on 2 b false, .int .i64 m], 0, none⟩, some ⟨1, [], 0, some (.fam (.boxes 257 183 .u32 1024 ta ps []))⟩, some ⟨0, [.ptr 3 0], 0, some (.fam (.boxes 257 183 .u32 1024 tb qs [l.toNat]))⟩, some ⟨257, [.ints .u32 1024 (qs.getD l.toNat [])], 0, none⟩]⟩])
  | _, _ => none
theorem c_atNF_e : EEntry Try.prog 93 c_atNF := by
  refine ⟨callFunc_ok Try.func93 (by kernel_rfl) (by kernel_rfl), fun args rows ps alts h hp => ?_⟩
  unfold c_atNF at h
  split at h
  · cases h; exact atNF_ok _ _ _ _ _ _ _ _ _ (hp _ (List.mem_of_getElem? (i := 0) rfl)) (hp _ (List.mem_of_getElem? (i := 1) rfl)) (hp _ (List.mem_of_getElem? (i := 2) rfl)) (hp _ (List.mem_of_getElem? (i := 3) rfl)) (hp _ (List.mem_of_getElem? (i := 4) rfl))
  · cases h
theorem atNN_ok (u : Bool) (l : Int) (a b ta tb : Nat) (m : Int) (ps qs : List (List Int)) (h0 : a = ps.length) (h1 : b = qs.length) (h2 : (u = true ∧ ¬ (0 ≤ l ∧ l < ps.length)) ∨ (u = false ∧ ¬ (0 ≤ l ∧ l < qs.length))) : SemCall Try.prog 93 [.ptr 0 0, .agg [.bool u, .int .i64 l]] [some ⟨181, [.on 1 a false, .on 2 b false, .int .i64 m], 0, none⟩, some ⟨1, [], 0, some (.fam (.boxes 257 183 .u32 1024 ta ps []))⟩, some ⟨0, [], 0, some (.fam (.boxes 257 183 .u32 1024 tb qs []))⟩] (AltK [⟨none, .val (.pointer none), [some ⟨181, [.on 1 a false, .on 2 b false, .int .i64 m], 0, none⟩, some ⟨1, [], 0, some (.fam (.boxes 257 183 .u32 1024 ta ps []))⟩, some ⟨0, [], 0, some (.fam (.boxes 257 183 .u32 1024 tb qs []))⟩]⟩]) := by
  intro W F ρ w hm ho
  obtain ⟨f, g, ⟨c1, f1, f2⟩, ⟨c2, g1, g2⟩, hc⟩ := at_world hm rfl rfl rfl h0 h1 u l
  refine hc.mono ?_
  rintro e w' ⟨rfl, hfr⟩
  have hm' := hm.step hfr
  have keep : ∀ i c, w.heap[(ρ i).1]? = some (.cells c 183 (0, 0)) → w'.heap[(ρ i).1]? = some (.cells c 183 (0, 0)) := fun i c h => by
    rw [hfr.block _ (Array.getElem?_eq_some_iff.1 h).1 id]; exact h
  refine ⟨ρ, _, _, ⟨_, List.mem_singleton.2 rfl, trivial, rfl, rfl⟩, ?_, trivial, hm', Nat.le_refl _, fun _ _ => rfl⟩
  unfold atV
  rcases h2 with ⟨rfl, h2⟩ | ⟨rfl, h2⟩
  · rw [if_pos rfl, if_neg h2]; rfl
  · rw [if_neg (by simp), if_neg h2]; rfl
def c_atNN : ECon
  | [.ptr 0 0, .agg [.bool u, .int .i64 l]], [some ⟨181, [.on 1 a false, .on 2 b false, .int .i64 m], 0, none⟩, some ⟨1, [], 0, some (.fam (.boxes 257 183 .u32 1024 ta ps []))⟩, some ⟨0, [], 0, some (.fam (.boxes 257 183 .u32 1024 tb qs []))⟩] => some ([a = ps.length, b = qs.length, (u = true ∧ ¬ (0 ≤ l ∧ l < ps.length)) ∨ (u = false ∧ ¬ (0 ≤ l ∧ l < qs.length))], [⟨none, .val (.pointer none), [some ⟨181, [.on 1 a false, .on 2 b false, .int .i64 m], 0, none⟩, some ⟨1, [], 0, some (.fam (.boxes 257 183 .u32 1024 ta ps []))⟩, some ⟨0, [], 0, some (.fam (.boxes 257 183 .u32 1024 tb qs []))⟩]⟩])
  | _, _ => none
theorem c_atNN_e : EEntry Try.prog 93 c_atNN := by
  refine ⟨callFunc_ok Try.func93 (by kernel_rfl) (by kernel_rfl), fun args rows ps alts h hp => ?_⟩
  unfold c_atNN at h
  split at h
  · cases h; exact atNN_ok _ _ _ _ _ _ _ _ _ (hp _ (List.mem_of_getElem? (i := 0) rfl)) (hp _ (List.mem_of_getElem? (i := 1) rfl)) (hp _ (List.mem_of_getElem? (i := 2) rfl))
  · cases h
end Go.Proofs.Ytlndkfcnfhkbkaa
