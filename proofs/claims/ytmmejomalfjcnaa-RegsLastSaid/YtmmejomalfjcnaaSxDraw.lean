/- A region that draws its order: what its operations do in the text's order, as facts. No condition. -/
import Derived.Test.YtmmejomalfjcnaaSxSound
namespace Go.Proofs.Ytmmejomalfjcnaa
open Go.RowKit
set_option linter.unusedVariables false
set_option linter.unusedSimpArgs false
namespace Sx
variable {P : Program} {W : World} {F : Nat → Prop} {ρ ρ0 : Num} {s : SS} {a : Act} {w : World} {cx : Ctx}

/-- What one operation did. -/
def StepFact (cx : Ctx) (b : Nat) (s : SS) (o : Oper) (r : Rec) : Prop :=
  (∃ ps, quietOp cx s o.op = some (ps, r.v) ∧ All ps ∧ r.puts = [] ∧ r.new = none ∧ r.rds = readRow s o.op) ∨
  (∃ c x y sv q cl, o.op = .pick (.tmp c) x y ∧ s.tm.lookup c = some sv ∧ asB sv = some (q, cl) ∧ ev s.tm (bif q then x else y) = some r.v ∧ r.puts = [] ∧ r.new = none) ∨
  (∃ e, effOp cx.T s b o.op = some e ∧ All e.ps ∧ r.v = e.v ∧ r.puts = e.puts ∧ r.rds = e.rds ∧ r.new = (bif isNew o.op then some b else none))
def skipRec (o : Oper) : Rec := ⟨o.dst, .tup [], [], none, []⟩
/-- The value of its guard. -/
def GuardIs (all : Array Oper) (s : SS) (o : Oper) (q : Bool) : Prop :=
  match o.guard with
  | none => q = true
  | some (j, want) => ∃ d sv, (all[j]?).bind (·.dst) = some d ∧ s.tm.lookup d = some sv ∧ ((∃ x c, asB sv = some (x, c) ∧ q = (x == want)) ∨ (sv = .tup [] ∧ q = false))
def Fact (cx : Ctx) (all : Array Oper) (b : Nat) (s : SS) (o : Oper) (r : Rec) : Prop :=
  r.dst = o.dst ∧ dstB cx o.dst = true ∧ ((GuardIs all s o true ∧ StepFact cx b s o r) ∨ (GuardIs all s o false ∧ r = skipRec o))

/-- The facts of all of them, one behind the other. -/
def Facts (cx : Ctx) (all : Array Oper) : List Oper → List Rec → Nat → SS → Prop
  | [], [], _, _ => True
  | o :: os, r :: rs, b, s => Fact cx all b s o r ∧ Facts cx all os rs (bif isNew o.op then b + 1 else b) (applyRec s r)
  | _, _, _, _ => False

def Known (s : SS) (kn : List (Nat × Bool)) : Prop := ∀ d q, kn.lookup d = some q → ∃ sv c, s.tm.lookup d = some sv ∧ asB sv = some (q, c)

theorem dropK_same (d : Option Tmp) : ∀ (kn : List (Nat × Bool)) (e : Nat) (q : Bool), (dropK d kn).lookup e = some q → kn.lookup e = some q ∧ d ≠ some e
  | [], e, q, h => by simp [dropK] at h
  | (f, x) :: r, e, q, h => by
    simp only [dropK] at h
    cases hd : (d == some f) with
    | true =>
      simp only [hd, cond_true] at h
      obtain ⟨h1, h2⟩ := dropK_same d r e q h
      have hef : e ≠ f := by rintro rfl; exact h2 (by simpa using hd)
      rw [lookup_cons, if_neg hef]
      exact ⟨h1, h2⟩
    | false =>
      simp only [hd, cond_false] at h
      rw [lookup_cons] at h ⊢
      by_cases he : e = f
      · rw [if_pos he] at h ⊢
        refine ⟨h, ?_⟩
        subst he
        intro h2
        rw [h2] at hd
        simp at hd
      · rw [if_neg he] at h ⊢
        exact dropK_same d r e q h
theorem applyRec_lookup {r : Rec} {d : Nat} (h : r.dst ≠ some d) : (applyRec s r).tm.lookup d = s.tm.lookup d := by
  unfold applyRec
  cases hd : r.dst with
  | none => rfl
  | some e =>
    simp only
    rw [lookup_cons, if_neg]
    rintro rfl; exact h hd
theorem Known.apply {kn : List (Nat × Bool)} (h : Known s kn) {r : Rec} {d : Option Tmp} (hd : r.dst = d) : Known (applyRec s r) (dropK d kn) := by
  intro e q he
  obtain ⟨h1, h2⟩ := dropK_same d kn e q he
  obtain ⟨sv, c, h3, h4⟩ := h e q h1
  exact ⟨sv, c, by rw [applyRec_lookup (by rw [hd]; exact h2)]; exact h3, h4⟩

theorem forcePuts_out : ∀ {l : List (Nat × Option Row)} {K : List (Nat × Option Row) → Prop}, forcePuts l K → K l
  | [], K, h => h
  | (b, none) :: l, K, h => forcePuts_out (l := l) (K := fun l => K ((b, none) :: l)) h
  | (b, some x) :: l, K, h => forcePuts_out (l := l) (K := fun l => K ((b, some ⟨x.ty, x.cs, x.sz⟩) :: l)) (forceL_out (l := x.cs) (K := fun cs => forcePuts l fun l => K ((b, some ⟨x.ty, cs, x.sz⟩) :: l)) h)
theorem forceRec_out {r : Rec} {K : Rec → Prop} (h : forceRec r K) : K r := by
  unfold forceRec at h
  have h := forceSV_out (K := fun v => forcePuts r.puts fun p => K ⟨r.dst, v, p, r.new, r.rds⟩) h
  exact forcePuts_out (K := fun p => K ⟨r.dst, r.v, p, r.new, r.rds⟩) h

theorem drawStep_fact {kn : List (Nat × Bool)} {b : Nat} {o : Oper} {ps : List Prop} {r : Rec} (h : drawStep cx kn b s o = some (ps, r)) (hp : All ps) (hk : Known s kn) : r.dst = o.dst ∧ StepFact cx b s o r := by
  unfold drawStep at h
  split at h
  · rename_i x hx
    simp only [Option.map_eq_some_iff] at h
    obtain ⟨v, hv, h⟩ := h
    cases h
    refine ⟨rfl, .inr (.inl ?_)⟩
    unfold knownPick at hx
    split at hx
    · rename_i c y z hop
      simp only [Option.map_eq_some_iff] at hx
      obtain ⟨q, hq, rfl⟩ := hx
      obtain ⟨sv, cl, h1, h2⟩ := hk c q hq
      exact ⟨c, y, z, sv, q, cl, hop, h1, h2, hv, rfl, rfl⟩
    · cases hx
  · split at h
    · rename_i ps' v hq
      cases h
      exact ⟨rfl, .inl ⟨ps, hq, hp, rfl, rfl, rfl⟩⟩
    · simp only [Option.map_eq_some_iff] at h
      obtain ⟨e, he, h⟩ := h
      cases h
      exact ⟨rfl, .inr (.inr ⟨e, he, hp, rfl, rfl, rfl, rfl⟩)⟩

theorem drawOps_facts {all : Array Oper} {K : SS → List Rec → List (Nat × Bool) → Prop} : ∀ {l : List Oper} {b : Nat} {s : SS} {recs : List Rec} {kn : List (Nat × Bool)}, drawOps cx all l b s recs kn K → Known s kn →
    ∃ rs kn', Facts cx all l rs b s ∧ K (rs.foldl applyRec s) (recs ++ rs) kn'
  | [], b, s, recs, kn, h, hk => ⟨[], kn, trivial, by simpa [drawOps] using h⟩
  | o :: r, b, s, recs, kn, h, hk => by
    unfold drawOps at h
    cases hd : dstB cx o.dst with
    | false => simp [hd] at h
    | true =>
      simp only [hd, cond_true] at h
      have goK : ∀ kn, Known s kn → GuardIs all s o true → (match drawStep cx kn b s o with
          | some (ps, rc) => andL ps (forceRec rc fun rc => drawOps cx all r (bif isNew o.op then b + 1 else b) (applyRec s rc) (recs ++ [rc]) (dropK o.dst kn) K)
          | none => False) → ∃ rs kn', Facts cx all (o :: r) rs b s ∧ K (rs.foldl applyRec s) (recs ++ rs) kn' := by
        intro kn hk hg h
        split at h
        · rename_i ps rc hs
          obtain ⟨hp, h⟩ := andL_out h
          have h := forceRec_out (K := fun rc => drawOps cx all r (bif isNew o.op then b + 1 else b) (applyRec s rc) (recs ++ [rc]) (dropK o.dst kn) K) h
          obtain ⟨h1, h2⟩ := drawStep_fact hs hp hk
          obtain ⟨rs, kn', h3, h4⟩ := drawOps_facts h (hk.apply h1)
          exact ⟨rc :: rs, kn', ⟨⟨h1, hd, .inl ⟨hg, h2⟩⟩, h3⟩, by simpa using h4⟩
        · exact h.elim
      have skipK : ∀ kn, Known s kn → GuardIs all s o false → drawOps cx all r (bif isNew o.op then b + 1 else b) (applyRec s ⟨o.dst, .tup [], [], none, []⟩) (recs ++ [⟨o.dst, .tup [], [], none, []⟩]) (dropK o.dst kn) K →
          ∃ rs kn', Facts cx all (o :: r) rs b s ∧ K (rs.foldl applyRec s) (recs ++ rs) kn' := by
        intro kn hk hg h
        obtain ⟨rs, kn', h3, h4⟩ := drawOps_facts h (hk.apply rfl)
        exact ⟨skipRec o :: rs, kn', ⟨⟨rfl, hd, .inr ⟨hg, rfl⟩⟩, h3⟩, by simpa [skipRec] using h4⟩
      have addK : ∀ {d : Nat} {sv : SV} {x c : Bool}, s.tm.lookup d = some sv → asB sv = some (x, c) → Known s ((d, x) :: kn) := by
        intro d sv x c h1 h2 e q he
        rw [lookup_cons] at he
        by_cases hed : e = d
        · simp [hed] at he; subst he hed; exact ⟨sv, c, h1, h2⟩
        · simp [hed] at he; exact hk e q he
      split at h
      · rename_i hg
        exact goK kn hk (by unfold GuardIs; rw [hg]) h
      · rename_i j want hg
        split at h
        · rename_i d hd2
          have gd : ∀ {sv : SV} {x c : Bool}, s.tm.lookup d = some sv → asB sv = some (x, c) → GuardIs all s o (x == want) := by
            intro sv x c h1 h2
            unfold GuardIs
            rw [hg]
            exact ⟨d, sv, hd2, h1, .inl ⟨x, c, h2, rfl⟩⟩
          split at h
          · rename_i q hq
            obtain ⟨sv, c, h1, h2⟩ := hk d q hq
            have hgd := gd h1 h2
            cases hqw : (q == want) with
            | true => rw [hqw] at h hgd; exact goK kn hk hgd h
            | false => rw [hqw] at h hgd; exact skipK kn hk hgd h
          · split at h
            · rename_i sv h1
              cases hsk : isSkip sv with
              | true =>
                obtain rfl := isSkip_eq hsk
                simp only [isSkip, cond_true] at h
                exact skipK kn hk (by unfold GuardIs; rw [hg]; exact ⟨d, _, hd2, h1, .inr ⟨rfl, rfl⟩⟩) h
              | false =>
                simp only [hsk, cond_false] at h
                split at h
                · rename_i x c h2
                  have hgd := gd h1 h2
                  cases c with
                  | true =>
                    simp only [cond_true] at h
                    cases hqw : (x == want) with
                    | true => rw [hqw] at h hgd; exact goK kn hk hgd h
                    | false => rw [hqw] at h hgd; exact skipK kn hk hgd h
                  | false =>
                    simp only [cond_false] at h
                    split at h
                    · rename_i q hq
                      obtain ⟨rfl, h⟩ := h
                      have hk' := addK h1 h2
                      cases hqw : (x == want) with
                      | true => rw [hqw] at h hgd; exact goK _ hk' hgd h
                      | false => rw [hqw] at h hgd; exact skipK _ hk' hgd h
                    · by_cases hx : x = want
                      · subst hx
                        exact goK _ (addK h1 h2) (by simpa using hgd) (h.1 rfl)
                      · have hx2 : x = !want := by cases x <;> cases want <;> first | rfl | exact absurd rfl hx
                        have hk' := addK h1 h2
                        rw [hx2] at hk'
                        have hgf : GuardIs all s o false := by
                          have : (x == want) = false := by cases x <;> cases want <;> first | rfl | exact absurd rfl hx
                          rwa [this] at hgd
                        exact skipK _ hk' hgf (h.2 hx2)
                · exact h.elim
            · exact h.elim
        · exact h.elim
end Sx
end Go.Proofs.Ytmmejomalfjcnaa
