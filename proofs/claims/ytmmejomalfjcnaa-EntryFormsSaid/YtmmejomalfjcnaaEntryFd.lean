/- What the law EntryForms asks of an entry, and its calls. No condition beyond the arguments' types. -/
import Derived.Test.YtmmejomalfjcnaaEntryBack
import Derived.Test.YtmmejomalfjcnaaEntryOpen
namespace Go.Proofs.Ytmmejomalfjcnaa
open Go.RowKit
set_option linter.unusedVariables false

def usedO (t : Int) : Bool := decide (1 ≤ t ∧ t ≤ 6)
set_option maxHeartbeats 400000 in
theorem entry_used (t : Int) (w : World) : Calls Try.prog 24 #[.int .i64 t] w fun e w' => e = .returned (.tuple #[.bool (usedO t), .bool (t == 1), .bool (t == 2)]) ∧ Below w.heap.size w w' := by
  by_cases h1 : 1 ≤ t
  · by_cases h2 : t ≤ 6
    · rw [show usedO t = true from by simp [usedO, h1, h2]]
      go_enter Try.func24, Try.ntmps24
      go_wp2
      go_ret3
      exact ⟨rfl, Below.refl _ _⟩
    · rw [show usedO t = false from by simp [usedO, h2]]
      go_enter Try.func24, Try.ntmps24
      go_wp2
      go_ret3
      exact ⟨rfl, Below.refl _ _⟩
  · rw [show usedO t = false from by simp [usedO, h1]]
    go_enter Try.func24, Try.ntmps24
    go_wp2
    go_ret3
    exact ⟨rfl, Below.refl _ _⟩

def okO (t ow : Int) : Bool := decide ((1 ≤ t ∧ t ≤ 6 ∧ 0 ≤ ow ∧ ow ≤ 63) ∨ (t = 0 ∧ ow = 0))
def okR (t ow r s : Int) : Bool := okO t ow && (if t = 1 then decide (0 ≤ r ∧ r ≤ 63 ∧ 1 ≤ s ∧ s ≤ 3) else decide (r = 0 ∧ s = 0))
def okAll (t ow r s : Int) (en : Bool) : Bool := okR t ow r s && (decide (t = 2) || !en)
theorem okAll_iff (t ow r s : Int) (en : Bool) : okAll t ow r s en = true ↔ OkE t ow r s en := by
  unfold okAll okR okO OkE pg
  by_cases h : t = 1
  · subst h; cases en <;> simp <;> omega
  · cases en <;> simp [h] <;> omega

theorem ref_eq {t ow r s : Int} {en : Bool} {t' ow' r' s' : Int} {en' : Bool} (h1 : I64 t) (h2 : I64 ow) (h3 : I64 r) (h4 : I64 s) (k1 : I64 t') (k2 : I64 ow') (k3 : I64 r') (k4 : I64 s') (b : Bool)
    (hb : b = true ↔ (t = t' ∧ ow = ow' ∧ r = r' ∧ s = s' ∧ en = en')) (w : World) :
    (Op.equalIn 10000 50 (.agg #[.int .i64 t, .int .i64 ow, .int .i64 r, .int .i64 s, .bool en]) (.agg #[.int .i64 t', .int .i64 ow', .int .i64 r', .int .i64 s', .bool en'])).run Try.prog w = .ok b w :=
  run_equalIn_flat w ref_agg ref_flat (by decide) (ent_fits h1 h2 h3 h4) (ent_fits k1 k2 k3 k4) b (by rw [hb]; simp [entC])

theorem ent_same {t ow r s : Int} {en : Bool} {t' ow' r' s' : Int} {en' : Bool} (h : OkE t ow r s en) (k : OkE t' ow' r' s' en') : (t = t' ∧ ow = ow' ∧ r = r' ∧ s = s' ∧ en = en') ↔ (entW t ow s en = entW t' ow' s' en' ∧ r = r') := by
  constructor
  · rintro ⟨rfl, rfl, rfl, rfl, rfl⟩; exact ⟨rfl, rfl⟩
  · rintro ⟨e, rfl⟩
    obtain ⟨a1, a2, _, a4, a5, _⟩ := ent_back h
    obtain ⟨b1, b2, _, b4, b5, _⟩ := ent_back k
    rw [e] at a1 a2 a4 a5
    exact ⟨a1.symm.trans b1, a2.symm.trans b2, rfl, a4.symm.trans b4, a5.symm.trans b5⟩

theorem entry_Encode_any (t ow r s : Int) (en : Bool) (w : World) (i1 : I64 t) (i2 : I64 ow) (i3 : I64 r) (i4 : I64 s) :
    ∃ a b n : Int, ∀ w, Calls Try.prog 27 #[.agg #[.int .i64 t, .int .i64 ow, .int .i64 r, .int .i64 s, .bool en]] w fun e w' => e = .returned (.tuple #[.agg #[.int .u32 a, .int .u32 b], .int .i64 n]) ∧ Below w.heap.size w w' := by
  by_cases h : OkE t ow r s en
  · exact ⟨_, _, _, fun w => entry_Encode_yes t ow r s en w i1 i2 i3 i4 h⟩
  · exact ⟨_, _, _, fun w => entry_Encode_no t ow r s en w i1 i2 i3 i4 h⟩
end Go.Proofs.Ytmmejomalfjcnaa
