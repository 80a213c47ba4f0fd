/- Entries: their limits, '==' of two, the numbers of pages. No condition beyond the arguments' types. -/
import Derived.Test.YtmmejomalfjcnaaRows
import Derived.Test.YtmmejomalfjcnaaFlatEq
import Derived.Test.YtmmejomalfjcnaaBits
import Derived.Test.YtmmejomalfjcnaaBase
import Derived.WalkSpells
import Derived.WalkLawsBesides
import Derived.Deep.QuietTactic
import Derived.BigQuiet
import Derived.Deep.Cut
import Derived.Lib.Hide
import Derived.Laws.CopyOwn
namespace Go.Proofs.Ytmmejomalfjcnaa
open Go.RowKit
set_option linter.unusedVariables false

def pg (n : Int) : Prop := 0 ≤ n ∧ n ≤ 63
instance (n : Int) : Decidable (pg n) := inferInstanceAs (Decidable (0 ≤ n ∧ n ≤ 63))
/-- May the entry be? -/
def OkE (t ow r s : Int) (en : Bool) : Prop :=
  (t = 0 ∧ ow = 0 ∧ r = 0 ∧ s = 0 ∧ en = false) ∨ (t = 1 ∧ pg ow ∧ pg r ∧ 1 ≤ s ∧ s ≤ 3 ∧ en = false) ∨ (t = 2 ∧ pg ow ∧ r = 0 ∧ s = 0) ∨ (3 ≤ t ∧ t ≤ 6 ∧ pg ow ∧ r = 0 ∧ s = 0 ∧ en = false)
instance (t ow r s : Int) (en : Bool) : Decidable (OkE t ow r s en) := by unfold OkE; infer_instance

def I64 (n : Int) : Prop := -9223372036854775808 ≤ n ∧ n ≤ 9223372036854775807
instance (n : Int) : Decidable (I64 n) := inferInstanceAs (Decidable (-9223372036854775808 ≤ n ∧ n ≤ 9223372036854775807))
theorem I64.wf {n : Int} (h : I64 n) : (Lit.int .i64 n).wf = true := by
  unfold I64 at h; simp [Lit.wf, IntKind.min, IntKind.max, IntKind.signed, IntKind.bits]; omega
theorem I64.of_wf {n : Int} (h : (Lit.int .i64 n).wf = true) : I64 n := by
  simp [Lit.wf, IntKind.min, IntKind.max, IntKind.signed, IntKind.bits] at h; unfold I64; omega

abbrev entC (t ow r s : Int) (en : Bool) : List Value := [.int .i64 t, .int .i64 ow, .int .i64 r, .int .i64 s, .bool en]
theorem ent_flat : flatAt Try.prog 3 57 = some [some .i64, some .i64, some .i64, some .i64, none] := by kernel_rfl
theorem ent_agg : isAggT Try.prog 57 = true := by kernel_rfl
theorem ent_size : (Try.prog.info? 57).map (·.size) = some 5 := by kernel_rfl
theorem ent_fits {t ow r s : Int} {en : Bool} (h1 : I64 t) (h2 : I64 ow) (h3 : I64 r) (h4 : I64 s) : Fits [some .i64, some .i64, some .i64, some .i64, none] (entC t ow r s en) :=
  ⟨⟨_, rfl, h1.wf⟩, ⟨_, rfl, h2.wf⟩, ⟨_, rfl, h3.wf⟩, ⟨_, rfl, h4.wf⟩, ⟨_, rfl⟩, trivial⟩
/-- '==' of two entries, in the walk's spelling. -/
theorem ent_eq {t ow r s : Int} {en : Bool} {t' ow' r' s' : Int} {en' : Bool} (h1 : I64 t) (h2 : I64 ow) (h3 : I64 r) (h4 : I64 s) (k1 : I64 t') (k2 : I64 ow') (k3 : I64 r') (k4 : I64 s') (b : Bool)
    (hb : b = true ↔ (t = t' ∧ ow = ow' ∧ r = r' ∧ s = s' ∧ en = en')) (w : World) :
    (Op.equalIn 10000 57 (.agg #[.int .i64 t, .int .i64 ow, .int .i64 r, .int .i64 s, .bool en]) (.agg #[.int .i64 t', .int .i64 ow', .int .i64 r', .int .i64 s', .bool en'])).run Try.prog w = .ok b w :=
  run_equalIn_flat w ent_agg ent_flat (by decide) (ent_fits h1 h2 h3 h4) (ent_fits k1 k2 k3 k4) b (by rw [hb]; simp [entC])

set_option maxHeartbeats 400000 in
theorem entry_page (n : Int) (b : Bool) (w : World) (hb : b = true ↔ pg n) : Calls Try.prog 57 #[.int .i64 n] w fun e w' => e = .returned (.bool b) ∧ w = w' := by
  by_cases h0 : 0 ≤ n
  · by_cases h1 : n ≤ 63
    · obtain rfl : b = true := hb.2 ⟨h0, h1⟩
      clear hb
      go_enter Try.func57, Try.ntmps57
      go_wp2
      go_ret
      exact ⟨rfl, rfl⟩
    · obtain rfl : b = false := by cases b; rfl; exact absurd (hb.1 rfl).2 h1
      clear hb
      go_enter Try.func57, Try.ntmps57
      go_wp2
      go_ret
      exact ⟨rfl, rfl⟩
  · obtain rfl : b = false := by cases b; rfl; exact absurd (hb.1 rfl).1 h0
    clear hb
    go_enter Try.func57, Try.ntmps57
    go_wp2
    go_ret
    exact ⟨rfl, rfl⟩

end Go.Proofs.Ytmmejomalfjcnaa
