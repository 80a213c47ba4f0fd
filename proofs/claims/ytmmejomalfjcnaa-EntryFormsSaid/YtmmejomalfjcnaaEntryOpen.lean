/- Entries and pairs of words, opened out of their cells. -/
import Derived.Test.YtmmejomalfjcnaaEntryCode
namespace Go.Proofs.Ytmmejomalfjcnaa
theorem ref_flat : flatAt Try.prog 3 50 = some [some .i64, some .i64, some .i64, some .i64, none] := by kernel_rfl
theorem ref_agg : isAggT Try.prog 50 = true := by kernel_rfl
theorem ent_open {c : List Value} (f : Fits [some .i64, some .i64, some .i64, some .i64, none] c) : ∃ (t ow r s : Int) (en : Bool), c = [.int .i64 t, .int .i64 ow, .int .i64 r, .int .i64 s, .bool en] ∧ I64 t ∧ I64 ow ∧ I64 r ∧ I64 s := by
  have hl := f.length
  match c, hl with
  | [_, _, _, _, _], _ =>
    obtain ⟨⟨t, e1, w1⟩, ⟨ow, e2, w2⟩, ⟨r, e3, w3⟩, ⟨s, e4, w4⟩, ⟨en, e5⟩, _⟩ := f
    exact ⟨t, ow, r, s, en, by rw [e1, e2, e3, e4, e5], I64.of_wf w1, I64.of_wf w2, I64.of_wf w3, I64.of_wf w4⟩
theorem w2_open {c : List Value} (f : Fits [some .u32, some .u32] c) : ∃ a b : Int, c = [.int .u32 a, .int .u32 b] ∧ U32 a ∧ U32 b :=
  match c, f with
  | [_, _], ⟨⟨a, e1, w1⟩, ⟨b, e2, w2⟩, _⟩ => ⟨a, b, by rw [e1, e2], U32.of_wf w1, U32.of_wf w2⟩
end Go.Proofs.Ytmmejomalfjcnaa
