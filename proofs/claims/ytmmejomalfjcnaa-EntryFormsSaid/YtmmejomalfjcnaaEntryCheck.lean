/- entry.Check: an entry passes just if its fields lie within their limits and what its type does not use is empty. No condition beyond the arguments' types. -/
import Derived.Test.YtmmejomalfjcnaaEntryCk0
import Derived.Test.YtmmejomalfjcnaaEntryCk1
import Derived.Test.YtmmejomalfjcnaaEntryCk2
namespace Go.Proofs.Ytmmejomalfjcnaa
open Go.RowKit
theorem entry_Check_yes (t ow r s : Int) (en : Bool) (w : World) (i1 : I64 t) (i2 : I64 ow) (i3 : I64 r) (i4 : I64 s) (h : OkE t ow r s en) :
    Calls Try.prog 25 #[.agg #[.int .i64 t, .int .i64 ow, .int .i64 r, .int .i64 s, .bool en]] w fun e w' => e = .returned (.int .i64 0) ∧ Below w.heap.size w w' := by
  rcases h with ⟨rfl, h1, h2, h3, h4⟩ | ⟨rfl, h1, h2, h3, h4, h5⟩ | ⟨rfl, h1, h2, h3⟩ | ⟨h0, h1, h2, h3, h4, h5⟩
  · exact entry_Check_y0 ow r s en w i2 i3 i4 h1 h2 h3 h4
  · exact entry_Check_y1 ow r s en w i2 i3 i4 h1 h2 h3 h4 h5
  · exact entry_Check_y2 ow r s en w i2 i3 i4 h1 h2 h3
  · exact entry_Check_y3 t ow r s en w i1 i2 i3 i4 h0 h1 h2 h3 h4 h5

theorem entry_Check_no (t ow r s : Int) (en : Bool) (w : World) (i1 : I64 t) (i2 : I64 ow) (i3 : I64 r) (i4 : I64 s) (h : ¬ OkE t ow r s en) :
    Calls Try.prog 25 #[.agg #[.int .i64 t, .int .i64 ow, .int .i64 r, .int .i64 s, .bool en]] w fun e w' => e = .returned (.int .i64 110) ∧ Below w.heap.size w w' := by
  by_cases a : t < 0
  · exact entry_Check_lo t ow r s en w i1 i2 i3 i4 a
  by_cases b : 7 ≤ t
  · exact entry_Check_hi t ow r s en w i1 i2 i3 i4 b
  by_cases h0 : t = 0
  · subst h0
    exact entry_Check_n0 ow r s en w i2 i3 i4 (fun k => h (.inl ⟨rfl, k⟩))
  by_cases h1 : t = 1
  · subst h1
    by_cases c : pg ow
    · by_cases d : pg r
      · by_cases e : s ≤ 0
        · exact entry_Check_n1c ow r s en w i2 i3 i4 c d e
        · by_cases f : 4 ≤ s
          · exact entry_Check_n1d ow r s en w i2 i3 i4 c d f
          · cases en with
            | true => exact entry_Check_n1e ow r s true w i2 i3 i4 c d (by omega) (by omega) rfl
            | false => exact absurd (.inr (.inl ⟨rfl, c, d, by omega, by omega, rfl⟩)) h
      · exact entry_Check_n1b ow r s en w i2 i3 i4 c d
    · exact entry_Check_n1a ow r s en w i2 i3 i4 c
  by_cases h2 : t = 2
  · subst h2
    by_cases c : pg ow
    · exact entry_Check_n2b ow r s en w i2 i3 i4 c (fun k => h (.inr (.inr (.inl ⟨rfl, c, k⟩))))
    · exact entry_Check_n2a ow r s en w i2 i3 i4 c
  by_cases c : pg ow
  · exact entry_Check_n3b t ow r s en w i1 i2 i3 i4 (by omega) (by omega) c (fun k => h (.inr (.inr (.inr ⟨by omega, by omega, c, k⟩))))
  · exact entry_Check_n3a t ow r s en w i1 i2 i3 i4 (by omega) (by omega) c
end Go.Proofs.Ytmmejomalfjcnaa
