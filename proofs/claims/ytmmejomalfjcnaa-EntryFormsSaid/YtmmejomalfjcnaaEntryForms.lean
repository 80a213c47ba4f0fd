/- The walk of the law EntryForms: for every two entries it answers true and writes to nothing that was there. No condition beyond the arguments' types. -/
import Derived.Test.YtmmejomalfjcnaaEntryF0
import Derived.Test.YtmmejomalfjcnaaEntryF1
import Derived.Test.YtmmejomalfjcnaaEntryF2
import Derived.Test.YtmmejomalfjcnaaEntryF3
namespace Go.Proofs.Ytmmejomalfjcnaa
open Go.RowKit
theorem EntryForms_walk (t ow r s : Int) (en : Bool) (t' ow' r' s' : Int) (en' : Bool) (w : World) (i1 : I64 t) (i2 : I64 ow) (i3 : I64 r) (i4 : I64 s) (j1 : I64 t') (j2 : I64 ow') (j3 : I64 r') (j4 : I64 s') :
    Calls Try.prog 6 #[.agg #[.int .i64 t, .int .i64 ow, .int .i64 r, .int .i64 s, .bool en], .agg #[.int .i64 t', .int .i64 ow', .int .i64 r', .int .i64 s', .bool en']] w fun e w' => e = .returned (.bool true) ∧ Below w.heap.size w w' := by
  by_cases ha : OkE t ow r s en
  · have hA := ha
    rcases ha with ⟨k, k2, k3, k4, ke⟩ | ⟨k, k2, k3, k4, k5, ke⟩ | ⟨k, k2, k3, k4⟩ | ⟨k, k', k2, k3, k4, ke⟩
    · by_cases hb : OkE t' ow' r' s' en'
      · exact EntryForms_y0Y t ow r s en t' ow' r' s' en' w i1 i2 i3 i4 j1 j2 j3 j4 hA hb k k2 k3 k4 ke
      · exact EntryForms_y0N t ow r s en t' ow' r' s' en' w i1 i2 i3 i4 j1 j2 j3 j4 hA hb k k2 k3 k4 ke
    · by_cases hb : OkE t' ow' r' s' en'
      · exact EntryForms_y1Y t ow r s en t' ow' r' s' en' w i1 i2 i3 i4 j1 j2 j3 j4 hA hb k k2 k3 ⟨k4, k5⟩ ke
      · exact EntryForms_y1N t ow r s en t' ow' r' s' en' w i1 i2 i3 i4 j1 j2 j3 j4 hA hb k k2 k3 ⟨k4, k5⟩ ke
    · by_cases hb : OkE t' ow' r' s' en'
      · exact EntryForms_y2Y t ow r s en t' ow' r' s' en' w i1 i2 i3 i4 j1 j2 j3 j4 hA hb k k2 k3 k4
      · exact EntryForms_y2N t ow r s en t' ow' r' s' en' w i1 i2 i3 i4 j1 j2 j3 j4 hA hb k k2 k3 k4
    · by_cases hb : OkE t' ow' r' s' en'
      · exact EntryForms_y3Y t ow r s en t' ow' r' s' en' w i1 i2 i3 i4 j1 j2 j3 j4 hA hb ⟨k, k'⟩ k2 k3 k4 ke
      · exact EntryForms_y3N t ow r s en t' ow' r' s' en' w i1 i2 i3 i4 j1 j2 j3 j4 hA hb ⟨k, k'⟩ k2 k3 k4 ke
  · by_cases a : t < 0
    · exact EntryForms_lo t ow r s en t' ow' r' s' en' w i1 i2 i3 i4 j1 j2 j3 j4 ha a
    by_cases b : 7 ≤ t
    · exact EntryForms_hi t ow r s en t' ow' r' s' en' w i1 i2 i3 i4 j1 j2 j3 j4 ha b
    by_cases h0 : t = 0
    · by_cases c : ow = 0
      · by_cases d : r = 0
        · by_cases e : s = 0
          · cases en with
            | true => exact EntryForms_n0d t ow r s true t' ow' r' s' en' w i1 i2 i3 i4 j1 j2 j3 j4 ha h0 c d e rfl
            | false => exact absurd (.inl ⟨h0, c, d, e, rfl⟩) ha
          · exact EntryForms_n0c t ow r s en t' ow' r' s' en' w i1 i2 i3 i4 j1 j2 j3 j4 ha h0 c d e
        · exact EntryForms_n0b t ow r s en t' ow' r' s' en' w i1 i2 i3 i4 j1 j2 j3 j4 ha h0 c d
      · exact EntryForms_n0a t ow r s en t' ow' r' s' en' w i1 i2 i3 i4 j1 j2 j3 j4 ha h0 c
    by_cases h1 : t = 1
    · by_cases l1 : ow < 0
      · exact EntryForms_n1a t ow r s en t' ow' r' s' en' w i1 i2 i3 i4 j1 j2 j3 j4 ha h1 l1
      by_cases l2 : 63 < ow
      · exact EntryForms_n1b t ow r s en t' ow' r' s' en' w i1 i2 i3 i4 j1 j2 j3 j4 ha h1 l2
      by_cases l3 : r < 0
      · exact EntryForms_n1c t ow r s en t' ow' r' s' en' w i1 i2 i3 i4 j1 j2 j3 j4 ha h1 ⟨by omega, by omega⟩ l3
      by_cases l4 : 63 < r
      · exact EntryForms_n1d t ow r s en t' ow' r' s' en' w i1 i2 i3 i4 j1 j2 j3 j4 ha h1 ⟨by omega, by omega⟩ l4
      by_cases l5 : s < 1
      · exact EntryForms_n1e t ow r s en t' ow' r' s' en' w i1 i2 i3 i4 j1 j2 j3 j4 ha h1 ⟨by omega, by omega⟩ ⟨by omega, by omega⟩ l5
      by_cases l6 : 3 < s
      · exact EntryForms_n1f t ow r s en t' ow' r' s' en' w i1 i2 i3 i4 j1 j2 j3 j4 ha h1 ⟨by omega, by omega⟩ ⟨by omega, by omega⟩ l6
      cases en with
      | true => exact EntryForms_n1g t ow r s true t' ow' r' s' en' w i1 i2 i3 i4 j1 j2 j3 j4 ha h1 ⟨by omega, by omega⟩ ⟨by omega, by omega⟩ ⟨by omega, by omega⟩ rfl
      | false => exact absurd (.inr (.inl ⟨h1, ⟨by omega, by omega⟩, ⟨by omega, by omega⟩, by omega, by omega, rfl⟩)) ha
    by_cases h2 : t = 2
    · by_cases l1 : ow < 0
      · exact EntryForms_n2a t ow r s en t' ow' r' s' en' w i1 i2 i3 i4 j1 j2 j3 j4 ha h2 l1
      by_cases l2 : 63 < ow
      · exact EntryForms_n2b t ow r s en t' ow' r' s' en' w i1 i2 i3 i4 j1 j2 j3 j4 ha h2 l2
      by_cases d : r = 0
      · by_cases e : s = 0
        · exact absurd (.inr (.inr (.inl ⟨h2, ⟨by omega, by omega⟩, d, e⟩))) ha
        · exact EntryForms_n2d t ow r s en t' ow' r' s' en' w i1 i2 i3 i4 j1 j2 j3 j4 ha h2 ⟨by omega, by omega⟩ d e
      · exact EntryForms_n2c t ow r s en t' ow' r' s' en' w i1 i2 i3 i4 j1 j2 j3 j4 ha h2 ⟨by omega, by omega⟩ d
    by_cases l1 : ow < 0
    · exact EntryForms_n3a t ow r s en t' ow' r' s' en' w i1 i2 i3 i4 j1 j2 j3 j4 ha ⟨by omega, by omega⟩ l1
    by_cases l2 : 63 < ow
    · exact EntryForms_n3b t ow r s en t' ow' r' s' en' w i1 i2 i3 i4 j1 j2 j3 j4 ha ⟨by omega, by omega⟩ l2
    by_cases d : r = 0
    · by_cases e : s = 0
      · cases en with
        | true => exact EntryForms_n3e t ow r s true t' ow' r' s' en' w i1 i2 i3 i4 j1 j2 j3 j4 ha ⟨by omega, by omega⟩ ⟨by omega, by omega⟩ d e rfl
        | false => exact absurd (.inr (.inr (.inr ⟨by omega, by omega, ⟨by omega, by omega⟩, d, e, rfl⟩))) ha
      · exact EntryForms_n3d t ow r s en t' ow' r' s' en' w i1 i2 i3 i4 j1 j2 j3 j4 ha ⟨by omega, by omega⟩ ⟨by omega, by omega⟩ d e
    · exact EntryForms_n3c t ow r s en t' ow' r' s' en' w i1 i2 i3 i4 j1 j2 j3 j4 ha ⟨by omega, by omega⟩ ⟨by omega, by omega⟩ d
end Go.Proofs.Ytmmejomalfjcnaa
