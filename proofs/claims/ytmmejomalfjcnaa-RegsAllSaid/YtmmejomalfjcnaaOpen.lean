/- Plain laws, over any program: an argument that is an array or a struct of integers and bools is opened as its list of cells. -/
import Derived.Test.YtmmejomalfjcnaaFlat
import Derived.Test.YtmmejomalfjcnaaFlatEq
import Derived.ProofKit
import Derived.WideShapes
namespace Go.Proofs.Ytmmejomalfjcnaa
open Go.RowKit Go.ChangeShapes Go.WideShapes

section
variable {H : Type} {enc : TypeId × Value → H} {P : Program} {w : World} {base : Nat} {spare : Nat → Bool} {held : Bool}
theorem open_flat {r : Reach} {b0 n : Nat} {t : TypeId} {ks : List FT} {v : Value} {d : DataW H} {p : List MemPlace} (ha : isAggT P t = true) (hk : flatAt P n t = some ks)
    (hv : Value.okWide P w r b0 t v) (h : DataW.Trod enc P w base spare held t v d p) : ∃ cs : List Value, v = .agg cs.toArray ∧ Fits ks cs := by
  obtain ⟨cs, rfl⟩ : ∃ cs, v = .agg cs := by
    unfold Value.okWide at hv
    unfold isAggT at ha
    split at hv
    · obtain ⟨cs, h, _⟩ := hv; exact ⟨cs, h⟩
    · obtain ⟨cs, h, _⟩ := hv; exact ⟨cs, h⟩
    · split at ha <;> simp_all
  obtain ⟨fuel, hf⟩ := h
  exact ⟨cs.toList, by simp, fits_of_trod n fuel t ks _ _ hk hf⟩
end
end Go.Proofs.Ytmmejomalfjcnaa
