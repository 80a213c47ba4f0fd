/- The law PagedbBack gone through. No condition beyond sizes. -/
import Derived.Test.YtlndkfcnfhkbkaaPdK
namespace Go.Proofs.Ytlndkfcnfhkbkaa
open Go.RowKit Sx
set_option linter.unusedVariables false
set_option linter.unusedSimpArgs false
set_option maxRecDepth 100000
set_option maxHeartbeats 8000000
theorem okA.le {n : Nat} {b : Int} {ps qs : List (List Int)} {m : Int} {ws : List Int} {l l' : Int} (h : okA n b ps qs m ws l) (hl : l ≤ l') : okA n b ps qs m ws l' := ⟨h.pl, h.wf, h.gw, by have := h.lm; omega⟩
end Go.Proofs.Ytlndkfcnfhkbkaa
