/- A memory's page handed out. No condition beyond lengths. -/
import Derived.Test.YtlndkfcnfhkbkaaMemE
namespace Go.Proofs.Ytlndkfcnfhkbkaa
open Go.RowKit Sx
set_option linter.unusedVariables false
set_option linter.unusedSimpArgs false
set_option maxRecDepth 100000
set_option maxHeartbeats 4000000
theorem pageP {l : List Int} (h : l.length = 1024) : (List.take 1024 l).append (List.drop (0 + (List.take 1024 l).length) (List.replicate 1024 (0 : Int))) = l := by
  show List.take 1024 l ++ List.drop (0 + (List.take 1024 l).length) (List.replicate 1024 (0 : Int)) = l
  rw [List.take_of_length_le (by omega), List.drop_eq_nil_of_le (by simp; omega)]; simp
end Go.Proofs.Ytlndkfcnfhkbkaa
