/- A memory's pages copied. No condition beyond lengths. -/
import Derived.Test.YtlndkfcnfhkbkaaMemD
namespace Go.Proofs.Ytlndkfcnfhkbkaa
open Go.RowKit Sx
set_option linter.unusedVariables false
set_option linter.unusedSimpArgs false
set_option maxRecDepth 100000
set_option maxHeartbeats 4000000
end Go.Proofs.Ytlndkfcnfhkbkaa
