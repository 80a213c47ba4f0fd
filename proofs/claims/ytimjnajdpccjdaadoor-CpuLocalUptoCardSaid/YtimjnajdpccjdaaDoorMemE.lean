/- A memory's pages copied. No condition beyond lengths. -/
import Derived.Test.YtimjnajdpccjdaaDoorMemD
namespace Go.Proofs.YtimjnajdpccjdaaDoor
set_option linter.unusedVariables false
set_option linter.unusedSimpArgs false
open Go.RowKit Sx
set_option maxRecDepth 100000
set_option maxHeartbeats 4000000
end Go.Proofs.YtimjnajdpccjdaaDoor
