/- A memory's pages copied, handed out. No condition beyond lengths. -/
import Derived.Test.YtimjnajdpccjdaaDoorMemC
namespace Go.Proofs.YtimjnajdpccjdaaDoor
set_option linter.unusedVariables false
set_option linter.unusedSimpArgs false
open Go.RowKit Sx
set_option maxRecDepth 100000
set_option maxHeartbeats 4000000
end Go.Proofs.YtimjnajdpccjdaaDoor
