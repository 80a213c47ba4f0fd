/- The package's variables that the executor may read: none. No condition. -/
import Derived.Test.YtmmejomalfjcnaaSxVal
namespace Go.Proofs.Ytmmejomalfjcnaa
namespace Sx
def globs : List (Nat × List SV) := []
end Sx
end Go.Proofs.Ytmmejomalfjcnaa
