/- What marks are. -/
import Derived.Test.YtjbokkoiicoahaaGreatTy
namespace Go.Av
open Go Go.Proofs
set_option maxRecDepth 100000
set_option maxHeartbeats 4000000
set_option linter.unusedVariables false
set_option linter.unusedSimpArgs false
end Go.Av
