/- Plain: what the program answers for a yard that has a truth. -/
import Derived.Test.YtilbconikmpadaaGreatCH53
set_option linter.all false
namespace Go.Proofs
open Go.Fs
set_option maxHeartbeats 1000000
set_option maxRecDepth 8000
end Go.Proofs
