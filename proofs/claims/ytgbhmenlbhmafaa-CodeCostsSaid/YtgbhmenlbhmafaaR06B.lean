/-
  Code: awake. (Printed by sx/r06.py.)
-/
import Derived.Test.YtgbhmenlbhmafaaR06A
namespace Go.Proofs.Ytgbhmenlbhmafaa
open Go.Lg
set_option linter.unusedVariables false
set_option maxRecDepth 100000
set_option maxHeartbeats 8000000
set_option linter.unusedSimpArgs false
theorem fn6 : PureC pg an 6 [] [.one (vb true)] := pure_of 300 (by kernel_rfl)
end Go.Proofs.Ytgbhmenlbhmafaa
