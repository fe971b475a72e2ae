/- Lemmas. -/
import Derived.Test.YtoidoeappihplaaR19SN
import Derived.Test.YtoidoeappihplaaR19SJ
import Derived.Test.YtoidoeappihplaaR19SL
namespace Go.Proofs.Ytoidoeappihplaa
open Go.Lg
set_option linter.unusedVariables false
set_option maxRecDepth 100000
set_option maxHeartbeats 8000000
set_option linter.unusedSimpArgs false
end Go.Proofs.Ytoidoeappihplaa
