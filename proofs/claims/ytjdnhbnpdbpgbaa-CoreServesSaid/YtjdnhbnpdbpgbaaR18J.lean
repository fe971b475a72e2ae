/-
  Core: Pick, Cut and Same of the document. (Printed by sx/r18.py.)
-/
import Derived.Test.YtjdnhbnpdbpgbaaR18I
import Derived.Test.YtjdnhbnpdbpgbaaR18E
namespace Go.Proofs.Ytjdnhbnpdbpgbaa
open Go.Lg
set_option linter.unusedVariables false
set_option maxRecDepth 100000
set_option maxHeartbeats 8000000
set_option linter.unusedSimpArgs false
end Go.Proofs.Ytjdnhbnpdbpgbaa
