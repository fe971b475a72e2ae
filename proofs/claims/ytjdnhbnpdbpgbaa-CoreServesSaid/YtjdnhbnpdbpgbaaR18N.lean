/-
  Core: what is lent; the law. (Printed by sx/r18.py.)
-/
import Derived.Test.YtjdnhbnpdbpgbaaR18M
import Derived.Test.YtjdnhbnpdbpgbaaR18L
import Derived.Test.YtjdnhbnpdbpgbaaR18J
namespace Go.Proofs.Ytjdnhbnpdbpgbaa
open Go.Lg
set_option linter.unusedVariables false
set_option maxRecDepth 100000
set_option maxHeartbeats 8000000
set_option linter.unusedSimpArgs false
def mk (n : Nat) : List Int := (List.range n).map fun (j : Nat) => -770000 - (j : Int)
theorem fn11 : PureC pg an 11 [] [.one (vb true)] := pure_of 400 (by kernel_rfl)
end Go.Proofs.Ytjdnhbnpdbpgbaa
