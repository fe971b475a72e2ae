/-
  Tie: the frame. (Printed by sx/r15.py.)
-/
import Derived.Test.YtjhgjbagmkiibaaX24
import Derived.Test.YtjhgjbagmkiibaaProg
import Derived.KernelRfl
namespace Go.Proofs.Ytjhgjbagmkiibaa
open Go.Lg
set_option linter.unusedVariables false
set_option maxRecDepth 100000
set_option maxHeartbeats 8000000
set_option linter.unusedSimpArgs false
def maskA : List (Nat × List (Nat × List (Nat × (Bool × List Nat)))) := [(6, [(7, [(29, (false, [3, 10, 11])), (30, (true, [])), (32, (true, [3])), (33, (false, [3, 10, 11])), (34, (true, [])), (37, (false, [3, 10, 11])), (41, (true, [10])), (44, (true, [11]))])]), (13, [(8, [(3, (true, [0])), (6, (false, [0]))])])]
def tab {α : Type} (T : List (Nat × List (Nat × α))) (f r : Nat) : Option α := (T.lookup f).bind (List.lookup r)
def pureT : List Nat := [22, 32, 35, 75]
abbrev an : Ann := { pureSl := pureT.contains, dryB := pureT.contains, pureFn := fun f => ([] : List Nat).contains f, live := fun _ _ => none, loop := fun _ _ => none, mask := fun f r i => (tab maskA f r).bind (List.lookup i), may := fun f => [6, 7, 8, 10, 11, 12, 13, 15, 16, 17, 24, 25, 26, 27, 28, 29, 30, 31, 32, 33, 34, 35, 36, 37, 38, 39, 40, 50, 51, 52, 53, 63, 64, 65, 66, 67, 68, 69, 70, 71, 72, 73, 74, 75, 76, 77, 78, 79, 80, 81, 82, 83, 84, 85, 86, 87, 88, 89, 90, 91, 92, 93, 94, 95, 96, 97, 98, 99, 100, 101, 102, 103, 104, 105].contains f }
noncomputable abbrev pg : Program := Try.prog

end Go.Proofs.Ytjhgjbagmkiibaa
