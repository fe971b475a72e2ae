/-
  Super: the frame. (Printed by sx/r28.py.)
-/
import Derived.Test.YtbkdpmkjcoaapaaX24
import Derived.Test.YtbkdpmkjcoaapaaProg
import Derived.KernelRfl
namespace Go.Proofs.Ytbkdpmkjcoaapaa
open Go.Lg
set_option linter.unusedVariables false
set_option maxRecDepth 100000
set_option maxHeartbeats 8000000
set_option linter.unusedSimpArgs false
def maskA : List (Nat × List (Nat × List (Nat × (Bool × List Nat)))) := [(5, [(5, [(1, (true, [3])), (8, (false, [3]))])]), (9, [(12, [(0, (true, [4])), (6, (false, [4]))]), (13, [(0, (true, [4])), (7, (false, [4]))])]), (15, [(4, [(4, (false, [0])), (8, (true, [0]))])])]
def tab {α : Type} (T : List (Nat × List (Nat × α))) (f r : Nat) : Option α := (T.lookup f).bind (List.lookup r)
def pureT : List Nat := [22, 28, 32, 56]
abbrev an : Ann := { pureSl := pureT.contains, dryB := pureT.contains, pureFn := fun f => ([10, 13] : List Nat).contains f, live := fun _ _ => none, loop := fun _ _ => none, mask := fun f r i => (tab maskA f r).bind (List.lookup i), may := fun f => [4, 5, 6, 8, 9, 10, 11, 12, 13, 14, 15, 16, 17, 19, 20, 21, 22, 23, 24, 25, 26, 27, 28, 29, 30, 31, 32, 33, 34, 37, 38, 39, 40, 41, 42, 43, 44, 47, 48, 49, 50, 51, 52, 53, 54, 55, 56, 57, 58, 60, 61, 62, 63, 64, 65, 66, 70, 71, 72, 73, 74, 75, 77, 79, 80].contains f }
noncomputable abbrev pg : Program := Try.prog

end Go.Proofs.Ytbkdpmkjcoaapaa
