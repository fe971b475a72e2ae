/-
  Code: the frame. (Printed by sx/r06.py.)
-/
import Derived.Test.YtgbhmenlbhmafaaX24
import Derived.Test.YtgbhmenlbhmafaaProg
import Derived.KernelRfl
namespace Go.Proofs.Ytgbhmenlbhmafaa
open Go.Lg
set_option linter.unusedVariables false
set_option maxRecDepth 100000
set_option maxHeartbeats 8000000
set_option linter.unusedSimpArgs false
abbrev NI : Sh := .int .i64
def liveT : List (Nat × List (Nat × List Nat)) := [(3, [(0, [0, 1]), (1, [0, 1, 5, 6]), (2, [0, 1, 5, 6, 7, 8]), (3, [0, 1, 5, 6, 7, 8, 9, 10]), (4, [0, 1, 5, 6, 7, 8, 9, 10, 30]), (5, [4]), (6, [0, 1, 5, 7, 8, 9, 10, 11, 12]), (7, [0, 1, 5, 7, 8, 89]), (8, [4]), (9, [4])]),
  (4, [(0, [0]), (1, [0, 9]), (2, [2, 3]), (3, [2, 3])]),
  (5, [(0, [1]), (1, [1, 7]), (2, [2, 3]), (3, [9]), (4, [9, 10]), (5, [2, 3]), (6, [9, 12]), (7, [2, 3]), (8, [9, 14]), (9, [9, 14]), (10, [9, 14]), (11, [9, 14]), (12, [9, 14]), (13, [9, 14]), (14, [9, 14]), (15, [9, 14]), (16, [9, 14]), (17, [9, 14]), (18, [9, 14]), (19, [9, 14]), (20, [9, 14]), (21, [14]), (22, [2, 3]), (23, [2, 3])]),
  (9, [(0, [0]), (1, [2])])]
def loopT : List (Nat × List (Nat × (List Nat × Bool))) := []
def maskT : List (Nat × List (Nat × List (Nat × (Bool × List Nat)))) := []

def maskA : List (Nat × List (Nat × List (Nat × (Bool × List Nat)))) := []
def tab {α : Type} (T : List (Nat × List (Nat × α))) (f r : Nat) : Option α := (T.lookup f).bind (List.lookup r)
abbrev an : Ann := { pureSl := fun t => t != 44, pureFn := fun f => [4, 5, 6, 7, 8, 9].contains f, live := tab liveT, loop := tab loopT, mask := fun f r i => (tab maskA f r).bind (List.lookup i), may := fun f => [3, 4, 5, 6, 7, 8, 9, 10, 11, 12, 13, 14, 15, 16, 17, 18, 19, 20, 21, 22, 23, 24, 25, 26, 27, 28, 29, 31, 32, 33].contains f }
noncomputable abbrev pg : Program := Try.prog
end Go.Proofs.Ytgbhmenlbhmafaa
