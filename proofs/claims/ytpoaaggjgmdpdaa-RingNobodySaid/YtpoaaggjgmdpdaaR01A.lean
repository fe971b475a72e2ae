/-
  The seat of the ring: the closed facts.
-/
import Derived.Test.YtpoaaggjgmdpdaaX17
import Derived.Test.YtpoaaggjgmdpdaaRows
import Derived.WalkKit
import Derived.ProofKit
namespace Go.Proofs.Ytpoaaggjgmdpdaa
open Go.Lg

def A0 : Ann := { pureSl := fun t => t != 58, pureFn := fun f => [9, 16, 17, 28, 30, 31, 32, 33, 34, 36].contains f, live := fun _ _ => none, loop := fun _ _ => none, may := fun f => [3, 4, 7, 8, 9, 10, 11, 12, 13, 14, 15, 16, 17, 18, 19, 20, 21, 24, 25, 26, 27, 28, 35].contains f }

theorem own : ownKnob Try.prog.godebug = none := by kernel_rfl
theorem laidOut : laidOutB Try.prog = true := by kernel_rfl
theorem pok : POk Try.prog := pOk_of (by kernel_rfl)
theorem aok0 : AnnOk Try.prog A0 := annOk_of (by kernel_rfl)
end Go.Proofs.Ytpoaaggjgmdpdaa
