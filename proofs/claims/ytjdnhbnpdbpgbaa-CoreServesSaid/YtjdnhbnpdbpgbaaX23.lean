/-
  X, part 23: parts of slices that came in; a loop whose first rounds were stepped through; a row handed back.
-/
import Derived.Test.YtjdnhbnpdbpgbaaX22
namespace Go.Lg
section
variable {P : Program} {A : Ann} {H : Heap} {f : FuncId} {Q : Ex → Env → Heap → Prop}
theorem back_cons {y y' : Y} {l l' : List Y} (h : backY H y = some y') (hl : l.mapM (backY H) = some l') : (y :: l).mapM (backY H) = some (y' :: l') := by
  rw [List.mapM_cons, h]; simp [hl]
end
end Go.Lg
