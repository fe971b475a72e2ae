/-
 X, part 35: slices that may end inside their row: append in place, clear.
-/
import Derived.Test.YtoieblpjklbmoaaX34
namespace Go.Lg
section
variable {P : Program} {A : Ann} {H : Heap}
/-- What is left runs by itself. -/
def closeX (P : Program) (A : Ann) (f : FuncId) (k : Nat) (c : Code) (e : Env) (H : Heap) (rv : List ResultVar) : Option (List Y) :=
 (codeX P A (runX P A k) f k c e H).bind fun r => match r.1 with
  | .normal | .ret => (rv.mapM (resX P r.2.1 r.2.2)).bind fun rs => rs.mapM (backY r.2.2)
  | _ => none
/-- A slice of one's own: nil, or the first part of a row. -/
def partP (s : Sh) (c : C) (l : List s.T) : HP := fun h =>
 (c = nilC ∧ l = []) ∨ ∃ k, ∃ L : List s.T, c = rowC k 0 L.length 0 l.length false ∧ h k = some (rowO s true 0 L) ∧ l.length ≤ L.length ∧ L.take l.length = l
end
end Go.Lg
