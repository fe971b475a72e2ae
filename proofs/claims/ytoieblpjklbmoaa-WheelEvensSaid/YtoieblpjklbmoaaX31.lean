/-
 X, part 31: rows of slices, each of a row of its own.
-/
import Derived.Test.YtoieblpjklbmoaaX30
namespace Go.Lg
def winC (s : Sh) (capd : Bool) (p : Nat × List s.T) : C := rowC p.1 0 p.2.length 0 p.2.length capd
abbrev rowsO (s : Sh) (capd : Bool) (ws : List (Nat × List s.T)) : O := .row false true 0 (0 + ws.length) 1 (ws.map (winC s capd))
def bigP (s : Sh) (ws : List (Nat × List s.T)) : HP := SL (ws.map fun p => pts p.1 (rowO s true 0 p.2))
/-- nil, or a row of slices with their rows -/
def winsP (s : Sh) (capd : Bool) (c : C) (ws : List (Nat × List s.T)) : HP := fun h =>
 (c = nilC ∧ ws = []) ∨ ∃ k, c = rowC k 0 ws.length 0 ws.length false ∧ star (pts k (rowsO s capd ws)) (bigP s ws) h
/-- nil, or a whole row -/
def wholeP (s : Sh) (c : C) (l : List s.T) : HP := fun h =>
 (c = nilC ∧ l = []) ∨ ∃ k, c = rowC k 0 l.length 0 l.length false ∧ h k = some (rowO s true 0 l)
section
variable {P : Program} {A : Ann} {H : Heap}
end
/-- a list's windows -/
def wins (r : Nat) : Nat → List Int → List (List Int)
 | 0, _ => []
 | _ + 1, [] => []
 | k + 1, l => l.take r :: wins r k (l.drop r)
/-- what is appended to: a whole slice without room (whose row somebody else has), or a slice of one's own -/
def appP (s : Sh) (c : C) (k : Nat) (M l : List s.T) : HP := fun h => (c = rowC k 0 M.length 0 M.length true ∧ l = M) ∨ itemsP s c l h
end Go.Lg
