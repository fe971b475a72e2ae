/-
 X, part 24: more of what operations on the call's own slices owe: parts of rows, copies, rows behind rows.
-/
import Derived.Test.YtoieblpjklbmoaaX23
namespace Go.Lg
section
variable {P : Program} {A : Ann} {H : Heap}
theorem dt0 {α : Type} {l : List α} {a n : Nat} (h1 : a = 0) (h2 : l.length ≤ n) : (l.drop a).take n = l := by
 subst h1; rw [List.drop_zero]; exact List.take_of_length_le h2
/-! ### Masked operations -/
/-! ### A call whose garbage goes -/
end
end Go.Lg
