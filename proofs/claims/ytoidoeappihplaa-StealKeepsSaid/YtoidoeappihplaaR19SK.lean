/-
  Steal: Join of the document. (Printed by sx/r19s.py.)
-/
import Derived.Test.YtoidoeappihplaaR19SH
namespace Go.Proofs.Ytoidoeappihplaa
open Go.Lg
set_option linter.unusedVariables false
set_option maxRecDepth 100000
set_option maxHeartbeats 8000000
set_option linter.unusedSimpArgs false
theorem nd_ne {m : List EN.T} {i j : Int} {x y : EN.T} (h : (pids m).Nodup) (h0 : 0 ≤ j) (h1 : j < i) (hx : m[i.toNat]? = some x) (hy : m[j.toNat]? = some y) : eqb PN y.1 x.1 = false := by
  apply eqb_ne rfl
  intro e
  obtain ⟨hi, rfl⟩ := List.getElem?_eq_some_iff.1 hx
  obtain ⟨hj, rfl⟩ := List.getElem?_eq_some_iff.1 hy
  have := List.pairwise_iff_getElem.1 h j.toNat i.toNat (by simpa using hj) (by simpa using hi) (by omega)
  simp only [List.getElem_map] at this
  exact this e
theorem take_all {α : Type} {m : List α} {i : Int} (h : (m.length : Int) ≤ i) : m.take i.toNat = m := List.take_of_length_le (by omega)
end Go.Proofs.Ytoidoeappihplaa
