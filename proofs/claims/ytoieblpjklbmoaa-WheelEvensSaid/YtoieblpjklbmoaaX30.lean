/-
 X, part 30: slices that somebody owns, rings.
-/
import Derived.Test.YtoieblpjklbmoaaX29
namespace Go.Lg
abbrev nilC : C := .sl false true true [] 0
/-- A slice of one's own: nil, or a row's. -/
def itemsP (s : Sh) (c : C) (l : List s.T) : HP := fun h =>
 (c = nilC ∧ l = []) ∨ ∃ k d, ∃ L : List s.T, ∃ o capd, c = rowC k d L.length o l.length capd ∧ h k = some (rowO s true d L) ∧ o + l.length ≤ L.length ∧ (capd = false → o + l.length = L.length) ∧ (L.drop o).take l.length = l
def ringP (s : Sh) (q : Nat) (room : Int) (l : List s.T) : HP := fun h =>
 (1 ≤ room ∧ room ≤ 65536 ∧ (l.length : Int) ≤ room) ∧ ∃ c, star (pts q (.obj [vi room, c])) (itemsP s c l) h
/-- an alternative of parts -/
theorem On.alt {cs : List HP} {H : Heap} {A : HP} {G : Prop} (j : Nat) (hj : cs[j]? = some A) (h : On cs H) (hA : ∀ h, A h → ∃ ds : List HP, SL ds h ∧ (On (cs.eraseIdx j ++ ds) H → G)) : G := by
 have p : cs.Perm (A :: cs.eraseIdx j) := by
  exact perm_erase hj
 obtain ⟨h1, h2, hd, s1, s2, a, b⟩ := SL_perm p h
 obtain ⟨ds, h3, h4⟩ := hA h1 a
 exact h4 (SL_app' ⟨h2, h1, fun i => (hd i).symm, s2, s1, b, h3⟩)
/-! ### Masks -/
/-- A pointer that may be nil; a ring behind it. -/
def optP (s : Sh) (cc : C) (room vr : Int) (l : List s.T) : HP := fun h => (cc = .sc (.pointer none)) ∨ ∃ q, cc = .ptr q 0 ∧ vr = room ∧ ringP s q room l h
end Go.Lg
