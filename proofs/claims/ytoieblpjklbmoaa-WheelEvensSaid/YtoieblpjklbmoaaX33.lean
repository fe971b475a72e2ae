/-
 X, part 33: append to items that stay shut: what comes of it is items, too.
-/
import Derived.Test.YtoieblpjklbmoaaX32
namespace Go.Lg
section
variable {P : Program} {A : Ann} {H : Heap}
theorem On.drop {cs : List HP} {A' : HP} (j : Nat) (hj : cs[j]? = some A') (h : On cs H) : On (cs.eraseIdx j) H :=
 On.alt j hj h fun _ _ => ⟨[], trivial, fun hh => by simpa using hh⟩
theorem On.last {cs : List HP} {B B' : HP} (f : ∀ h, B h → B' h) (h : On (cs ++ [B]) H) : On (cs ++ [B']) H := by
 have := On.mono (A' := B') cs.length (by rw [List.getElem?_append_right (Nat.le_refl _), Nat.sub_self]; rfl) f h
 rwa [show (cs ++ [B]).set cs.length B' = cs ++ [B'] by rw [List.set_append_right _ _ (Nat.le_refl _), Nat.sub_self]; rfl] at this
end
end Go.Lg
