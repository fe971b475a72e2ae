/-
 X, part 23: parts of slices that came in; a loop whose first rounds were stepped through; a row handed back.
-/
import Derived.Test.YtoieblpjklbmoaaX22
namespace Go.Lg
section
variable {P : Program} {A : Ann} {H : Heap} {f : FuncId} {Q : Ex → Env → Heap → Prop}
theorem WpL.inv {c : Code} {an : Option (List Nat × Bool)} {n : Nat} {e : Env} {H : Heap} {T : Type} (m : T → Nat) (envT : T → Env) (heapT : T → Heap) (I : T → Prop) (t0 : T)
  (h0 : (e, H) = (envT t0, heapT t0)) (hI : I t0)
  (hb : ∀ t, I t → Wp P A f c (envT t) (heapT t) fun x e' H' => match x with
   | .normal => ∃ t', endX an n e' H' = some (envT t', heapT t') ∧ I t' ∧ m t' < m t
   | x => Q x e' H') : WpL P A f c an n e H Q := by
 suffices key : ∀ k t, I t → m t < k → ∃ x e1 H1, Loops P A f c an n (envT t) (heapT t) x e1 H1 ∧ Q x e1 H1 by
  obtain ⟨x, e1, H1, h1, h2⟩ := key _ t0 hI (Nat.lt_succ_self _)
  rw [← (Prod.mk.inj h0).1, ← (Prod.mk.inj h0).2] at h1
  exact ⟨x, e1, H1, h1, h2⟩
 intro k
 induction k with
 | zero => intro t _ h; omega
 | succ k ih =>
  intro t hI hn
  obtain ⟨x, e1, H1, h1, h2⟩ := hb t hI
  cases x with
  | normal =>
   obtain ⟨t', h3, h4, h5⟩ := h2
   obtain ⟨x, e2, H2, h6, h7⟩ := ih t' h4 (by omega)
   obtain ⟨H3, h8, h9⟩ := kM.1 h3
   simp only [kP] at h9
   obtain ⟨h9, rfl⟩ := h9
   rw [← h9] at h6
   exact ⟨x, e2, H2, Loops.round h1 h8 h6, h7⟩
  | _ => exact ⟨_, e1, H1, Loops.last h1 (by simp), h2⟩
/-- A loop whose first round stands by itself. -/
theorem WpL.peel {c : Code} {an : Option (List Nat × Bool)} {n : Nat} {e : Env} {H : Heap} {T : Type} (m : T → Nat) (envT : T → Env) (heapT : T → Heap) (I : T → Prop)
  (h1 : Wp P A f c e H fun x e' H' => match x with
   | .normal => ∃ t', endX an n e' H' = some (envT t', heapT t') ∧ I t'
   | x => Q x e' H')
  (hb : ∀ t, I t → Wp P A f c (envT t) (heapT t) fun x e' H' => match x with
   | .normal => ∃ t', endX an n e' H' = some (envT t', heapT t') ∧ I t' ∧ m t' < m t
   | x => Q x e' H') : WpL P A f c an n e H Q := by
 refine WpL.step (h1.mono fun x e H h => ?_)
 cases x with
 | normal =>
  obtain ⟨t, h2, h3⟩ := h
  exact ⟨_, _, h2, WpL.inv m envT heapT I t rfl h3 hb⟩
 | _ => exact h
end
end Go.Lg
