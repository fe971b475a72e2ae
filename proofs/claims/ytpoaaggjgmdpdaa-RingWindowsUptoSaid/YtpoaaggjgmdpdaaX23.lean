/-
  X, part 23: parts of slices that came in; a loop whose first rounds were stepped through; a row handed back.
-/
import Derived.Test.YtpoaaggjgmdpdaaX22
namespace Go.Lg
section
variable {P : Program} {A : Ann} {H : Heap} {f : FuncId} {Q : Ex → Env → Heap → Prop}

theorem sliceX_sl {s : Sh} {t el : TypeId} {b nil capd capd' : Bool} {l : List s.T} {lo hi mx : Option X} {a h : Int} (he : elemT P t = some el) (hs : szT P el = some s.cells)
    (hlo : optI 0 lo = some a) (hhi : optI (l.length : Int) hi = some h) (hc : capI h hi.isSome (capd && decide (h = l.length)) mx = some capd') (h0 : 0 ≤ a) (h1 : a ≤ h) (h2 : h ≤ l.length) :
    sliceX P H t (.y (.one (.sl b nil capd (l.flatMap (enc s)) l.length))) lo hi mx = some (.y (.one (.sl b nil capd' (((l.drop a.toNat).take (h - a).toNat).flatMap (enc s)) ((l.drop a.toNat).take (h - a).toNat).length))) := by
  unfold sliceX
  simp only [he, hs, Option.bind_some, hlo, hhi, hc]
  rw [if_pos ⟨h0, h1, h2, flat_len s l⟩]
  unfold sub
  rw [flat_drop, flat_take, List.length_take, List.length_drop, Nat.min_eq_left (by omega)]

/-- x[a:h], x[:h], x[a:] -/
theorem ob_slice_sl {s : Sh} {t el ty : TypeId} {b nil capd capd' : Bool} {l m : List s.T} {a h : Int} (he : elemT P t = some el) (hs : szT P el = some s.cells) (h0 : 0 ≤ a) (h1 : a ≤ h) (h2 : h ≤ l.length)
    (hc : (capd && decide (h = l.length)) = capd') (hm : (l.drop a.toNat).take (h - a).toNat = m) :
    Ob P A [.y (.one (.sl b nil capd (l.flatMap (enc s)) l.length)), .y (.one (.sc (.int .i64 a))), .y (.one (.sc (.int .i64 h)))] H (.slice t (.tmp 0) (some (.tmp 1)) (some (.tmp 2)) none) ty (.y (.one (.sl b nil capd' (m.flatMap (enc s)) m.length))) H := by
  refine ⟨0, ?_⟩
  subst hm; subst hc
  show ((sliceX P H t (.y (.one (.sl b nil capd (l.flatMap (enc s)) l.length))) (some (.y (.one (.sc (.int .i64 a))))) (some (.y (.one (.sc (.int .i64 h))))) none).map fun v => (v, H)) = _
  rw [sliceX_sl he hs (a := a) (h := h) rfl rfl rfl h0 h1 h2]
  rfl
theorem ob_slice_slh {s : Sh} {t el ty : TypeId} {b nil capd capd' : Bool} {l m : List s.T} {h : Int} (he : elemT P t = some el) (hs : szT P el = some s.cells) (h1 : 0 ≤ h) (h2 : h ≤ l.length)
    (hc : (capd && decide (h = l.length)) = capd') (hm : l.take h.toNat = m) :
    Ob P A [.y (.one (.sl b nil capd (l.flatMap (enc s)) l.length)), .y (.one (.sc (.int .i64 h)))] H (.slice t (.tmp 0) none (some (.tmp 1)) none) ty (.y (.one (.sl b nil capd' (m.flatMap (enc s)) m.length))) H := by
  refine ⟨0, ?_⟩
  subst hm; subst hc
  show ((sliceX P H t (.y (.one (.sl b nil capd (l.flatMap (enc s)) l.length))) none (some (.y (.one (.sc (.int .i64 h))))) none).map fun v => (v, H)) = _
  rw [sliceX_sl he hs (a := 0) (h := h) rfl rfl rfl (Int.le_refl _) h1 h2]
  simp
theorem ob_slice_sll {s : Sh} {t el ty : TypeId} {b nil capd : Bool} {l m : List s.T} {a : Int} (he : elemT P t = some el) (hs : szT P el = some s.cells) (h0 : 0 ≤ a) (h1 : a ≤ l.length)
    (hm : l.drop a.toNat = m) :
    Ob P A [.y (.one (.sl b nil capd (l.flatMap (enc s)) l.length)), .y (.one (.sc (.int .i64 a)))] H (.slice t (.tmp 0) (some (.tmp 1)) none none) ty (.y (.one (.sl b nil capd (m.flatMap (enc s)) m.length))) H := by
  refine ⟨0, ?_⟩
  subst hm
  show ((sliceX P H t (.y (.one (.sl b nil capd (l.flatMap (enc s)) l.length))) (some (.y (.one (.sc (.int .i64 a))))) none none).map fun v => (v, H)) = _
  rw [sliceX_sl he hs (a := a) (h := l.length) rfl rfl rfl h0 h1 (Int.le_refl _)]
  have : (l.drop a.toNat).take ((l.length : Int) - a).toNat = l.drop a.toNat := List.take_of_length_le (by rw [List.length_drop]; omega)
  rw [this]
  simp

theorem WpL.inv {c : Code} {an : Option (List Nat × Bool)} {n : Nat} {e : Env} {H : Heap} {T : Type} (m : T → Nat) (envT : T → Env) (heapT : T → Heap) (I : T → Prop) (t0 : T)
    (h0 : (e, H) = (envT t0, heapT t0)) (hI : I t0)
    (hb : ∀ t, I t → Wp P A f c (envT t) (heapT t) fun x e' H' => match x with
      | .normal => ∃ t', endX an n e' H' = some (envT t', heapT t') ∧ I t' ∧ m t' < m t
      | x => Q x e' H') : WpL P A f c an n e H Q := by
  suffices key : ∀ k t, I t → m t < k → ∃ x e1 H1, Loops P A f c an n (envT t) (heapT t) x e1 H1 ∧ Q x e1 H1 by
    obtain ⟨x, e1, H1, h1, h2⟩ := key _ t0 hI (Nat.lt_succ_self _)
    rw [← (Prod.mk.inj h0).1, ← (Prod.mk.inj h0).2] at h1
    exact ⟨x, e1, H1, h1, h2⟩
  intro k
  induction k with
  | zero => intro t _ h; omega
  | succ k ih =>
    intro t hI hn
    obtain ⟨x, e1, H1, h1, h2⟩ := hb t hI
    cases x with
    | normal =>
      obtain ⟨t', h3, h4, h5⟩ := h2
      obtain ⟨x, e2, H2, h6, h7⟩ := ih t' h4 (by omega)
      obtain ⟨H3, h8, h9⟩ := Option.map_eq_some_iff.1 h3
      simp only [Prod.mk.injEq] at h9
      obtain ⟨h9, rfl⟩ := h9
      rw [← h9] at h6
      exact ⟨x, e2, H2, Loops.round h1 h8 h6, h7⟩
    | _ => exact ⟨_, e1, H1, Loops.last h1 (by simp), h2⟩

/-- A loop whose first round stands by itself. -/
theorem WpL.peel {c : Code} {an : Option (List Nat × Bool)} {n : Nat} {e : Env} {H : Heap} {T : Type} (m : T → Nat) (envT : T → Env) (heapT : T → Heap) (I : T → Prop)
    (h1 : Wp P A f c e H fun x e' H' => match x with
      | .normal => ∃ t', endX an n e' H' = some (envT t', heapT t') ∧ I t'
      | x => Q x e' H')
    (hb : ∀ t, I t → Wp P A f c (envT t) (heapT t) fun x e' H' => match x with
      | .normal => ∃ t', endX an n e' H' = some (envT t', heapT t') ∧ I t' ∧ m t' < m t
      | x => Q x e' H') : WpL P A f c an n e H Q := by
  refine WpL.step (h1.mono fun x e H h => ?_)
  cases x with
  | normal =>
    obtain ⟨t, h2, h3⟩ := h
    exact ⟨_, _, h2, WpL.inv m envT heapT I t rfl h3 hb⟩
  | _ => exact h

theorem back_row {s : Sh} {id : Nat} {capd : Bool} {l : List s.T} (hH : H[id]? = some (tr s true l)) :
    backY H (.one (.row id l.length 0 l.length capd)) = some (.one (.sl false false capd (l.flatMap (enc s)) l.length)) := by
  unfold backY backC
  simp only [hH]
  rw [if_pos ⟨trivial, Nat.zero_le _, by omega⟩]
  simp only [Option.map_some, Nat.sub_zero, Nat.zero_mul]
  rw [sub_all _ (flat_len s l).symm]
theorem back_cons {y y' : Y} {l l' : List Y} (h : backY H y = some y') (hl : l.mapM (backY H) = some l') : (y :: l).mapM (backY H) = some (y' :: l') := by
  rw [List.mapM_cons, h]; simp [hl]
end
end Go.Lg
