/- Lemmas. -/
import Derived.Test.YtjdnhbnpdbpgbaaX22
namespace Go.Lg
section
variable {P : Program} {A : Ann} {H : Heap} {f : FuncId} {Q : Ex → Env → Heap → Prop}
theorem sliceX_sl {s : Sh} {t el : TypeId} {b nil capd capd' : Bool} {l : List s.T} {lo hi mx : Option X} {a h : Int} (he : elemT P t = some el) (hs : szT P el = some s.cells)
  (hlo : optI 0 lo = some a) (hhi : optI (l.length : Int) hi = some h) (hc : capI h hi.isSome (capd && decide (h = l.length)) mx = some capd') (h0 : 0 ≤ a) (h1 : a ≤ h) (h2 : h ≤ l.length) :
  sliceX P H t (.y (.one (.sl b nil capd (l.flatMap (enc s)) l.length))) lo hi mx = some (.y (.one (.sl b nil capd' (((l.drop a.toNat).take (h - a).toNat).flatMap (enc s)) ((l.drop a.toNat).take (h - a).toNat).length))) := by
 unfold sliceX
 simp only [he, hs, kS, hlo, hhi, hc]
 rw [if_pos ⟨h0, h1, h2, flat_len s l⟩]
 unfold sub
 rw [flat_drop, flat_take, List.length_take, List.length_drop, Nat.min_eq_left (by omega)]
theorem ob_slice_slh {s : Sh} {t el ty : TypeId} {b nil capd capd' : Bool} {l m : List s.T} {h : Int} (he : elemT P t = some el) (hs : szT P el = some s.cells) (h1 : 0 ≤ h) (h2 : h ≤ l.length)
  (hc : (capd && decide (h = l.length)) = capd') (hm : l.take h.toNat = m) :
  Ob P A [.y (.one (.sl b nil capd (l.flatMap (enc s)) l.length)), .y (.one (.sc (.int .i64 h)))] H (.slice t (.tmp 0) none (some (.tmp 1)) none) ty (.y (.one (.sl b nil capd' (m.flatMap (enc s)) m.length))) H := by
 refine ⟨0, ?_⟩
 subst hm; subst hc
 show ((sliceX P H t (.y (.one (.sl b nil capd (l.flatMap (enc s)) l.length))) none (some (.y (.one (.sc (.int .i64 h))))) none).map fun v => (v, H)) = _
 rw [sliceX_sl he hs (a := 0) (h := h) rfl rfl rfl (Int.le_refl _) h1 h2]
 simp
theorem ob_slice_sll {s : Sh} {t el ty : TypeId} {b nil capd : Bool} {l m : List s.T} {a : Int} (he : elemT P t = some el) (hs : szT P el = some s.cells) (h0 : 0 ≤ a) (h1 : a ≤ l.length)
  (hm : l.drop a.toNat = m) :
  Ob P A [.y (.one (.sl b nil capd (l.flatMap (enc s)) l.length)), .y (.one (.sc (.int .i64 a)))] H (.slice t (.tmp 0) (some (.tmp 1)) none none) ty (.y (.one (.sl b nil capd (m.flatMap (enc s)) m.length))) H := by
 refine ⟨0, ?_⟩
 subst hm
 show ((sliceX P H t (.y (.one (.sl b nil capd (l.flatMap (enc s)) l.length))) (some (.y (.one (.sc (.int .i64 a))))) none none).map fun v => (v, H)) = _
 rw [sliceX_sl he hs (a := a) (h := l.length) rfl rfl rfl h0 h1 (Int.le_refl _)]
 have : (l.drop a.toNat).take ((l.length : Int) - a).toNat = l.drop a.toNat := List.take_of_length_le (by rw [List.length_drop]; omega)
 rw [this]
 simp
theorem back_cons {y y' : Y} {l l' : List Y} (h : backY H y = some y') (hl : l.mapM (backY H) = some l') : (y :: l).mapM (backY H) = some (y' :: l') := by
 rw [List.mapM_cons, h]; simp [hl]
end
end Go.Lg
