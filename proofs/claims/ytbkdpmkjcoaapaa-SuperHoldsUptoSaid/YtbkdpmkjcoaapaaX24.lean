/- Lemmas. -/
import Derived.Test.YtbkdpmkjcoaapaaX23
namespace Go.Lg
section
variable {P : Program} {A : Ann} {H : Heap}
theorem dt0 {α : Type} {l : List α} {a n : Nat} (h1 : a = 0) (h2 : l.length ≤ n) : (l.drop a).take n = l := by
 subst h1; rw [List.drop_zero]; exact List.take_of_length_le h2
theorem slCells_sl {s : Sh} {b nil capd : Bool} {l : List s.T} : slCells H s.cells (.sl b nil capd (l.flatMap (enc s)) l.length) = some (l.flatMap (enc s), l.length, true) := by simp only [slCells, flat_len, if_true]
theorem ob_ins {vals : List X} {Hm : Heap} {op : Op} {ty : TypeId} {v : X} (h : Ob P A vals Hm op ty v Hm) :
  ∃ k, (opX P A (runX P A k) (ev (vals.zipIdx.map fun p => (p.2, p.1))) Hm { dst := none, op := op, type := ty, pos := "", after := #[], guard := none }).map (fun r => (r.1, H)) = some (v, H) := by
 obtain ⟨k, h⟩ := h
 exact ⟨k, by rw [h]; rfl⟩
theorem ob_out {vals : List X} {M : List Nat} {Hm H' H2 : Heap} {op : Op} {ty : TypeId} {v : X} (hm : mayHide H M = true) (h : Ob P A vals Hm op ty v H') (hb : backH M H H' = H2) :
  ∃ k, (if mayHide H M then (opX P A (runX P A k) (ev (vals.zipIdx.map fun p => (p.2, p.1))) Hm { dst := none, op := op, type := ty, pos := "", after := #[], guard := none }).map (fun r => (r.1, backH M H r.2)) else none) = some (v, H2) := by
 obtain ⟨k, h⟩ := h
 exact ⟨k, by rw [if_pos hm, h]; simp only [kT, hb]⟩
theorem ob_callv {g : FuncId} {first cap : List C} {vals : List X} {xs0 res : List Y} {ats : Array TypeId} {ty : TypeId} {v : X} {H' : Heap} (args : List Operand) (hp : A.pureFn g = false)
  (ha : (args.map (ev ((X.y (.one (.fn (.func g) first cap)) :: vals).zipIdx.map fun p => (p.2, p.1)))).mapM X.y? = some xs0)
  (hc : Runs P A g (first.map .one ++ xs0 ++ cap.map .one) H res H') (hv : pack res = v) : Ob P A (X.y (.one (.fn (.func g) first cap)) :: vals) H (.call { callee := .value (.tmp 0), args := args.toArray, argTypes := ats }) ty v H' := by
 obtain ⟨k, hk⟩ := Runs.call hp hc
 refine ⟨k, ?_⟩
 subst hv
 show ((args.toArray.toList.map _).mapM X.y?).bind _ = _
 rw [show args.toArray.toList = args from rfl, ha]
 simp only [kS]
 exact hk
end
end Go.Lg
