/- Lemmas. -/
import Derived.Test.YtbkdpmkjcoaapaaX19
namespace Go.Lg
section
variable {P : Program} {A : Ann} {H : Heap}
abbrev tr (s : Sh) (pu : Bool) (l : List s.T) : O := .row pu true 0 l.length s.cells (l.flatMap (enc s))
theorem enc_live : ∀ (s : Sh) (x : s.T), (enc s x).all C.live = true
 | .int _, _ => rfl
 | .bool, _ => rfl
 | .str, _ => rfl
 | .sl _ _, _ => rfl
 | .nil, _ => rfl
 | .pr a b, x => by simp only [enc, List.all_append, enc_live a x.1, enc_live b x.2, Bool.and_true]
theorem flat_live (s : Sh) (l : List s.T) : (l.flatMap (enc s)).all C.live = true := by
 rw [List.all_eq_true]
 intro c hc
 obtain ⟨x, _, hx⟩ := List.mem_flatMap.1 hc
 exact List.all_eq_true.1 (enc_live s x) c hx
theorem flat_take {s : Sh} : ∀ {l : List s.T} {j : Nat}, (l.flatMap (enc s)).take (j * s.cells) = (l.take j).flatMap (enc s) := by
 intro l
 induction l with
 | nil => intro j; simp
 | cons y l ih =>
  intro j
  cases j with
  | zero => simp
  | succ j =>
   rw [List.flatMap_cons, Nat.add_mul, Nat.one_mul, List.take_append, enc_len, List.take_of_length_le (by rw [enc_len]; omega), show j * s.cells + s.cells - s.cells = j * s.cells by omega, ih]
   rfl
theorem flat_drop {s : Sh} : ∀ {l : List s.T} {j : Nat}, (l.flatMap (enc s)).drop (j * s.cells) = (l.drop j).flatMap (enc s) := by
 intro l
 induction l with
 | nil => intro j; simp
 | cons y l ih =>
  intro j
  cases j with
  | zero => simp
  | succ j =>
   rw [List.flatMap_cons, Nat.add_mul, Nat.one_mul, List.drop_append, enc_len, List.drop_of_length_le (by rw [enc_len]; omega), show j * s.cells + s.cells - s.cells = j * s.cells by omega, ih]
   rfl
theorem ob_call {g : FuncId} {vals : List X} {xs0 res : List Y} {ats : Array TypeId} {ty : TypeId} {v : X} {H' : Heap} (args : List Operand) (hp : A.pureFn g = false) (ha : (args.map (ev (vals.zipIdx.map fun p => (p.2, p.1)))).mapM X.y? = some xs0)
  (hc : Runs P A g xs0 H res H') (hv : pack res = v) : Ob P A vals H (.call { callee := .value (.func g), args := args.toArray, argTypes := ats }) ty v H' := by
 obtain ⟨k, hk⟩ := Runs.call hp hc
 refine ⟨k, ?_⟩
 subst hv
 show ((args.toArray.toList.map _).mapM X.y?).bind _ = _
 rw [show args.toArray.toList = args from rfl, ha]
 simp only [kS, List.map_nil, List.nil_append, List.append_nil]
 exact hk
theorem runs_of {g : FuncId} {args res : List Y} {H' : Heap} (h : ∃ rs H1, Runs P A g args H rs H1 ∧ (rs = res ∧ H1 = H')) : Runs P A g args H res H' := by
 obtain ⟨rs, H1, h1, rfl, rfl⟩ := h
 exact h1
theorem snap_cons {y y' : Y} {l l' : List Y} (h : snapY H y = some y') (hl : l.mapM (snapY H) = some l') : (y :: l).mapM (snapY H) = some (y' :: l') := by
 rw [List.mapM_cons, h]; simp [hl]
theorem snap_nil : ([] : List Y).mapM (snapY H) = some [] := rfl
end
end Go.Lg
