/-
 X, part 21: WHAT OPERATIONS ON THE CALL's OWN SLICES OWE: rows whose contents stand for any list.
-/
import Derived.Test.YtoieblpjklbmoaaX19
namespace Go.Lg
section
variable {P : Program} {A : Ann} {H : Heap}
/-- A row that holds a typed list, all of it in use. -/
abbrev tr (s : Sh) (pu : Bool) (l : List s.T) : O := .row pu true 0 l.length s.cells (l.flatMap (enc s))
theorem enc_live : ∀ (s : Sh) (x : s.T), (enc s x).all C.live = true
 | .int _, _ => rfl
 | .bool, _ => rfl
 | .str, _ => rfl
 | .sl _ _, _ => rfl
 | .nil, _ => rfl
 | .pr a b, x => by simp only [enc, List.all_append, enc_live a x.1, enc_live b x.2, Bool.and_true]
theorem flat_live (s : Sh) (l : List s.T) : (l.flatMap (enc s)).all C.live = true := by
 rw [List.all_eq_true]
 intro c hc
 obtain ⟨x, _, hx⟩ := List.mem_flatMap.1 hc
 exact List.all_eq_true.1 (enc_live s x) c hx
theorem sub_all {α : Type} (l : List α) {n : Nat} (h : n = l.length) : sub 0 n l = l := by
 subst h; simp [sub]
theorem ob_append {s : Sh} {t u el ty : TypeId} {by_ : Nat} {z : List C} {pu b nil capd : Bool} {id : Nat} {l m : List s.T} (hH : H[id]? = some (tr s pu l))
  (he : elemT P t = some el) (hu : (elemT P u).isSome = true) (hs : szT P el = some s.cells) (h0 : Nat.ble 1 s.cells = true) (hb : byT P el = some by_) (hz : zeroC P el = some z)
  (h1 : (l.length : Int) + m.length ≤ 9223372036854775807) (h2 : ((l.length : Int) + m.length) * by_ ≤ 140737488355328) :
  Ob P A [.y (.one (.row id l.length 0 l.length false)), .y (.one (.sl b nil capd (m.flatMap (enc s)) m.length))] H (.call { callee := .builtin .append, args := #[.tmp 0, .tmp 1], argTypes := #[t, u] }) ty
   (.y (.one (.row id (l ++ m).length 0 (l ++ m).length false))) (H.set id (tr s pu (l ++ m))) := by
 refine ⟨0, ?_⟩
 show (if (elemT P u).isSome then (some (C.row id l.length 0 l.length false)).bind fun s' => (some (C.sl b nil capd (m.flatMap (enc s)) m.length)).bind fun z => (appendX P A H t s' z).map fun (c, H) => (X.y (.one c), H) else none) = _
 rw [if_pos hu]
 simp only [kS]
 unfold appendX
 simp only [he, hs, hb, hz, kS]
 rw [if_pos (show 0 < s.cells from Nat.le_of_ble_eq_true h0)]
 have hn : slCells H s.cells (.sl b nil capd (m.flatMap (enc s)) m.length) = some (m.flatMap (enc s), m.length, true) := by simp only [slCells, flat_len, if_true]
 have ho : slCells H s.cells (.row id l.length 0 l.length false) = some (l.flatMap (enc s), l.length, pu) := by
  simp only [slCells, hH]
  rw [if_pos (by simp)]
  simp only [Nat.sub_zero, Nat.zero_mul, sub_all _ (flat_len s l).symm]
 simp only [hn, ho, kS]
 by_cases hm : m.length = 0
 ·have : m = [] := List.eq_nil_of_length_eq_zero hm
  subst this
  rw [if_pos List.length_nil]
  simp only [kT, List.append_nil]
  have hset : H.set id (tr s pu l) = H := by
   obtain ⟨hlt, hget⟩ := List.getElem?_eq_some_iff.1 hH
   rw [← hget]; exact List.set_getElem_self hlt
  rw [hset]
 ·rw [if_neg hm, if_pos ⟨flat_live s m, by unfold maxLen; omega, by unfold maxBytes; exact Int.ofNat_le.1 (by rw [Int.natCast_mul, Int.natCast_add]; exact h2)⟩]
  simp only [Bool.not_true, Bool.and_false, Bool.false_eq_true, if_false, kS, hH]
  rw [if_pos ⟨trivial, by simp, trivial⟩]
  simp only [kT, tr, List.length_append, List.flatMap_append, C.isRow, if_true]
theorem ob_append_new {s : Sh} {t u el ty : TypeId} {by_ : Nat} {z : List C} {b' nil' b nil capd : Bool} {l m : List s.T}
  (he : elemT P t = some el) (hu : (elemT P u).isSome = true) (hs : szT P el = some s.cells) (h0 : Nat.ble 1 s.cells = true) (hb : byT P el = some by_) (hz : zeroC P el = some z)
  (hm : m.length ≠ 0) (h1 : (l.length : Int) + m.length ≤ 9223372036854775807) (h2 : ((l.length : Int) + m.length) * by_ ≤ 140737488355328) :
  Ob P A [.y (.one (.sl b' nil' true (l.flatMap (enc s)) l.length)), .y (.one (.sl b nil capd (m.flatMap (enc s)) m.length))] H (.call { callee := .builtin .append, args := #[.tmp 0, .tmp 1], argTypes := #[t, u] }) ty
   (.y (.one (.row H.length (l ++ m).length 0 (l ++ m).length false))) (H ++ [tr s (A.pureSl t) (l ++ m)]) := by
 refine ⟨0, ?_⟩
 show (if (elemT P u).isSome then (some (C.sl b' nil' true (l.flatMap (enc s)) l.length)).bind fun s' => (some (C.sl b nil capd (m.flatMap (enc s)) m.length)).bind fun z => (appendX P A H t s' z).map fun (c, H) => (X.y (.one c), H) else none) = _
 rw [if_pos hu]
 simp only [kS]
 unfold appendX
 simp only [he, hs, hb, hz, kS]
 rw [if_pos (show 0 < s.cells from Nat.le_of_ble_eq_true h0)]
 have hn : ∀ (b nil capd : Bool) (m : List s.T), slCells H s.cells (.sl b nil capd (m.flatMap (enc s)) m.length) = some (m.flatMap (enc s), m.length, true) := by intro b nil capd m; simp only [slCells, flat_len, if_true]
 simp only [hn, kS]
 rw [if_neg hm, if_pos ⟨flat_live s m, by unfold maxLen; omega, by unfold maxBytes; exact Int.ofNat_le.1 (by rw [Int.natCast_mul, Int.natCast_add]; exact h2)⟩]
 simp only [C.isRow, Bool.false_eq_true, if_false, Bool.not_true, Bool.and_false, kS, if_true, kT, rowNew, tr, List.length_append, List.flatMap_append]
theorem flat_take {s : Sh} : ∀ {l : List s.T} {j : Nat}, (l.flatMap (enc s)).take (j * s.cells) = (l.take j).flatMap (enc s) := by
 intro l
 induction l with
 | nil => intro j; simp
 | cons y l ih =>
  intro j
  cases j with
  | zero => simp
  | succ j =>
   rw [List.flatMap_cons, Nat.add_mul, Nat.one_mul, List.take_append, enc_len, List.take_of_length_le (by rw [enc_len]; omega), show j * s.cells + s.cells - s.cells = j * s.cells by omega, ih]
   rfl
theorem flat_drop {s : Sh} : ∀ {l : List s.T} {j : Nat}, (l.flatMap (enc s)).drop (j * s.cells) = (l.drop j).flatMap (enc s) := by
 intro l
 induction l with
 | nil => intro j; simp
 | cons y l ih =>
  intro j
  cases j with
  | zero => simp
  | succ j =>
   rw [List.flatMap_cons, Nat.add_mul, Nat.one_mul, List.drop_append, enc_len, List.drop_of_length_le (by rw [enc_len]; omega), show j * s.cells + s.cells - s.cells = j * s.cells by omega, ih]
   rfl
theorem ob_call {g : FuncId} {vals : List X} {xs0 res : List Y} {ats : Array TypeId} {ty : TypeId} {v : X} {H' : Heap} (args : List Operand) (hp : A.pureFn g = false) (ha : (args.map (ev (vals.zipIdx.map fun p => (p.2, p.1)))).mapM X.y? = some xs0)
  (hc : Runs P A g xs0 H res H') (hv : pack res = v) : Ob P A vals H (.call { callee := .value (.func g), args := args.toArray, argTypes := ats }) ty v H' := by
 obtain ⟨k, hk⟩ := Runs.call hp hc
 refine ⟨k, ?_⟩
 subst hv
 show ((args.toArray.toList.map _).mapM X.y?).bind _ = _
 rw [show args.toArray.toList = args from rfl, ha]
 simp only [kS, List.map_nil, List.nil_append, List.append_nil]
 exact hk
theorem snap_cons {y y' : Y} {l l' : List Y} (h : snapY H y = some y') (hl : l.mapM (snapY H) = some l') : (y :: l).mapM (snapY H) = some (y' :: l') := by
 rw [List.mapM_cons, h]; simp [hl]
theorem snap_nil : ([] : List Y).mapM (snapY H) = some [] := rfl
end
end Go.Lg
