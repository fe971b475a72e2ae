/- Lemmas. -/
import Derived.Test.YtbkdpmkjcoaapaaX34
namespace Go.Lg
section
variable {P : Program} {A : Ann} {H : Heap}
def closeX (P : Program) (A : Ann) (f : FuncId) (k : Nat) (c : Code) (e : Env) (H : Heap) (rv : List ResultVar) : Option (List Y) :=
 (codeX P A (runX P A k) f k c e H).bind fun r => match r.1 with
  | .normal | .ret => (rv.mapM (resX P r.2.1 r.2.2)).bind fun rs => rs.mapM (backY r.2.2)
  | _ => none
theorem Wp.closed {f : FuncId} {c : Code} {e : Env} {rv : List ResultVar} {ys : List Y} (k : Nat) (h : closeX P A f k c e H rv = some ys) :
  Wp P A f c e H fun x e H => (x = .normal ∨ x = .ret) ∧ ∃ rs, rv.mapM (resX P e H) = some rs ∧ rs.mapM (backY H) = some ys := by
 unfold closeX at h
 obtain ⟨⟨x, e1, H1⟩, h1, h2⟩ := kB.1 h
 refine ⟨x, e1, H1, ⟨k, h1⟩, ?_⟩
 cases x with
 | normal => obtain ⟨rs, h3, h4⟩ := kB.1 h2; exact ⟨.inl rfl, rs, h3, h4⟩
 | ret => obtain ⟨rs, h3, h4⟩ := kB.1 h2; exact ⟨.inr rfl, rs, h3, h4⟩
 | exit _ => cases h2
 | goto _ => cases h2
def partP (s : Sh) (c : C) (l : List s.T) : HP := fun h =>
 (c = nilC ∧ l = []) ∨ ∃ k, ∃ L : List s.T, c = rowC k 0 L.length 0 l.length false ∧ h k = some (rowO s true 0 L) ∧ l.length ≤ L.length ∧ L.take l.length = l
theorem part_open {cs : List HP} {s : Sh} {c : C} {l : List s.T} (h : On cs H) (j : Nat) (hj : cs[j]? = some (partP s c l)) :
  ((c = nilC ∧ l = [] ∧ On (cs.eraseIdx j) H) ∨ ∃ k, ∃ L : List s.T, c = rowC k 0 L.length 0 l.length false ∧ l.length ≤ L.length ∧ L.take l.length = l ∧ On (cs.eraseIdx j ++ [pts k (rowO s true 0 L)]) H) := by
 refine On.alt j hj h fun h' b => ?_
 rcases b with ⟨rfl, rfl⟩ | ⟨k, L, rfl, b, e1, e2⟩
 ·exact ⟨[], trivial, fun hh => .inl ⟨rfl, rfl, by simpa using hh⟩⟩
 ·exact ⟨_, SL_one b, fun hh => .inr ⟨k, L, rfl, e1, e2, hh⟩⟩
theorem part_nil {s : Sh} {h : Frag} : partP s nilC [] h := .inl ⟨rfl, rfl⟩
theorem part_row {s : Sh} {k n : Nat} {L l : List s.T} (hn : n = l.length) (e1 : n ≤ L.length) (e2 : L.take n = l) {h : Frag} (x : SL [pts k (rowO s true 0 L)] h) : partP s (rowC k 0 L.length 0 n false) l h := by
 subst hn
 obtain ⟨h1, h2, hd, s1, s2, a, b⟩ := x
 exact .inr ⟨k, L, rfl, s1 _ _ a, e1, e2⟩
theorem On.addPart {s : Sh} {cs : List HP} (h : On cs H) : On (cs ++ [partP s nilC []]) H :=
 SL_app' ⟨_, fun _ => none, fun _ => .inr rfl, fun _ _ x => x, fun _ _ x => by simp at x, h, SL_one part_nil⟩
theorem part_live {s : Sh} {cs : List HP} {c : C} {l : List s.T} (hs : On cs H) (j : Nat) (hj : cs[j]? = some (partP s c l)) : c.live = true := by
 rcases part_open hs j hj with ⟨rfl, _⟩ | ⟨k, L, rfl, _⟩ <;> rfl
theorem ob_len_part {t ty : TypeId} {s : Sh} {cs : List HP} {c : C} {l : List s.T} {e : Int} (hs : On cs H) (j : Nat) (hj : cs[j]? = some (partP s c l)) (ht : (elemT P t).isSome = true) (hn : (l.length : Int) = e) :
  Ob P A [.y (.one c)] H (.call { callee := .builtin .len, args := #[.tmp 0], argTypes := #[t] }) ty (.y (.one (.sc (.int .i64 e)))) H := by
 rcases part_open hs j hj with ⟨rfl, rfl, _⟩ | ⟨k, L, rfl, _, _, h⟩
 ·refine ⟨0, ?_⟩
  subst hn
  show (if ((#[t] : Array TypeId)[0]?.bind (elemT P)).isSome then some (X.y (.one (.sc (goInt 0))), H) else none) = _
  rw [if_pos (by simpa using ht)]
  rfl
 ·refine or_len (s := s) (pu := true) (On.at h (cs.eraseIdx j).length ?_) ht hn
  rw [List.getElem?_append_right (Nat.le_refl _), Nat.sub_self]
  rfl
theorem splice_cells {s : Sh} {l m : List s.T} {o : Nat} (h : o + m.length ≤ l.length) : splice (o * s.cells) (m.flatMap (enc s)) (l.flatMap (enc s)) = (splice o m l).flatMap (enc s) := by
 unfold splice
 rw [List.flatMap_append, List.flatMap_append, flat_len]
 have e1 : (l.flatMap (enc s)).take (o * s.cells) = (l.take o).flatMap (enc s) := by
  conv => lhs; rw [← List.take_append_drop o l, List.flatMap_append]
  rw [List.take_append_of_le_length (by rw [flat_len, List.length_take, Nat.min_eq_left (by omega)]; exact Nat.le_refl _)]
  exact List.take_of_length_le (by rw [flat_len, List.length_take, Nat.min_eq_left (by omega)]; exact Nat.le_refl _)
 have e2 : (l.flatMap (enc s)).drop (o * s.cells + m.length * s.cells) = (l.drop (o + m.length)).flatMap (enc s) := by
  rw [← Nat.add_mul]
  conv => lhs; rw [← List.take_append_drop (o + m.length) l, List.flatMap_append]
  have e : ((l.take (o + m.length)).flatMap (enc s)).length = (o + m.length) * s.cells := by rw [flat_len, List.length_take, Nat.min_eq_left h]
  rw [← e, List.drop_left]
 rw [e1, e2]
theorem or_append_in {s : Sh} {t u el ty : TypeId} {by_ : Nat} {z : List C} {id n m n' : Nat} {l lm l' : List s.T} {y : C} (hH : H[id]? = some (rowO s true 0 l)) (hy : slCells H s.cells y = some (lm.flatMap (enc s), m, true))
  (he : elemT P t = some el) (hu : (elemT P u).isSome = true) (hs : szT P el = some s.cells) (h0 : Nat.ble 1 s.cells = true) (hb : byT P el = some by_) (hz : zeroC P el = some z) (hml : m = lm.length)
  (hm : m ≠ 0) (hoff : n + m ≤ l.length) (h1 : (n : Int) + m ≤ 9223372036854775807) (h2 : ((n : Int) + m) * by_ ≤ 140737488355328) (hl : splice n lm l = l') (hn : n + m = n') :
  Ob P A [.y (.one (rowC id 0 l.length 0 n false)), .y (.one y)] H (.call { callee := .builtin .append, args := #[.tmp 0, .tmp 1], argTypes := #[t, u] }) ty
   (.y (.one (rowC id 0 l'.length 0 n' false))) (H.set id (rowO s true 0 l')) := by
 subst hl; subst hn
 refine ⟨0, ?_⟩
 show (if (elemT P u).isSome then (some (rowC id 0 l.length 0 n false)).bind fun s' => (some y).bind fun z => (appendX P A H t s' z).map fun (c, H) => (X.y (.one c), H) else none) = _
 rw [if_pos hu]
 simp only [kS]
 unfold appendX
 simp only [he, hs, hb, hz, kS]
 rw [if_pos (show 0 < s.cells from Nat.le_of_ble_eq_true h0)]
 simp only [hy, slCells_rowO (o := 0) hH (show 0 + n ≤ l.length by omega) rfl, kS]
 rw [if_neg hm, if_pos ⟨flat_live s lm, by unfold maxLen; omega, by unfold maxBytes; exact Int.ofNat_le.1 (by rw [Int.natCast_mul, Int.natCast_add]; exact h2)⟩]
 have hsp : (splice n lm l).length = l.length := length_splice (by omega)
 simp only [C.isRow, if_true, Bool.not_true, Bool.and_false, Bool.false_eq_true, if_false, kS, hH]
 rw [if_neg (by omega), if_pos ⟨trivial, by omega, trivial⟩]
 simp only [kT, kI, kP, X.y.injEq, Y.one.injEq, C.row.injEq, true_and, and_true, hsp]
 rw [show (0 + 0 - 0) * s.cells + n * s.cells = n * s.cells by simp, splice_cells (by omega)]
 show _ = List.set H id (O.row true true 0 (0 + (splice n lm l).length) s.cells _)
 rw [hsp]
theorem take_splice_end {α : Type} {l m : List α} {n : Nat} (h : n + m.length ≤ l.length) : (splice n m l).take (n + m.length) = l.take n ++ m := by
 unfold splice
 rw [List.take_append_of_le_length (by rw [List.length_append, List.length_take]; omega)]
 exact List.take_of_length_le (by rw [List.length_append, List.length_take]; omega)
theorem or_append_part {s : Sh} {t u el ty : TypeId} {by_ : Nat} {z : List C} {cs : List HP} {c y : C} {l : List s.T} {x : s.T} (hs : On cs H) (j : Nat) (hj : cs[j]? = some (partP s c l))
  (hy : slCells H s.cells y = some ([x].flatMap (enc s), 1, true)) (hpu : A.pureSl t = true) (he : elemT P t = some el) (hu : (elemT P u).isSome = true) (hsz : szT P el = some s.cells) (h0 : Nat.ble 1 s.cells = true) (hb : byT P el = some by_) (hz : zeroC P el = some z)
  (h1 : (l.length : Int) + 1 ≤ 9223372036854775807) (h2 : ((l.length : Int) + 1) * by_ ≤ 140737488355328) :
  ∃ c' H', Ob P A [.y (.one c), .y (.one y)] H (.call { callee := .builtin .append, args := #[.tmp 0, .tmp 1], argTypes := #[t, u] }) ty (.y (.one c')) H' ∧ On (cs.eraseIdx j ++ [partP s c' (l ++ [x])]) H' := by
 rcases part_open hs j hj with ⟨rfl, rfl, h⟩ | ⟨k, L, rfl, e1, e2, h⟩
 ·refine ⟨_, _, or_append_new (b' := false) (nil' := true) (pu := true) (l := ([] : List s.T)) (nl := 0) rfl rfl hpu hy rfl he hu hsz h0 hb hz rfl (by omega) (by first | (simp; done) | simpa using h1) (by simpa using h2) (List.nil_append _) rfl, ?_⟩
  exact On.last (fun _ x => part_row (by simp) (by simp) (by simp) (SL_one x)) (On.new' rfl (rowO s true 0 [x]) h)
 ·have hH := On.at h (cs.eraseIdx j).length (by rw [List.getElem?_append_right (Nat.le_refl _), Nat.sub_self]; rfl)
  have put : ∀ L' : List s.T, On (cs.eraseIdx j ++ [pts k (rowO s true 0 L')]) (H.set k (rowO s true 0 L')) := fun L' => by
   have hp := On.put (rowO s true 0 L') h (cs.eraseIdx j).length (by rw [List.getElem?_append_right (Nat.le_refl _), Nat.sub_self]; rfl)
   rwa [show (cs.eraseIdx j ++ [pts k (rowO s true 0 L)]).set (cs.eraseIdx j).length (pts k (rowO s true 0 L')) = cs.eraseIdx j ++ [pts k (rowO s true 0 L')] by rw [List.set_append_right _ _ (Nat.le_refl _), Nat.sub_self]; rfl] at hp
  by_cases hf : l.length = L.length
  ·have e5 : L.drop 0 ++ [x] = l ++ [x] := by rw [List.drop_zero, ← e2, List.take_of_length_le (by omega)]
   refine ⟨_, _, or_append (n' := l.length + 1) hH hy rfl he hu hsz h0 hb hz rfl (by omega) (by omega) h1 h2 rfl e5 rfl, ?_⟩
   exact On.last (fun _ y => part_row (by simp) (by simp) (by rw [List.take_of_length_le (by simp)]) (SL_one y)) (put _)
  ·refine ⟨_, _, or_append_in (n' := l.length + 1) (lm := [x]) hH hy he hu hsz h0 hb hz rfl (by omega) (by omega) h1 h2 rfl rfl, ?_⟩
   refine On.last (fun _ y => part_row (by simp) ?_ ?_ (SL_one y)) (put _)
   ·rw [length_splice (by simp; omega)]; omega
   ·have := take_splice_end (m := [x]) (l := L) (n := l.length) (by simp; omega)
    rw [e2] at this
    exact this
theorem or_clear {s : Sh} {t el ty : TypeId} {id o n : Nat} {l : List s.T} {z : s.T} (hH : H[id]? = some (rowO s true 0 l)) (he : elemT P t = some el) (hs : szT P el = some s.cells) (hz : zeroC P el = some (enc s z)) (hi : ((enc s z).all C.imm && Nat.ble 1 s.cells) = true)
  (hn : 0 < n) (ho : o + n ≤ l.length) :
  Ob P A [.y (.one (rowC id 0 l.length o n false))] H (.call { callee := .builtin .clear, args := #[.tmp 0], argTypes := #[t] }) ty (.tup []) (H.set id (.row true true 0 (0 + l.length) s.cells ((splice o (List.replicate n z) l).flatMap (enc s)))) := by
 rw [kA, Nat.ble_eq] at hi
 refine ⟨0, ?_⟩
 show ((#[t] : Array TypeId)[0]?.bind fun t => (some (rowC id 0 l.length o n false)).bind fun c => (clearX P H t c).map fun H => (X.tup [], H)) = _
 simp only [List.getElem?_toArray, List.getElem?_cons_zero, kS]
 unfold clearX
 simp only [he, hs, hz, kS, hH]
 rw [if_pos ⟨trivial, trivial, by omega, by omega, hn, fun _ => hi.1, enc_live s z⟩]
 simp only [kT, kI, kP, true_and]
 have e : ((List.range (n * s.cells)).map fun i => (enc s z).getD (i % s.cells) .dead) = (List.replicate n z).flatMap (enc s) := by
  generalize n = k
  induction k with
  | zero => simp
  | succ k ih =>
   rw [List.replicate_succ', List.flatMap_append, ← ih, Nat.add_mul, Nat.one_mul, List.range_add, List.map_append]
   congr 1
   rw [List.map_map]
   have hl := enc_len s z
   apply List.ext_getElem
   ·simp [hl]
   ·intro i hi _
    have hi' : i < s.cells := by simpa using hi
    simp only [List.getElem_map, List.getElem_range, Function.comp]
    rw [Nat.mul_add_mod_self_right, Nat.mod_eq_of_lt hi']
    simp [List.getD, hl, hi']
 rw [e, show (0 + o - 0) * s.cells = o * s.cells by simp, splice_cells (by simpa using ho)]
end
end Go.Lg
