/- Lemmas. -/
import Derived.Test.YtjdnhbnpdbpgbaaX32
namespace Go.Lg
section
variable {P : Program} {A : Ann} {H : Heap}
theorem On.drop {cs : List HP} {A' : HP} (j : Nat) (hj : cs[j]? = some A') (h : On cs H) : On (cs.eraseIdx j) H :=
 On.alt j hj h fun _ _ => ⟨[], trivial, fun hh => by simpa using hh⟩
theorem On.last {cs : List HP} {B B' : HP} (f : ∀ h, B h → B' h) (h : On (cs ++ [B]) H) : On (cs ++ [B']) H := by
 have := On.mono (A' := B') cs.length (by rw [List.getElem?_append_right (Nat.le_refl _), Nat.sub_self]; rfl) f h
 rwa [show (cs ++ [B]).set cs.length B' = cs ++ [B'] by rw [List.set_append_right _ _ (Nat.le_refl _), Nat.sub_self]; rfl] at this
theorem items_cells {s : Sh} {cs : List HP} {c : C} {l : List s.T} (hs : On cs H) (j : Nat) (hj : cs[j]? = some (itemsP s c l)) : slCells H s.cells c = some (l.flatMap (enc s), l.length, true) := by
 rcases items_open hs j hj with ⟨rfl, rfl, _⟩ | ⟨k, d, L, o, capd, rfl, e1, _, e3, h⟩
 ·exact slCells_slO (nil := true) (b := false) (capd := true) (l := ([] : List s.T)) rfl
 ·exact slCells_rowO (On.at h (cs.eraseIdx j).length (by rw [List.getElem?_append_right (Nat.le_refl _), Nat.sub_self]; rfl)) e1 e3
theorem or_append_items {s : Sh} {t u el ty : TypeId} {by_ : Nat} {z : List C} {cs : List HP} {c y : C} {l lm : List s.T} {m : Nat} (hs : On cs H) (j : Nat) (hj : cs[j]? = some (itemsP s c l))
  (hy : slCells H s.cells y = some (lm.flatMap (enc s), m, true)) (hpu : A.pureSl t = true) (he : elemT P t = some el) (hu : (elemT P u).isSome = true) (hsz : szT P el = some s.cells) (h0 : Nat.ble 1 s.cells = true) (hb : byT P el = some by_) (hz : zeroC P el = some z)
  (hml : m = lm.length) (h1 : (l.length : Int) + m ≤ 9223372036854775807) (h2 : ((l.length : Int) + m) * by_ ≤ 140737488355328) :
  ∃ c' H', Ob P A [.y (.one c), .y (.one y)] H (.call { callee := .builtin .append, args := #[.tmp 0, .tmp 1], argTypes := #[t, u] }) ty (.y (.one c')) H' ∧ On (cs.eraseIdx j ++ [itemsP s c' (l ++ lm)]) H' := by
 by_cases hm : m = 0
 ·have hl : lm = [] := List.eq_nil_of_length_eq_zero (by omega)
  subst hm; subst hl
  refine ⟨c, H, ob_append_none (items_cells hs j hj) hy he hu hsz h0 hb hz, ?_⟩
  rw [List.append_nil]
  exact On.alt j hj hs fun h a => ⟨[itemsP s c l], SL_one a, fun hh => hh⟩
 ·rcases items_open hs j hj with ⟨rfl, rfl, h⟩ | ⟨k, d, L, o, capd, rfl, e1, e2, e3, h⟩
  ·refine ⟨_, _, or_append_new (b' := false) (nil' := true) (pu := true) (l := ([] : List s.T)) (nl := 0) rfl rfl hpu hy rfl he hu hsz h0 hb hz hml hm h1 h2 (List.nil_append _) rfl, ?_⟩
   exact On.last (fun _ x => items_row (by simp [hml]) (by omega) (fun _ => by simp [hml]) (by simp [hml]) (SL_one x)) (On.new' rfl (rowO s true 0 lm) h)
  ·have hH := On.at h (cs.eraseIdx j).length (by rw [List.getElem?_append_right (Nat.le_refl _), Nat.sub_self]; rfl)
   cases capd with
   | false =>
    have e4 := e2 rfl
    have e5 : L.drop o ++ lm = l ++ lm := by rw [← e3, List.take_of_length_le (by rw [List.length_drop]; omega)]
    refine ⟨_, _, or_append (n' := l.length + m) hH hy rfl he hu hsz h0 hb hz hml hm e4 h1 h2 rfl e5 rfl, ?_⟩
    have hp := On.put (rowO s true (d + o) (l ++ lm)) h (cs.eraseIdx j).length (by rw [List.getElem?_append_right (Nat.le_refl _), Nat.sub_self]; rfl)
    rw [show (cs.eraseIdx j ++ [pts k (rowO s true d L)]).set (cs.eraseIdx j).length (pts k (rowO s true (d + o) (l ++ lm))) = cs.eraseIdx j ++ [pts k (rowO s true (d + o) (l ++ lm))] by rw [List.set_append_right _ _ (Nat.le_refl _), Nat.sub_self]; rfl] at hp
    exact On.last (fun _ x => items_row (by simp [hml]) (by simp [hml]) (fun _ => by simp [hml]) (by rw [List.drop_zero, List.take_of_length_le (by simp [hml])]) (SL_one x)) hp
   | true =>
    refine ⟨_, _, or_append_cap (n' := l.length + m) rfl hH hy rfl he hu hsz h0 hb hz hml hm e1 h1 h2 (by rw [e3]) rfl, ?_⟩
    have hp := On.drop (cs.eraseIdx j).length (A' := pts k (rowO s true d L)) (by rw [List.append_assoc, List.getElem?_append_right (Nat.le_refl _), Nat.sub_self]; rfl) (On.new' rfl (rowO s true 0 (l ++ lm)) h)
    rw [List.append_assoc, List.eraseIdx_append_of_length_le (Nat.le_refl _), Nat.sub_self] at hp
    exact On.last (fun _ x => items_row (by simp [hml]) (by simp [hml]) (fun _ => by simp [hml]) (by rw [List.drop_zero, List.take_of_length_le (by simp [hml])]) (SL_one x)) hp
theorem or_append_nil {s : Sh} {t u el ty : TypeId} {by_ : Nat} {z : List C} {cs : List HP} {y : C} {lm : List s.T} {m : Nat} (hs : On cs H)
  (hy : slCells H s.cells y = some (lm.flatMap (enc s), m, true)) (hpu : A.pureSl t = true) (he : elemT P t = some el) (hu : (elemT P u).isSome = true) (hsz : szT P el = some s.cells) (h0 : Nat.ble 1 s.cells = true) (hb : byT P el = some by_) (hz : zeroC P el = some z)
  (hml : m = lm.length) (h1 : (m : Int) ≤ 9223372036854775807) (h2 : (m : Int) * by_ ≤ 140737488355328) :
  ∃ c' H', Ob P A [.y (.one nilC), .y (.one y)] H (.call { callee := .builtin .append, args := #[.tmp 0, .tmp 1], argTypes := #[t, u] }) ty (.y (.one c')) H' ∧ On (cs ++ [itemsP s c' lm]) H' := by
 obtain ⟨c', H', e1, e2⟩ := or_append_items (s := s) (l := []) (cs := cs ++ [itemsP s nilC []]) (ty := ty) (On.addNil hs) cs.length (by rw [List.getElem?_append_right (Nat.le_refl _), Nat.sub_self]; rfl) hy hpu he hu hsz h0 hb hz hml (by simpa using h1) (by simpa using h2)
 rw [List.eraseIdx_append_of_length_le (Nat.le_refl _), Nat.sub_self] at e2
 exact ⟨c', H', e1, by simpa using e2⟩
theorem ring_lt {s : Sh} {cs : List HP} {q : Nat} {room : Int} {l : List s.T} (hs : On cs H) (j : Nat) (hj : cs[j]? = some (ringP s q room l)) : q < H.length := by
 obtain ⟨_, ⟨_, h⟩ | ⟨k, d, L, o, capd, _, _, _, h⟩⟩ := ring_open hs j hj <;>
  exact lt_of_get (On.at h (cs.eraseIdx j).length (by rw [List.getElem?_append_right (Nat.le_refl _), Nat.sub_self]; rfl))
theorem back_one {c c' : C} (h : backC H c = some c') : backY H (.one c) = some (.one c') := by
 show (backC H c).map Y.one = _
 rw [h]; rfl
theorem snap_one {c c' : C} (h : snapC H c = some c') : snapY H (.one c) = some (.one c') := by
 show (snapC H c).map Y.one = _
 rw [h]; rfl
end
end Go.Lg
