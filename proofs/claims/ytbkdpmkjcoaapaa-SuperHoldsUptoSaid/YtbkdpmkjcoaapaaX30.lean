/- Lemmas. -/
import Derived.Test.YtbkdpmkjcoaapaaX29
namespace Go.Lg
abbrev nilC : C := .sl false true true [] 0
def itemsP (s : Sh) (c : C) (l : List s.T) : HP := fun h =>
 (c = nilC ∧ l = []) ∨ ∃ k d, ∃ L : List s.T, ∃ o capd, c = rowC k d L.length o l.length capd ∧ h k = some (rowO s true d L) ∧ o + l.length ≤ L.length ∧ (capd = false → o + l.length = L.length) ∧ (L.drop o).take l.length = l
def ringP (s : Sh) (q : Nat) (room : Int) (l : List s.T) : HP := fun h =>
 (1 ≤ room ∧ room ≤ 65536 ∧ (l.length : Int) ≤ room) ∧ ∃ c, star (pts q (.obj [vi room, c])) (itemsP s c l) h
theorem SL_one {A : HP} {h : Frag} (y : A h) : SL [A] h := ⟨h, fun _ => none, fun _ => .inr rfl, fun _ _ x => x, fun _ _ x => by simp at x, y, trivial⟩
theorem On.alt {cs : List HP} {H : Heap} {A : HP} {G : Prop} (j : Nat) (hj : cs[j]? = some A) (h : On cs H) (hA : ∀ h, A h → ∃ ds : List HP, SL ds h ∧ (On (cs.eraseIdx j ++ ds) H → G)) : G := by
 have p : cs.Perm (A :: cs.eraseIdx j) := by
  exact perm_erase hj
 obtain ⟨h1, h2, hd, s1, s2, a, b⟩ := SL_perm p h
 obtain ⟨ds, h3, h4⟩ := hA h1 a
 exact h4 (SL_app' ⟨h2, h1, fun i => (hd i).symm, s2, s1, b, h3⟩)
theorem onlyH_at {M : List Nat} {H : Heap} {id : Nat} {o : O} (hm : M.contains id = true) (h : H[id]? = some o) : (onlyH M H)[id]? = some o := by
 have hle : ∀ (l : List Nat) (a : Nat), (a ≤ l.foldl Nat.max a) ∧ ∀ x ∈ l, x ≤ l.foldl Nat.max a := by
  intro l
  induction l with
  | nil => intro a; exact ⟨Nat.le_refl _, fun x hx => by cases hx⟩
  | cons y l ih =>
   intro a
   obtain ⟨h1, h2⟩ := ih (Nat.max a y)
   refine ⟨Nat.le_trans (Nat.le_max_left a y) h1, fun x hx => ?_⟩
   rcases List.mem_cons.1 hx with rfl | hx
   ·exact Nat.le_trans (Nat.le_max_right a x) h1
   ·exact h2 x hx
 have hlt : id < M.foldl Nat.max 0 + 1 := Nat.lt_succ_of_le ((hle M 0).2 id (by simpa using hm))
 unfold onlyH
 rw [List.getElem?_map, List.getElem?_range hlt]
 simp only [kT, hm, if_true, List.getD, h, Option.getD_some]
theorem hideH_get {M : List Nat} {H : Heap} {i : Nat} : (hideH M H)[i]? = (H[i]?).map fun o => if M.contains i then froO o else o := by
 unfold hideH; rw [mapI_get]; simp only [Nat.zero_add]
theorem backH_get {M : List Nat} {H H' : Heap} {i : Nat} : (backH M H H')[i]? = (H'[i]?).map fun o => if M.contains i then H.getD i o else o := by
 unfold backH; rw [mapI_get]; simp only [Nat.zero_add]
theorem On.hide1 {cs : List HP} {H : Heap} {id : Nat} {o : O} (h : On cs H) (j : Nat) (hj : cs[j]? = some (pts id o)) : On (cs.set j (pts id (froO o))) (hideH [id] H) := by
 have e : hideH [id] H = H.set id (froO o) := by
  have ho := h.at j hj
  have hlt := (List.getElem?_eq_some_iff.1 ho).1
  apply List.ext_getElem?
  intro i
  rw [hideH_get]
  by_cases hi : i = id
  ·subst hi; rw [ho, List.getElem?_set_self hlt]; simp
  ·rw [List.getElem?_set_ne (fun x => hi x.symm)]
   have : ([id] : List Nat).contains i = false := by simp [hi]
   simp only [this, Bool.false_eq_true, if_false]
   cases H[i]? <;> rfl
 rw [e]
 exact h.put _ j hj
theorem On.back1 {cs : List HP} {H H' : Heap} {id : Nat} {o o' : O} (h : On cs H') (j : Nat) (hj : cs[j]? = some (pts id o')) (ho : H[id]? = some o) : On (cs.set j (pts id o)) (backH [id] H H') := by
 have e : backH [id] H H' = H'.set id o := by
  have ho' := h.at j hj
  have hlt := (List.getElem?_eq_some_iff.1 ho').1
  apply List.ext_getElem?
  intro i
  rw [backH_get]
  by_cases hi : i = id
  ·subst hi; rw [ho', List.getElem?_set_self hlt]; simp [List.getD, ho]
  ·rw [List.getElem?_set_ne (fun x => hi x.symm)]
   have : ([id] : List Nat).contains i = false := by simp [hi]
   simp only [this, Bool.false_eq_true, if_false]
   cases H'[i]? <;> rfl
 rw [e]
 exact h.put _ j hj
theorem mayHide1 {H : Heap} {id : Nat} {o : O} (ho : H[id]? = some o) (h : o.inH H.length = true) : mayHide H [id] = true := by
 simp [mayHide, ho, h]
def optP (s : Sh) (cc : C) (room vr : Int) (l : List s.T) : HP := fun h => (cc = .sc (.pointer none)) ∨ ∃ q, cc = .ptr q 0 ∧ vr = room ∧ ringP s q room l h
end Go.Lg
