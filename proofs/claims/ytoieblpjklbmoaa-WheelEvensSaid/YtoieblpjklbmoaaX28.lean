/-
 X, part 28: PARTS OF A HEAP THAT STAND FOR ANY HEAP: assertions about fragments, side by side; what reading, writing, making and calling do to them.
-/
import Derived.Test.YtoieblpjklbmoaaX24
namespace Go.Lg
abbrev Frag := Nat → Option O
abbrev HP := Frag → Prop
def pts (id : Nat) (o : O) : HP := fun h => h id = some o
def emp : HP := fun _ => True
def star (A B : HP) : HP := fun h => ∃ h1 h2 : Frag, (∀ i, h1 i = none ∨ h2 i = none) ∧ (∀ i o, h1 i = some o → h i = some o) ∧ (∀ i o, h2 i = some o → h i = some o) ∧ A h1 ∧ B h2
def SL : List HP → HP
 | [] => emp
 | A :: r => star A (SL r)
def On (cs : List HP) (H : Heap) : Prop := SL cs (fun i => H[i]?)
def Up (A : HP) : Prop := ∀ h h' : Frag, (∀ i o, h i = some o → h' i = some o) → A h → A h'
theorem star_up (A B : HP) : Up (star A B) := by
 rintro h h' hh ⟨h1, h2, hd, s1, s2, a, b⟩
 exact ⟨h1, h2, hd, fun i o x => hh i o (s1 i o x), fun i o x => hh i o (s2 i o x), a, b⟩
theorem SL_up : ∀ cs : List HP, Up (SL cs)
 | [] => fun _ _ _ _ => trivial
 | A :: r => star_up A (SL r)
theorem star_mono {A A' B B' : HP} {h : Frag} (f : ∀ h, A h → A' h) (g : ∀ h, B h → B' h) : star A B h → star A' B' h := by
 rintro ⟨h1, h2, hd, s1, s2, a, b⟩
 exact ⟨h1, h2, hd, s1, s2, f _ a, g _ b⟩
theorem star_comm {A B : HP} {h : Frag} : star A B h → star B A h := by
 rintro ⟨h1, h2, hd, s1, s2, a, b⟩
 exact ⟨h2, h1, fun i => (hd i).symm, s2, s1, b, a⟩
/-- two fragments that do not meet, as one -/
def orF (h1 h2 : Frag) : Frag := fun i => (h1 i).or (h2 i)
theorem orF_l {h1 h2 : Frag} {i : Nat} {o : O} (h : h1 i = some o) : orF h1 h2 i = some o := by simp [orF, h]
theorem orF_r {h1 h2 : Frag} {i : Nat} {o : O} (hd : h1 i = none ∨ h2 i = none) (h : h2 i = some o) : orF h1 h2 i = some o := by
 rcases hd with hd | hd
 ·simp [orF, hd, h]
 ·rw [hd] at h; cases h
theorem orF_sub {h1 h2 h : Frag} (s1 : ∀ i o, h1 i = some o → h i = some o) (s2 : ∀ i o, h2 i = some o → h i = some o) : ∀ i o, orF h1 h2 i = some o → h i = some o := by
 intro i o hi
 unfold orF at hi
 cases h1i : h1 i with
 | some x => rw [h1i] at hi; simp only [Option.some_or, kI] at hi; subst hi; exact s1 _ _ h1i
 | none => rw [h1i, Option.none_or] at hi; exact s2 _ _ hi
theorem orF_none {h1 h2 : Frag} {i : Nat} (a : h1 i = none) (b : h2 i = none) : orF h1 h2 i = none := by simp [orF, a, b]
theorem not_none_of {h : Frag} {i : Nat} (hn : ¬ h i = none) : ∃ o, h i = some o := Option.ne_none_iff_exists'.1 hn
theorem star_assoc {A B C : HP} {h : Frag} : star (star A B) C h → star A (star B C) h := by
 rintro ⟨h12, h3, hd, s12, s3, ⟨h1, h2, hd', t1, t2, a, b⟩, c⟩
 refine ⟨h1, orF h2 h3, fun i => ?_, fun i o x => s12 i o (t1 i o x), orF_sub (fun i o x => s12 i o (t2 i o x)) s3, a, h2, h3, fun i => ?_, fun i o x => orF_l x, fun i o x => orF_r ?_ x, b, c⟩
 ·by_cases h1i : h1 i = none
  ·exact .inl h1i
  ·obtain ⟨o, ho⟩ := not_none_of h1i
   refine .inr (orF_none ((hd' i).resolve_left h1i) ((hd i).resolve_left ?_))
   rw [t1 i o ho]; simp
 ·by_cases h2i : h2 i = none
  ·exact .inl h2i
  ·obtain ⟨o, ho⟩ := not_none_of h2i
   refine .inr ((hd i).resolve_left ?_)
   rw [t2 i o ho]; simp
 ·by_cases h2i : h2 i = none
  ·exact .inl h2i
  ·obtain ⟨o, ho⟩ := not_none_of h2i
   refine .inr ((hd i).resolve_left ?_)
   rw [t2 i o ho]; simp
theorem star_assoc' {A B C : HP} {h : Frag} (x : star A (star B C) h) : star (star A B) C h :=
 star_comm (star_mono (fun _ y => y) (fun _ y => star_comm y) (star_assoc (star_comm (star_mono (fun _ y => y) (fun _ y => star_comm y) x))))
theorem star_swap {A B C : HP} {h : Frag} (x : star A (star B C) h) : star B (star A C) h :=
 star_assoc (star_mono (fun _ y => star_comm y) (fun _ y => y) (star_assoc' x))
theorem SL_perm {cs ds : List HP} (p : cs.Perm ds) : ∀ {h : Frag}, SL cs h → SL ds h := by
 induction p with
 | nil => exact fun x => x
 | cons _ _ ih => exact fun x => star_mono (fun _ y => y) (fun _ y => ih y) x
 | swap _ _ _ => exact fun x => star_swap x
 | trans _ _ i1 i2 => exact fun x => i2 (i1 x)
theorem SL_app {cs ds : List HP} : ∀ {h : Frag}, SL (cs ++ ds) h → star (SL cs) (SL ds) h := by
 induction cs with
 | nil => intro h x; exact ⟨fun _ => none, h, fun _ => .inl rfl, fun _ _ y => by simp at y, fun _ _ y => y, trivial, x⟩
 | cons A r ih => intro h x; exact star_assoc' (star_mono (fun _ y => y) (fun _ y => ih y) x)
theorem SL_app' {cs ds : List HP} : ∀ {h : Frag}, star (SL cs) (SL ds) h → SL (cs ++ ds) h := by
 induction cs with
 | nil => rintro h ⟨h1, h2, _, _, s2, _, b⟩; exact SL_up ds h2 h s2 b
 | cons A r ih => intro h x; exact star_mono (fun _ y => y) (fun _ y => ih y) (star_assoc x)
theorem perm_erase {cs : List HP} {A : HP} : ∀ {j : Nat}, cs[j]? = some A → cs.Perm (A :: cs.eraseIdx j) := by
 induction cs with
 | nil => intro j h; simp at h
 | cons B r ih =>
  intro j h
  cases j with
  | zero => simp only [List.getElem?_cons_zero, kI] at h; subst h; exact .refl _
  | succ j => exact (List.Perm.cons B (ih (by simpa using h))).trans (.swap _ _ _)
theorem erase_set {cs : List HP} {A : HP} : ∀ {j : Nat}, (cs.set j A).eraseIdx j = cs.eraseIdx j := by
 induction cs with
 | nil => intro j; rfl
 | cons B r ih => intro j; cases j with
  | zero => rfl
  | succ j => simp [ih]
theorem getD_range (cs : List HP) : cs = (List.range cs.length).map fun i => cs.getD i emp := by
 apply List.ext_getElem?
 intro i
 by_cases hi : i < cs.length
 ·simp [hi, List.getD]
 ·simp [hi]
theorem On.perm {cs : List HP} {H : Heap} (is : List Nat) (hp : is.isPerm (List.range cs.length) = true) (h : On cs H) : On (is.map fun i => cs.getD i emp) H := by
 have p : (List.range cs.length).Perm is := (List.isPerm_iff.1 hp).symm
 have := p.map fun i => cs.getD i emp
 rw [← getD_range] at this
 exact SL_perm this h
/-- some of the parts, in another order; the others let go of -/
theorem On.pick {cs : List HP} {H : Heap} (is rest : List Nat) (hp : (is ++ rest).isPerm (List.range cs.length) = true) (h : On cs H) : On (is.map fun i => cs.getD i emp) H := by
 have := h.perm (is ++ rest) hp
 rw [List.map_append] at this
 obtain ⟨h1, _, _, s1, _, a, _⟩ := SL_app this
 exact SL_up _ h1 _ s1 a
/-- what a call needs ahead, the rest as one -/
theorem On.call {cs : List HP} {H : Heap} (is rest : List Nat) (hp : (rest ++ is).isPerm (List.range cs.length) = true) (h : On cs H) : On (SL (rest.map fun i => cs.getD i emp) :: is.map fun i => cs.getD i emp) H := by
 have := h.perm (rest ++ is) hp
 rw [List.map_append] at this
 exact SL_app this
theorem On.flat {cs ds : List HP} {H : Heap} (h : On (SL cs :: ds) H) : On (cs ++ ds) H := SL_app' h
/-- parts of a heap as one -/
theorem On.shut {cs : List HP} {H : Heap} {A : HP} (is rest : List Nat) (hp : (rest ++ is).isPerm (List.range cs.length) = true) (hA : ∀ h, SL (is.map fun i => cs.getD i emp) h → A h) (h : On cs H) : On (rest.map (fun i => cs.getD i emp) ++ [A]) H := by
 have := h.perm (rest ++ is) hp
 rw [List.map_append] at this
 exact SL_app' (star_mono (fun _ y => y) (fun _ y => ⟨_, fun _ => none, fun _ => .inr rfl, fun _ _ x => x, fun _ _ x => by simp at x, hA _ y, trivial⟩) (SL_app this))
theorem On.at {cs : List HP} {H : Heap} {id : Nat} {o : O} (h : On cs H) (j : Nat) (hj : cs[j]? = some (pts id o)) : H[id]? = some o := by
 have p : cs.Perm (pts id o :: cs.eraseIdx j) := by
  exact perm_erase hj
 obtain ⟨h1, h2, hd, s1, s2, a, b⟩ := SL_perm p h
 exact s1 id o a
theorem On.put {cs : List HP} {H : Heap} {id : Nat} {o : O} (o' : O) (h : On cs H) (j : Nat) (hj : cs[j]? = some (pts id o)) : On (cs.set j (pts id o')) (H.set id o') := by
 obtain ⟨hl, he⟩ := List.getElem?_eq_some_iff.1 hj
 have p : cs.Perm (pts id o :: cs.eraseIdx j) := by
  exact perm_erase hj
 have p' : (cs.set j (pts id o')).Perm (pts id o' :: cs.eraseIdx j) := by
  have := perm_erase (cs := cs.set j (pts id o')) (j := j) (A := (pts id o')) (by simp [hl])
  rwa [erase_set] at this
 obtain ⟨h1, h2, hd, s1, s2, a, b⟩ := SL_perm p h
 have hid : H[id]? = some o := s1 id o a
 have hlt := (List.getElem?_eq_some_iff.1 hid).1
 refine SL_perm p'.symm ⟨fun i => if i = id then some o' else none, h2, fun i => ?_, fun i x hx => ?_, fun i x hx => ?_, by simp [pts], b⟩
 ·by_cases hi : i = id
  ·subst hi
   right
   rcases hd i with hn | hn
   ·rw [show h1 i = some o from a] at hn; cases hn
   ·exact hn
  ·left; simp [hi]
 ·by_cases hi : i = id
  ·subst hi; simp only [if_true, kI] at hx; subst hx; simp [hlt]
  ·simp [hi] at hx
 ·by_cases hi : i = id
  ·subst hi
   rcases hd i with hn | hn
   ·rw [show h1 i = some o from a] at hn; cases hn
   ·rw [hn] at hx; cases hx
  ·show (H.set id o')[i]? = some x
   rw [List.getElem?_set_ne (fun e => hi e.symm)]
   exact s2 i x hx
theorem On.new {cs : List HP} {H : Heap} (o : O) (h : On cs H) : On (cs ++ [pts H.length o]) (H ++ [o]) := by
 refine SL_app' ⟨fun i => H[i]?, fun i => if i = H.length then some o else none, fun i => ?_, fun i x hx => ?_, fun i x hx => ?_, h, ?_⟩
 ·by_cases hi : i = H.length
  ·left; subst hi; simp
  ·right; simp [hi]
 ·show (H ++ [o])[i]? = some x
  rw [List.getElem?_append_left (List.getElem?_eq_some_iff.1 hx).1]
  exact hx
 ·by_cases hi : i = H.length
  ·subst hi; simpa using hx
  ·simp [hi] at hx
 ·exact ⟨_, fun _ => none, fun _ => .inr rfl, fun _ _ x => x, fun _ _ x => by simp at x, by simp [pts], trivial⟩
theorem On.nil (H : Heap) : On [] H := trivial
theorem On.mono {cs : List HP} {H : Heap} {A A' : HP} (j : Nat) (hj : cs[j]? = some A) (f : ∀ h, A h → A' h) (h : On cs H) : On (cs.set j A') H := by
 obtain ⟨hl, he⟩ := List.getElem?_eq_some_iff.1 hj
 have p : cs.Perm (A :: cs.eraseIdx j) := by
  exact perm_erase hj
 have p' : (cs.set j A').Perm (A' :: cs.eraseIdx j) := by
  have := perm_erase (cs := cs.set j A') (j := j) (A := A') (by simp [hl])
  rwa [erase_set] at this
 exact SL_perm p'.symm (star_mono f (fun _ y => y) (SL_perm p h))
/-! ### Operations on things of the heap -/
section
variable {P : Program} {A : Ann} {H : Heap}
theorem ob_load_ptr {t ty : TypeId} {id off n : Nat} {cs cs' : List C} {v : Y} (hH : H[id]? = some (.obj cs)) (ht : szT P t = some n) (hn : (Nat.ble 1 n && Nat.ble (off + n) cs.length) = true) (hc : sub off n cs = cs')
  (hv : mkY (isAggT P t) cs' = some v) : Ob P A [.y (.one (.ptr id off))] H (.load t (.tmp 0)) ty (.y v) H := by
 simp only [kA, Nat.ble_eq] at hn
 refine ⟨0, ?_⟩
 show ((some (C.ptr id off)).bind fun c => (szT P t).bind fun n => if 0 < n then (ldCells H c n).bind fun cs => (mkY (isAggT P t) cs).map fun v => (X.y v, H) else none) = _
 simp only [kS, ht]
 rw [if_pos (show 0 < n by omega)]
 unfold ldCells
 simp only [hH]
 rw [if_pos hn.2]
 simp only [kS, hc, hv, kT]
theorem ob_store_ptr {t ty : TypeId} {id off : Nat} {cs cs' : List C} {v : Y} (hH : H[id]? = some (.obj cs)) (ht : szT P t = some v.cells.length) (hn : (v.cells.all C.live && Nat.ble (off + v.cells.length) cs.length) = true) (hc : splice off v.cells cs = cs') :
  Ob P A [.y (.one (.ptr id off)), .y v] H (.store t (.tmp 0) (.tmp 1)) ty .undef (H.set id (.obj cs')) := by
 simp only [kA, Nat.ble_eq] at hn
 refine ⟨0, ?_⟩
 show ((some (C.ptr id off)).bind fun c => (some v).bind fun v => if szT P t = some v.cells.length then (stCells H c v.cells).map fun H => (X.undef, H) else none) = _
 simp only [kS]
 rw [if_pos ht]
 unfold stCells
 rw [if_pos hn.1]
 simp only [hH]
 rw [if_pos hn.2, hc]
 rfl
theorem ob_alloc {t ty : TypeId} {n : Nat} {cs : List C} (hl : n = H.length) (hz : zeroC P t = some cs) :
  Ob P A [] H (.alloc t) ty (.y (.one (.ptr n 0))) (H ++ [.obj cs]) := by
 subst hl
 exact ⟨0, by show ((zeroC P t).map fun cs => (X.y (.one (.ptr H.length 0)), H ++ [.obj cs])) = _; rw [hz]; rfl⟩
theorem ob_box {t ty : TypeId} {n : Nat} {v : Y} {cs : List C} (hl : n = H.length) (hn : v.cells.all C.live = true) (ht : szT P t = some v.cells.length) (hc : v.cells = cs) :
  Ob P A [.y v] H (.box t (.tmp 0)) ty (.y (.one (.ptr n 0))) (H ++ [.obj cs]) := by
 subst hl; subst hc
 refine ⟨0, ?_⟩
 show ((some v).bind fun v => if v.cells.all C.live ∧ szT P t = some v.cells.length then some (X.y (.one (.ptr H.length 0)), H ++ [.obj v.cells]) else none) = _
 rw [kS, if_pos ⟨hn, ht⟩]
end
end Go.Lg
