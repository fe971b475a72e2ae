/-
  X, part 3: what happens to the heap: a thing that turns, a thing that is new.
-/
import Derived.Test.YtoieblpjklbmoaaX2
namespace Go.Lg
def upd (β : Nat → Nat × Nat) (id : Nat) (p : Nat × Nat) : Nat → Nat × Nat := fun i => if i = id then p else β i
theorem upd_same (β : Nat → Nat × Nat) (id : Nat) (p : Nat × Nat) : upd β id p id = p := by simp [upd]
theorem upd_other (β : Nat → Nat × Nat) {id i : Nat} (p : Nat × Nat) (h : i ≠ id) : upd β id p i = β i := by simp [upd, h]
theorem upd_self (β : Nat → Nat × Nat) (id : Nat) : upd β id (β id) = β := by funext i; unfold upd; split <;> simp_all
section
variable {B : Nat → Prop} {β β' : Nat → Nat × Nat} {H H' : Heap} {w w' : World}
theorem lt_of_get {α : Type} {l : List α} {i : Nat} {a : α} (h : l[i]? = some a) : i < l.length := (List.getElem?_eq_some_iff.1 h).1
theorem ObjOk.mono (h : Stp β H w β' H' w') {id : Nat} {o : O} (hβ : β' id = β id) (hb : o.there = true → w'.heap[(β id).1]? = w.heap[(β id).1]?) (ho : ObjOk B β H w id o) : ObjOk B β' H' w' id o := by
  by_cases ht : o.there = true
  case neg => obtain rfl := O.hole_of (by simpa using ht); exact trivial
  replace hb := hb ht
  cases o with
  | row pu mu d st sz cells =>
    obtain ⟨h1, h2, h3, h4, arr, e, h5, h6, h7⟩ := ho
    exact ⟨h1, h2, h3, h4, arr, e, by rw [hβ, hb]; exact h5, by rw [hβ]; exact h6, by rw [hβ]; exact h7.mono fun _ _ => Rep.mono h⟩
  | obj cells =>
    obtain ⟨h1, arr, e, h5, h7⟩ := ho
    exact ⟨by rw [hβ]; exact h1, arr, e, by rw [hβ, hb]; exact h5, h7.mono fun _ _ => Rep.mono h⟩
  | map v =>
    cases v with
    | hole => exact ho
    | fro cs => exact ho
    | map es clock =>
      simp only [ObjOk] at ho ⊢
      rw [hβ, hb]; exact ho
    | bag es =>
      simp only [ObjOk] at ho ⊢
      rw [hβ, hb]; exact ho
    | iter m since seen last =>
      obtain ⟨h1, h2⟩ := ho
      have hm : ∀ j, m = some j → β' j = β j ∧ ∃ v, H'[j]? = some (.map v) ∧ v.isMap = true := by
        intro j hj
        obtain ⟨v, hv, hv2⟩ := h2 j hj
        obtain ⟨o', g1, g2⟩ := h.ids j _ hv
        obtain ⟨v', rfl, k1, _, k3, _⟩ := (Kept.map_iff (by rintro rfl; cases hv2)).1 g2
        exact ⟨k1, v', g1, by rw [k3]; exact hv2⟩
      refine ⟨?_, fun j hj => (hm j hj).2⟩
      rw [hβ, hb, h1]
      cases m with
      | none => rfl
      | some j => simp only [kT, (hm j rfl).1]
theorem O.there_mut {o : O} (h : o.mut = true) : o.there = true := by
  cases o with
  | map v => cases v <;> first | rfl | (cases h; done)
  | _ => rfl
/-- A world that is the same but for its draws. -/
theorem Stp.same (os : w'.os = w.os) (tape : w'.tape = w.tape) (output : w'.output = w.output) (heap : w'.heap = w.heap) : Stp β H w β H w' := by
  refine ⟨os, tape, output, by rw [heap]; exact Nat.le_refl _, fun b hb => ⟨by rw [heap], by rw [heap]; exact hb.1, hb.2⟩, fun id o ho => ⟨o, ho, ?_⟩⟩
  cases o with
  | row => exact ⟨rfl, rfl, Nat.le_refl _, fun _ => ⟨rfl, rfl, fun arr e fr h => ⟨arr, e, fr, by rw [heap]; exact h, rfl⟩⟩⟩
  | obj => exact ⟨rfl, rfl⟩
  | map v => exact Kept.mapSame _ _ _ _
theorem StR.same (hst : StR B β H w) (os : w'.os = w.os) (tape : w'.tape = w.tape) (output : w'.output = w.output) (heap : w'.heap = w.heap) : StR B β H w' :=
  ⟨fun id o h => by rw [heap]; exact hst.inb id o h, hst.inj, hst.bor, fun b h => by rw [heap]; exact hst.blt b h,
   fun id o h => (hst.live id o h).mono (Stp.same os tape output heap) rfl fun _ => by rw [heap]⟩
/-- A thing's block stands as it stood. -/
theorem Kept.same {p : Nat × Nat} {o : O} (hb : o.there = true → w'.heap[p.1]? = w.heap[p.1]?) : Kept w w' p p o o := by
  by_cases ht : o.there = true
  case neg => obtain rfl := O.hole_of (by simpa using ht); exact Kept.hole _ _ _ _ _
  cases o with
  | row => exact ⟨rfl, rfl, Nat.le_refl _, fun _ => ⟨rfl, rfl, fun arr e fr h => ⟨arr, e, fr, by rw [hb ht]; exact h, rfl⟩⟩⟩
  | obj => exact ⟨rfl, rfl⟩
  | map v => exact Kept.mapSame _ _ _ _
/-- One thing of the heap turns. -/
structure Turn (β : Nat → Nat × Nat) (w : World) (id : Nat) (o : O) (p' : Nat × Nat) (o' : O) (w' : World) : Prop where
  os : w'.os = w.os
  tape : w'.tape = w.tape
  output : w'.output = w.output
  size : w.heap.size ≤ w'.heap.size
  blk : ∀ b, b < w.heap.size → (b ≠ (β id).1 ∨ o.mut = false) → w'.heap[b]? = w.heap[b]?
  at_ : p'.1 = (β id).1 ∨ w.heap.size ≤ p'.1
  mutb : o'.mut = true → o.mut = true
  kept : Kept w w' (β id) p' o o'
  th : o.there = true
theorem Turn.stp (hst : StR B β H w) {id : Nat} {o o' : O} {p' : Nat × Nat} (ho : H[id]? = some o) (t : Turn β w id o p' o' w') :
    Stp β H w (upd β id p') (H.set id o') w' := by
  have hlt := lt_of_get ho
  refine ⟨t.os, t.tape, t.output, t.size, fun b hb => ⟨t.blk b hb.1 ?_, Nat.lt_of_lt_of_le hb.1 t.size, fun j oj hj hm => ?_⟩, fun j oj hj => ?_⟩
  · by_cases e : b = (β id).1
    · right
      cases hm : o.mut with
      | false => rfl
      | true => exact absurd e.symm (hb.2 id o ho hm)
    · exact .inl e
  · by_cases e : j = id
    · subst e
      rw [upd_same]
      have : o' = oj := by simpa [hlt] using hj
      subst this
      rcases t.at_ with h | h
      · rw [h]; exact hb.2 j o ho (t.mutb hm)
      · have := hb.1; omega
    · rw [upd_other _ _ e]
      rw [List.getElem?_set_ne (fun x => e x.symm)] at hj
      exact hb.2 j oj hj hm
  · by_cases e : j = id
    · subst e
      have : o = oj := by rw [ho] at hj; simpa using hj
      subst this
      exact ⟨o', by simp [hlt], by rw [upd_same]; exact t.kept⟩
    · refine ⟨oj, by rw [List.getElem?_set_ne (fun x => e x.symm)]; exact hj, ?_⟩
      rw [upd_other _ _ e]
      exact Kept.same fun ht => t.blk _ (hst.inb j oj hj ht) (.inl fun x => e (hst.inj j id oj o hj ht ho t.th x))
theorem Turn.str (hst : StR B β H w) {id : Nat} {o o' : O} {p' : Nat × Nat} (ho : H[id]? = some o) (t : Turn β w id o p' o' w') (hlt' : p'.1 < w'.heap.size)
    (hobj : ObjOk B (upd β id p') (H.set id o') w' id o') : StR B (upd β id p') (H.set id o') w' := by
  have hlt := lt_of_get ho
  have hs := t.stp hst ho
  have hget : ∀ j oj, (H.set id o')[j]? = some oj → (j = id ∧ oj = o') ∨ (j ≠ id ∧ H[j]? = some oj) := by
    intro j oj hj
    by_cases e : j = id
    · subst e; left; exact ⟨rfl, by simpa [hlt] using hj.symm⟩
    · right; rw [List.getElem?_set_ne (fun x => e x.symm)] at hj; exact ⟨e, hj⟩
  have hfresh : ∀ j oj, j ≠ id → H[j]? = some oj → oj.there = true → (β j).1 ≠ p'.1 := by
    intro j oj e hj ht
    rcases t.at_ with h | h
    · rw [h]; exact fun x => e (hst.inj j id oj o hj ht ho t.th x)
    · have := hst.inb j oj hj ht; omega
  refine ⟨fun j oj hj ht => ?_, fun i j oi oj hi hti hj htj hij => ?_, fun j oj hj ht => ?_, fun b hb => Nat.lt_of_lt_of_le (hst.blt b hb) t.size, fun j oj hj => ?_⟩
  · rcases hget j oj hj with ⟨rfl, rfl⟩ | ⟨e, hj⟩
    · rw [upd_same]; exact hlt'
    · rw [upd_other _ _ e]; exact Nat.lt_of_lt_of_le (hst.inb j oj hj ht) t.size
  · rcases hget i oi hi with ⟨rfl, rfl⟩ | ⟨ei, hi'⟩ <;> rcases hget j oj hj with ⟨rfl, rfl⟩ | ⟨ej, hj'⟩
    · rfl
    · rw [upd_same, upd_other _ _ ej] at hij; exact absurd hij.symm (hfresh j oj ej hj' htj)
    · rw [upd_same, upd_other _ _ ei] at hij; exact absurd hij (hfresh i oi ei hi' hti)
    · rw [upd_other _ _ ei, upd_other _ _ ej] at hij; exact hst.inj i j oi oj hi' hti hj' htj hij
  · rcases hget j oj hj with ⟨rfl, rfl⟩ | ⟨e, hj⟩
    · rw [upd_same]
      rcases t.at_ with h | h
      · rw [h]; exact hst.bor j o ho t.th
      · intro hb; have := hst.blt _ hb; omega
    · rw [upd_other _ _ e]; exact hst.bor j oj hj ht
  · rcases hget j oj hj with ⟨rfl, rfl⟩ | ⟨e, hj⟩
    · exact hobj
    · exact (hst.live j oj hj).mono hs (upd_other _ _ e) fun ht => t.blk _ (hst.inb j oj hj ht) (.inl fun x => e (hst.inj j id oj o hj ht ho t.th x))
/-- A block that is new, and what the heap calls it. -/
structure New (w : World) (b : Obj) (w' : World) : Prop where
  os : w'.os = w.os
  tape : w'.tape = w.tape
  output : w'.output = w.output
  heap : w'.heap = w.heap.push b
theorem New.size {b : Obj} (n : New w b w') : w'.heap.size = w.heap.size + 1 := by rw [n.heap]; simp
theorem New.old {b : Obj} (n : New w b w') {k : Nat} (h : k < w.heap.size) : w'.heap[k]? = w.heap[k]? := by
  rw [n.heap, Array.getElem?_push, if_neg (by omega)]
theorem New.new {b : Obj} (n : New w b w') : w'.heap[w.heap.size]? = some b := by rw [n.heap]; simp
/-- New memory that nobody will write. -/
theorem New.stp0 {b : Obj} (n : New w b w') (hst : StR B β H w) : Stp β H w β H w' := by
  exact ⟨n.os, n.tape, n.output, by rw [n.size]; omega, fun k hk => ⟨n.old hk.1, by have := hk.1; rw [n.size]; omega, hk.2⟩, fun j oj hj => ⟨oj, hj, Kept.same fun ht => n.old (hst.inb j oj hj ht)⟩⟩
theorem New.str0 {b : Obj} (n : New w b w') (hst : StR B β H w) : StR B β H w' :=
  ⟨fun j oj hj ht => by have := hst.inb j oj hj ht; rw [n.size]; omega, hst.inj, hst.bor, fun b hb => by have := hst.blt b hb; rw [n.size]; omega,
   fun j oj hj => (hst.live j oj hj).mono (n.stp0 hst) rfl fun ht => n.old (hst.inb j oj hj ht)⟩
theorem New.free {b : Obj} (n : New w b w') (hst : StR B β H w) : Free β H w' w.heap.size ∧ ¬ B w.heap.size :=
  ⟨⟨by rw [n.size]; omega, fun j oj hj hm e => by have := hst.inb j oj hj (O.there_mut hm); omega⟩, fun hb => by have := hst.blt _ hb; omega⟩
theorem New.stp {b : Obj} (n : New w b w') (hst : StR B β H w) (o : O) (q : Nat) : Stp β H w (upd β H.length (w.heap.size, q)) (H ++ [o]) w' := by
  have hget : ∀ j oj, H[j]? = some oj → (H ++ [o])[j]? = some oj ∧ j ≠ H.length := fun j oj hj => by
    have := lt_of_get hj
    exact ⟨by rw [List.getElem?_append_left this]; exact hj, by omega⟩
  refine ⟨n.os, n.tape, n.output, by rw [n.size]; omega, fun k hk => ⟨n.old hk.1, by have := hk.1; rw [n.size]; omega, fun j oj hj hm => ?_⟩, fun j oj hj => ⟨oj, (hget j oj hj).1, ?_⟩⟩
  · by_cases e : j = H.length
    · subst e; rw [upd_same]; have := hk.1; simp only; omega
    · rw [upd_other _ _ e]
      by_cases hl : j < H.length
      · rw [List.getElem?_append_left hl] at hj; exact hk.2 j oj hj hm
      · rw [List.getElem?_eq_none (by simp; omega)] at hj; cases hj
  · rw [upd_other _ _ (hget j oj hj).2]
    exact Kept.same fun ht => n.old (hst.inb j oj hj ht)
theorem New.str {b : Obj} (n : New w b w') (hst : StR B β H w) (o : O) (q : Nat) (hobj : ObjOk B (upd β H.length (w.heap.size, q)) (H ++ [o]) w' H.length o) :
    StR B (upd β H.length (w.heap.size, q)) (H ++ [o]) w' := by
  have hget : ∀ j oj, (H ++ [o])[j]? = some oj → (j = H.length ∧ oj = o) ∨ (j ≠ H.length ∧ H[j]? = some oj) := by
    intro j oj hj
    by_cases hl : j < H.length
    · rw [List.getElem?_append_left hl] at hj; exact .inr ⟨by omega, hj⟩
    · have hlt := lt_of_get hj
      have : j = H.length := by simp at hlt; omega
      subst this
      exact .inl ⟨rfl, by simpa using hj.symm⟩
  refine ⟨fun j oj hj ht => ?_, fun i j oi oj hi hti hj htj hij => ?_, fun j oj hj ht => ?_, fun b hb => by have := hst.blt b hb; rw [n.size]; omega, fun j oj hj => ?_⟩
  · rcases hget j oj hj with ⟨rfl, rfl⟩ | ⟨e, hj⟩
    · rw [upd_same, n.size]; simp
    · rw [upd_other _ _ e, n.size]; have := hst.inb j oj hj ht; omega
  · rcases hget i oi hi with ⟨rfl, rfl⟩ | ⟨ei, hi'⟩ <;> rcases hget j oj hj with ⟨rfl, rfl⟩ | ⟨ej, hj'⟩
    · rfl
    · rw [upd_same, upd_other _ _ ej] at hij; have := hst.inb j oj hj' htj; simp only at hij; omega
    · rw [upd_same, upd_other _ _ ei] at hij; have := hst.inb i oi hi' hti; simp only at hij; omega
    · rw [upd_other _ _ ei, upd_other _ _ ej] at hij; exact hst.inj i j oi oj hi' hti hj' htj hij
  · rcases hget j oj hj with ⟨rfl, rfl⟩ | ⟨e, hj⟩
    · rw [upd_same]; exact (n.free hst).2
    · rw [upd_other _ _ e]; exact hst.bor j oj hj ht
  · rcases hget j oj hj with ⟨rfl, rfl⟩ | ⟨e, hj⟩
    · exact hobj
    · exact (hst.live j oj hj).mono (n.stp hst o q) (upd_other _ _ e) fun ht => n.old (hst.inb j oj hj ht)
/-- Places that are laid. -/
theorem holes_get {l : List Nat} {H : Heap} {i : Nat} {o : O} (h : (holesX l H)[i]? = some o) : H[i]? = some o ∨ (H.length ≤ i ∧ o = .map .hole) := by
  unfold holesX at h
  split at h
  · exact .inl h
  · rw [List.getElem?_append] at h
    split at h
    · exact .inl h
    · rename_i hlt
      right
      rw [List.getElem?_map] at h
      simp only [kM] at h
      obtain ⟨_, _, rfl⟩ := h
      exact ⟨by omega, rfl⟩
theorem holes_old {l : List Nat} {H : Heap} {i : Nat} {o : O} (h : H[i]? = some o) : (holesX l H)[i]? = some o := by
  unfold holesX
  split
  · exact h
  · rw [List.getElem?_append_left (lt_of_get h)]; exact h
theorem holes_at {l : List Nat} {H : Heap} {i : Nat} (h : l.contains i = true) : (holesX l H)[H.length + l.idxOf i]? = some (.map .hole) := by
  have hm : i ∈ l := by simpa using h
  have hlt := List.idxOf_lt_length_iff.2 hm
  unfold holesX
  split
  · cases hm
  · rw [List.getElem?_append_right (by omega), show H.length + List.idxOf i l - H.length = List.idxOf i l by omega, List.getElem?_map, List.getElem?_eq_getElem hlt]
    rfl
theorem holes_stp (l : List Nat) : Stp β H w β (holesX l H) w :=
  ⟨rfl, rfl, rfl, Nat.le_refl _, fun b hb => ⟨rfl, hb.1, fun id o ho hm => by
    rcases holes_get ho with ho | ⟨_, rfl⟩
    · exact hb.2 id o ho hm
    · cases hm⟩, fun id o ho => ⟨o, holes_old ho, Kept.same fun _ => rfl⟩⟩
theorem holes_str (hst : StR B β H w) (l : List Nat) : StR B β (holesX l H) w := by
  have old : ∀ {i : Nat} {o : O}, (holesX l H)[i]? = some o → o.there = true → H[i]? = some o := by
    intro i o h ht
    rcases holes_get h with h | ⟨_, rfl⟩
    · exact h
    · cases ht
  refine ⟨fun id o ho ht => hst.inb id o (old ho ht) ht, fun i j oi oj hi hti hj htj => hst.inj i j oi oj (old hi hti) hti (old hj htj) htj, fun id o ho ht => hst.bor id o (old ho ht) ht, hst.blt, fun id o ho => ?_⟩
  rcases holes_get ho with ho | ⟨_, rfl⟩
  · exact (hst.live id o ho).mono (holes_stp l) rfl fun _ => rfl
  · trivial
/-- One that was laid is filled. -/
theorem New.fill_stp {b : Obj} (n : New w b w') (hst : StR B β H w) {id : Nat} (hh : H[id]? = some (.map .hole)) (o : O) (q : Nat) : Stp β H w (upd β id (w.heap.size, q)) (H.set id o) w' := by
  have hlt := lt_of_get hh
  refine ⟨n.os, n.tape, n.output, by rw [n.size]; omega, fun k hk => ⟨n.old hk.1, by have := hk.1; rw [n.size]; omega, fun j oj hj hm => ?_⟩, fun j oj hj => ?_⟩
  · by_cases e : j = id
    · subst e; rw [upd_same]; have := hk.1; simp only; omega
    · rw [upd_other _ _ e]
      rw [List.getElem?_set_ne (fun x => e x.symm)] at hj
      exact hk.2 j oj hj hm
  · by_cases e : j = id
    · subst e
      rw [hh] at hj
      cases hj
      exact ⟨o, by simp [hlt], Kept.hole _ _ _ _ _⟩
    · exact ⟨oj, by rw [List.getElem?_set_ne (fun x => e x.symm)]; exact hj, by rw [upd_other _ _ e]; exact Kept.same fun ht => n.old (hst.inb j oj hj ht)⟩
theorem New.fill_str {b : Obj} (n : New w b w') (hst : StR B β H w) {id : Nat} (hh : H[id]? = some (.map .hole)) (o : O) (q : Nat) (hobj : ObjOk B (upd β id (w.heap.size, q)) (H.set id o) w' id o) :
    StR B (upd β id (w.heap.size, q)) (H.set id o) w' := by
  have hlt := lt_of_get hh
  have hget : ∀ j oj, (H.set id o)[j]? = some oj → (j = id ∧ oj = o) ∨ (j ≠ id ∧ H[j]? = some oj) := by
    intro j oj hj
    by_cases e : j = id
    · subst e; left; exact ⟨rfl, by simpa [hlt] using hj.symm⟩
    · right; rw [List.getElem?_set_ne (fun x => e x.symm)] at hj; exact ⟨e, hj⟩
  refine ⟨fun j oj hj ht => ?_, fun i j oi oj hi hti hj htj hij => ?_, fun j oj hj ht => ?_, fun b hb => by have := hst.blt b hb; rw [n.size]; omega, fun j oj hj => ?_⟩
  · rcases hget j oj hj with ⟨rfl, rfl⟩ | ⟨e, hj⟩
    · rw [upd_same, n.size]; simp
    · rw [upd_other _ _ e, n.size]; have := hst.inb j oj hj ht; omega
  · rcases hget i oi hi with ⟨rfl, rfl⟩ | ⟨ei, hi'⟩ <;> rcases hget j oj hj with ⟨rfl, rfl⟩ | ⟨ej, hj'⟩
    · rfl
    · rw [upd_same, upd_other _ _ ej] at hij; have := hst.inb j oj hj' htj; simp only at hij; omega
    · rw [upd_same, upd_other _ _ ei] at hij; have := hst.inb i oi hi' hti; simp only at hij; omega
    · rw [upd_other _ _ ei, upd_other _ _ ej] at hij; exact hst.inj i j oi oj hi' hti hj' htj hij
  · rcases hget j oj hj with ⟨rfl, rfl⟩ | ⟨e, hj⟩
    · rw [upd_same]; intro hb; have := hst.blt _ hb; simp only at this; omega
    · rw [upd_other _ _ e]; exact hst.bor j oj hj ht
  · rcases hget j oj hj with ⟨rfl, rfl⟩ | ⟨e, hj⟩
    · exact hobj
    · exact (hst.live j oj hj).mono (n.fill_stp hst hh o q) (upd_other _ _ e) fun ht => n.old (hst.inb j oj hj ht)
end
end Go.Lg
