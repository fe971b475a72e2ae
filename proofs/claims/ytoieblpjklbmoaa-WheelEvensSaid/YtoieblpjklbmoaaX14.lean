/-
 X, part 14: code.
-/
import Derived.Test.YtoieblpjklbmoaaX13
import Derived.LoopN
import Derived.Scope
namespace Go.Lg
def Ex.to : Ex → Exit
 | .normal => .normal
 | .exit id => .exit id
 | .goto l => .goto l
 | .ret => .ret
def codeOK (A : Ann) (f : FuncId) (n : Nat) : Code → Bool
 | .region id ops draw => regionOK A (A.mask f id) (A.late f id) n ops draw
 | .seq a b | .cond _ a b => codeOK A f n a && codeOK A f n b
 | .block _ c | .loop c | .scope c => codeOK A f n c
 | _ => true
theorem findLabel_ok {A : Ann} {f : FuncId} {n : Nat} : ∀ {c rest : Code} {l : Nat}, codeOK A f n c = true → findLabel c l = some rest → codeOK A f n rest = true := by
 intro c
 induction c with
 | seq a b iha ihb =>
  intro rest l h hf
  simp only [codeOK, kA] at h
  simp only [findLabel] at hf
  split at hf
  ·rename_i r hr
   cases hf
   simp only [codeOK, kA]
   exact ⟨iha h.1 hr, h.2⟩
  ·exact ihb h.2 hf
 | label l' =>
  intro rest l h hf
  simp only [findLabel] at hf
  split at hf
  ·cases hf; rfl
  ·cases hf
 | _ => intro rest l h hf; simp only [findLabel] at hf; cases hf
def jumps (P : Program) (c : Code) (Q : Exit → Act → World → Prop) : Nat → Code → Act → World → Prop
 | 0, _, _, _ => False
 | n + 1, r, a, w => r.wp P (fun e a w => match e with
  | .goto l => (match findLabel c l with
   | some rest => jumps P c Q n rest a w
   | none => Q (.goto l) a w)
  | e => Q e a w) a w
theorem wp_scope_jump {P : Program} {Q : Exit → Act → World → Prop} {a : Act} {w : World} {c : Code} (n : Nat) (h : jumps P c Q n c a w) : (Code.scope c).wp P Q a w := by
 intro b k cs
 have key : ∀ n r a w, jumps P c Q n r a w → ∃ e a' w', Q e a' w' ∧ Arrives P (lone (b.at a (.code r :: .inScope c :: k)) cs w) b k cs e a' w' := by
  intro n
  induction n with
  | zero => intro r a w h; exact h.elim
  | succ n ih =>
   intro r a w h
   obtain ⟨e, a₁, w₁, hq, harr⟩ := h b (.inScope c :: k) cs
   cases e with
   | normal => exact ⟨.normal, a₁, w₁, hq, Steps.trans harr (.one step_inScope)⟩
   | exit id => exact ⟨.exit id, a₁, w₁, hq, fun k' hk => harr k' (by simp [exitTo, hk])⟩
   | goto l =>
    simp only at hq
    split at hq
    ·rename_i rest hf
     obtain ⟨e₂, a₂, w₂, hq₂, harr₂⟩ := ih rest a₁ w₁ hq
     exact ⟨e₂, a₂, w₂, hq₂, .of_steps (harr _ (by simp [gotoIn, hf])) harr₂⟩
    ·rename_i hf
     exact ⟨.goto l, a₁, w₁, hq, fun k' hk => harr k' (by simp [gotoIn, hf, hk])⟩
   | ret => exact ⟨_, a₁, w₁, hq, harr⟩
   | panic ch => exact ⟨_, a₁, w₁, hq, harr⟩
   | outgrown => exact ⟨_, a₁, w₁, hq, harr⟩
 obtain ⟨e, a', w', hq, harr⟩ := key n c a w h
 exact ⟨e, a', w', hq, .of_steps (.one step_scope) harr⟩
section
variable {B : Nat → Prop} {β : Nat → Nat × Nat} {H : Heap} {w : World}
theorem get_restrict (l : List Nat) (e : Env) (t : Nat) : get (restrict l e) t = if t ∈ l then get e t else .dead := by
 induction l with
 | nil => rfl
 | cons s l ih =>
  simp only [restrict, List.map_cons, get]
  by_cases h : s = t
  ·subst h; simp
  ·rw [if_neg h]
   show get (restrict l e) t = _
   rw [ih]
   simp [Ne.symm h]
theorem EnvR.restrict {e : Env} {tmps : Array Value} (h : EnvR B β H w e tmps) (l : List Nat) : EnvR B β H w (restrict l e) tmps := by
 intro t
 rw [get_restrict]
 split
 ·exact h t
 ·exact trivial
/-! ### A round's own objects go -/
theorem free_take {n : Nat} {b : Nat} (h : Free β H w b) : Free β (H.take n) w b :=
 ⟨h.1, fun id o ho hm => by
  rw [List.getElem?_take] at ho
  split at ho
  ·exact h.2 id o ho hm
  ·cases ho⟩
theorem get_take {n id : Nat} (h : id < n) : (H.take n)[id]? = H[id]? := by rw [List.getElem?_take, if_pos h]
theorem repA_take {n : Nat} {c : C} {u : Value} (h : RepA B β H w c u) (hc : c.inH n = true) : RepA B β (H.take n) w c u := by
 have hS : ∀ b, (Free β H w b ∧ ¬ B b) → (Free β (H.take n) w b ∧ ¬ B b) ∧ w.heap[b]? = w.heap[b]? := fun b hb => ⟨⟨free_take hb.1, hb.2⟩, rfl⟩
 cases c with
 | sc v => exact h
 | sl b nil capd cells m =>
  obtain ⟨a, cap, xs, hu, ho, hl⟩ := h
  exact ⟨a, cap, xs, hu, ho.mono fun b hb => ⟨⟨free_take hb.1, hb.2⟩, rfl⟩, RepIL.mono hS _ _ hl⟩
 | row id st off len capd =>
  obtain ⟨pu, mu, d, st', sz, cells, ho, r⟩ := h
  simp only [C.inH, decide_eq_true_eq] at hc
  exact ⟨pu, mu, d, st', sz, cells, by rw [get_take hc]; exact ho, r⟩
 | ptr id off =>
  obtain ⟨cells, ho, r⟩ := h
  simp only [C.inH, decide_eq_true_eq] at hc
  exact ⟨cells, by rw [get_take hc]; exact ho, r⟩
 | rd cells =>
  obtain ⟨ad, xs, hu, hl, r⟩ := h
  exact ⟨ad, xs, hu, RepIL.mono hS _ _ hl, fun hx => ⟨(r hx).1, free_take (r hx).2.1, (r hx).2.2⟩⟩
 | ra id st pos =>
  obtain ⟨pu, mu, d, st', sz, cells, ho, r⟩ := h
  simp only [C.inH, decide_eq_true_eq] at hc
  exact ⟨pu, mu, d, st', sz, cells, by rw [get_take hc]; exact ho, r⟩
 | mp id =>
  obtain ⟨es, ho, r⟩ := h
  simp only [C.inH, decide_eq_true_eq] at hc
  exact ⟨es, by rw [get_take hc]; exact ho, r⟩
 | it id =>
  obtain ⟨es, ho, r⟩ := h
  simp only [C.inH, decide_eq_true_eq] at hc
  exact ⟨es, by rw [get_take hc]; exact ho, r⟩
 | fn _ _ _ => exact h
 | dead => exact h
theorem rep_take {n : Nat} {c : C} {u : Value} (h : Rep B β H w c u) (hc : c.inH n = true) : Rep B β (H.take n) w c u := by
 cases c with
 | fn f first cap =>
  obtain ⟨us, vs, hu, h1, h2⟩ := h
  simp only [C.inH, List.all_eq_true] at hc
  have key : ∀ c ∈ first ++ cap, ∀ u, RepA B β H w c u → RepA B β (H.take n) w c u := by
   intro c hm u hr
   refine repA_take hr ?_
   have := hc c hm
   cases c <;> first | exact this | exact hr.elim
  exact ⟨us, vs, hu, h1.mono_mem fun c u hm hr => key c (by simp [hm]) u hr, h2.mono_mem fun c u hm hr => key c (by simp [hm]) u hr⟩
 | dead => trivial
 | sc v => exact repA_take (B := B) (β := β) (H := H) (w := w) (c := .sc v) h hc
 | sl b nil capd cells m => exact repA_take (B := B) (β := β) (H := H) (w := w) (c := .sl b nil capd cells m) h hc
 | row id st off len capd => exact repA_take (B := B) (β := β) (H := H) (w := w) (c := .row id st off len capd) h hc
 | ptr id off => exact repA_take (B := B) (β := β) (H := H) (w := w) (c := .ptr id off) h hc
 | rd cells => exact repA_take (B := B) (β := β) (H := H) (w := w) (c := .rd cells) h hc
 | ra id st pos => exact repA_take (B := B) (β := β) (H := H) (w := w) (c := .ra id st pos) h hc
 | mp id => exact repA_take (B := B) (β := β) (H := H) (w := w) (c := .mp id) h hc
 | it id => exact repA_take (B := B) (β := β) (H := H) (w := w) (c := .it id) h hc
theorem repL_take {n : Nat} {cs : List C} {us : List Value} (h : All2 (Rep B β H w) cs us) (hc : cs.all (C.inH n) = true) : All2 (Rep B β (H.take n) w) cs us :=
 h.mono_mem fun c _ hm hr => rep_take hr (List.all_eq_true.1 hc c hm)
theorem repX_take {n : Nat} {x : X} {u : Value} (h : RepX B β H w x u) (hc : x.inH n = true) : RepX B β (H.take n) w x u := by
 have key : ∀ {y : Y} {u : Value}, RepY B β H w y u → y.cells.all (C.inH n) = true → RepY B β (H.take n) w y u := by
  intro y u h hc
  cases y with
  | one c => exact rep_take h (by simpa [Y.cells] using hc)
  | agg cs => obtain ⟨xs, hu, hx⟩ := h; exact ⟨xs, hu, repL_take hx hc⟩
 cases x with
 | y v => exact key h hc
 | tup vs =>
  obtain ⟨xs, hu, hx⟩ := h
  exact ⟨xs, hu, hx.mono_mem fun y _ hm hr => key hr (List.all_eq_true.1 hc y hm)⟩
theorem trunc_sound (hst : StR B β H w) {n : Nat} {e : Env} {tmps : Array Value} (he : EnvR B β H w e tmps) {H' : Heap} (h : truncX n e H = some H') :
  H' = H.take n ∧ StR B β (H.take n) w ∧ EnvR B β (H.take n) w e tmps := by
 unfold truncX at h
 simp only [kR, kI] at h
 obtain ⟨⟨h1, h2⟩, rfl⟩ := h
 have hget : ∀ id o, (H.take n)[id]? = some o → H[id]? = some o := fun id o ho => by
  rw [List.getElem?_take] at ho
  split at ho
  ·exact ho
  ·cases ho
 refine ⟨rfl, ⟨fun id o ho ht => hst.inb id o (hget id o ho) ht, fun i j oi oj hi hti hj htj => hst.inj i j oi oj (hget _ _ hi) hti (hget _ _ hj) htj, fun id o ho ht => hst.bor id o (hget id o ho) ht, hst.blt, fun id o ho => ?_⟩, fun t => ?_⟩
 ·have hl := hst.live id o (hget id o ho)
  have hin : o.inH n = true := List.all_eq_true.1 h2 o (List.mem_of_getElem? ho)
  cases o with
  | row pu mu d st sz cells =>
   obtain ⟨g1, g2, g3, g4, arr, e, g5, g6, g7⟩ := hl
   refine ⟨g1, g2, g3, g4, arr, e, g5, g6, repL_take g7 ?_⟩
   cases pu with
   | false => exact hin
   | true =>
    rw [List.all_eq_true]
    intro c hc
    have := List.all_eq_true.1 (g4 rfl) c hc
    cases c <;> first | rfl | (cases this; done)
  | obj cells =>
   obtain ⟨g1, arr, e, g5, g7⟩ := hl
   exact ⟨g1, arr, e, g5, repL_take g7 hin⟩
  | map v =>
   cases v with
   | iter m since seen last =>
    refine ⟨hl.1, fun j hj => ?_⟩
    subst hj
    obtain ⟨v, hv, hv2⟩ := hl.2 j rfl
    simp only [O.inH, decide_eq_true_eq] at hin
    exact ⟨v, by rw [get_take hin]; exact hv, hv2⟩
   | _ => exact hl
 ·have key : ∀ {l : Env}, (l.all fun x => x.2.inH n) = true → (get l t).inH n = true := by
   intro l
   induction l with
   | nil => intro _; rfl
   | cons p l ih =>
    intro hl
    simp only [List.all_cons, kA] at hl
    obtain ⟨s, v⟩ := p
    simp only [get]
    split
    ·exact hl.1
    ·exact ih hl.2
  exact repX_take (he t) (key h1)
theorem Stp.take {β0 : Nat → Nat × Nat} {H0 : Heap} {w0 : World} (h : Stp β0 H0 w0 β H w) {n : Nat} (hn : H0.length = n) : Stp β0 H0 w0 β (H.take n) w :=
 ⟨h.os, h.tape, h.output, h.size, fun b hb => ⟨(h.free b hb).1, free_take (h.free b hb).2⟩, fun id o ho => by
  obtain ⟨o', h', k⟩ := h.ids id o ho
  exact ⟨o', by rw [get_take (by rw [← hn]; exact lt_of_get ho)]; exact h', k⟩⟩
end
end Go.Lg
