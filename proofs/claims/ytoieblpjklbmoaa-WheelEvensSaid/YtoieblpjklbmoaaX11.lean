/-
 X, part 11: a region's operations, in the order of the text.
-/
import Derived.Test.YtoieblpjklbmoaaX10
import Derived.Test.YtoieblpjklbmoaaX25
namespace Go.Lg
section
variable {P : Program} {B : Nat → Prop} {β : Nat → Nat × Nat} {H : Heap} {w : World}
theorem put_size (a : Act) (d : Option Nat) (u : Value) : (a.put d u).tmps.size = a.tmps.size := by cases d <;> simp [Act.put]
theorem put_defers (a : Act) (d : Option Nat) (u : Value) : (a.put d u).defers = a.defers := by cases d <;> rfl
theorem envR_put {e : Env} {a : Act} (he : EnvR B β H w e a.tmps) {d : Option Nat} (hd : ∀ t, d = some t → t < a.tmps.size) {v : X} {u : Value} (hr : RepX B β H w v u) : EnvR B β H w (putD d v e) (a.put d u).tmps := by
 cases d with
 | none => exact he
 | some t =>
  intro s
  have ht := hd t rfl
  simp only [putD, get, Act.put]
  by_cases e : t = s
  ·subst e
   rw [if_pos rfl, Array.getD_eq_getD_getElem?, Array.getElem?_setIfInBounds]
   simp [ht, hr]
  ·rw [if_neg e, Array.getD_eq_getD_getElem?, Array.getElem?_setIfInBounds, if_neg e, ← Array.getD_eq_getD_getElem?]
   exact he s
theorem want_sound {ops : Array Oper} {e : Env} {o : Oper} {b : Bool} (h : wantX ops (get e) o = some b) {a : Act} (he : EnvR B β H w e a.tmps) : Region.wanted o (yielded ops a.tmps) = b := by
 unfold wantX at h
 unfold Region.wanted
 cases hg : o.guard with
 | none => rw [hg] at h; simpa using h
 | some p =>
  obtain ⟨j, want⟩ := p
  rw [hg] at h
  simp only at h ⊢
  cases hd : (ops[j]?).bind (·.dst) with
  | none =>
   rw [hd] at h
   simp only [Option.map_none, kI] at h
   simp [yielded, hd, ← h]
  | some t =>
   rw [hd] at h
   simp only [kT] at h
   have hr := he t
   split at h
   ·rename_i b' hb
    simp only [kI] at hb
    rw [hb] at hr
    obtain ⟨_, hr⟩ := hr
    have hget : a.tmps[t]? = some (.bool b') := by
     rw [Array.getD_eq_getD_getElem?] at hr
     cases hx : a.tmps[t]? with
     | none => rw [hx] at hr; simp [undef] at hr
     | some x => rw [hx] at hr; simpa using hr
    simp only [kI] at h
    simp [yielded, hd, hget, ← h]
   ·rename_i vs hb
    simp only [kI] at hb h
    rw [hb] at hr
    obtain ⟨xs, hr, _⟩ := hr
    have : yielded ops a.tmps j = none := by
     simp only [yielded, hd, kS]
     rw [Array.getD_eq_getD_getElem?] at hr
     cases hx : a.tmps[t]? with
     | none => rfl
     | some x => rw [hx] at hr; simp only [Option.getD_some] at hr; rw [hr]
    rw [this, ← h]; rfl
   ·rename_i hb; cases hb
   ·cases h
def dstOK (n : Nat) (ops : Array Oper) : Bool := ops.all fun o => match o.dst with | some d => decide (d < n) | none => true
theorem dstOK_spec {n : Nat} {ops : Array Oper} (h : dstOK n ops = true) {i : Nat} {o : Oper} (ho : ops[i]? = some o) : ∀ t, o.dst = some t → t < n := by
 intro t ht
 unfold dstOK at h
 rw [Array.all_eq_true'] at h
 have := h o (Array.mem_of_getElem? ho)
 rw [ht] at this
 simpa using this
theorem late_sound {id : Nat} {o : Oper} {v : X} {H' : Heap} (h : fillH P id H o = some (v, H')) {a : Act} (hst : StR B β H w)
  {next : Act → World → Prop} {Q : Exit → Act → World → Prop} (hn : ∀ β' w' u, StR B β' H' w' → Stp β H w β' H' w' → RepX B β' H' w' v u → next (a.put o.dst u) w') : o.wp P a w next Q := by
 unfold fillH at h
 split at h
 ·rename_i t hop
  split at h
  ·rename_i hh
   simp only [kM, kP] at h
   obtain ⟨cs, hz, rfl, rfl⟩ := h
   obtain ⟨i, z, hi, hz, _, hr⟩ := zero_rep (B := B) (β := β) (H := H) (w := w) hz
   have hN : New w (.cells z.cells t (0, 0)) (w.alloc (.cells z.cells t)) := ⟨rfl, rfl, rfl, rfl⟩
   have stp := hN.fill_stp hst hh (.obj cs) 0
   refine wp_value (u := .pointer (some ⟨w.heap.size, 0, none⟩)) ?_ (hn _ _ _ (hN.fill_str hst hh _ 0 ⟨by rw [upd_same], z.cells, t, by rw [upd_same]; exact hN.new, hr.mono fun _ _ => Rep.mono stp⟩) stp ⟨cs, by simp [lt_of_get hh], by rw [upd_same]⟩)
   simp [execOp, hop, Instr.alloc, zeroValue, typeInfo, hi, hz, newVar, Go.newRow]
  ·cases h
 ·cases h
theorem ops_sound {A : Ann} {K : Callee} (hP : POk P) (hK : CallOK P K) (hKH : KHid K) {m : Nat → Option (Bool × List Nat)} {lt : List Nat} {bs : Nat} {ops : Array Oper} {n : Nat} (hm : maskOK A m lt ops = true) (hd : dstOK n ops = true) {Q : Exit → Act → World → Prop} {eF : Env} {HF : Heap} : ∀ (l : List Nat) {e : Env} {H : Heap}, opsX P A K (mkM m lt bs) ops l e H = some (eF, HF) →
  ∀ {β : Nat → Nat × Nat} {w : World} {a : Act}, StR B β H w → EnvR B β H w e a.tmps → a.tmps.size = n →
   (∀ β' w' a', StR B β' HF w' → Stp β H w β' HF w' → EnvR B β' HF w' eF a'.tmps → a'.tmps.size = n → a'.defers = a.defers → Q .normal a' w') → wpOps P ops Q l a w := by
 intro l
 induction l with
 | nil =>
  intro e H h β w a hst he hn hq
  simp only [opsX, kI, kP] at h
  obtain ⟨rfl, rfl⟩ := h
  exact hq β w a hst (Stp.refl _ _ _) he hn rfl
 | cons i l ih =>
  intro e H h β w a hst he hn hq
  simp only [opsX] at h
  rw [wpOps_cons]
  unfold wpOp
  cases ho : ops[i]? with
  | none => rw [ho] at h; exact ih h hst he hn hq
  | some o =>
   rw [ho] at h
   simp only [kB] at h
   obtain ⟨b, hb, h⟩ := h
   have hw := want_sound hb he
   simp only
   rw [hw]
   have hdst : ∀ t, o.dst = some t → t < a.tmps.size := by rw [hn]; exact dstOK_spec hd ho
   cases b with
   | true =>
    simp only [if_true, kB] at h ⊢
    obtain ⟨⟨v, H1⟩, hop, h⟩ := h
    have step : ∀ {next : Act → World → Prop} {Q : Exit → Act → World → Prop}, (∀ β' w' u, StR B β' H1 w' → Stp β H w β' H1 w' → RepX B β' H1 w' v u → next (a.put o.dst u) w') → o.wp P a w next Q := by
     intro next Q hn'
     cases hmk : mkM m lt bs i with
     | late id => rw [hmk] at hop; exact late_sound hop hst hn'
     | _ => exact op_sound hP hK (opD_opX hKH (fun id e => by rw [hmk] at e; cases e) (maskOK_ins hm ho) hop) hst he hn'
    refine .inl (step fun β1 w1 u hst1 stp1 hr => ?_)
    refine ih h hst1 (envR_put (he.mono stp1) hdst hr) (by rw [put_size, hn]) fun β' w' a' h1 h2 h3 h4 h5 => hq β' w' a' h1 (stp1.trans h2) h3 h4 (by rw [h5, put_defers])
   | false =>
    simp only [Bool.false_eq_true, if_false] at h ⊢
    exact ih h hst (envR_put he hdst ⟨[], rfl, .nil⟩) (by rw [put_size, hn]) fun β' w' a' h1 h2 h3 h4 h5 => hq β' w' a' h1 h2 h3 h4 (by rw [h5, put_defers])
end
end Go.Lg
