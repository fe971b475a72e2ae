/-
 X, part 26: a run sees no more than it touches.
-/
import Derived.Test.YtoieblpjklbmoaaX14
namespace Go.Lg
section
variable {P : Program} {A : Ann} {K : Callee} {R : Nat → Option O} {n0 : Nat}
theorem ops_hid (hK : KHid K) {m : Nat → Option (Bool × List Nat)} {lt : List Nat} {bs : Nat} {ops : Array Oper} (hm : maskOK A m lt ops = true) (hbs : n0 ≤ bs) (hR : ∀ i o, R i = some o → i < n0) : ∀ {is : List Nat} {e : Env} {H1 H2 : Heap} {r : Env × Heap}, Hid R n0 H1 H2 → opsX P A K (mkM m lt bs) ops is e H1 = some r → Hids R n0 r (opsX P A K (mkM m lt bs) ops is e H2) := by
 intro is
 induction is with
 | nil =>
  intro e H1 H2 r hh h
  simp only [opsX, kI] at h
  subst h
  exact ⟨H2, rfl, hh⟩
 | cons i is ih =>
  intro e H1 H2 r hh h
  simp only [opsX] at h ⊢
  cases ho : ops[i]? with
  | none => rw [ho] at h; exact ih hh h
  | some o =>
   rw [ho] at h
   simp only [kB] at h
   obtain ⟨b, hb, h⟩ := h
   simp only [hb, kS]
   cases b with
   | true =>
    simp only [if_true, kB] at h ⊢
    obtain ⟨⟨v, H3⟩, h1, h⟩ := h
    obtain ⟨H3', e3, hh3⟩ := opD_hid hK hh (fun id e => by
     obtain ⟨_, rfl⟩ := mkM_late.1 e
     cases hr : R (bs + lt.idxOf i) with
     | none => rfl
     | some o' => have := hR _ _ hr; omega) (maskOK_ins hm ho) h1
    rw [e3]
    exact ih hh3 h
   | false =>
    simp only [Bool.false_eq_true, if_false] at h ⊢
    exact ih hh h
theorem trunc_hid {n : Nat} {e : Env} {H1 H2 H1' : Heap} (hh : Hid R n0 H1 H2) (hn : n0 ≤ n) (h : truncX n e H1 = some H1') : ∃ H2', truncX n e H2 = some H2' ∧ Hid R n0 H1' H2' := by
 unfold truncX at h ⊢
 split at h
 ·rename_i hc
  simp only [kI] at h
  subst h
  have h2 : (H2.take n).all (O.inH n) = true := by
   rw [List.all_eq_true]
   intro o ho
   obtain ⟨i, hi⟩ := List.getElem?_of_mem ho
   rw [List.getElem?_take] at hi
   split at hi
   ·rename_i hlt
    cases hR : R i with
    | none =>
     rw [← hh.same i hR] at hi
     exact List.all_eq_true.1 hc.2 o (List.mem_of_getElem? (by rw [List.getElem?_take, if_pos hlt]; exact hi))
    | some o' =>
     obtain ⟨_, g1, _, g3⟩ := hh.hid i o' hR
     rw [g3] at hi
     cases hi
     exact O.inH_mono hn g1
   ·cases hi
  refine ⟨H2.take n, by rw [if_pos ⟨hc.1, h2⟩], by simp [hh.len], by have := hh.le; simp; omega, fun i o hi => ?_, fun i hi => ?_⟩
  ·obtain ⟨g0, g1, ⟨o1, gc, g2⟩, g3⟩ := hh.hid i o hi
   exact ⟨g0, g1, ⟨o1, gc, by rw [List.getElem?_take, if_pos (by omega)]; exact g2⟩, by rw [List.getElem?_take, if_pos (by omega)]; exact g3⟩
  ·rw [List.getElem?_take, List.getElem?_take]
   split
   ·exact hh.same i hi
   ·rfl
 ·cases h
def Hid3 (R : Nat → Option O) (n0 : Nat) (r : Ex × Env × Heap) (x : Option (Ex × Env × Heap)) : Prop := ∃ H2', x = some (r.1, r.2.1, H2') ∧ Hid R n0 r.2.2 H2'
theorem code_hid (hK : KHid K) {f : FuncId} {nt : Nat} : ∀ (k : Nat),
  (∀ {c : Code} {e : Env} {H1 H2 : Heap} {r : Ex × Env × Heap}, codeOK A f nt c = true → Hid R n0 H1 H2 → codeX P A K f k c e H1 = some r → Hid3 R n0 r (codeX P A K f k c e H2)) ∧
  (∀ {c : Code} {an : Option (List Nat × Bool)} {n : Nat} {e : Env} {H1 H2 : Heap} {r : Ex × Env × Heap}, codeOK A f nt c = true → n0 ≤ n → Hid R n0 H1 H2 → loopX P A K f k c an n e H1 = some r → Hid3 R n0 r (loopX P A K f k c an n e H2)) ∧
  (∀ {c s : Code} {e : Env} {H1 H2 : Heap} {r : Ex × Env × Heap}, codeOK A f nt c = true → codeOK A f nt s = true → Hid R n0 H1 H2 → scopeX P A K f k c s e H1 = some r → Hid3 R n0 r (scopeX P A K f k c s e H2)) := by
 intro k
 induction k with
 | zero => exact ⟨(fun _ _ h => by simp only [codeX] at h; cases h), (fun _ _ _ h => by simp only [loopX] at h; cases h), (fun _ _ _ h => by simp only [scopeX] at h; cases h)⟩
 | succ k ih =>
  obtain ⟨i1, i2, i3⟩ := ih
  refine ⟨?_, ?_, ?_⟩
  ·intro c e H1 H2 r hok hh h
   cases c with
   | region id ops draw =>
    simp only [codeX, kM] at h ⊢
    obtain ⟨⟨e1, H3⟩, h1, rfl⟩ := h
    simp only [codeOK, regionOK, kA] at hok
    have hh2 : Hid R n0 (holesX (A.late f id) H1) (holesX (A.late f id) H2) := by
     unfold holesX
     split
     ·exact hh
     ·have key : ∀ (l : List Nat) {A1 A2 : Heap}, Hid R n0 A1 A2 → Hid R n0 (A1 ++ l.map fun _ => hole) (A2 ++ l.map fun _ => hole) := by
       intro l
       induction l with
       | nil => intro A1 A2 h; simpa using h
       | cons a l ih =>
        intro A1 A2 h
        have := ih (h.app hole)
        simpa using this
      exact key _ hh
    rw [hh.len] at h1
    obtain ⟨H3', e3, hh3⟩ := ops_hid hK hok.1.1 (by rw [← hh.len]; exact hh.le) (fun i o hi => (hh.hid i o hi).1) hh2 h1
    exact ⟨H3', by rw [e3]; rfl, hh3⟩
   | seq a b =>
    simp only [codeOK, kA] at hok
    simp only [codeX, kB] at h ⊢
    obtain ⟨⟨x, e1, H3⟩, h1, h⟩ := h
    obtain ⟨H3', e3, hh3⟩ := i1 hok.1 hh h1
    rw [e3]
    simp only [kS]
    cases x with
    | normal => exact i1 hok.2 hh3 h
    | _ =>
     simp only [kI] at h
     subst h
     exact ⟨H3', rfl, hh3⟩
   | cond c a b =>
    simp only [codeOK, kA] at hok
    simp only [codeX] at h ⊢
    split at h
    ·rename_i t ht
     cases t with
     | true => exact i1 hok.1 hh h
     | false => exact i1 hok.2 hh h
    ·cases h
   | block id c =>
    simp only [codeX, kM] at h ⊢
    obtain ⟨⟨x, e1, H3⟩, h1, rfl⟩ := h
    obtain ⟨H3', e3, hh3⟩ := i1 (c := c) hok hh h1
    exact ⟨H3', by rw [e3]; rfl, hh3⟩
   | loop c =>
    simp only [codeX] at h ⊢
    rw [← hh.len]
    exact i2 (c := c) hok hh.le hh h
   | scope c => simp only [codeX] at h ⊢; exact i3 (c := c) hok hok hh h
   | rangeFunc _ _ _ _ => simp only [codeX] at h; cases h
   | refuse _ => simp only [codeX] at h; cases h
   | _ =>
    simp only [codeX, kI] at h ⊢
    subst h
    exact ⟨H2, rfl, hh⟩
  ·intro c an n e H1 H2 r hok hn hh h
   simp only [loopX, kB] at h ⊢
   obtain ⟨⟨x, e1, H3⟩, h1, h⟩ := h
   obtain ⟨H3', e3, hh3⟩ := i1 hok hh h1
   rw [e3]
   simp only [kS]
   cases x with
   | normal =>
    simp only [kB] at h
    obtain ⟨H4, h4, h⟩ := h
    split at h4
    ·obtain ⟨H4', e4, hh4⟩ := trunc_hid hh3 hn h4
     simp only [e4, kS]
     exact i2 hok hn hh4 h
    ·simp only [kI] at h4
     subst h4
     simp only [kS]
     exact i2 hok hn hh3 h
   | _ =>
    simp only [kI] at h
    subst h
    exact ⟨H3', rfl, hh3⟩
  ·intro c s e H1 H2 r hok hos hh h
   simp only [scopeX, kB] at h ⊢
   obtain ⟨⟨x, e1, H3⟩, h1, h⟩ := h
   obtain ⟨H3', e3, hh3⟩ := i1 hos hh h1
   rw [e3]
   simp only [kS]
   cases x with
   | goto l =>
    simp only at h ⊢
    split at h
    ·rename_i rest hr
     exact i3 hok (findLabel_ok hok hr) hh3 h
    ·simp only [kI] at h
     subst h
     exact ⟨H3', rfl, hh3⟩
   | _ =>
    simp only [kI] at h
    subst h
    exact ⟨H3', rfl, hh3⟩
theorem res_hid {H1 H2 : Heap} (hh : Hid R n0 H1 H2) {e : Env} {v : ResultVar} {y : Y} (h : resX P e H1 v = some y) : resX P e H2 v = some y := by
 unfold resX at h ⊢
 split at h
 ·exact h
 ·simp only [kB] at h ⊢
  obtain ⟨c, hc, n, hn, h⟩ := h
  refine ⟨c, hc, n, hn, ?_⟩
  split at h
  ·rename_i h0
   rw [if_pos h0]
   simp only [kB] at h ⊢
   obtain ⟨cs, hcs, h⟩ := h
   exact ⟨cs, ld_rle hh.rle h0 hcs, h⟩
  ·cases h
theorem gc_hid {H1 H2 : Heap} (hh : Hid R n0 H1 H2) {g : Bool} {n : Nat} (hn : n0 ≤ n) {rs : List Y} : Hid R n0 (gcX g n rs H1) (gcX g n rs H2) := by
 have he : (H1.take n).all (O.inH n) = (H2.take n).all (O.inH n) := by
  rw [Bool.eq_iff_iff]
  constructor
  ·intro h
   obtain ⟨H2', h2, _⟩ := trunc_hid (e := []) hh hn (H1' := H1.take n) (by unfold truncX; rw [if_pos ⟨rfl, h⟩])
   unfold truncX at h2
   split at h2
   ·rename_i hc; exact hc.2
   ·cases h2
  ·intro h
   rw [List.all_eq_true] at h ⊢
   intro o ho
   obtain ⟨i, hi⟩ := List.getElem?_of_mem ho
   rw [List.getElem?_take] at hi
   split at hi
   ·rename_i hlt
    cases hR : R i with
    | none =>
     rw [hh.same i hR] at hi
     exact h o (List.mem_of_getElem? (by rw [List.getElem?_take, if_pos hlt]; exact hi))
    | some o' =>
     obtain ⟨_, g1, ⟨o1, gc, g2⟩, _⟩ := hh.hid i o' hR
     rw [g2] at hi
     cases hi
     rcases gc with rfl | rfl
     ·exact fro_inH (O.inH_mono hn g1)
     ·rfl
   ·cases hi
 unfold gcX
 rw [he]
 split
 ·rename_i hc
  simp only [kA] at hc
  obtain ⟨_, _, hc2⟩ := hc
  obtain ⟨H2', h2, hd⟩ := trunc_hid (e := []) hh hn (H1' := H1.take n) (by unfold truncX; rw [if_pos ⟨rfl, by rw [he]; exact hc2⟩])
  unfold truncX at h2
  split at h2
  ·simp only [kI] at h2; subst h2; exact hd
  ·cases h2
 ·exact hh
/-- What a function comes to that is told by a contract of its own: it sees no more than it touches. -/
def SpHid (sp : List Y → Heap → Option (List Y × Heap)) : Prop := ∀ as H1 r, sp as H1 = some r → ∀ R n0 H2, Hid R n0 H1 H2 → Hids R n0 r (sp as H2)
theorem run_hid (hA : ∀ (f : Nat) (fn : Func) (c : Code), A.may f = true → P.funcs[f]? = some fn → fn.body = some c → codeOK A f fn.ntmps c = true)
  (hS : ∀ f sp, A.spec f = some sp → SpHid sp) : ∀ k, KHid (runX P A k) := by
 intro k
 induction k with
 | zero => intro f as H1 r h; simp only [runX] at h; cases h
 | succ k ih =>
  intro f as H1 r h R n0 H2 hh
  unfold runX at h ⊢
  split at h
  ·rename_i hmay
   rw [if_pos hmay]
   simp only [kB] at h
   obtain ⟨fn, hfn, c, hc, h⟩ := h
   simp only [hfn, hc, kS]
   split at h
   ·rename_i hl
    rw [if_pos hl]
    simp only [kB] at h
    obtain ⟨⟨x, e, H3⟩, h1, h⟩ := h
    obtain ⟨H3', e3, hh3⟩ := (code_hid ih k).1 (hA f fn c hmay hfn hc) hh h1
    rw [e3]
    simp only [kS]
    have main : ∀ {rs : List Y}, (fn.results.toList.mapM (resX P e H3)) = some rs → (fn.results.toList.mapM (resX P e H3')) = some rs := fun h => mapM_le (fun _ _ => res_hid hh3) h
    cases x with
    | normal =>
     simp only [kM] at h
     obtain ⟨rs, hrs, rfl⟩ := h
     exact ⟨gcX (A.gc f) H2.length rs H3', by simp only [main hrs, kT], by rw [← hh.len]; exact gc_hid hh3 hh.le⟩
    | ret =>
     simp only [kM] at h
     obtain ⟨rs, hrs, rfl⟩ := h
     exact ⟨gcX (A.gc f) H2.length rs H3', by simp only [main hrs, kT], by rw [← hh.len]; exact gc_hid hh3 hh.le⟩
    | exit id => cases h
    | goto l => cases h
   ·cases h
  ·rename_i hmay
   rw [if_neg hmay]
   cases hsp : A.spec f with
   | none => rw [hsp] at h; cases h
   | some sp =>
    rw [hsp] at h
    simp only [kS] at h ⊢
    exact hS f sp hsp _ _ _ h _ _ _ hh
end
end Go.Lg
