/-
 X, part 15: SOUNDNESS. What X comes to is what the model's call comes to.
-/
import Derived.Test.YtoieblpjklbmoaaX26
namespace Go.Lg
section
variable {P : Program} {A : Ann} {K : Callee} {f : FuncId}
def Post (B : Nat → Prop) (Q : Exit → Act → World → Prop) (β0 : Nat → Nat × Nat) (H0 : Heap) (w0 : World) (n : Nat) (ds : List Deferred) (x : Ex) (eF : Env) (HF : Heap) : Prop :=
 ∀ β' w' a', StR B β' HF w' → Stp β0 H0 w0 β' HF w' → EnvR B β' HF w' eF a'.tmps → a'.tmps.size = n → a'.defers = ds → Q x.to a' w'
theorem code_sound (hP : POk P) (hK : CallOK P K) (hKH : KHid K) {n : Nat} {B : Nat → Prop} : ∀ (k : Nat),
  (∀ {c : Code} {e : Env} {H : Heap} {x : Ex} {eF : Env} {HF : Heap}, codeX P A K f k c e H = some (x, eF, HF) → codeOK A f n c = true →
   ∀ {Q : Exit → Act → World → Prop} {β : Nat → Nat × Nat} {w : World} {a : Act}, StR B β H w → EnvR B β H w e a.tmps → a.tmps.size = n → Post B Q β H w n a.defers x eF HF → c.wp P Q a w) ∧
  (∀ {c : Code} {an : Option (List Nat × Bool)} {m : Nat} {e : Env} {H : Heap} {x : Ex} {eF : Env} {HF : Heap}, loopX P A K f k c an m e H = some (x, eF, HF) → codeOK A f n c = true →
   ∀ {Q : Exit → Act → World → Prop} {β0 : Nat → Nat × Nat} {H0 : Heap} {w0 : World} {β : Nat → Nat × Nat} {w : World} {a : Act}, H0.length = m → Stp β0 H0 w0 β H w → StR B β H w → EnvR B β H w e a.tmps → a.tmps.size = n →
    Post B Q β0 H0 w0 n a.defers x eF HF → Code.rounds P c Q k a w) ∧
  (∀ {c r : Code} {e : Env} {H : Heap} {x : Ex} {eF : Env} {HF : Heap}, scopeX P A K f k c r e H = some (x, eF, HF) → codeOK A f n c = true → codeOK A f n r = true →
   ∀ {Q : Exit → Act → World → Prop} {β : Nat → Nat × Nat} {w : World} {a : Act}, StR B β H w → EnvR B β H w e a.tmps → a.tmps.size = n → Post B Q β H w n a.defers x eF HF → jumps P c Q k r a w) := by
 intro k
 induction k with
 | zero => exact ⟨(fun h => by simp only [codeX] at h; cases h), (fun h => by simp only [loopX] at h; cases h), (fun h => by simp only [scopeX] at h; cases h)⟩
 | succ k ih =>
  obtain ⟨ihc, ihl, ihs⟩ := ih
  refine ⟨?_, ?_, ?_⟩
  ·intro c e H x eF HF h hok Q β w a hst he hn hq
   cases c with
   | skip =>
    simp only [codeX, kI, kP] at h
    obtain ⟨rfl, rfl, rfl⟩ := h
    exact wp_skip (hq β w a hst (Stp.refl _ _ _) he hn rfl)
   | label l =>
    simp only [codeX, kI, kP] at h
    obtain ⟨rfl, rfl, rfl⟩ := h
    exact wp_label (hq β w a hst (Stp.refl _ _ _) he hn rfl)
   | exit id =>
    simp only [codeX, kI, kP] at h
    obtain ⟨rfl, rfl, rfl⟩ := h
    exact wp_exit (hq β w a hst (Stp.refl _ _ _) he hn rfl)
   | goto l =>
    simp only [codeX, kI, kP] at h
    obtain ⟨rfl, rfl, rfl⟩ := h
    exact wp_goto (hq β w a hst (Stp.refl _ _ _) he hn rfl)
   | ret =>
    simp only [codeX, kI, kP] at h
    obtain ⟨rfl, rfl, rfl⟩ := h
    exact wp_ret (hq β w a hst (Stp.refl _ _ _) he hn rfl)
   | region id ops draw =>
    simp only [codeX, kM, kP] at h
    obtain ⟨⟨e1, H1⟩, hops, rfl, rfl, rfl⟩ := h
    refine region_sound hP hK hKH hok hops hst he hn fun β' w' a' g1 g2 g3 g4 g5 => hq β' w' a' g1 g2 ?_ g4 g5
    split
    ·exact g3.restrict _
    ·exact g3
   | seq c1 c2 =>
    simp only [codeOK, kA] at hok
    simp only [codeX, kB] at h
    obtain ⟨⟨x1, e1, H1⟩, h1, h⟩ := h
    refine wp_seq (ihc h1 hok.1 hst he hn fun β1 w1 a1 g1 g2 g3 g4 g5 => ?_)
    cases x1 with
    | normal =>
     simp only [Ex.to, Exit.then]
     exact ihc h hok.2 g1 g3 g4 fun β' w' a' k1 k2 k3 k4 k5 => hq β' w' a' k1 (g2.trans k2) k3 k4 (k5.trans g5)
    | _ =>
     simp only [kI, kP] at h
     obtain ⟨rfl, rfl, rfl⟩ := h
     exact hq β1 w1 a1 g1 g2 g3 g4 g5
   | cond c c1 c2 =>
    simp only [codeOK, kA] at hok
    simp only [codeX] at h
    split at h
    ·rename_i t ht
     have hc := ev_sound he c
     rw [ht] at hc
     obtain ⟨_, hc⟩ := hc
     cases t with
     | true => exact wp_cond_true hc (ihc (by simpa using h) hok.1 hst he hn hq)
     | false => exact wp_cond_false hc (ihc (by simpa using h) hok.2 hst he hn hq)
    ·cases h
   | block id c =>
    simp only [codeX, kM, kP] at h
    obtain ⟨⟨x1, e1, H1⟩, h1, rfl, rfl, rfl⟩ := h
    refine wp_block (ihc h1 hok hst he hn fun β1 w1 a1 g1 g2 g3 g4 g5 => ?_)
    have := hq β1 w1 a1 g1 g2 g3 g4 g5
    cases x1 with
    | exit id' =>
     simp only [Ex.to, Exit.inBlock] at this ⊢
     split
     ·rename_i hid; simpa [hid, Ex.to] using this
     ·rename_i hid; simpa [hid, Ex.to] using this
    | _ => exact this
   | loop c =>
    simp only [codeX] at h
    refine wp_loop_rounds k ?_
    have he' : EnvR B β H w (headX ((firstRegion c).bind (A.loop f)) e) a.tmps := by
     unfold headX
     split
     ·exact he.restrict _
     ·exact he
    exact ihl h hok rfl (Stp.refl β H w) hst he' hn hq
   | scope c =>
    simp only [codeX] at h
    exact wp_scope_jump k (ihs h hok hok hst he hn hq)
   | rangeFunc _ _ _ _ => simp only [codeX] at h; cases h
   | refuse _ => simp only [codeX] at h; cases h
  ·intro c an m e H x eF HF h hok Q β0 H0 w0 β w a hm stp0 hst he hn hq
   simp only [loopX, kB] at h
   obtain ⟨⟨x1, e1, H1⟩, h1, h⟩ := h
   rw [rounds_succ]
   refine ihc h1 hok hst he hn fun β1 w1 a1 g1 g2 g3 g4 g5 => ?_
   cases x1 with
   | normal =>
    simp only [Ex.to, Exit.then, kB] at h ⊢
    obtain ⟨H2, h2, h⟩ := h
    have he1 : EnvR B β1 H1 w1 (headX an e1) a1.tmps := by
     unfold headX
     split
     ·exact g3.restrict _
     ·exact g3
    have hq' : Post B Q β0 H0 w0 n a1.defers x eF HF := fun β' w' a' k1 k2 k3 k4 k5 => hq β' w' a' k1 k2 k3 k4 (k5.trans g5)
    split at h2
    ·obtain ⟨rfl, t1, t2⟩ := trunc_sound g1 he1 h2
     exact ihl h hok hm ((stp0.trans g2).take hm) t1 t2 g4 hq'
    ·simp only [kI] at h2
     subst h2
     exact ihl h hok hm (stp0.trans g2) g1 he1 g4 hq'
   | _ =>
    simp only [kI, kP] at h
    obtain ⟨rfl, rfl, rfl⟩ := h
    exact hq β1 w1 a1 g1 (stp0.trans g2) g3 g4 g5
  ·intro c r e H x eF HF h hok hokr Q β w a hst he hn hq
   simp only [scopeX, kB] at h
   obtain ⟨⟨x1, e1, H1⟩, h1, h⟩ := h
   unfold jumps
   refine ihc h1 hokr hst he hn fun β1 w1 a1 g1 g2 g3 g4 g5 => ?_
   cases x1 with
   | goto l =>
    simp only [Ex.to] at h ⊢
    split at h
    ·rename_i rest hf
     simp only [hf]
     exact ihs h hok (findLabel_ok hok hf) g1 g3 g4 fun β' w' a' k1 k2 k3 k4 k5 => hq β' w' a' k1 (g2.trans k2) k3 k4 (k5.trans g5)
    ·rename_i hf
     simp only [hf]
     simp only [kI, kP] at h
     obtain ⟨rfl, rfl, rfl⟩ := h
     exact hq β1 w1 a1 g1 g2 g3 g4 g5
   | _ =>
    simp only [kI, kP] at h
    obtain ⟨rfl, rfl, rfl⟩ := h
    exact hq β1 w1 a1 g1 g2 g3 g4 g5
/-! ### Results -/
def resV (tmps : Array Value) : ResultVar → Sem Value
 | .tmp t => pure (tmps.getD t undef)
 | .cell a t => do loadVar t (← asAddr (tmps.getD a undef))
theorem res_sound (hP : POk P) {B : Nat → Prop} {β : Nat → Nat × Nat} {H : Heap} {w : World} (hst : StR B β H w) {e : Env} {tmps : Array Value} (he : EnvR B β H w e tmps) {r : ResultVar} {y : Y} (h : resX P e H r = some y) :
  ∃ u, (resV tmps r).run P w = .ok u w ∧ RepY B β H w y u := by
 cases r with
 | tmp t => exact ⟨_, rfl, repX_y (he t) h⟩
 | cell a t =>
  simp only [resX, kB, kR] at h
  obtain ⟨c, hc, n, hsz, h0, cs, hcs, hy⟩ := h
  obtain ⟨ad, u, heq, hrun, hr⟩ := load_sound hP hst (repX_c (he a) hc) hsz h0 hcs hy
  exact ⟨u, by simp [resV, heq, asAddr, hrun], hr⟩
theorem ress_sound (hP : POk P) {B : Nat → Prop} {β : Nat → Nat × Nat} {H : Heap} {w : World} (hst : StR B β H w) {e : Env} {tmps : Array Value} (he : EnvR B β H w e tmps) : ∀ {rs : List ResultVar} {ys : List Y}, rs.mapM (resX P e H) = some ys →
  ∃ us, (rs.mapM (resV tmps)).run P w = .ok us w ∧ All2 (RepY B β H w) ys us := by
 intro rs
 induction rs with
 | nil => intro ys h; simp at h; subst h; exact ⟨[], rfl, .nil⟩
 | cons r rs ih =>
  intro ys h
  simp only [List.mapM_cons, Option.bind_eq_bind, kB, Option.pure_def, kI] at h
  obtain ⟨y, hy, ys', hys, rfl⟩ := h
  obtain ⟨u, h1, h2⟩ := res_sound hP hst he hy
  obtain ⟨us, h3, h4⟩ := ih hys
  exact ⟨u :: us, by simp [List.mapM_cons, h1, h3], .cons h2 h4⟩
theorem results_sound (hP : POk P) {B : Nat → Prop} {β : Nat → Nat × Nat} {H : Heap} {w : World} (hst : StR B β H w) {e : Env} {tmps : Array Value} (he : EnvR B β H w e tmps) {fn : Func} {ys : List Y} (h : fn.results.toList.mapM (resX P e H) = some ys) :
  ∃ v, (results fn tmps).run P w = .ok v w ∧ RepRes B β H w ys v := by
 obtain ⟨us, h1, h2⟩ := ress_sound hP hst he h
 have hm : (fn.results.mapM (resV tmps)).run P w = .ok us.toArray w := by
  rw [Array.mapM_eq_mapM_toList]
  simp [h1]
 refine ⟨if h : us.toArray.size = 1 then us.toArray[0] else .tuple us.toArray, ?_, ?_⟩
 ·have e : results fn tmps = (do let vs ← fn.results.mapM (resV tmps); pure (if h : vs.size = 1 then vs[0] else .tuple vs)) := rfl
  rw [e, Sem.run_bind, hm]
  rfl
 ·unfold RepRes
  match ys, us, h2 with
  | [], [], _ => exact ⟨[], rfl, .nil⟩
  | [y], [u], .cons r .nil => exact r
  | y :: y' :: ys, u :: u' :: us, h2 => exact ⟨_, rfl, h2⟩
/-! ### The whole -/
/-- What is asked of a function that is told by a contract of its own. -/
def SpOk (P : Program) (f : FuncId) (sp : List Y → Heap → Option (List Y × Heap)) : Prop := ∀ args H rs H', sp args H = some (rs, H') →
 (∃ fn, P.funcs[f]? = some fn ∧ fn.body.isSome = true) ∧
 ∀ B β w vs, StR B β H w → All2 (RepY B β H w) args vs →
  Calls P f vs.toArray w fun e w' => ∃ v β', e = .returned v ∧ StR B β' H' w' ∧ Stp β H w β' H' w' ∧ RepRes B β' H' w' rs v
structure AnnOk (P : Program) (A : Ann) : Prop where
 spec : ∀ f sp, A.spec f = some sp → SpOk P f sp ∧ SpHid sp
 code : ∀ (f : Nat) (fn : Func) (c : Code), A.may f = true → P.funcs[f]? = some fn → fn.body = some c → codeOK A f fn.ntmps c = true
theorem get_args : ∀ (l : List Y) (k t : Nat), get ((l.zipIdx k).map fun p => (p.2, X.y p.1)) t = if k ≤ t then ((l[t - k]?).map X.y).getD .dead else .dead := by
 intro l
 induction l with
 | nil => intro k t; simp [get]
 | cons y l ih =>
  intro k t
  simp only [List.zipIdx_cons, List.map_cons, get]
  by_cases h : k = t
  ·subst h; simp
  ·rw [if_neg h, ih]
   by_cases h2 : k ≤ t
   ·rw [if_pos (by omega), if_pos h2]
    rw [show t - k = (t - (k + 1)) + 1 by omega, List.getElem?_cons_succ]
   ·rw [if_neg (by omega), if_neg h2]
theorem run_sound (hP : POk P) (hA : AnnOk P A) : ∀ k, CallOK P (runX P A k) := by
 intro k
 induction k with
 | zero => intro f args H rs H' h; simp only [runX] at h; cases h
 | succ k ih =>
  intro f args H rs H' h
  unfold runX at h
  split at h
  case isFalse =>
   obtain ⟨sp, hsp, h⟩ := kB.1 h
   exact (hA.spec f sp hsp).1 _ _ _ _ h
  rename_i hmay
  simp only [kR, kB] at h
  obtain ⟨fn, hfn, c, hc, hlen, ⟨x, e, H1⟩, hcode, h⟩ := h
  refine ⟨⟨fn, hfn, by simp [hc]⟩, fun B β w vs hst hargs => ?_⟩
  have hvl := hargs.length
  refine calls_of_wp hfn hc ?_
  have he : EnvR B β H w (args.zipIdx.map fun p => (p.2, X.y p.1)) (vs.toArray ++ Array.replicate (fn.ntmps - vs.toArray.size) undef) := by
   intro t
   rw [get_args]
   simp only [Nat.zero_le, if_true, Nat.sub_zero]
   cases ht : args[t]? with
   | none => exact trivial
   | some y =>
    obtain ⟨u, hu, hr⟩ := hargs.get ht
    simp only [kT, Option.getD_some]
    have : (vs.toArray ++ Array.replicate (fn.ntmps - vs.toArray.size) undef).getD t undef = u := by
     have hlt := lt_of_get hu
     rw [Array.getD_eq_getD_getElem?, Array.getElem?_append, if_pos (by simpa using hlt)]
     simp [hu]
    rw [this]; exact hr
  refine (code_sound hP ih (run_hid hA.code (fun f sp h => (hA.spec f sp h).2) k) (n := fn.ntmps) k).1 hcode (hA.code f fn c hmay hfn hc) hst he (by simp; omega) fun β' w' a' g1 g2 g3 g4 g5 => ?_
  have main : ∀ {ys : List Y}, fn.results.toList.mapM (resX P e H1) = some ys → ys = rs → gcX (A.gc f) H.length ys H1 = H' → a'.defers = [] ∧ ∃ v, (results fn a'.tmps).run P w' = .ok v w' ∧
    ∃ u β', Ending.returned v = .returned u ∧ StR B β' H' w' ∧ Stp β H w β' H' w' ∧ RepRes B β' H' w' rs u := by
   rintro ys hys rfl rfl
   obtain ⟨v, h1, h2⟩ := results_sound hP g1 g3 hys
   refine ⟨g5, v, h1, v, β', rfl, ?_⟩
   unfold gcX
   split
   ·rename_i hg
    simp only [kA] at hg
    obtain ⟨_, hg1, hg2⟩ := hg
    obtain ⟨_, k1, _⟩ := trunc_sound g1 (n := H.length) (e := []) (tmps := #[]) (fun t => trivial) (H' := H1.take H.length) (by unfold truncX; rw [if_pos ⟨rfl, hg2⟩])
    refine ⟨k1, g2.take rfl, ?_⟩
    refine repX_take h2 ?_
    have hp : ∀ l : List Y, (l.all fun y => y.cells.all (C.inH H.length)) = true → (pack l).inH H.length = true := by
     intro l hl
     match l, hl with
     | [], _ => rfl
     | [y], hl => simpa [pack, X.inH] using hl
     | y :: y' :: r, hl => exact hl
    exact hp _ hg1
   ·exact ⟨g1, g2, h2⟩
  cases x with
  | normal =>
   simp only [kM, kP] at h
   obtain ⟨ys, hys, h1, h2⟩ := h
   exact main hys h1 h2
  | ret =>
   simp only [kM, kP] at h
   obtain ⟨ys, hys, h1, h2⟩ := h
   exact main hys h1 h2
  | exit id => cases h
  | goto l => cases h
/-- A LAW: what X comes to with the arguments alone, the model's call comes to, and nothing that was there has turned. -/
theorem law_sound (hP : POk P) (hA : AnnOk P A) {k : Nat} {f : FuncId} {args : List Y} {b : Bool} {H' : Heap} (h : runX P A k f args [] = some ([.one (.sc (.bool b))], H')) {w : World} {vs : List Value} (hargs : All2 (RepY (fun _ => False) (fun _ => (0, 0)) [] w) args vs) :
  Calls P f vs.toArray w fun e w' => e = .returned (.bool b) ∧ RowKit.Below w.heap.size w w' := by
 have hst : StR (fun _ => False) (fun _ => (0, 0)) [] w := ⟨fun _ _ h => by simp at h, fun _ _ _ _ h => by simp at h, fun _ _ h => by simp at h, fun _ h => h.elim, fun _ _ h => by simp at h⟩
 refine ((run_sound hP hA k) _ _ _ _ _ h |>.2 _ _ w vs hst hargs).mono fun e w' he => ?_
 obtain ⟨v, β', rfl, h1, h2, h3⟩ := he
 obtain ⟨_, rfl⟩ := h3
 exact ⟨rfl, h2.os, h2.tape, h2.output, h2.size, h2.empty⟩
end
end Go.Lg
