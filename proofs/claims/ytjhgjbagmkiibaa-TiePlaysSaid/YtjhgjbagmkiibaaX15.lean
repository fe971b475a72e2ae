/- Lemmas. -/
import Derived.Test.YtjhgjbagmkiibaaX12
import Derived.OpenShut
import GoSem.ClaimJoined
import Derived.ChangeMade
import Derived.Carry
import Derived.SizedLaws
import Derived.ChangeShapes
import Derived.WideShapes
import Derived.KernelRfl
import Derived.Test.YtjhgjbagmkiibaaX1
section
namespace Go.Lg
section
variable {P : Program} {A : Ann} {K : Callee} {f : FuncId}
def Post (B : Nat → Prop) (Q : Exit → Act → World → Prop) (β0 : Nat → Nat × Nat) (H0 : Heap) (w0 : World) (n : Nat) (ds : List Deferred) (x : Ex) (eF : Env) (HF : Heap) : Prop :=
 ∀ β' w' a', StR B β' HF w' → Stp β0 H0 w0 β' HF w' → EnvR B β' HF w' eF a'.tmps → a'.tmps.size = n → a'.defers = ds → Q x.to a' w'
theorem code_sound (hP : POk P) (hK : CallOK P K) (hKH : KHid K) {n : Nat} {B : Nat → Prop} : ∀ (k : Nat),
  (∀ {c : Code} {e : Env} {H : Heap} {x : Ex} {eF : Env} {HF : Heap}, codeX P A K f k c e H = some (x, eF, HF) → codeOK A f n c = true →
   ∀ {Q : Exit → Act → World → Prop} {β : Nat → Nat × Nat} {w : World} {a : Act}, StR B β H w → EnvR B β H w e a.tmps → a.tmps.size = n → Post B Q β H w n a.defers x eF HF → c.wp P Q a w) ∧
  (∀ {c : Code} {an : Option (List Nat × Bool)} {m : Nat} {e : Env} {H : Heap} {x : Ex} {eF : Env} {HF : Heap}, loopX P A K f k c an m e H = some (x, eF, HF) → codeOK A f n c = true →
   ∀ {Q : Exit → Act → World → Prop} {β0 : Nat → Nat × Nat} {H0 : Heap} {w0 : World} {β : Nat → Nat × Nat} {w : World} {a : Act}, H0.length = m → Stp β0 H0 w0 β H w → StR B β H w → EnvR B β H w e a.tmps → a.tmps.size = n →
    Post B Q β0 H0 w0 n a.defers x eF HF → Code.rounds P c Q k a w) ∧
  (∀ {c r : Code} {e : Env} {H : Heap} {x : Ex} {eF : Env} {HF : Heap}, scopeX P A K f k c r e H = some (x, eF, HF) → codeOK A f n c = true → codeOK A f n r = true →
   ∀ {Q : Exit → Act → World → Prop} {β : Nat → Nat × Nat} {w : World} {a : Act}, StR B β H w → EnvR B β H w e a.tmps → a.tmps.size = n → Post B Q β H w n a.defers x eF HF → jumps P c Q k r a w) := by
 intro k
 induction k with
 | zero => exact ⟨(fun h => by simp only [codeX] at h; cases h), (fun h => by simp only [loopX] at h; cases h), (fun h => by simp only [scopeX] at h; cases h)⟩
 | succ k ih =>
  obtain ⟨ihc, ihl, ihs⟩ := ih
  refine ⟨?_, ?_, ?_⟩
  ·intro c e H x eF HF h hok Q β w a hst he hn hq
   cases c with
   | skip =>
    simp only [codeX, kI, kP] at h
    obtain ⟨rfl, rfl, rfl⟩ := h
    exact wp_skip (hq β w a hst (Stp.refl _ _ _) he hn rfl)
   | label l =>
    simp only [codeX, kI, kP] at h
    obtain ⟨rfl, rfl, rfl⟩ := h
    exact wp_label (hq β w a hst (Stp.refl _ _ _) he hn rfl)
   | exit id =>
    simp only [codeX, kI, kP] at h
    obtain ⟨rfl, rfl, rfl⟩ := h
    exact wp_exit (hq β w a hst (Stp.refl _ _ _) he hn rfl)
   | goto l =>
    simp only [codeX, kI, kP] at h
    obtain ⟨rfl, rfl, rfl⟩ := h
    exact wp_goto (hq β w a hst (Stp.refl _ _ _) he hn rfl)
   | ret =>
    simp only [codeX, kI, kP] at h
    obtain ⟨rfl, rfl, rfl⟩ := h
    exact wp_ret (hq β w a hst (Stp.refl _ _ _) he hn rfl)
   | region id ops draw =>
    simp only [codeX, kM, kP] at h
    obtain ⟨⟨e1, H1⟩, hops, rfl, rfl, rfl⟩ := h
    refine region_sound hP hK hKH hok hops hst he hn fun β' w' a' g1 g2 g3 g4 g5 => hq β' w' a' g1 g2 ?_ g4 g5
    split
    ·exact g3.restrict _
    ·exact g3
   | seq c1 c2 =>
    simp only [codeOK, kA] at hok
    simp only [codeX, kB] at h
    obtain ⟨⟨x1, e1, H1⟩, h1, h⟩ := h
    refine wp_seq (ihc h1 hok.1 hst he hn fun β1 w1 a1 g1 g2 g3 g4 g5 => ?_)
    cases x1 with
    | normal =>
     simp only [Ex.to, Exit.then]
     exact ihc h hok.2 g1 g3 g4 fun β' w' a' k1 k2 k3 k4 k5 => hq β' w' a' k1 (g2.trans k2) k3 k4 (k5.trans g5)
    | _ =>
     simp only [kI, kP] at h
     obtain ⟨rfl, rfl, rfl⟩ := h
     exact hq β1 w1 a1 g1 g2 g3 g4 g5
   | cond c c1 c2 =>
    simp only [codeOK, kA] at hok
    simp only [codeX] at h
    split at h
    ·rename_i t ht
     have hc := ev_sound he c
     rw [ht] at hc
     obtain ⟨_, hc⟩ := hc
     cases t with
     | true => exact wp_cond_true hc (ihc (by simpa using h) hok.1 hst he hn hq)
     | false => exact wp_cond_false hc (ihc (by simpa using h) hok.2 hst he hn hq)
    ·cases h
   | block id c =>
    simp only [codeX, kM, kP] at h
    obtain ⟨⟨x1, e1, H1⟩, h1, rfl, rfl, rfl⟩ := h
    refine wp_block (ihc h1 hok hst he hn fun β1 w1 a1 g1 g2 g3 g4 g5 => ?_)
    have := hq β1 w1 a1 g1 g2 g3 g4 g5
    cases x1 with
    | exit id' =>
     simp only [Ex.to, Exit.inBlock] at this ⊢
     split
     ·rename_i hid; simpa [hid, Ex.to] using this
     ·rename_i hid; simpa [hid, Ex.to] using this
    | _ => exact this
   | loop c =>
    simp only [codeX] at h
    refine wp_loop_rounds k ?_
    have he' : EnvR B β H w (headX ((firstRegion c).bind (A.loop f)) e) a.tmps := by
     unfold headX
     split
     ·exact he.restrict _
     ·exact he
    exact ihl h hok rfl (Stp.refl β H w) hst he' hn hq
   | scope c =>
    simp only [codeX] at h
    exact wp_scope_jump k (ihs h hok hok hst he hn hq)
   | rangeFunc _ _ _ _ => simp only [codeX] at h; cases h
   | refuse _ => simp only [codeX] at h; cases h
  ·intro c an m e H x eF HF h hok Q β0 H0 w0 β w a hm stp0 hst he hn hq
   simp only [loopX, kB] at h
   obtain ⟨⟨x1, e1, H1⟩, h1, h⟩ := h
   rw [rounds_succ]
   refine ihc h1 hok hst he hn fun β1 w1 a1 g1 g2 g3 g4 g5 => ?_
   cases x1 with
   | normal =>
    simp only [Ex.to, Exit.then, kB] at h ⊢
    obtain ⟨H2, h2, h⟩ := h
    have he1 : EnvR B β1 H1 w1 (headX an e1) a1.tmps := by
     unfold headX
     split
     ·exact g3.restrict _
     ·exact g3
    have hq' : Post B Q β0 H0 w0 n a1.defers x eF HF := fun β' w' a' k1 k2 k3 k4 k5 => hq β' w' a' k1 k2 k3 k4 (k5.trans g5)
    split at h2
    ·obtain ⟨rfl, t1, t2⟩ := trunc_sound g1 he1 h2
     exact ihl h hok hm ((stp0.trans g2).take hm) t1 t2 g4 hq'
    ·simp only [kI] at h2
     subst h2
     exact ihl h hok hm (stp0.trans g2) g1 he1 g4 hq'
   | _ =>
    simp only [kI, kP] at h
    obtain ⟨rfl, rfl, rfl⟩ := h
    exact hq β1 w1 a1 g1 (stp0.trans g2) g3 g4 g5
  ·intro c r e H x eF HF h hok hokr Q β w a hst he hn hq
   simp only [scopeX, kB] at h
   obtain ⟨⟨x1, e1, H1⟩, h1, h⟩ := h
   unfold jumps
   refine ihc h1 hokr hst he hn fun β1 w1 a1 g1 g2 g3 g4 g5 => ?_
   cases x1 with
   | goto l =>
    simp only [Ex.to] at h ⊢
    split at h
    ·rename_i rest hf
     simp only [hf]
     exact ihs h hok (findLabel_ok hok hf) g1 g3 g4 fun β' w' a' k1 k2 k3 k4 k5 => hq β' w' a' k1 (g2.trans k2) k3 k4 (k5.trans g5)
    ·rename_i hf
     simp only [hf]
     simp only [kI, kP] at h
     obtain ⟨rfl, rfl, rfl⟩ := h
     exact hq β1 w1 a1 g1 g2 g3 g4 g5
   | _ =>
    simp only [kI, kP] at h
    obtain ⟨rfl, rfl, rfl⟩ := h
    exact hq β1 w1 a1 g1 g2 g3 g4 g5
def resV (tmps : Array Value) : ResultVar → Sem Value
 | .tmp t => pure (tmps.getD t undef)
 | .cell a t => do loadVar t (← asAddr (tmps.getD a undef))
theorem res_sound (hP : POk P) {B : Nat → Prop} {β : Nat → Nat × Nat} {H : Heap} {w : World} (hst : StR B β H w) {e : Env} {tmps : Array Value} (he : EnvR B β H w e tmps) {r : ResultVar} {y : Y} (h : resX P e H r = some y) :
  ∃ u, (resV tmps r).run P w = .ok u w ∧ RepY B β H w y u := by
 cases r with
 | tmp t => exact ⟨_, rfl, repX_y (he t) h⟩
 | cell a t =>
  simp only [resX, kB, kR] at h
  obtain ⟨c, hc, n, hsz, h0, cs, hcs, hy⟩ := h
  obtain ⟨ad, u, heq, hrun, hr⟩ := load_sound hP hst (repX_c (he a) hc) hsz h0 hcs hy
  exact ⟨u, by simp [resV, heq, asAddr, hrun], hr⟩
theorem ress_sound (hP : POk P) {B : Nat → Prop} {β : Nat → Nat × Nat} {H : Heap} {w : World} (hst : StR B β H w) {e : Env} {tmps : Array Value} (he : EnvR B β H w e tmps) : ∀ {rs : List ResultVar} {ys : List Y}, rs.mapM (resX P e H) = some ys →
  ∃ us, (rs.mapM (resV tmps)).run P w = .ok us w ∧ All2 (RepY B β H w) ys us := by
 intro rs
 induction rs with
 | nil => intro ys h; simp at h; subst h; exact ⟨[], rfl, .nil⟩
 | cons r rs ih =>
  intro ys h
  simp only [List.mapM_cons, Option.bind_eq_bind, kB, Option.pure_def, kI] at h
  obtain ⟨y, hy, ys', hys, rfl⟩ := h
  obtain ⟨u, h1, h2⟩ := res_sound hP hst he hy
  obtain ⟨us, h3, h4⟩ := ih hys
  exact ⟨u :: us, by simp [List.mapM_cons, h1, h3], .cons h2 h4⟩
theorem results_sound (hP : POk P) {B : Nat → Prop} {β : Nat → Nat × Nat} {H : Heap} {w : World} (hst : StR B β H w) {e : Env} {tmps : Array Value} (he : EnvR B β H w e tmps) {fn : Func} {ys : List Y} (h : fn.results.toList.mapM (resX P e H) = some ys) :
  ∃ v, (results fn tmps).run P w = .ok v w ∧ RepRes B β H w ys v := by
 obtain ⟨us, h1, h2⟩ := ress_sound hP hst he h
 have hm : (fn.results.mapM (resV tmps)).run P w = .ok us.toArray w := by
  rw [Array.mapM_eq_mapM_toList]
  simp [h1]
 refine ⟨if h : us.toArray.size = 1 then us.toArray[0] else .tuple us.toArray, ?_, ?_⟩
 ·have e : results fn tmps = (do let vs ← fn.results.mapM (resV tmps); pure (if h : vs.size = 1 then vs[0] else .tuple vs)) := rfl
  rw [e, Sem.run_bind, hm]
  rfl
 ·unfold RepRes
  match ys, us, h2 with
  | [], [], _ => exact ⟨[], rfl, .nil⟩
  | [y], [u], .cons r .nil => exact r
  | y :: y' :: ys, u :: u' :: us, h2 => exact ⟨_, rfl, h2⟩
def SpOk (P : Program) (f : FuncId) (sp : List Y → Heap → Option (List Y × Heap)) : Prop := ∀ args H rs H', sp args H = some (rs, H') →
 (∃ fn, P.funcs[f]? = some fn ∧ fn.body.isSome = true) ∧
 ∀ B β w vs, StR B β H w → All2 (RepY B β H w) args vs →
  Calls P f vs.toArray w fun e w' => ∃ v β', e = .returned v ∧ StR B β' H' w' ∧ Stp β H w β' H' w' ∧ RepRes B β' H' w' rs v
structure AnnOk (P : Program) (A : Ann) : Prop where
 spec : ∀ f sp, A.spec f = some sp → SpOk P f sp ∧ SpHid sp
 code : ∀ (f : Nat) (fn : Func) (c : Code), A.may f = true → P.funcs[f]? = some fn → fn.body = some c → codeOK A f fn.ntmps c = true
theorem get_args : ∀ (l : List Y) (k t : Nat), get ((l.zipIdx k).map fun p => (p.2, X.y p.1)) t = if k ≤ t then ((l[t - k]?).map X.y).getD .dead else .dead := by
 intro l
 induction l with
 | nil => intro k t; simp [get]
 | cons y l ih =>
  intro k t
  simp only [List.zipIdx_cons, List.map_cons, get]
  by_cases h : k = t
  ·subst h; simp
  ·rw [if_neg h, ih]
   by_cases h2 : k ≤ t
   ·rw [if_pos (by omega), if_pos h2]
    rw [show t - k = (t - (k + 1)) + 1 by omega, List.getElem?_cons_succ]
   ·rw [if_neg (by omega), if_neg h2]
theorem run_sound (hP : POk P) (hA : AnnOk P A) : ∀ k, CallOK P (runX P A k) := by
 intro k
 induction k with
 | zero => intro f args H rs H' h; simp only [runX] at h; cases h
 | succ k ih =>
  intro f args H rs H' h
  unfold runX at h
  split at h
  case isFalse =>
   obtain ⟨sp, hsp, h⟩ := kB.1 h
   exact (hA.spec f sp hsp).1 _ _ _ _ h
  rename_i hmay
  simp only [kR, kB] at h
  obtain ⟨fn, hfn, c, hc, hlen, ⟨x, e, H1⟩, hcode, h⟩ := h
  refine ⟨⟨fn, hfn, by simp [hc]⟩, fun B β w vs hst hargs => ?_⟩
  have hvl := hargs.length
  refine calls_of_wp hfn hc ?_
  have he : EnvR B β H w (args.zipIdx.map fun p => (p.2, X.y p.1)) (vs.toArray ++ Array.replicate (fn.ntmps - vs.toArray.size) undef) := by
   intro t
   rw [get_args]
   simp only [Nat.zero_le, if_true, Nat.sub_zero]
   cases ht : args[t]? with
   | none => exact trivial
   | some y =>
    obtain ⟨u, hu, hr⟩ := hargs.get ht
    simp only [kT, Option.getD_some]
    have : (vs.toArray ++ Array.replicate (fn.ntmps - vs.toArray.size) undef).getD t undef = u := by
     have hlt := lt_of_get hu
     rw [Array.getD_eq_getD_getElem?, Array.getElem?_append, if_pos (by simpa using hlt)]
     simp [hu]
    rw [this]; exact hr
  refine (code_sound hP ih (run_hid hA.code (fun f sp h => (hA.spec f sp h).2) k) (n := fn.ntmps) k).1 hcode (hA.code f fn c hmay hfn hc) hst he (by simp; omega) fun β' w' a' g1 g2 g3 g4 g5 => ?_
  have main : ∀ {ys : List Y}, fn.results.toList.mapM (resX P e H1) = some ys → ys = rs → gcX (A.gc f) H.length ys H1 = H' → a'.defers = [] ∧ ∃ v, (results fn a'.tmps).run P w' = .ok v w' ∧
    ∃ u β', Ending.returned v = .returned u ∧ StR B β' H' w' ∧ Stp β H w β' H' w' ∧ RepRes B β' H' w' rs u := by
   rintro ys hys rfl rfl
   obtain ⟨v, h1, h2⟩ := results_sound hP g1 g3 hys
   refine ⟨g5, v, h1, v, β', rfl, ?_⟩
   unfold gcX
   split
   ·rename_i hg
    simp only [kA] at hg
    obtain ⟨_, hg1, hg2⟩ := hg
    obtain ⟨_, k1, _⟩ := trunc_sound g1 (n := H.length) (e := []) (tmps := #[]) (fun t => trivial) (H' := H1.take H.length) (by unfold truncX; rw [if_pos ⟨rfl, hg2⟩])
    refine ⟨k1, g2.take rfl, ?_⟩
    refine repX_take h2 ?_
    have hp : ∀ l : List Y, (l.all fun y => y.cells.all (C.inH H.length)) = true → (pack l).inH H.length = true := by
     intro l hl
     match l, hl with
     | [], _ => rfl
     | [y], hl => simpa [pack, X.inH] using hl
     | y :: y' :: r, hl => exact hl
    exact hp _ hg1
   ·exact ⟨g1, g2, h2⟩
  cases x with
  | normal =>
   simp only [kM, kP] at h
   obtain ⟨ys, hys, h1, h2⟩ := h
   exact main hys h1 h2
  | ret =>
   simp only [kM, kP] at h
   obtain ⟨ys, hys, h1, h2⟩ := h
   exact main hys h1 h2
  | exit id => cases h
  | goto l => cases h
theorem law_sound (hP : POk P) (hA : AnnOk P A) {k : Nat} {f : FuncId} {args : List Y} {b : Bool} {H' : Heap} (h : runX P A k f args [] = some ([.one (.sc (.bool b))], H')) {w : World} {vs : List Value} (hargs : All2 (RepY (fun _ => False) (fun _ => (0, 0)) [] w) args vs) :
  Calls P f vs.toArray w fun e w' => e = .returned (.bool b) ∧ RowKit.Below w.heap.size w w' := by
 have hst : StR (fun _ => False) (fun _ => (0, 0)) [] w := ⟨fun _ _ h => by simp at h, fun _ _ _ _ h => by simp at h, fun _ _ h => by simp at h, fun _ h => h.elim, fun _ _ h => by simp at h⟩
 refine ((run_sound hP hA k) _ _ _ _ _ h |>.2 _ _ w vs hst hargs).mono fun e w' he => ?_
 obtain ⟨v, β', rfl, h1, h2, h3⟩ := he
 obtain ⟨_, rfl⟩ := h3
 exact ⟨rfl, h2.os, h2.tape, h2.output, h2.size, h2.empty⟩
end
end Go.Lg
end
section
namespace Go.Lg
inductive Sh where
 | int (k : IntKind)
 | bool
 | str
 | sl (by_ : Nat) (e : Sh)
 | nil
 | pr (a b : Sh)
 deriving DecidableEq
abbrev Sh.T : Sh → Type
 | .int _ => Int
 | .bool => Bool
 | .str => ByteArray
 | .sl _ e => Bool × List e.T
 | .nil => Unit
 | .pr a b => a.T × b.T
def Sh.cells : Sh → Nat
 | .nil => 0
 | .pr a b => a.cells + b.cells
 | _ => 1
def enc : (s : Sh) → s.T → List C
 | .int k, (n : Int) => [.sc (.int k n)]
 | .bool, (b : Bool) => [.sc (.bool b)]
 | .str, (s : ByteArray) => [.sc (.string s)]
 | .sl _ e, (x : Bool × List e.T) => [.sl false x.1 x.1 (x.2.flatMap (enc e)) x.2.length]
 | .nil, _ => []
 | .pr a b, (x : a.T × b.T) => enc a x.1 ++ enc b x.2
def Val : (s : Sh) → s.T → Prop
 | .int k, (n : Int) => (Lit.int k n).wf = true
 | .bool, _ => True
 | .str, (s : ByteArray) => s.size ≤ reachBytes
 | .sl by_ e, (x : Bool × List e.T) => (x.1 = true → x.2 = []) ∧ x.2.length ≤ maxLen ∧ x.2.length * by_ ≤ reachBytes ∧ ∀ y ∈ x.2, Val e y
 | .nil, _ => True
 | .pr a b, (x : a.T × b.T) => Val a x.1 ∧ Val b x.2
def szS : (s : Sh) → s.T → Nat
 | .int _, _ | .bool, _ => 1
 | .str, (s : ByteArray) => s.size
 | .sl _ e, (x : Bool × List e.T) => (x.2.map fun y => max 1 (szS e y)).sum
 | .nil, _ => 0
 | .pr a b, (x : a.T × b.T) => szS a x.1 + szS b x.2
structure Bulk (H : Type) where
 one : DataW H → Nat
 all : List (DataW H) → Nat
 pos : ∀ d, 1 ≤ one d
 nil : all [] = 0
 cons : ∀ d r, all (d :: r) = one d + all r
 slice : ∀ a b, all a ≤ one (.slice a b)
 agg : ∀ l, all l ≤ one (.agg l)
 str : ∀ b : List UInt8, b.length ≤ one (.lit (.string b))
theorem Bulk.app {H : Type} (k : Bulk H) (a b : List (DataW H)) : k.all (a ++ b) = k.all a + k.all b := by
 induction a with
 | nil => simp [k.nil]
 | cons d r ih => simp only [List.cons_append, k.cons, ih, Nat.add_assoc]
mutual
def fits (P : Program) : Sh → TypeId → Bool
 | .int k, t => match P.underlying t with | some (.int k') => decide (k' = k) | _ => false
 | .bool, t => match P.underlying t with | some .bool => true | _ => false
 | .str, t => match P.underlying t with | some .string => true | _ => false
 | .sl by_ e, t => match P.underlying t with | some (.slice el) => fits P e el && decide (P.cellsOf el = e.cells ∧ 0 < e.cells ∧ P.bytesOf el = by_) | _ => false
 | .nil, t => match P.underlying t with | some (.struct fs) => fs.isEmpty && decide (P.cellsOf t = 0) | some (.array n _) => decide (n = 0 ∧ P.cellsOf t = 0) | _ => false
 | .pr a b, t => match P.underlying t with
  | some (.struct fs) => (match fs.toList with
   | f :: fs => decide (f.offset = 0 ∧ P.cellsOf f.type = a.cells) && fits P a f.type && fitsFs P b fs a.cells
   | [] => false) && decide (P.cellsOf t = a.cells + b.cells)
  | some (.array (n + 1) el) => fits P a el && decide (P.cellsOf el = a.cells) && fitsArr P b n el && decide (P.cellsOf t = a.cells + b.cells)
  | _ => false
def fitsFs (P : Program) : Sh → List Field → Nat → Bool
 | .nil, fs, _ => fs.isEmpty
 | .pr a b, fs, off => match fs with
  | f :: fs => decide (f.offset = off ∧ P.cellsOf f.type = a.cells) && fits P a f.type && fitsFs P b fs (off + a.cells)
  | [] => false
 | _, _, _ => false
def fitsArr (P : Program) : Sh → Nat → TypeId → Bool
 | .nil, n, _ => decide (n = 0)
 | .pr a b, n, el => match n with
  | n + 1 => fits P a el && decide (P.cellsOf el = a.cells) && fitsArr P b n el
  | 0 => false
 | _, _, _ => false
end
section
variable {P : Program} {w : World} {H : Type} {en : TypeId × Value → H}
def Here (w : World) (b : Nat) : Prop := b < w.heap.size
theorem cells_get {a : Addr} {n : Nat} {us : List Value} (h : w.cells? 0 a n = some us) : us.length = n ∧ ∀ j u, us[j]? = some u → w.cell? (a.add j) = some u := by
 unfold World.cells? at h
 simp only [Nat.zero_le, if_true] at h
 have h1 : us.length = n := by simpa using mapM_some_length h
 refine ⟨h1, fun j u hj => ?_⟩
 have hlt : j < n := by rw [List.getElem?_eq_some_iff] at hj; obtain ⟨hj, _⟩ := hj; omega
 have := mapM_some_get h j j (List.getElem?_range hlt)
 rw [hj] at this
 exact this
theorem addr_add_add (a : Addr) (i j : Nat) (h : a.spot = none) : (a.add i).add j = ⟨a.block, a.off + i + j, none⟩ := by
 obtain ⟨b, o, s⟩ := a
 simp only at h; subst h
 rw [Addr.add_lit, Addr.add_lit]
theorem enc_len : ∀ (s : Sh) (x : s.T), (enc s x).length = s.cells
 | .int _, _ => rfl
 | .bool, _ => rfl
 | .str, _ => rfl
 | .sl _ _, _ => rfl
 | .nil, _ => rfl
 | .pr a b, x => by simp only [enc, List.length_append, enc_len a x.1, enc_len b x.2, Sh.cells]
theorem flat_len (e : Sh) (l : List e.T) : (l.flatMap (enc e)).length = l.length * e.cells := by
 induction l with
 | nil => simp
 | cons x l ih => rw [List.flatMap_cons, List.length_append, ih, enc_len, List.length_cons, Nat.add_mul, Nat.one_mul, Nat.add_comm]
theorem all_append {l m : List Nat} {q : Nat → Bool} (h : (l ++ m).all q = true) : l.all q = true ∧ m.all q = true := by
 rw [List.all_append, kA] at h; exact h
theorem weights_mem {e : TypeId} : ∀ {ds : List (DataW H)} {q : Nat → Bool}, (DataW.weightsAll P e ds).all q = true → ∀ d ∈ ds, (d.weights P e).all q = true := by
 intro ds
 induction ds with
 | nil => intro q _ d hd; cases hd
 | cons x ds ih =>
  intro q h d hd
  simp only [DataW.weightsAll] at h
  obtain ⟨h1, h2⟩ := all_append h
  cases hd with
  | head => exact h1
  | tail _ hd => exact ih h2 d hd
abbrev Small (n : Nat) : Bool := decide (n ≤ reachBytes)
def ReadS (P : Program) (w : World) (s : Sh) : Prop := ∀ (H : Type) (en : TypeId × Value → H) (t : TypeId), fits P s t = true → ∀ (fuel : Nat) (cs : List Value) (d : DataW H) (ps : List MemPlace), DataW.trod en P w 0 (fun _ => true) true fuel t cs = some (d, ps) →
 (d.weights P t).all Small = true → ∃ x : s.T, (Val s x ∧ ∀ bk : Bulk H, szS s x ≤ bk.one d) ∧ All2 (RepI (Here w) w) (enc s x) cs
theorem read_elems {e : Sh} (he : ReadS P w e) {el : TypeId} (hf : fits P e el = true) (hc : P.cellsOf el = e.cells) (h0 : 0 < e.cells) {fuel : Nat} {a : Addr} {len : Nat} {xs : List (DataW H × List MemPlace)}
  (hxl : xs.length = len) (hget : ∀ i, i < len → (w.cells? 0 (a.add (i * P.cellsOf el)) (P.cellsOf el)).bind (DataW.trod en P w 0 (fun _ => true) true fuel el) = xs[i]?)
  (hw : (DataW.weightsAll P el (xs.map (·.1))).all Small = true) :
  ∃ l : List e.T, l.length = len ∧ ((∀ x ∈ l, Val e x) ∧ ∀ bk : Bulk H, (l.map fun y => max 1 (szS e y)).sum ≤ bk.all (xs.map (·.1))) ∧ ∃ us : List Value, All2 (RepI (Here w) w) (l.flatMap (enc e)) us ∧ (0 < len → a.spot = none) ∧ ∀ j u, us[j]? = some u → w.cell? ⟨a.block, a.off + j, none⟩ = some u := by
 have hg' : ∀ i, i < len → ∃ us d ps, w.cells? 0 (a.add (i * P.cellsOf el)) (P.cellsOf el) = some us ∧ DataW.trod en P w 0 (fun _ => true) true fuel el us = some (d, ps) ∧ d ∈ xs.map (·.1) ∧ (xs.map (·.1))[i]? = some d := by
  intro i hi
  have hx : xs[i]? = some (xs[i]'(by omega)) := List.getElem?_eq_getElem _
  have := hget i hi
  rw [hx, kB] at this
  obtain ⟨us, h1, h2⟩ := this
  exact ⟨us, (xs[i]'(by omega)).1, (xs[i]'(by omega)).2, h1, h2, List.mem_map.2 ⟨_, List.mem_of_getElem? hx, rfl⟩, by rw [List.getElem?_map, hx]; rfl⟩
 have hspot : 0 < len → a.spot = none := by
  intro hl
  obtain ⟨us, _, _, hus, _, _, _⟩ := hg' 0 hl
  obtain ⟨hul, hu⟩ := cells_get hus
  rw [hc] at hul
  have : us[0]? = some (us[0]'(by omega)) := List.getElem?_eq_getElem _
  have := hu 0 _ this
  rw [Nat.zero_mul, Addr.add_zero', Addr.add_zero'] at this
  unfold World.cell? at this
  split at this
  ·split at this
   ·cases this
   ·rename_i hs; simpa using hs
  ·cases this
 suffices hk : ∀ k, k ≤ len → ∃ l : List e.T, l.length = k ∧ ((∀ x ∈ l, Val e x) ∧ ∀ bk : Bulk H, (l.map fun y => max 1 (szS e y)).sum ≤ bk.all ((xs.map (·.1)).take k)) ∧ ∃ us : List Value, us.length = k * e.cells ∧ All2 (RepI (Here w) w) (l.flatMap (enc e)) us ∧ ∀ j u, us[j]? = some u → w.cell? ⟨a.block, a.off + j, none⟩ = some u by
  obtain ⟨l, h1, h2, us, _, h3, h4⟩ := hk len (Nat.le_refl _)
  exact ⟨l, h1, ⟨h2.1, fun bk => by have := h2.2 bk; rwa [List.take_of_length_le (by simp [hxl])] at this⟩, us, h3, hspot, h4⟩
 intro k
 induction k with
 | zero => intro _; exact ⟨[], rfl, ⟨(fun x hx => by cases hx), fun bk => by simp⟩, [], by simp, .nil, fun j u hj => by simp at hj⟩
 | succ k ih =>
  intro hk
  obtain ⟨l, h1, h2, us, h3, h4, h5⟩ := ih (by omega)
  obtain ⟨vs, d, ps, hvs, htr, hdm, hdk⟩ := hg' k (by omega)
  obtain ⟨hvl, hv⟩ := cells_get hvs
  obtain ⟨x, hx1, hx2⟩ := he H en el hf fuel vs d ps htr (weights_mem hw d hdm)
  refine ⟨l ++ [x], by simp [h1], ⟨fun y hy => ?_, fun bk => ?_⟩, us ++ vs, by rw [List.length_append, h3, hvl, hc, Nat.add_mul, Nat.one_mul], ?_, fun j u hj => ?_⟩
  ·rcases List.mem_append.1 hy with hy | hy
   ·exact h2.1 y hy
   ·simp only [List.mem_singleton] at hy; subst hy; exact hx1.1
  ·have g1 := h2.2 bk
   have g2 := hx1.2 bk
   have g3 := bk.pos d
   rw [List.map_append, List.sum_append, List.take_add_one, hdk, bk.app]
   simp only [List.map_cons, List.map_nil, List.sum_cons, List.sum_nil, Option.toList, bk.cons, bk.nil]
   omega
  ·rw [List.flatMap_append]; simp only [List.flatMap_cons, List.flatMap_nil, List.append_nil]; exact h4.append hx2
  ·by_cases hj' : j < us.length
   ·rw [List.getElem?_append_left hj'] at hj; exact h5 j u hj
   ·rw [List.getElem?_append_right (by omega)] at hj
    have := hv _ u hj
    rw [addr_add_add a _ _ (hspot (by omega)), hc] at this
    rw [show a.off + j = a.off + k * e.cells + (j - us.length) by omega]
    exact this
def ReadFs (P : Program) (w : World) (s : Sh) : Prop := ∀ (H : Type) (en : TypeId × Value → H) (fs : List Field) (off n : Nat) (cs : List Value) (ys : List (DataW H × List MemPlace)), fitsFs P s fs off = true →
 off + s.cells ≤ cs.length → ys.length = fs.length → (∀ (i : Nat) (f : Field), fs[i]? = some f → DataW.trod en P w 0 (fun _ => true) true n f.type ((cs.drop f.offset).take (P.cellsOf f.type)) = ys[i]?) →
 (DataW.weightsEach P (fs.map (·.type)) (ys.map (·.1))).all Small = true → ∃ x : s.T, (Val s x ∧ ∀ bk : Bulk H, szS s x ≤ bk.all (ys.map (·.1))) ∧ All2 (RepI (Here w) w) (enc s x) ((cs.drop off).take s.cells)
def ReadAr (P : Program) (w : World) (s : Sh) : Prop := ∀ (H : Type) (en : TypeId × Value → H) (el : TypeId) (m off n : Nat) (cs : List Value) (ys : List (DataW H × List MemPlace)), fitsArr P s m el = true →
 off + s.cells ≤ cs.length → ys.length = m → (∀ (i : Nat), i < m → DataW.trod en P w 0 (fun _ => true) true n el ((cs.drop (off + i * P.cellsOf el)).take (P.cellsOf el)) = ys[i]?) →
 (DataW.weightsAll P el (ys.map (·.1))).all Small = true → ∃ x : s.T, (Val s x ∧ ∀ bk : Bulk H, szS s x ≤ bk.all (ys.map (·.1))) ∧ All2 (RepI (Here w) w) (enc s x) ((cs.drop off).take s.cells)
theorem take_two {α : Type} (cs : List α) (off a b : Nat) : (cs.drop off).take (a + b) = (cs.drop off).take a ++ (cs.drop (off + a)).take b := by
 rw [List.take_add, List.drop_drop]
theorem pr_fs {a b : Sh} (ha : ReadS P w a) (hb : ReadFs P w b) : ReadFs P w (.pr a b) := by
 intro H en fs off n cs ys hf hl hy hg hw
 cases fs with
 | nil => simp [fitsFs] at hf
 | cons f fs =>
  simp only [fitsFs, kA, decide_eq_true_eq] at hf
  obtain ⟨⟨⟨ho, hc⟩, hfa⟩, hfb⟩ := hf
  simp only [Sh.cells] at hl
  cases ys with
  | nil => simp at hy
  | cons y ys =>
   simp only [List.map_cons, DataW.weightsEach] at hw
   obtain ⟨hw1, hw2⟩ := all_append hw
   have h0 := hg 0 f rfl
   rw [ho, hc] at h0
   obtain ⟨x1, hx1, hr1⟩ := ha H en f.type hfa n _ y.1 y.2 h0 hw1
   obtain ⟨x2, hx2, hr2⟩ := hb H en fs (off + a.cells) n cs ys hfb (by omega) (by simpa using hy) (fun i g hi => hg (i + 1) g (by simpa using hi)) hw2
   refine ⟨(x1, x2), ⟨⟨hx1.1, hx2.1⟩, fun bk => by have g1 := hx1.2 bk; have g2 := hx2.2 bk; simp only [szS, List.map_cons, bk.cons]; omega⟩, ?_⟩
   simp only [enc, Sh.cells]
   rw [take_two]
   exact hr1.append hr2
theorem pr_ar {a b : Sh} (ha : ReadS P w a) (hb : ReadAr P w b) : ReadAr P w (.pr a b) := by
 intro H en el m off n cs ys hf hl hy hg hw
 cases m with
 | zero => simp [fitsArr] at hf
 | succ m =>
  simp only [fitsArr, kA, decide_eq_true_eq] at hf
  obtain ⟨⟨hfa, hc⟩, hfb⟩ := hf
  simp only [Sh.cells] at hl
  cases ys with
  | nil => simp at hy
  | cons y ys =>
   simp only [List.map_cons, DataW.weightsAll] at hw
   obtain ⟨hw1, hw2⟩ := all_append hw
   have h0 := hg 0 (by omega)
   rw [Nat.zero_mul, Nat.add_zero] at h0
   simp only [hc] at h0
   obtain ⟨x1, hx1, hr1⟩ := ha H en el hfa n _ y.1 y.2 h0 hw1
   obtain ⟨x2, hx2, hr2⟩ := hb H en el m (off + a.cells) n cs ys hfb (by omega) (by simpa using hy) (fun i hi => by
    have := hg (i + 1) (by omega)
    rw [Nat.add_mul, Nat.one_mul] at this
    rw [show off + a.cells + i * P.cellsOf el = off + (i * P.cellsOf el + P.cellsOf el) by omega]
    simpa using this) hw2
   refine ⟨(x1, x2), ⟨⟨hx1.1, hx2.1⟩, fun bk => by have g1 := hx1.2 bk; have g2 := hx2.2 bk; simp only [szS, List.map_cons, bk.cons]; omega⟩, ?_⟩
   simp only [enc, Sh.cells]
   rw [take_two]
   exact hr1.append hr2
theorem nil_fs : ReadFs P w .nil := by
 intro H en fs off n cs ys _ _ _ _ _
 exact ⟨(), ⟨trivial, fun bk => Nat.zero_le _⟩, by simp only [enc, Sh.cells, List.take_zero]; exact .nil⟩
theorem nil_ar : ReadAr P w .nil := by
 intro H en el m off n cs ys _ _ _ _ _
 exact ⟨(), ⟨trivial, fun bk => Nat.zero_le _⟩, by simp only [enc, Sh.cells, List.take_zero]; exact .nil⟩
theorem weights_of {H : Type} {t : TypeId} {parts : List (DataW H)} : DataW.weights P t (.agg parts) = match P.underlying t with
  | some (.struct fs) => DataW.weightsEach P (fs.toList.map (·.type)) parts
  | some (.array _ e) => DataW.weightsAll P e parts
  | _ => [] := by rw [DataW.weights]; rfl
theorem read_all : ∀ s : Sh, ReadS P w s ∧ ReadFs P w s ∧ ReadAr P w s := by
 intro s
 induction s with
 | int k =>
  refine ⟨?_, fun H en fs off n cs ys h => by cases fs <;> simp [fitsFs] at h, fun H en el m off n cs ys h => by cases m <;> simp [fitsArr] at h⟩
  intro H en t hf fuel cs d ps h hw
  simp only [fits] at hf
  split at hf
  ·rename_i k' hk
   simp only [decide_eq_true_eq] at hf; subst hf
   obtain ⟨n, rfl, _, hwf⟩ := DataW.trod_int hk h
   exact ⟨n, ⟨hwf, fun bk => bk.pos d⟩, .cons (by rw [RepI]; exact ⟨by rfl, rfl⟩) .nil⟩
  ·cases hf
 | bool =>
  refine ⟨?_, fun H en fs off n cs ys h => by cases fs <;> simp [fitsFs] at h, fun H en el m off n cs ys h => by cases m <;> simp [fitsArr] at h⟩
  intro H en t hf fuel cs d ps h hw
  simp only [fits] at hf
  split at hf
  ·rename_i hk
   obtain ⟨b, rfl, _⟩ := DataW.trod_bool hk h
   exact ⟨b, ⟨trivial, fun bk => bk.pos d⟩, .cons (by rw [RepI]; exact ⟨by rfl, rfl⟩) .nil⟩
  ·cases hf
 | str =>
  refine ⟨?_, fun H en fs off n cs ys h => by cases fs <;> simp [fitsFs] at h, fun H en el m off n cs ys h => by cases m <;> simp [fitsArr] at h⟩
  intro H en t hf fuel cs d ps h hw
  simp only [fits] at hf
  split at hf
  ·rename_i hk
   obtain ⟨s, rfl, hd, _⟩ := DataW.trod_string hk h
   cases hd
   refine ⟨s, ⟨?_, fun bk => by have := bk.str s.data.toList; rw [Array.length_toList] at this; exact this⟩, .cons (by rw [RepI]; exact ⟨by rfl, rfl⟩) .nil⟩
   rw [DataW.weights] at hw
   simp only [List.all_cons, List.all_nil, Bool.and_true, decide_eq_true_eq, Array.length_toList] at hw
   exact hw
  ·cases hf
 | nil =>
  refine ⟨?_, nil_fs, nil_ar⟩
  intro H en t hf fuel cs d ps h hw
  have hl : cs.length = 0 := by
   simp only [fits] at hf
   split at hf
   ·rename_i fs hk
    simp only [kA, decide_eq_true_eq] at hf
    obtain ⟨_, _, _, _, hl, _⟩ := DataW.trod_struct hk h
    rw [hl, hf.2]
   ·rename_i n e hk
    simp only [decide_eq_true_eq] at hf
    obtain ⟨_, _, _, _, hl, _⟩ := DataW.trod_array hk h
    rw [hl, hf.2]
   ·cases hf
  have : cs = [] := by simpa using hl
  subst this
  exact ⟨(), ⟨trivial, fun bk => Nat.zero_le _⟩, .nil⟩
 | sl by_ e ih =>
  refine ⟨?_, fun H en fs off n cs ys h => by cases fs <;> simp [fitsFs] at h, fun H en el m off n cs ys h => by cases m <;> simp [fitsArr] at h⟩
  intro H en t hf fuel cs d ps h hw
  simp only [fits] at hf
  split at hf
  ·rename_i el hk
   simp only [kA, decide_eq_true_eq] at hf
   obtain ⟨hfe, hc, h0, hby⟩ := hf
   rcases DataW.trod_slice hk h with ⟨rfl, hd⟩ | ⟨a, len, cap, elems, rest, n, rfl, rfl, hd, _, hle, hcap, hel, hget, _⟩
   ·refine ⟨(true, []), ⟨⟨fun _ => rfl, Nat.zero_le _, by simp, (fun y hy => by cases hy)⟩, fun bk => by simp [szS]⟩, .cons ?_ .nil⟩
    simp only [RepI]
    refine ⟨trivial, none, 0, [], rfl, ⟨fun _ => ⟨rfl, rfl, rfl⟩, (fun h => by cases h), fun _ => rfl, Nat.le_refl _, fun h => absurd rfl h⟩, ?_⟩
    simp only [List.flatMap_nil, RepIL]
   ·cases hd
    rw [DataW.weights, hk] at hw
    simp only [List.all_cons, kA, decide_eq_true_eq] at hw
    obtain ⟨hw0, hw1⟩ := hw
    obtain ⟨hw1, _⟩ := all_append hw1
    obtain ⟨l, hl, hv, us, hr, hspot, hcell⟩ := read_elems ih.1 hfe hc h0 hel hget hw1
    have hlen : len * by_ ≤ reachBytes := by
     simp only [List.length_map] at hw0
     rw [hel, hby] at hw0
     exact Nat.le_trans (Nat.mul_le_mul_right _ (Nat.le_add_right _ _)) hw0
    refine ⟨(false, l), ⟨⟨fun h => (by cases h), by rw [hl]; omega, by rw [hl]; exact hlen, hv.1⟩, fun bk => Nat.le_trans (hv.2 bk) (bk.slice _ _)⟩, .cons ?_ .nil⟩
    simp only [RepI]
    refine ⟨trivial, some a, cap, us, by rw [hl], ⟨fun h => (by cases h), fun _ => rfl, fun h => (by cases h), by omega, fun hx => ?_⟩, repIL_iff.2 hr⟩
    have hpos : 0 < len := by
     rcases Nat.eq_zero_or_pos len with hz | hz
     ·exfalso
      have : l = [] := List.eq_nil_of_length_eq_zero (by omega)
      subst this
      cases hr
      exact hx rfl
     ·exact hz
    refine ⟨a, rfl, hspot hpos, ?_, hcell⟩
    cases us with
    | nil => exact absurd rfl hx
    | cons u us =>
     have := hcell 0 u rfl
     unfold Here
     unfold World.cell? at this
     split at this
     ·rename_i hb
      exact (Array.getElem?_eq_some_iff.1 hb).1
     ·cases this
  ·cases hf
 | pr a b iha ihb =>
  refine ⟨?_, pr_fs iha.1 ihb.2.1, pr_ar iha.1 ihb.2.2⟩
  intro H en t hf fuel cs d ps h hw
  simp only [fits] at hf
  split at hf
  ·rename_i fs hk
   simp only [kA, decide_eq_true_eq] at hf
   obtain ⟨hf, hct⟩ := hf
   obtain ⟨xs, n, rfl, hd, hl, hxl, hg⟩ := DataW.trod_struct hk h
   cases hd
   rw [weights_of, hk] at hw
   have hfs : fitsFs P (.pr a b) fs.toList 0 = true := by
    simp only [fitsFs]
    split at hf
    ·rename_i f r hr
     simpa [hr] using hf
    ·cases hf
   obtain ⟨x, hx, hr⟩ := pr_fs iha.1 ihb.2.1 H en fs.toList 0 n cs xs hfs (by simp only [Sh.cells]; omega) (by simpa using hxl) (fun i f hi => hg i f (by simpa using hi)) hw
   refine ⟨x, ⟨hx.1, fun bk => Nat.le_trans (hx.2 bk) (bk.agg _)⟩, ?_⟩
   rw [List.drop_zero, List.take_of_length_le (by simp only [Sh.cells]; omega)] at hr
   exact hr
  ·rename_i m el hk
   simp only [kA, decide_eq_true_eq] at hf
   obtain ⟨⟨⟨hfa, hce⟩, hfb⟩, hct⟩ := hf
   obtain ⟨xs, n, rfl, hd, hl, hxl, hg⟩ := DataW.trod_array hk h
   cases hd
   rw [weights_of, hk] at hw
   have hfs : fitsArr P (.pr a b) (m + 1) el = true := by
    simp only [fitsArr, kA, decide_eq_true_eq]
    exact ⟨⟨hfa, hce⟩, hfb⟩
   obtain ⟨x, hx, hr⟩ := pr_ar iha.1 ihb.2.2 H en el (m + 1) 0 n cs xs hfs (by simp only [Sh.cells]; omega) (by simpa using hxl) (fun i hi => by simpa using hg i hi) hw
   refine ⟨x, ⟨hx.1, fun bk => Nat.le_trans (hx.2 bk) (bk.agg _)⟩, ?_⟩
   rw [List.drop_zero, List.take_of_length_le (by simp only [Sh.cells]; omega)] at hr
   exact hr
  ·cases hf
theorem repA_of_here {c : C} {u : Value} (h : RepI (Here w) w c u) : RepA (fun _ => False) (fun _ => (0, 0)) [] w c u := by
 cases c with
 | sc v => simpa only [RepI, RepA] using h
 | sl b nil capd cells n =>
  simp only [RepI] at h
  obtain ⟨rfl, a, cap, xs, rfl, ho, hl⟩ := h
  simp only [RepA]
  have key : ∀ b, Here w b → Free (fun _ => (0, 0)) [] w b := fun b h => ⟨h, fun _ _ h => by simp at h⟩
  exact ⟨a, cap, xs, rfl, ho.mono (fun b h => ⟨⟨key b h, fun _ h => h⟩, rfl⟩), RepIL.mono (fun b h => ⟨⟨key b h, fun h => h⟩, rfl⟩) cells xs hl⟩
 | _ => simp only [RepI] at h
theorem rep_of_here {c : C} {u : Value} (h : RepI (Here w) w c u) : Rep (fun _ => False) (fun _ => (0, 0)) [] w c u := by
 have := repA_of_here h
 cases c <;> first | exact this | (simp only [RepI] at h)
end
end Go.Lg
end
section
namespace Go.Lg
open Go.ChangeShapes Go.WideShapes Go.RowKit
def pOK (P : Program) : Bool :=
 P.follows .mixedOrders && P.funcs.toList.all (fun fn => !(fn.name == "runtime.NumGoroutine")) &&
 (List.range P.types.size).all fun t => (match P.types[t]? with | some i => (match i.desc with | .named _ u => (P.info? u).isSome | _ => true) | none => true) &&
  (match P.underlying t with | some (.array _ e) => (P.info? e).isSome | some (.struct fs) => fs.toList.all fun f => (P.info? f.type).isSome | _ => true)
theorem info_table {P : Program} {t : TypeId} (h : t < P.types.size) : P.info? t = P.types[t]? := by
 show P.toTables.info? t = _
 unfold Tables.info?
 rw [if_pos h]
theorem pOk_of {P : Program} (h : pOK P = true) : POk P := by
 simp only [pOK, kA, List.all_eq_true, List.mem_range] at h
 obtain ⟨⟨h1, h2⟩, h3⟩ := h
 refine ⟨fun f fn hf => ?_, fun t i hi => ?_, h1, fun t n e ht hu => ?_, fun t fs ht hu f hf => ?_⟩
 ·have := h2 fn (by simpa using List.mem_of_getElem? (l := P.funcs.toList) (i := f) (by simpa using hf))
  simpa using this
 ·unfold Program.underlying
  rw [hi]
  split
  ·rename_i n u r hu
   cases hu
   by_cases ht : t < P.types.size
   ·have := (h3 t ht).1
    rw [← info_table ht, hi] at this
    simp only at this
    obtain ⟨j, hj⟩ := Option.isSome_iff_exists.1 this
    exact ⟨_, by rw [hj]; rfl⟩
   ·have := Tables.info?_beyond ht hi
    cases this
  ·exact ⟨_, rfl⟩
  ·rename_i hu; cases hu
 ·have := (h3 t ht).2
  rw [hu] at this
  exact Option.isSome_iff_exists.1 this
 ·have := (h3 t ht).2
  rw [hu] at this
  simp only [List.all_eq_true] at this
  exact Option.isSome_iff_exists.1 (this f hf)
def annOK (P : Program) (A : Ann) : Bool :=
 (List.range P.funcs.size).all fun f => match P.funcs[f]? with
  | some fn => !A.may f || (match fn.body with | some c => codeOK A f fn.ntmps c | none => true)
  | none => true
theorem annOk_of {P : Program} {A : Ann} (h : annOK P A = true) (hS : ∀ f sp, A.spec f = some sp → SpOk P f sp ∧ SpHid sp := by intro f sp h; cases h) : AnnOk P A := by
 simp only [annOK, List.all_eq_true, List.mem_range] at h
 refine ⟨hS, fun f fn c hm hf hb => ?_⟩
 have := h f (Array.getElem?_eq_some_iff.1 hf).1
 simp only [hf, hb, Bool.or_eq_true, Bool.not_eq_true', hm] at this
 simpa using this
def argY (P : Program) (t : TypeId) (cs : List C) : Y :=
 if isAggT P t then .agg cs else match cs with | [c] => .one c | _ => .one .dead
def argsY (P : Program) : List TypeId → (S : Sh) → S.T → List Y
 | t :: ts, .pr a b, x => argY P t (enc a x.1) :: argsY P ts b x.2
 | _, _, _ => []
def fitsArgs (P : Program) : List TypeId → Sh → Bool
 | [], .nil => true
 | t :: ts, .pr a b => fits P a t && (isAggT P t || decide (a.cells = 1)) && fitsArgs P ts b
 | _, _ => false
section
variable {H : Type} {en : TypeId × Value → H} {P : Program} {w : World}
theorem okWide_form {r : Reach} {base : Nat} {t : TypeId} {v : Value} (h : Value.okWide P w r base t v) : if isAggT P t then ∃ cs, v = .agg cs else ∀ cs, v ≠ .agg cs := by
 unfold Value.okWide at h
 unfold isAggT
 split at h
 ·rename_i hu; rw [hu]; simp only [if_true]; obtain ⟨cs, h, _⟩ := h; exact ⟨cs, h⟩
 ·rename_i hu; rw [hu]; simp only [if_true]; obtain ⟨cs, h, _⟩ := h; exact ⟨cs, h⟩
 ·rename_i hn1 hn2
  rw [if_neg]
  ·rintro cs rfl
   unfold Cell.okWide at h
   split at h <;> first | (rename_i hh; cases hh; done) | (simp [Cell.ok] at h)
   all_goals rename_i h1 h2
   all_goals first | (cases h2; done) | skip
  ·split
   ·rename_i fs hu; exact absurd hu (hn1 fs)
   ·rename_i n e hu; exact absurd hu (hn2 n e)
   ·simp
theorem cells_single {v : Value} (h : ∀ cs, v ≠ .agg cs) : v.cells.toList = [v] := by
 cases v <;> first | rfl | exact absurd rfl (h _)
theorem read_arg {s : Sh} {t : TypeId} (hf : fits P s t = true) (h1 : isAggT P t = true ∨ s.cells = 1) {r : Reach} {base : Nat} {v : Value} (hv : Value.okWide P w r base t v) {d : DataW H} {ps : List MemPlace}
  (h : DataW.Trod en P w 0 (fun _ => true) true t v d ps) (hw : (d.weights P t).all Small = true) :
  ∃ x : s.T, (Val s x ∧ ∀ bk : Bulk H, szS s x ≤ bk.one d) ∧ RepY (fun _ => False) (fun _ => (0, 0)) [] w (argY P t (enc s x)) v := by
 obtain ⟨fuel, h⟩ := h
 obtain ⟨x, hx, hr⟩ := (read_all s).1 H en t hf fuel _ d ps h hw
 refine ⟨x, hx, ?_⟩
 have := okWide_form hv
 unfold argY
 split at this
 ·rename_i ha
  rw [if_pos ha]
  obtain ⟨cs, rfl⟩ := this
  exact ⟨cs.toList, by simp, hr.mono fun _ _ => rep_of_here⟩
 ·rename_i ha
  rw [if_neg ha]
  rw [cells_single this] at hr
  have hl := enc_len s x
  rw [h1.resolve_left ha] at hl
  obtain ⟨c, hc⟩ := List.length_eq_one_iff.1 hl
  rw [hc] at hr ⊢
  cases hr with
  | cons hr _ => exact rep_of_here hr
theorem read_args : ∀ {ts : List TypeId} {S : Sh} (_ : fitsArgs P ts S = true) {r : Reach} {base : Nat} {vs : List Value} {ds : List (DataW H)} {ps : List MemPlace}
  (_ : ∀ (j : Nat) t v, ts[j]? = some t → vs[j]? = some v → Value.okWide P w r base t v)
  (_ : DataW.TrodAll en P w 0 (fun _ => true) true ts vs ds ps) (_ : (DataW.weightsEach P ts ds).all Small = true),
  ∃ x : S.T, (Val S x ∧ ∀ bk : Bulk H, szS S x ≤ bk.all ds) ∧ All2 (RepY (fun _ => False) (fun _ => (0, 0)) [] w) (argsY P ts S x) vs := by
 intro ts
 induction ts with
 | nil =>
  intro S hf r base vs ds ps _ h _
  obtain ⟨rfl, rfl, rfl⟩ := trodAll_nil h
  cases S <;> first | (simp [fitsArgs] at hf; done) | skip
  exact ⟨(), ⟨trivial, fun bk => Nat.zero_le _⟩, .nil⟩
 | cons t ts ih =>
  intro S hf r base vs ds ps hv h hw
  obtain ⟨v, vs', d, ds', p, q, rfl, rfl, rfl, h1, h2⟩ := trodAll_cons h
  cases S <;> first | (simp [fitsArgs] at hf; done) | skip
  rename_i a b
  simp only [fitsArgs, kA, Bool.or_eq_true, decide_eq_true_eq] at hf
  obtain ⟨⟨hf1, hc⟩, hf2⟩ := hf
  simp only [DataW.weightsEach] at hw
  obtain ⟨hw1, hw2⟩ := all_append hw
  obtain ⟨x1, hx1, hr1⟩ := read_arg hf1 hc (hv 0 t v rfl rfl) h1 hw1
  obtain ⟨x2, hx2, hr2⟩ := ih hf2 (fun j t v ht hv' => hv (j + 1) t v (by simpa using ht) (by simpa using hv')) h2 hw2
  exact ⟨(x1, x2), ⟨⟨hx1.1, hx2.1⟩, fun bk => by have g1 := hx1.2 bk; have g2 := hx2.2 bk; simp only [szS, bk.cons]; omega⟩, .cons hr1 hr2⟩
theorem weightsEach_append : ∀ {ts us : List TypeId} {ds gs : List (DataW H)}, ds.length = ts.length → DataW.weightsEach P (ts ++ us) (ds ++ gs) = DataW.weightsEach P ts ds ++ DataW.weightsEach P us gs := by
 intro ts
 induction ts with
 | nil => intro us ds gs h; cases ds <;> simp_all [DataW.weightsEach]
 | cons t ts ih =>
  intro us ds gs h
  cases ds with
  | nil => simp at h
  | cons d ds => simp only [List.cons_append, DataW.weightsEach, ih (by simpa using h), List.append_assoc]
theorem trodAll_length : ∀ {ts : List TypeId} {vs : List Value} {ds : List (DataW H)} {ps : List MemPlace} {base : Nat} {spare : Nat → Bool} {held : Bool}, DataW.TrodAll en P w base spare held ts vs ds ps → ds.length = ts.length := by
 intro ts
 induction ts with
 | nil => intro vs ds ps _ _ _ h; obtain ⟨_, rfl, _⟩ := trodAll_nil h; rfl
 | cons t ts ih =>
  intro vs ds ps _ _ _ h
  obtain ⟨v, vs', d, ds', p, q, rfl, rfl, rfl, h1, h2⟩ := trodAll_cons h
  simp [ih h2]
theorem trod_lt' {t : TypeId} {v : Value} {d : DataW H} {ps : List MemPlace} (h : DataW.Trod en P w 0 (fun _ => true) true t v d ps) : ∀ x ∈ ps, x.block < w.heap.size := by
 obtain ⟨m, hm⟩ := h
 exact DataW.trod_lt m _ _ _ hm
theorem stay_args {w' : World} (laidOut : laidOutB P = true) (bel : Below w.heap.size w w') : ∀ {ts : List TypeId} (_ : ts.all (fun t => P.readableRec t && decide (t < P.types.size)) = true) {vs : List Value} {ds : List (DataW H)} {ps : List MemPlace}
  (_ : DataW.TrodAll en P w 0 (fun _ => true) true ts vs ds ps), DataW.TrodAll en P w' 0 (fun b => decide (b < w.heap.size)) true ts vs ds ps := by
 intro ts
 induction ts with
 | nil => intro _ vs ds ps h; obtain ⟨rfl, rfl, rfl⟩ := trodAll_nil h; exact trodAll_mk0
 | cons t ts ih =>
  intro hc vs ds ps h
  simp only [List.all_cons, kA, decide_eq_true_eq] at hc
  obtain ⟨v, vs', d, ds', p, q, rfl, rfl, rfl, h1, h2⟩ := trodAll_cons h
  exact trodAll_cons_mk (Below.trod laidOut hc.1.1 hc.1.2 h1 bel (trod_lt' h1)) (ih hc.2 h2)
end
theorem law_contract {H : Type} {en : TypeId × Value → H} {P : Program} {A : Ann} {S : Sh} {f : FuncId} {fn : Func} {s : ChangeSpec} {conds : List PathCond}
  (laidOut : laidOutB P = true) (hP : POk P) (hA : AnnOk P A) (hsh : fitsArgs P fn.params.toList S = true) (hrd : fn.params.toList.all (fun t => P.readableRec t && decide (t < P.types.size)) = true)
  (hres : ∃ t, fn.resultTypes = #[t] ∧ P.underlying t = some .bool) (hvars : s.vars = [])
  (hfn : ∀ ds : List (DataW H), ds.length = fn.params.size → s.fn H ds = { results := [.lit (.bool true)], args := ds })
  (run : ∀ x : S.T, Val S x → ∃ k H', runX P A k f (argsY P fn.params.toList S x) [] = some ([.one (.sc (.bool true))], H')) :
  ∀ (W : World) (base : Nat) (args : Array Value) (ds gs : List (DataW H)) (before : List MemPlace),
   (∀ (j : Nat) t v, fn.params[j]? = some t → args[j]? = some v → Value.okWide P W .any base t v) →
   DataW.Whole en P fn.params.toList s.vars false W args.toList ds gs before →
   conds.all (PathCond.test P ⟨fn.params.toList, ds, s.plain.varTypes P, gs⟩) = true →
   (DataW.weightsEach P (fn.params.toList ++ s.plain.varTypes P) (ds ++ gs)).all (· ≤ reachBytes) = true →
   Calls P f args W fun e W' => ∃ v, e = .returned v ∧ s.post en P fn false true false false W args v W' := by
 intro W base args ds gs before hval hW _ hw
 have hW' := hW
 obtain ⟨p, q, hA0, hV, rfl, _, _⟩ := hW
 rw [hvars] at hV
 have hdl := trodAll_length hA0
 rw [weightsEach_append hdl] at hw
 obtain ⟨hw1, _⟩ := all_append hw
 obtain ⟨x, hx, hr⟩ := read_args hsh (base := base) (r := .any) (fun j t v ht hv => hval j t v (by simpa using ht) (by simpa using hv)) hA0 hw1
 obtain ⟨k, H', hk⟩ := run x hx.1
 have := law_sound hP hA hk hr
 rw [show args.toList.toArray = args by simp] at this
 refine this.mono fun e W' he => ?_
 obtain ⟨rfl, bel⟩ := he
 obtain ⟨t, ht, hb⟩ := hres
 have hgs : gs = [] := by
  cases gs with
  | nil => rfl
  | cons g gs => simp [DataW.TrodVars] at hV
 subst hgs
 refine ⟨_, rfl, ds, [], _, [], p, [], hW', ?_, ?_, ?_, bel.frame _, fun h => by cases h⟩
 ·rw [List.append_nil, hfn ds (by simpa using hdl), ht]
  exact trodAll_mk1 (shut_bool hb _)
 ·rw [List.append_nil, hfn ds (by simpa using hdl)]
  exact stay_args laidOut bel hrd hA0
 ·rw [List.append_nil, hfn ds (by simpa using hdl), hvars]
  rfl
end Go.Lg
end
section
namespace Go.Lg
def LeK (K K' : Callee) : Prop := ∀ f as H r, K f as H = some r → K' f as H = some r
section
variable {P : Program} {A : Ann} {K K' : Callee}
theorem callX_le (h : LeK K K') {f : FuncId} {as : List Y} {H : Heap} {r : X × Heap} (hc : callX A K f as H = some r) : callX A K' f as H = some r := by
 unfold callX at hc ⊢
 split at hc
 ·rename_i hp
  rw [if_pos hp]
  simp only [kB] at hc ⊢
  obtain ⟨as', h1, ⟨rs, H'⟩, h2, h3⟩ := hc
  exact ⟨as', h1, (rs, H'), h _ _ _ _ h2, h3⟩
 ·rename_i hp
  rw [if_neg hp]
  simp only [kM] at hc ⊢
  obtain ⟨⟨rs, H'⟩, h2, h3⟩ := hc
  exact ⟨(rs, H'), h _ _ _ _ h2, h3⟩
theorem opX_le (h : LeK K K') {ρ : Operand → X} {H : Heap} {o : Oper} {r : X × Heap} (hc : opX P A K ρ H o = some r) : opX P A K' ρ H o = some r := by
 obtain ⟨dst, op, ty, pos, after, guard⟩ := o
 cases op with
 | call c =>
  simp only [opX] at hc ⊢
  split at hc
  ·exact hc
  ·rename_i f hf
   split at hc
   ·rename_i g first cap hg
    simp only [kB] at hc ⊢
    obtain ⟨as, h1, h2⟩ := hc
    exact ⟨as, h1, callX_le h h2⟩
   ·cases hc
  ·cases hc
 | _ => exact hc
theorem opD_le (h : LeK K K') {mk : Msk} {e : Env} {H : Heap} {o : Oper} {r : X × Heap} (hc : opD P A K mk e H o = some r) : opD P A K' mk e H o = some r := by
 unfold opD at hc ⊢
 split at hc
 ·exact opX_le h hc
 ·simp only [kM] at hc ⊢
  obtain ⟨x, h1, h2⟩ := hc
  exact ⟨x, opX_le h h1, h2⟩
 ·split at hc
  ·rename_i hM
   rw [if_pos hM]
   simp only [kM] at hc ⊢
   obtain ⟨x, h1, h2⟩ := hc
   exact ⟨x, opX_le h h1, h2⟩
  ·cases hc
 ·exact hc
theorem opsX_le (h : LeK K K') {mk : Nat → Msk} {ops : Array Oper} : ∀ {is : List Nat} {e : Env} {H : Heap} {r : Env × Heap}, opsX P A K mk ops is e H = some r → opsX P A K' mk ops is e H = some r := by
 intro is
 induction is with
 | nil => intro e H r hc; exact hc
 | cons i is ih =>
  intro e H r hc
  cases ho : ops[i]? with
  | none => simp only [opsX, ho] at hc ⊢; exact ih hc
  | some o =>
   simp only [opsX, ho, kB] at hc ⊢
   obtain ⟨b, hb, hc⟩ := hc
   refine ⟨b, hb, ?_⟩
   cases b with
   | true =>
    simp only [if_true, kB] at hc ⊢
    obtain ⟨⟨v, H1⟩, h1, h2⟩ := hc
    exact ⟨(v, H1), opD_le h h1, ih h2⟩
   | false =>
    simp only [Bool.false_eq_true, if_false] at hc ⊢
    exact ih hc
theorem code_le (h : LeK K K') {f : FuncId} : ∀ (k k' : Nat), k ≤ k' →
  (∀ c e H r, codeX P A K f k c e H = some r → codeX P A K' f k' c e H = some r) ∧
  (∀ c an n e H r, loopX P A K f k c an n e H = some r → loopX P A K' f k' c an n e H = some r) ∧
  (∀ c s e H r, scopeX P A K f k c s e H = some r → scopeX P A K' f k' c s e H = some r) := by
 intro k
 induction k with
 | zero => intro k' _; refine ⟨fun c e H r hc => ?_, fun c an n e H r hc => ?_, fun c s e H r hc => ?_⟩ <;> simp [codeX, loopX, scopeX] at hc
 | succ k ih =>
  intro k' hk
  obtain ⟨m, rfl⟩ : ∃ m, k' = m + 1 := ⟨k' - 1, by omega⟩
  obtain ⟨i1, i2, i3⟩ := ih m (by omega)
  refine ⟨fun c e H r hc => ?_, fun c an n e H r hc => ?_, fun c s e H r hc => ?_⟩
  ·cases c with
   | region id ops draw =>
    simp only [codeX, kM] at hc ⊢
    obtain ⟨x, h1, h2⟩ := hc
    exact ⟨x, opsX_le h h1, h2⟩
   | seq a b =>
    simp only [codeX, kB] at hc ⊢
    obtain ⟨⟨x, e1, H1⟩, h1, h2⟩ := hc
    refine ⟨(x, e1, H1), i1 _ _ _ _ h1, ?_⟩
    cases x with
    | normal => exact i1 _ _ _ _ h2
    | _ => exact h2
   | cond c a b =>
    simp only [codeX] at hc ⊢
    split at hc
    ·rename_i t ht
     cases t with
     | true => exact i1 _ _ _ _ hc
     | false => exact i1 _ _ _ _ hc
    ·cases hc
   | block id c =>
    simp only [codeX, kM] at hc ⊢
    obtain ⟨x, h1, h2⟩ := hc
    exact ⟨x, i1 _ _ _ _ h1, h2⟩
   | loop c => simp only [codeX] at hc ⊢; exact i2 _ _ _ _ _ _ hc
   | scope c => simp only [codeX] at hc ⊢; exact i3 _ _ _ _ _ hc
   | _ => first | (simp only [codeX] at hc ⊢; exact hc) | (simp [codeX] at hc)
  ·simp only [loopX, kB] at hc ⊢
   obtain ⟨⟨x, e1, H1⟩, h1, h2⟩ := hc
   refine ⟨(x, e1, H1), i1 _ _ _ _ h1, ?_⟩
   cases x with
   | normal =>
    simp only [kB] at h2 ⊢
    obtain ⟨H2, h3, h4⟩ := h2
    exact ⟨H2, h3, i2 _ _ _ _ _ _ h4⟩
   | _ => exact h2
  ·simp only [scopeX, kB] at hc ⊢
   obtain ⟨⟨x, e1, H1⟩, h1, h2⟩ := hc
   refine ⟨(x, e1, H1), i1 _ _ _ _ h1, ?_⟩
   cases x with
   | goto l =>
    simp only at h2 ⊢
    split at h2
    ·rename_i rest hr; exact i3 _ _ _ _ _ h2
    ·exact h2
   | _ => exact h2
theorem run_le : ∀ (k k' : Nat), k ≤ k' → LeK (runX P A k) (runX P A k') := by
 intro k
 induction k with
 | zero => intro k' _ f as H r hc; simp [runX] at hc
 | succ k ih =>
  intro k' hk f as H r hc
  obtain ⟨m, rfl⟩ : ∃ m, k' = m + 1 := ⟨k' - 1, by omega⟩
  unfold runX at hc ⊢
  split at hc
  ·rename_i hm
   rw [if_pos hm]
   simp only [kB] at hc ⊢
   obtain ⟨fn, h1, c, h2, hc⟩ := hc
   refine ⟨fn, h1, c, h2, ?_⟩
   split at hc
   ·rename_i hl
    rw [if_pos hl]
    simp only [kB] at hc ⊢
    obtain ⟨x, h3, h4⟩ := hc
    exact ⟨x, (code_le (ih m (by omega)) k m (by omega)).1 _ _ _ _ h3, h4⟩
   ·cases hc
  ·rename_i hm
   rw [if_neg hm]
   exact hc
def Runs (P : Program) (A : Ann) (f : FuncId) (args : List Y) (H : Heap) (rs : List Y) (H' : Heap) : Prop := ∃ k, runX P A k f args H = some (rs, H')
def Does (P : Program) (A : Ann) (f : FuncId) (c : Code) (e : Env) (H : Heap) (x : Ex) (e' : Env) (H' : Heap) : Prop := ∃ k, codeX P A (runX P A k) f k c e H = some (x, e', H')
def Ops (P : Program) (A : Ann) (mk : Nat → Msk) (ops : Array Oper) (is : List Nat) (e : Env) (H : Heap) (e' : Env) (H' : Heap) : Prop := ∃ k, opsX P A (runX P A k) mk ops is e H = some (e', H')
def Loops (P : Program) (A : Ann) (f : FuncId) (c : Code) (an : Option (List Nat × Bool)) (n : Nat) (e : Env) (H : Heap) (x : Ex) (e' : Env) (H' : Heap) : Prop := ∃ k, loopX P A (runX P A k) f k c an n e H = some (x, e', H')
variable {f : FuncId} {e e1 e2 : Env} {H H1 H2 : Heap} {x : Ex}
theorem Does.seq {a b : Code} (h1 : Does P A f a e H .normal e1 H1) (h2 : Does P A f b e1 H1 x e2 H2) : Does P A f (.seq a b) e H x e2 H2 := by
 obtain ⟨k1, h1⟩ := h1
 obtain ⟨k2, h2⟩ := h2
 refine ⟨max k1 k2 + 1, ?_⟩
 have g1 := (code_le (run_le k1 (max k1 k2 + 1) (by omega)) k1 (max k1 k2) (by omega)).1 _ _ _ _ h1
 have g2 := (code_le (run_le k2 (max k1 k2 + 1) (by omega)) k2 (max k1 k2) (by omega)).1 _ _ _ _ h2
 simp only [codeX, g1, kS]
 exact g2
theorem Does.seqX {a b : Code} (h1 : Does P A f a e H x e1 H1) (hx : x ≠ .normal) : Does P A f (.seq a b) e H x e1 H1 := by
 obtain ⟨k1, h1⟩ := h1
 refine ⟨k1 + 1, ?_⟩
 have g1 := (code_le (run_le k1 (k1 + 1) (by omega)) k1 k1 (by omega)).1 _ _ _ _ h1
 simp only [codeX, g1, kS]
theorem Does.region {id : Nat} {ops : Array Oper} {d : Bool} (h : Ops P A (mkM (A.mask f id) (A.late f id) H.length) ops (List.range ops.size) e (holesX (A.late f id) H) e1 H1) : Does P A f (.region id ops d) e H .normal (match A.live f id with | some l => restrict l e1 | none => e1) H1 := by
 obtain ⟨k, h⟩ := h
 exact ⟨k + 1, by simp only [codeX, opsX_le (run_le k (k + 1) (by omega)) h, kT]; rfl⟩
theorem Does.condT {c : Operand} {a b : Code} (hc : ev e c = .y (.one (.sc (.bool true)))) (h : Does P A f a e H x e1 H1) : Does P A f (.cond c a b) e H x e1 H1 := by
 obtain ⟨k, h⟩ := h
 refine ⟨k + 1, ?_⟩
 have g1 := (code_le (run_le k (k + 1) (by omega)) k k (by omega)).1 _ _ _ _ h
 simp only [codeX, hc, if_true, g1]
theorem Does.condF {c : Operand} {a b : Code} (hc : ev e c = .y (.one (.sc (.bool false)))) (h : Does P A f b e H x e1 H1) : Does P A f (.cond c a b) e H x e1 H1 := by
 obtain ⟨k, h⟩ := h
 refine ⟨k + 1, ?_⟩
 have g1 := (code_le (run_le k (k + 1) (by omega)) k k (by omega)).1 _ _ _ _ h
 simp only [codeX, hc, Bool.false_eq_true, if_false, g1]
def leave (id : Nat) : Ex → Ex
 | .exit id' => if id' = id then .normal else .exit id'
 | x => x
theorem Does.block {id : Nat} {c : Code} (h : Does P A f c e H x e1 H1) : Does P A f (.block id c) e H (leave id x) e1 H1 := by
 obtain ⟨k, h⟩ := h
 refine ⟨k + 1, ?_⟩
 have g1 := (code_le (run_le k (k + 1) (by omega)) k k (by omega)).1 _ _ _ _ h
 simp only [codeX, g1, kT]
 cases x <;> rfl
theorem Does.loop {c : Code} (h : Loops P A f c ((firstRegion c).bind (A.loop f)) H.length (headX ((firstRegion c).bind (A.loop f)) e) H x e1 H1) : Does P A f (.loop c) e H x e1 H1 := by
 obtain ⟨k, h⟩ := h
 refine ⟨k + 1, ?_⟩
 have g1 := (code_le (run_le k (k + 1) (by omega)) k k (by omega)).2.1 _ _ _ _ _ _ h
 simp only [codeX, g1]
theorem Does.skip : Does P A f .skip e H .normal e H := ⟨1, rfl⟩
theorem Does.label {l : Nat} : Does P A f (.label l) e H .normal e H := ⟨1, rfl⟩
theorem Does.exit {id : Nat} : Does P A f (.exit id) e H (.exit id) e H := ⟨1, rfl⟩
theorem Does.goto {l : Nat} : Does P A f (.goto l) e H (.goto l) e H := ⟨1, rfl⟩
theorem Does.ret : Does P A f .ret e H .ret e H := ⟨1, rfl⟩
theorem Loops.round {c : Code} {an : Option (List Nat × Bool)} {n : Nat} {H1' : Heap} (h1 : Does P A f c e H .normal e1 H1) (ht : (match an with | some (_, true) => truncX n (headX an e1) H1 | _ => some H1) = some H1')
  (h2 : Loops P A f c an n (headX an e1) H1' x e2 H2) : Loops P A f c an n e H x e2 H2 := by
 obtain ⟨k1, h1⟩ := h1
 obtain ⟨k2, h2⟩ := h2
 refine ⟨max k1 k2 + 1, ?_⟩
 have g1 := (code_le (run_le k1 (max k1 k2 + 1) (by omega)) k1 (max k1 k2) (by omega)).1 _ _ _ _ h1
 have g2 := (code_le (run_le k2 (max k1 k2 + 1) (by omega)) k2 (max k1 k2) (by omega)).2.1 _ _ _ _ _ _ h2
 unfold loopX
 rw [g1]
 simp only [kS]
 exact (congrArg (fun o => Option.bind o _) ht).trans g2
theorem Loops.last {c : Code} {an : Option (List Nat × Bool)} {n : Nat} (h1 : Does P A f c e H x e1 H1) (hx : x ≠ .normal) : Loops P A f c an n e H x e1 H1 := by
 obtain ⟨k1, h1⟩ := h1
 refine ⟨k1 + 1, ?_⟩
 have g1 := (code_le (run_le k1 (k1 + 1) (by omega)) k1 k1 (by omega)).1 _ _ _ _ h1
 unfold loopX
 rw [g1]
 simp only [kS]
theorem Ops.nil {mk : Nat → Msk} {ops : Array Oper} : Ops P A mk ops [] e H e H := ⟨0, rfl⟩
theorem Ops.cons {mk : Nat → Msk} {ops : Array Oper} {i : Nat} {is : List Nat} {o : Oper} {v : X} (ho : ops[i]? = some o) (hw : wantX ops (get e) o = some true) (hv : ∃ k, opD P A (runX P A k) (mk i) e H o = some (v, H1))
  (h : Ops P A mk ops is (putD o.dst v e) H1 e2 H2) : Ops P A mk ops (i :: is) e H e2 H2 := by
 obtain ⟨k1, h1⟩ := hv
 obtain ⟨k2, h2⟩ := h
 refine ⟨max k1 k2, ?_⟩
 unfold opsX
 simp only [ho, hw, kS, if_true]
 rw [opD_le (run_le k1 (max k1 k2) (by omega)) h1]
 exact opsX_le (run_le k2 (max k1 k2) (by omega)) h2
theorem Ops.skip {mk : Nat → Msk} {ops : Array Oper} {i : Nat} {is : List Nat} {o : Oper} (ho : ops[i]? = some o) (hw : wantX ops (get e) o = some false)
  (h : Ops P A mk ops is (putD o.dst .undef e) H e2 H2) : Ops P A mk ops (i :: is) e H e2 H2 := by
 obtain ⟨k2, h2⟩ := h
 refine ⟨k2, ?_⟩
 unfold opsX
 simp only [ho, hw, kS, Bool.false_eq_true, if_false]
 exact h2
theorem Runs.mk {g : FuncId} {fn : Func} {c : Code} {args rs : List Y} (hm : A.may g = true) (hgc : A.gc g = false) (hf : P.funcs[g]? = some fn) (hb : fn.body = some c) (hl : args.length ≤ fn.ntmps)
  (h : Does P A g c (args.zipIdx.map fun p => (p.2, .y p.1)) H x e1 H1) (hx : x = .normal ∨ x = .ret) (hr : fn.results.toList.mapM (resX P e1 H1) = some rs) : Runs P A g args H rs H1 := by
 obtain ⟨k, h⟩ := h
 refine ⟨k + 1, ?_⟩
 unfold runX
 rw [if_pos hm, hf]
 simp only [kS, hb, if_pos hl, h]
 rcases hx with rfl | rfl <;> simp only [hr, kT, gcX, hgc, Bool.false_and, Bool.false_eq_true, if_false]
theorem Runs.call {g : FuncId} {as rs : List Y} (hp : A.pureFn g = false) (h : Runs P A g as H rs H1) : ∃ k, callX A (runX P A k) g as H = some (pack rs, H1) := by
 obtain ⟨k, h⟩ := h
 exact ⟨k, by unfold callX; rw [if_neg (by simp [hp]), h]; rfl⟩
theorem Runs.pure {g : FuncId} {as as' rs rs' : List Y} {H' : Heap} (hp : A.pureFn g = true) (ha : as.mapM (snapY H) = some as') (h : Runs P A g as' [] rs H') (hr : rs.mapM (backY H') = some rs') : ∃ k, callX A (runX P A k) g as H = some (pack rs', H) := by
 obtain ⟨k, h⟩ := h
 exact ⟨k, by unfold callX; rw [if_pos hp, ha]; simp only [kS, h, hr, kT]⟩
end
end Go.Lg
end
