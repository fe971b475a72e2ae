/-
 X, part 17: A STATEMENT's FRAME: the closed facts, checked by a Bool; from 'X comes to true on each typed input' to the row's step.
-/
import Derived.Test.YtoieblpjklbmoaaX16
import Derived.ChangeMade
import Derived.Carry
import Derived.SizedLaws
import Derived.ChangeShapes
import Derived.WideShapes
import Derived.KernelRfl
namespace Go.Lg
open Go.ChangeShapes Go.WideShapes Go.RowKit
def pOK (P : Program) : Bool :=
 P.follows .mixedOrders && P.funcs.toList.all (fun fn => !(fn.name == "runtime.NumGoroutine")) &&
 (List.range P.types.size).all fun t => (match P.types[t]? with | some i => (match i.desc with | .named _ u => (P.info? u).isSome | _ => true) | none => true) &&
  (match P.underlying t with | some (.array _ e) => (P.info? e).isSome | some (.struct fs) => fs.toList.all fun f => (P.info? f.type).isSome | _ => true)
theorem info_table {P : Program} {t : TypeId} (h : t < P.types.size) : P.info? t = P.types[t]? := by
 show P.toTables.info? t = _
 unfold Tables.info?
 rw [if_pos h]
theorem pOk_of {P : Program} (h : pOK P = true) : POk P := by
 simp only [pOK, kA, List.all_eq_true, List.mem_range] at h
 obtain ⟨⟨h1, h2⟩, h3⟩ := h
 refine ⟨fun f fn hf => ?_, fun t i hi => ?_, h1, fun t n e ht hu => ?_, fun t fs ht hu f hf => ?_⟩
 ·have := h2 fn (by simpa using List.mem_of_getElem? (l := P.funcs.toList) (i := f) (by simpa using hf))
  simpa using this
 ·unfold Program.underlying
  rw [hi]
  split
  ·rename_i n u r hu
   cases hu
   by_cases ht : t < P.types.size
   ·have := (h3 t ht).1
    rw [← info_table ht, hi] at this
    simp only at this
    obtain ⟨j, hj⟩ := Option.isSome_iff_exists.1 this
    exact ⟨_, by rw [hj]; rfl⟩
   ·have := Tables.info?_beyond ht hi
    cases this
  ·exact ⟨_, rfl⟩
  ·rename_i hu; cases hu
 ·have := (h3 t ht).2
  rw [hu] at this
  exact Option.isSome_iff_exists.1 this
 ·have := (h3 t ht).2
  rw [hu] at this
  simp only [List.all_eq_true] at this
  exact Option.isSome_iff_exists.1 (this f hf)
def annOK (P : Program) (A : Ann) : Bool :=
 (List.range P.funcs.size).all fun f => match P.funcs[f]? with
  | some fn => !A.may f || (match fn.body with | some c => codeOK A f fn.ntmps c | none => true)
  | none => true
theorem annOk_of {P : Program} {A : Ann} (h : annOK P A = true) (hS : ∀ f sp, A.spec f = some sp → SpOk P f sp ∧ SpHid sp := by intro f sp h; cases h) : AnnOk P A := by
 simp only [annOK, List.all_eq_true, List.mem_range] at h
 refine ⟨hS, fun f fn c hm hf hb => ?_⟩
 have := h f (Array.getElem?_eq_some_iff.1 hf).1
 simp only [hf, hb, Bool.or_eq_true, Bool.not_eq_true', hm] at this
 simpa using this
def argY (P : Program) (t : TypeId) (cs : List C) : Y :=
 if isAggT P t then .agg cs else match cs with | [c] => .one c | _ => .one .dead
def argsY (P : Program) : List TypeId → (S : Sh) → S.T → List Y
 | t :: ts, .pr a b, x => argY P t (enc a x.1) :: argsY P ts b x.2
 | _, _, _ => []
def fitsArgs (P : Program) : List TypeId → Sh → Bool
 | [], .nil => true
 | t :: ts, .pr a b => fits P a t && (isAggT P t || decide (a.cells = 1)) && fitsArgs P ts b
 | _, _ => false
section
variable {H : Type} {en : TypeId × Value → H} {P : Program} {w : World}
theorem okWide_form {r : Reach} {base : Nat} {t : TypeId} {v : Value} (h : Value.okWide P w r base t v) : if isAggT P t then ∃ cs, v = .agg cs else ∀ cs, v ≠ .agg cs := by
 unfold Value.okWide at h
 unfold isAggT
 split at h
 ·rename_i hu; rw [hu]; simp only [if_true]; obtain ⟨cs, h, _⟩ := h; exact ⟨cs, h⟩
 ·rename_i hu; rw [hu]; simp only [if_true]; obtain ⟨cs, h, _⟩ := h; exact ⟨cs, h⟩
 ·rename_i hn1 hn2
  rw [if_neg]
  ·rintro cs rfl
   unfold Cell.okWide at h
   split at h <;> first | (rename_i hh; cases hh; done) | (simp [Cell.ok] at h)
   all_goals rename_i h1 h2
   all_goals first | (cases h2; done) | skip
  ·split
   ·rename_i fs hu; exact absurd hu (hn1 fs)
   ·rename_i n e hu; exact absurd hu (hn2 n e)
   ·simp
theorem cells_single {v : Value} (h : ∀ cs, v ≠ .agg cs) : v.cells.toList = [v] := by
 cases v <;> first | rfl | exact absurd rfl (h _)
theorem read_arg {s : Sh} {t : TypeId} (hf : fits P s t = true) (h1 : isAggT P t = true ∨ s.cells = 1) {r : Reach} {base : Nat} {v : Value} (hv : Value.okWide P w r base t v) {d : DataW H} {ps : List MemPlace}
  (h : DataW.Trod en P w 0 (fun _ => true) true t v d ps) (hw : (d.weights P t).all Small = true) :
  ∃ x : s.T, (Val s x ∧ ∀ bk : Bulk H, szS s x ≤ bk.one d) ∧ RepY (fun _ => False) (fun _ => (0, 0)) [] w (argY P t (enc s x)) v := by
 obtain ⟨fuel, h⟩ := h
 obtain ⟨x, hx, hr⟩ := (read_all s).1 H en t hf fuel _ d ps h hw
 refine ⟨x, hx, ?_⟩
 have := okWide_form hv
 unfold argY
 split at this
 ·rename_i ha
  rw [if_pos ha]
  obtain ⟨cs, rfl⟩ := this
  exact ⟨cs.toList, by simp, hr.mono fun _ _ => rep_of_here⟩
 ·rename_i ha
  rw [if_neg ha]
  rw [cells_single this] at hr
  have hl := enc_len s x
  rw [h1.resolve_left ha] at hl
  obtain ⟨c, hc⟩ := List.length_eq_one_iff.1 hl
  rw [hc] at hr ⊢
  cases hr with
  | cons hr _ => exact rep_of_here hr
theorem read_args : ∀ {ts : List TypeId} {S : Sh} (_ : fitsArgs P ts S = true) {r : Reach} {base : Nat} {vs : List Value} {ds : List (DataW H)} {ps : List MemPlace}
  (_ : ∀ (j : Nat) t v, ts[j]? = some t → vs[j]? = some v → Value.okWide P w r base t v)
  (_ : DataW.TrodAll en P w 0 (fun _ => true) true ts vs ds ps) (_ : (DataW.weightsEach P ts ds).all Small = true),
  ∃ x : S.T, (Val S x ∧ ∀ bk : Bulk H, szS S x ≤ bk.all ds) ∧ All2 (RepY (fun _ => False) (fun _ => (0, 0)) [] w) (argsY P ts S x) vs := by
 intro ts
 induction ts with
 | nil =>
  intro S hf r base vs ds ps _ h _
  obtain ⟨rfl, rfl, rfl⟩ := trodAll_nil h
  cases S <;> first | (simp [fitsArgs] at hf; done) | skip
  exact ⟨(), ⟨trivial, fun bk => Nat.zero_le _⟩, .nil⟩
 | cons t ts ih =>
  intro S hf r base vs ds ps hv h hw
  obtain ⟨v, vs', d, ds', p, q, rfl, rfl, rfl, h1, h2⟩ := trodAll_cons h
  cases S <;> first | (simp [fitsArgs] at hf; done) | skip
  rename_i a b
  simp only [fitsArgs, kA, Bool.or_eq_true, decide_eq_true_eq] at hf
  obtain ⟨⟨hf1, hc⟩, hf2⟩ := hf
  simp only [DataW.weightsEach] at hw
  obtain ⟨hw1, hw2⟩ := all_append hw
  obtain ⟨x1, hx1, hr1⟩ := read_arg hf1 hc (hv 0 t v rfl rfl) h1 hw1
  obtain ⟨x2, hx2, hr2⟩ := ih hf2 (fun j t v ht hv' => hv (j + 1) t v (by simpa using ht) (by simpa using hv')) h2 hw2
  exact ⟨(x1, x2), ⟨⟨hx1.1, hx2.1⟩, fun bk => by have g1 := hx1.2 bk; have g2 := hx2.2 bk; simp only [szS, bk.cons]; omega⟩, .cons hr1 hr2⟩
theorem weightsEach_append : ∀ {ts us : List TypeId} {ds gs : List (DataW H)}, ds.length = ts.length → DataW.weightsEach P (ts ++ us) (ds ++ gs) = DataW.weightsEach P ts ds ++ DataW.weightsEach P us gs := by
 intro ts
 induction ts with
 | nil => intro us ds gs h; cases ds <;> simp_all [DataW.weightsEach]
 | cons t ts ih =>
  intro us ds gs h
  cases ds with
  | nil => simp at h
  | cons d ds => simp only [List.cons_append, DataW.weightsEach, ih (by simpa using h), List.append_assoc]
theorem trodAll_length : ∀ {ts : List TypeId} {vs : List Value} {ds : List (DataW H)} {ps : List MemPlace} {base : Nat} {spare : Nat → Bool} {held : Bool}, DataW.TrodAll en P w base spare held ts vs ds ps → ds.length = ts.length := by
 intro ts
 induction ts with
 | nil => intro vs ds ps _ _ _ h; obtain ⟨_, rfl, _⟩ := trodAll_nil h; rfl
 | cons t ts ih =>
  intro vs ds ps _ _ _ h
  obtain ⟨v, vs', d, ds', p, q, rfl, rfl, rfl, h1, h2⟩ := trodAll_cons h
  simp [ih h2]
theorem trod_lt' {t : TypeId} {v : Value} {d : DataW H} {ps : List MemPlace} (h : DataW.Trod en P w 0 (fun _ => true) true t v d ps) : ∀ x ∈ ps, x.block < w.heap.size := by
 obtain ⟨m, hm⟩ := h
 exact DataW.trod_lt m _ _ _ hm
theorem stay_args {w' : World} (laidOut : laidOutB P = true) (bel : Below w.heap.size w w') : ∀ {ts : List TypeId} (_ : ts.all (fun t => P.readableRec t && decide (t < P.types.size)) = true) {vs : List Value} {ds : List (DataW H)} {ps : List MemPlace}
  (_ : DataW.TrodAll en P w 0 (fun _ => true) true ts vs ds ps), DataW.TrodAll en P w' 0 (fun b => decide (b < w.heap.size)) true ts vs ds ps := by
 intro ts
 induction ts with
 | nil => intro _ vs ds ps h; obtain ⟨rfl, rfl, rfl⟩ := trodAll_nil h; exact trodAll_mk0
 | cons t ts ih =>
  intro hc vs ds ps h
  simp only [List.all_cons, kA, decide_eq_true_eq] at hc
  obtain ⟨v, vs', d, ds', p, q, rfl, rfl, rfl, h1, h2⟩ := trodAll_cons h
  exact trodAll_cons_mk (Below.trod laidOut hc.1.1 hc.1.2 h1 bel (trod_lt' h1)) (ih hc.2 h2)
end
/-- What each row of this kind asks of its call. -/
theorem law_contract {H : Type} {en : TypeId × Value → H} {P : Program} {A : Ann} {S : Sh} {f : FuncId} {fn : Func} {s : ChangeSpec} {conds : List PathCond}
  (laidOut : laidOutB P = true) (hP : POk P) (hA : AnnOk P A) (hsh : fitsArgs P fn.params.toList S = true) (hrd : fn.params.toList.all (fun t => P.readableRec t && decide (t < P.types.size)) = true)
  (hres : ∃ t, fn.resultTypes = #[t] ∧ P.underlying t = some .bool) (hvars : s.vars = [])
  (hfn : ∀ ds : List (DataW H), ds.length = fn.params.size → s.fn H ds = { results := [.lit (.bool true)], args := ds })
  (run : ∀ x : S.T, Val S x → ∃ k H', runX P A k f (argsY P fn.params.toList S x) [] = some ([.one (.sc (.bool true))], H')) :
  ∀ (W : World) (base : Nat) (args : Array Value) (ds gs : List (DataW H)) (before : List MemPlace),
   (∀ (j : Nat) t v, fn.params[j]? = some t → args[j]? = some v → Value.okWide P W .any base t v) →
   DataW.Whole en P fn.params.toList s.vars false W args.toList ds gs before →
   conds.all (PathCond.test P ⟨fn.params.toList, ds, s.plain.varTypes P, gs⟩) = true →
   (DataW.weightsEach P (fn.params.toList ++ s.plain.varTypes P) (ds ++ gs)).all (· ≤ reachBytes) = true →
   Calls P f args W fun e W' => ∃ v, e = .returned v ∧ s.post en P fn false true false false W args v W' := by
 intro W base args ds gs before hval hW _ hw
 have hW' := hW
 obtain ⟨p, q, hA0, hV, rfl, _, _⟩ := hW
 rw [hvars] at hV
 have hdl := trodAll_length hA0
 rw [weightsEach_append hdl] at hw
 obtain ⟨hw1, _⟩ := all_append hw
 obtain ⟨x, hx, hr⟩ := read_args hsh (base := base) (r := .any) (fun j t v ht hv => hval j t v (by simpa using ht) (by simpa using hv)) hA0 hw1
 obtain ⟨k, H', hk⟩ := run x hx.1
 have := law_sound hP hA hk hr
 rw [show args.toList.toArray = args by simp] at this
 refine this.mono fun e W' he => ?_
 obtain ⟨rfl, bel⟩ := he
 obtain ⟨t, ht, hb⟩ := hres
 have hgs : gs = [] := by
  cases gs with
  | nil => rfl
  | cons g gs => simp [DataW.TrodVars] at hV
 subst hgs
 refine ⟨_, rfl, ds, [], _, [], p, [], hW', ?_, ?_, ?_, bel.frame _, fun h => by cases h⟩
 ·rw [List.append_nil, hfn ds (by simpa using hdl), ht]
  exact trodAll_mk1 (shut_bool hb _)
 ·rw [List.append_nil, hfn ds (by simpa using hdl)]
  exact stay_args laidOut bel hrd hA0
 ·rw [List.append_nil, hfn ds (by simpa using hdl), hvars]
  rfl
end Go.Lg
