/- Lemmas. -/
import Derived.Test.YtjhgjbagmkiibaaX30
section
namespace Go.Lg
section
variable {P : Program} {A : Ann} {f : FuncId} {e : Env} {H : Heap} {Q : Ex → Env → Heap → Prop}
abbrev bagO (es : List (Value × Value)) : O := .map (.bag es)
structure KeyIs {α : Type} (P : Program) (t kt vt : TypeId) (k : Value) (en : α → Value × Value) (p : α → Bool) : Prop where
 map : P.underlying t = some (.map kt vt)
 key : (P.underlying kt).isSome = true
 chk : ∀ b, pv P (Instr.checkKey b 10000 kt k) = some ()
 eq : ∀ x, keyEq P kt k (en x).1 = some (p x)
theorem KeyIs.seek {α : Type} {t kt vt : TypeId} {k : Value} {en : α → Value × Value} {p : α → Bool} (h : KeyIs P t kt vt k en p) {L : List α} (h1 : (L.filter p).length ≤ 1) :
  seekB P kt k (L.map en) = some ((L.filter p).map en, (L.filter fun x => !p x).map en) := by
 unfold seekB
 have hall : (L.map en).all (fun e => (keyEq P kt k e.1).isSome) = true := by
  rw [List.all_eq_true]
  intro x hx
  obtain ⟨y, _, rfl⟩ := List.mem_map.1 hx
  rw [h.eq y]; rfl
 rw [if_pos (by simp only [h.key, h.chk, hall, Option.isSome_some, Bool.and_self])]
 simp only [List.partition_eq_filter_filter]
 have e1 : (L.map en).filter (fun e => keyEq P kt k e.1 == some true) = (L.filter p).map en := by
  rw [List.filter_map]
  congr 1
  apply List.filter_congr
  intro x _
  simp [h.eq x]
 have e2 : (L.map en).filter (fun e => !(keyEq P kt k e.1 == some true)) = (L.filter fun x => !p x).map en := by
  rw [List.filter_map]
  congr 1
  apply List.filter_congr
  intro x _
  simp [h.eq x]
 rw [e1, show List.filter (not ∘ fun e => keyEq P kt k e.1 == some true) (L.map en) = (L.filter fun x => !p x).map en from e2]
 rw [if_pos (by simpa using h1)]
theorem KeyIs.kt {α : Type} {t kt vt : TypeId} {k : Value} {en : α → Value × Value} {p : α → Bool} (h : KeyIs P t kt vt k en p) : keyT P t = some kt ∧ valTy P t = some vt := by
 unfold keyT valTy
 rw [h.map]
 exact ⟨rfl, rfl⟩
theorem ob_bag_hit {α : Type} {t kt vt ty : TypeId} {id : Nat} {k : Value} {y : X} {en : α → Value × Value} {p : α → Bool} {L : List α} {x : α} {r : X} {ok : Bool} (hH : H[id]? = some (bagO (L.map en))) (hk : KeyIs P t kt vt k en p) (hy : y.toV = some k)
  (hx : L.filter p = [x]) (hr : outX ok (if ok then .tuple #[(en x).2, .bool true] else (en x).2) = some r) :
  Ob P A [.y (.one (.mp id)), y] H (.lookup t (.tmp 0) (.tmp 1) ok) ty r H := by
 refine ⟨0, ?_⟩
 show (lookupX P H t (.y (.one (.mp id))) y ok).map (fun v => (v, H)) = _
 unfold lookupX
 have hb : bagX H (.y (.one (.mp id))) = some (id, L.map en) := by simp only [bagX, bagAt, hH, kT]
 simp only [hb, hy, kS]
 unfold lookB
 rw [hk.kt.1, hk.kt.2]
 simp only [kS, hk.seek (L := L) (by rw [hx]; exact Nat.le_refl _), hx, List.map_cons, List.map_nil, kT]
 rw [hr]
 rfl
theorem ob_bag_miss {α : Type} {t kt vt ty : TypeId} {id : Nat} {k z : Value} {y : X} {en : α → Value × Value} {p : α → Bool} {L : List α} {r : X} {ok : Bool} (hH : H[id]? = some (bagO (L.map en))) (hk : KeyIs P t kt vt k en p) (hy : y.toV = some k)
  (hx : L.filter p = []) (hz : pv P (zeroValue vt) = some z) (hr : outX ok (if ok then .tuple #[z, .bool false] else z) = some r) :
  Ob P A [.y (.one (.mp id)), y] H (.lookup t (.tmp 0) (.tmp 1) ok) ty r H := by
 refine ⟨0, ?_⟩
 show (lookupX P H t (.y (.one (.mp id))) y ok).map (fun v => (v, H)) = _
 unfold lookupX
 have hb : bagX H (.y (.one (.mp id))) = some (id, L.map en) := by simp only [bagX, bagAt, hH, kT]
 simp only [hb, hy, kS]
 unfold lookB
 rw [hk.kt.1, hk.kt.2]
 simp only [kS, hk.seek (L := L) (by rw [hx]; exact Nat.zero_le _), hx, List.map_nil, hz, kT]
 rw [hr]
 rfl
theorem ob_bag_put {α : Type} {t kt vt ty : TypeId} {id : Nat} {k : Value} {y v : X} {en : α → Value × Value} {p : α → Bool} {L : List α} {x : α} (hH : H[id]? = some (bagO (L.map en))) (hk : KeyIs P t kt vt k en p) (hy : y.toV = some k)
  (hx : en x = (k, (v.toV).getD k)) (hv : v.toV.isSome = true) (h1 : (L.filter p).length ≤ 1) (hs : ∀ z ∈ L.filter p, Instr.sameBits 10000 (en z).1 k = true) :
  Ob P A [.y (.one (.mp id)), y, v] H (.mapUpdate t (.tmp 0) (.tmp 1) (.tmp 2)) ty .undef (H.set id (bagO ((L.filter (fun z => !p z) ++ [x]).map en))) := by
 refine ⟨0, ?_⟩
 show (updateX P H t (.y (.one (.mp id))) y v).map (fun H => (X.undef, H)) = _
 unfold updateX
 have hb : bagX H (.y (.one (.mp id))) = some (id, L.map en) := by simp only [bagX, bagAt, hH, kT]
 obtain ⟨vv, hvv⟩ := Option.isSome_iff_exists.1 hv
 rw [hvv] at hx
 simp only [hb, hy, hvv, kS]
 unfold updB
 rw [hk.kt.1]
 simp only [kS, hk.seek (L := L) h1]
 rw [if_pos (by
  rw [List.all_eq_true]
  intro z hz
  obtain ⟨q, hq, rfl⟩ := List.mem_map.1 hz
  exact hs q hq)]
 simp only [kT, List.map_append, List.map_cons, List.map_nil, hx, Option.getD_some]
theorem ob_bag_del {α : Type} {t kt vt ty : TypeId} {ts : Array TypeId} {id : Nat} {k : Value} {y : X} {en : α → Value × Value} {p : α → Bool} {L : List α} (hH : H[id]? = some (bagO (L.map en))) (hk : KeyIs P t kt vt k en p) (hts : ts[0]? = some t) (hy : y.toV = some k)
  (h1 : (L.filter p).length ≤ 1) :
  Ob P A [.y (.one (.mp id)), y] H (.call { callee := .builtin .delete, args := #[.tmp 0, .tmp 1], argTypes := ts }) ty (.tup []) (H.set id (bagO ((L.filter (fun z => !p z)).map en))) := by
 refine ⟨0, ?_⟩
 show ((ts[0]?).bind fun t => (deleteX P H t (.y (.one (.mp id))) y).map fun H => (X.tup [], H)) = _
 rw [hts]
 simp only [kS]
 unfold deleteX
 have hb : bagX H (.y (.one (.mp id))) = some (id, L.map en) := by simp only [bagX, bagAt, hH, kT]
 simp only [hb, hy, kS]
 unfold delB
 rw [hk.kt.1]
 simp only [kS, hk.seek (L := L) h1, kT]
theorem ob_bag_len {α : Type} {t ty : TypeId} {ts : Array TypeId} {id : Nat} {en : α → Value × Value} {L : List α} {n : Int} (hH : H[id]? = some (bagO (L.map en))) (hts : ts[0]? = some t) (ht : isMapT P t = true) (hn : (L.length : Int) = n) :
  Ob P A [.y (.one (.mp id))] H (.call { callee := .builtin .len, args := #[.tmp 0], argTypes := ts }) ty (xi n) H := by
 subst hn
 refine ⟨0, ?_⟩
 show (if ts[0]?.any (isMapT P) then match bagAt H id with
  | some es => some (.y (.one (.sc (goInt es.length))), H)
  | none => (mapAt H id).map fun (es, _) => (X.y (.one (.sc (goInt es.size))), H) else none) = _
 rw [hts]
 simp only [Option.any_some, ht, if_true, bagAt, hH, List.length_map]
 rfl
theorem ob_bag_make {ty t : TypeId} {n : Nat} (hl : n = H.length) (ht : isMapT P t = true) (hb : A.bagT t = true) : Ob P A [] H (.makeMap t none) ty (.y (.one (.mp n))) (H ++ [bagO []]) := by
 subst hl
 exact ⟨0, by show (if isMapT P t && (Option.map _ (none : Option Operand)).all _ then _ else _) = _; rw [ht, hb]; rfl⟩
abbrev mapO (es : Array MapEntry) (ck : Nat) : O := .map (.map es ck)
abbrev iterO (m ck : Nat) (seen : Array Nat) : O := .map (.iter (some m) ck seen ck)
theorem ob_range {ty t : TypeId} {m n ck : Nat} {es : Array MapEntry} (hl : n = H.length) (ht : isMapT P t = true) (hH : H[m]? = some (mapO es ck)) : Ob P A [.y (.one (.mp m))] H (.range t (.tmp 0)) ty (.y (.one (.it n))) (H ++ [iterO m ck #[]]) := by
 subst hl
 refine ⟨0, ?_⟩
 show rangeX P H t (.y (.one (.mp m))) = _
 unfold rangeX
 rw [if_pos ht]
 simp only [mapAt, hH, kT]
theorem ob_entry {ty : TypeId} {it m ck : Nat} {es : Array MapEntry} {seen : Array Nat} {d : MapEntry} {k v : Y} (hI : H[it]? = some (iterO m ck (seen.push d.born))) (hM : H[m]? = some (mapO es ck)) (hn : (es.toList.map (·.born)).Nodup) (hd : d ∈ es.toList)
  (hk : Y.ofV d.key = k) (hv : Y.ofV d.val = v) : Ob P A [.y (.one (.it it))] H (.entry (.tmp 0)) ty (.tup [k, v]) H := by
 subst hk; subst hv
 refine ⟨0, ?_⟩
 show (entryX H (.y (.one (.it it)))).map (fun v => (v, H)) = _
 unfold entryX
 simp only [iterAt, hI, kS, Array.back?_push, mapAt, hM, if_true]
 have : es.find? (fun e => e.born == d.born) = some d := by
  rw [← Array.find?_toList]
  obtain ⟨l, r, hl⟩ := List.append_of_mem hd
  rw [hl] at hn ⊢
  rw [List.find?_append]
  have hno : l.find? (fun e => e.born == d.born) = none := by
   rw [List.find?_eq_none]
   intro x hx
   simp only [beq_iff_eq]
   intro e
   simp only [List.map_append, List.map_cons, List.nodup_append] at hn
   exact hn.2.2 x.born (List.mem_map_of_mem hx) d.born (by simp) e
  rw [hno]
  simp
 rw [this]
 rfl
def allBut (H : Heap) (is : List Nat) : HP := fun h => ∀ i o, i ∉ is → H[i]? = some o → h i = some o
theorem on_allBut {H : Heap} : ∀ {is : List Nat} {os : List O}, is.Nodup → (is.zip os).length = is.length → (∀ p ∈ is.zip os, H[p.1]? = some p.2) → On (allBut H is :: (is.zip os).map fun p => pts p.1 p.2) H := by
 intro is os hn hl hp
 -- one after another
 have key : ∀ (l : List (Nat × O)) (ex : List Nat), (l.map (·.1)).Nodup → (∀ p ∈ l, p.1 ∉ ex) → (∀ p ∈ l, H[p.1]? = some p.2) → ∀ h : Frag, (∀ i o, i ∉ ex → H[i]? = some o → h i = some o) → SL (allBut H (ex ++ l.map (·.1)) :: l.map fun p => pts p.1 p.2) h := by
  intro l
  induction l with
  | nil =>
   intro ex _ _ _ h hh
   refine ⟨h, fun _ => none, fun i => .inr rfl, fun i o x => x, fun i o x => by simp at x, ?_, trivial⟩
   intro i o hi ho
   exact hh i o (by simpa using hi) ho
  | cons p l ih =>
   intro ex hn' hex hp' h hh
   rw [List.map_cons, List.nodup_cons] at hn'
   -- without p
   let h' : Frag := fun i => if i = p.1 then none else h i
   have h1 := ih (ex ++ [p.1]) hn'.2 (fun q hq => by
    simp only [List.mem_append, List.mem_singleton, not_or]
    exact ⟨hex q (by simp [hq]), fun e => hn'.1 (e ▸ List.mem_map_of_mem hq)⟩) (fun q hq => hp' q (by simp [hq])) h' (fun i o hi ho => by
    simp only [List.mem_append, List.mem_singleton, not_or] at hi
    show (if i = p.1 then none else h i) = some o
    rw [if_neg hi.2]
    exact hh i o hi.1 ho)
   rw [List.append_assoc, List.singleton_append] at h1
   have h2 : SL (pts p.1 p.2 :: (allBut H (ex ++ p.1 :: l.map (·.1)) :: l.map fun p => pts p.1 p.2)) h := by
    refine ⟨fun i => if i = p.1 then some p.2 else none, h', fun i => ?_, fun i o x => ?_, fun i o x => ?_, by simp [pts], h1⟩
    ·by_cases e : i = p.1
     ·right; simp [h', e]
     ·left; simp [e]
    ·by_cases e : i = p.1
     ·subst e; simp only [if_true, kI] at x; subst x; exact hh _ _ (hex p (by simp)) (hp' p (by simp))
     ·simp [e] at x
    ·by_cases e : i = p.1
     ·simp [h', e] at x
     ·simpa [h', e] using x
   rw [List.map_cons, List.map_cons]
   exact SL_perm (List.Perm.swap _ _ _) h2
 have hz : (is.zip os).map (·.1) = is := by
  rw [List.map_fst_zip]
  rw [List.length_zip] at hl
  omega
 have := key (is.zip os) [] (by rw [hz]; exact hn) (fun p _ => by simp) hp (fun i => H[i]?) (fun i o _ ho => ho)
 rw [List.nil_append, hz] at this
 exact this
theorem on_behind {H H' : Heap} {is : List Nat} {k : Nat} {o : O} {cs : List HP} (h : On (allBut H is :: pts k o :: cs) H') (hk : k ∉ is) : H.length ≤ k := by
 obtain ⟨h1, h2, hd, s1, s2, a, b⟩ := h
 obtain ⟨h3, h4, hd', s3, s4, a', b'⟩ := b
 refine Nat.le_of_not_lt fun hlt => ?_
 obtain ⟨x, hx⟩ : ∃ x, H[k]? = some x := ⟨H[k], List.getElem?_eq_getElem hlt⟩
 have e1 := a k x hk hx
 have e2 := s3 k o a'
 rcases hd k with e | e
 ·rw [e1] at e; cases e
 ·rw [e2] at e; cases e
theorem on_rest {H H' : Heap} {is : List Nat} {cs : List HP} (h : On (allBut H is :: cs) H') {i : Nat} {o : O} (hi : i ∉ is) (ho : H[i]? = some o) : H'[i]? = some o := by
 obtain ⟨h1, h2, hd, s1, s2, a, b⟩ := h
 exact s1 i o (a i o hi ho)
theorem take_eq {H H' : Heap} (h : ∀ (i : Nat) (o : O), H[i]? = some o → H'[i]? = some o) : H'.take H.length = H := by
 have hl : H.length ≤ H'.length := by
  refine Nat.le_of_not_lt fun hlt => ?_
  have := h H'.length _ (List.getElem?_eq_getElem hlt)
  simp at this
 apply List.ext_getElem?
 intro i
 rw [List.getElem?_take]
 split
 ·rename_i hi
  rw [List.getElem?_eq_getElem hi]
  exact h i _ (List.getElem?_eq_getElem hi)
 ·rename_i hi
  rw [List.getElem?_eq_none (by omega)]
inductive Ends (H : Heap) : List Y → Heap → List Y → Heap → Prop where
 | take {ys : List Y} {H' : Heap} {n : Nat} (hn : H.length ≤ n) (h1 : ys.all (fun y => y.cells.all (C.inH n)) = true) (h2 : (H'.take n).all (O.inH n) = true) : Ends H ys H' ys (H'.take n)
 | row {id st off len : Nat} {capd : Bool} {o : O} {H' : Heap} (hid : H.length ≤ id) (ho : H'[id]? = some o) (h1 : o.inH H.length = true) (h2 : (H'.take H.length).all (O.inH H.length) = true) :
   Ends H [.one (.row id st off len capd)] H' [.one (.row H.length st off len capd)] (H'.take H.length ++ [o])
theorem SpOk.of_xwp {sp : List Y → Heap → Option (List Y × Heap)} (hP : POk P) (hA : AnnOk P A) {fn : Func} {c : Code} (hf : P.funcs[f]? = some fn) (hb : fn.body = some c) (hok : codeOK A f fn.ntmps c = true)
  (h : ∀ args H rs H1, sp args H = some (rs, H1) → args.length ≤ fn.ntmps ∧ XWp P A f c (args.zipIdx.map fun p => (p.2, .y p.1)) H fun x e' H' => (x = .normal ∨ x = .ret) ∧ ∃ ys, fn.results.toList.mapM (resX P e' H') = some ys ∧ Ends H ys H' rs H1) : SpOk P f sp := by
 intro args H rs H1 hsp
 refine ⟨⟨fn, hf, by simp [hb]⟩, fun B β w vs hst hargs => ?_⟩
 obtain ⟨hlen, hx⟩ := h _ _ _ _ hsp
 have hvl := hargs.length
 refine calls_of_wp hf hb ?_
 have he : EnvR B β H w (args.zipIdx.map fun p => (p.2, X.y p.1)) (vs.toArray ++ Array.replicate (fn.ntmps - vs.toArray.size) undef) := by
  intro t
  rw [get_args]
  simp only [Nat.zero_le, if_true, Nat.sub_zero]
  cases ht : args[t]? with
  | none => exact trivial
  | some y =>
   obtain ⟨u, hu, hr⟩ := hargs.get ht
   simp only [kT, Option.getD_some]
   have : (vs.toArray ++ Array.replicate (fn.ntmps - vs.toArray.size) undef).getD t undef = u := by
    have hlt := lt_of_get hu
    rw [Array.getD_eq_getD_getElem?, Array.getElem?_append, if_pos (by simpa using hlt)]
    simp [hu]
   rw [this]; exact hr
 refine Code.wp_mono ?_ (hx hP hA fn.ntmps B β w _ hok hst he (by simp; omega))
 rintro ex a' w' ⟨x, e', H', β', ⟨hxr, ys, hys, hends⟩, rfl, g1, g2, g3, g4, g5⟩
 obtain ⟨v, h1, h2⟩ := results_sound hP g1 g3 hys
 have main : a'.defers = [] ∧ ∃ v, (results fn a'.tmps).run P w' = .ok v w' ∧ ∃ u β'', Ending.returned v = .returned u ∧ StR B β'' H1 w' ∧ Stp β H w β'' H1 w' ∧ RepRes B β'' H1 w' rs u := by
  refine ⟨g5, v, h1, v, ?_⟩
  cases hends with
  | @take ys H' n hn e1 e2 =>
   have hs : SubH id n β' H' β' (H'.take n) := sub_take
   refine ⟨β', rfl, hs.str g1 (fun o ho => List.all_eq_true.1 e2 o ho), ?_, ?_⟩
   ·exact ⟨g2.os, g2.tape, g2.output, g2.size, fun b hb => ⟨(g2.free b hb).1, hs.free (g2.free b hb).2⟩, fun id o ho => by
     obtain ⟨o', h', k⟩ := g2.ids id o ho
     have hlt : id < n := Nat.lt_of_lt_of_le (lt_of_get ho) hn
     exact ⟨o', by rw [get_take hlt]; exact h', k⟩⟩
   ·refine repX_take h2 ?_
    have hp : ∀ l : List Y, (l.all fun y => y.cells.all (C.inH n)) = true → (pack l).inH n = true := by
     intro l hl
     match l, hl with
     | [], _ => rfl
     | [y], hl => simpa [pack, X.inH] using hl
     | y :: y' :: r, hl => exact hl
    exact hp _ e1
  | @row id st off len capd o H' hid ho e1 e2 =>
   have hs := sub_keep (β := β') ho hid
   refine ⟨_, rfl, hs.str g1 (fun x hx => ?_), hs.stp g2 rfl, ?_⟩
   ·rw [List.mem_append, List.mem_singleton] at hx
    rcases hx with hx | rfl
    ·exact List.all_eq_true.1 e2 x hx
    ·exact e1
   ·exact rep_kept (B := B) (u := v) ho hid h2
 cases x with
 | normal => exact main
 | ret => exact main
 | exit _ => rcases hxr with h | h <;> cases h
 | goto _ => rcases hxr with h | h <;> cases h
end
end Go.Lg
end
section
namespace Go.Lg
section
variable {P : Program} {A : Ann} {f : FuncId} {e : Env} {H : Heap} {Q : Ex → Env → Heap → Prop} {B : Nat → Prop} {β : Nat → Nat × Nat} {w : World}
theorem repA_inH {c : C} {u : Value} (h : RepA B β H w c u) : c.inH H.length = true := by
 cases c with
 | row id st off len capd => obtain ⟨_, _, _, _, _, _, ho, _⟩ := h; exact decide_eq_true (lt_of_get ho)
 | ptr id off => obtain ⟨_, ho, _⟩ := h; exact decide_eq_true (lt_of_get ho)
 | ra id st pos => obtain ⟨_, _, _, _, _, _, ho, _⟩ := h; exact decide_eq_true (lt_of_get ho)
 | mp id => obtain ⟨_, ho, _⟩ := h; exact decide_eq_true (lt_of_get ho)
 | it id => obtain ⟨_, ho, _⟩ := h; exact decide_eq_true (lt_of_get ho)
 | fn _ _ _ => exact h.elim
 | sc _ => rfl
 | sl _ _ _ _ _ => rfl
 | rd _ => rfl
 | dead => rfl
theorem rep_inH {c : C} {u : Value} (h : Rep B β H w c u) : c.inH H.length = true := by
 cases c with
 | fn g first cap =>
  obtain ⟨us, vs, rfl, h1, h2⟩ := h
  simp only [C.inH, List.all_eq_true]
  have key : ∀ (cs : List C) (us : List Value), All2 (RepA B β H w) cs us → ∀ c ∈ cs, ∃ u, RepA B β H w c u := by
   intro cs us h
   induction h with
   | nil => intro c hc; cases hc
   | cons a _ ih =>
    intro c hc
    rcases List.mem_cons.1 hc with rfl | hc
    ·exact ⟨_, a⟩
    ·exact ih c hc
  intro c hc
  rcases List.mem_append.1 hc with hc | hc
  ·obtain ⟨u, hu⟩ := key _ _ h1 c hc
   have := repA_inH hu
   cases c <;> first | exact this | exact hu.elim
  ·obtain ⟨u, hu⟩ := key _ _ h2 c hc
   have := repA_inH hu
   cases c <;> first | exact this | exact hu.elim
 | dead => rfl
 | sc v => rfl
 | sl _ _ _ _ _ => rfl
 | rd _ => rfl
 | row id st off len capd => exact repA_inH (c := .row id st off len capd) (show RepA B β H w _ u from h)
 | ptr id off => exact repA_inH (c := .ptr id off) (show RepA B β H w _ u from h)
 | ra id st pos => exact repA_inH (c := .ra id st pos) (show RepA B β H w _ u from h)
 | mp id => exact repA_inH (c := .mp id) (show RepA B β H w _ u from h)
 | it id => exact repA_inH (c := .it id) (show RepA B β H w _ u from h)
theorem all2_inH {cs : List C} {us : List Value} (h : All2 (Rep B β H w) cs us) : cs.all (C.inH H.length) = true := by
 induction h with
 | nil => rfl
 | cons a _ ih => rw [List.all_cons, rep_inH a, ih]; rfl
theorem StR.inH (hst : StR B β H w) : H.all (O.inH H.length) = true := by
 rw [List.all_eq_true]
 intro o ho
 obtain ⟨id, hid⟩ := List.getElem?_of_mem ho
 have hl := hst.live id o hid
 cases o with
 | row pu mu d st sz cells =>
  cases pu with
  | true => rfl
  | false =>
   obtain ⟨_, _, _, _, arr, e, _, _, g⟩ := hl
   exact all2_inH g
 | obj cells =>
  obtain ⟨_, arr, e, _, g⟩ := hl
  exact all2_inH g
 | map v =>
  cases v with
  | iter m since seen last =>
   cases m with
   | none => rfl
   | some j =>
    obtain ⟨v, hv, _⟩ := hl.2 j rfl
    exact decide_eq_true (lt_of_get hv)
  | fro cs => exact hl.elim
  | hole => rfl
  | map _ _ => rfl
  | bag _ => rfl
inductive Leaves (H : Heap) : List Y → Heap → List Y → Heap → Prop where
 | news {ys : List Y} {H' : Heap} (os : List O) (ht : H'.take (H.length + os.length) = H ++ os) (h1 : ys.all (fun y => y.cells.all (C.inH (H.length + os.length))) = true) (h2 : os.all (O.inH (H.length + os.length)) = true) : Leaves H ys H' ys (H ++ os)
 | row {id st off len : Nat} {capd : Bool} {o : O} {H' : Heap} (hid : H.length ≤ id) (ho : H'[id]? = some o) (ht : H'.take H.length = H) (h1 : o.inH H.length = true) :
   Leaves H [.one (.row id st off len capd)] H' [.one (.row H.length st off len capd)] (H ++ [o])
theorem Leaves.ends {ys rs : List Y} {H' H1 : Heap} (hH : H.all (O.inH H.length) = true) (h : Leaves H ys H' rs H1) : Ends H ys H' rs H1 := by
 cases h with
 | news os ht h1 h2 =>
  have hall : (H ++ os).all (O.inH (H.length + os.length)) = true := by
   rw [List.all_append, h2, Bool.and_true, List.all_eq_true]
   intro o ho
   exact O.inH_mono (Nat.le_add_right _ _) (List.all_eq_true.1 hH o ho)
  rw [← ht]
  exact .take (Nat.le_add_right _ _) h1 (by rw [ht]; exact hall)
 | @row id st off len capd o H' hid ho ht h1 =>
  have := Ends.row (H := H) (st := st) (off := off) (len := len) (capd := capd) hid ho h1 (by rw [ht]; exact hH)
  rw [ht] at this
  exact this
theorem SpOk.of_code {sp : List Y → Heap → Option (List Y × Heap)} (hP : POk P) (hA : AnnOk P A) {fn : Func} {c : Code} (hf : P.funcs[f]? = some fn) (hb : fn.body = some c) (hok : codeOK A f fn.ntmps c = true)
  (h : ∀ args H rs H1, (∀ (i : Nat) (cs : List C), H[i]? ≠ some (O.map (MapV.fro cs))) → sp args H = some (rs, H1) → args.length ≤ fn.ntmps ∧ XWp P A f c (args.zipIdx.map fun p => (p.2, .y p.1)) H fun x e' H' => (x = .normal ∨ x = .ret) ∧ ∃ ys, fn.results.toList.mapM (resX P e' H') = some ys ∧ Leaves H ys H' rs H1) : SpOk P f sp := by
 haveI : ∀ H : Heap, Decidable (∃ B β w, StR B β H w) := fun _ => Classical.propDecidable _
 have g := SpOk.of_xwp (f := f) (sp := fun args H => if ∃ B β w, StR B β H w then sp args H else none) hP hA hf hb hok (fun args H rs H1 hs => by
  split at hs
  ·rename_i hH
   obtain ⟨B, β, w, hst⟩ := hH
   obtain ⟨h1, h2⟩ := h args H rs H1 (fun i cs hi => (show False from hst.live i (O.map (MapV.fro cs)) hi)) hs
   exact ⟨h1, h2.mono fun x e H' ⟨hx, ys, h3, h4⟩ => ⟨hx, ys, h3, h4.ends hst.inH⟩⟩
  ·cases hs)
 intro args H rs H1 hs
 by_cases hH : ∃ B β w, StR B β H w
 ·exact g args H rs H1 (by simp only [if_pos hH]; exact hs)
 ·refine ⟨⟨fn, hf, by simp [hb]⟩, fun B β w us hst _ => absurd ⟨B, β, w, hst⟩ hH⟩
theorem XWp.nextE {α : Type} {en : α → Value × Value} (hi : ∀ x y, en x = en y → x = y) {id it m d0 d1 t : Nat} {o0 o1 : Oper} {b : Code} {es : Array MapEntry} {ck : Nat} {seen : Array Nat} {L D : List α} {eF eT : Env}
  (h0 : o0.op = .next (.tmp t) false ∧ o0.dst = some d0 ∧ o0.guard = none) (h1 : o1.op = .extract (.tmp d0) 0 ∧ o1.dst = some d1 ∧ o1.guard = none)
  (ht : get e t = .y (.one (.it it))) (hI : H[it]? = some (iterO m ck seen)) (hM : H[m]? = some (mapO es ck)) (hB : BagOk (L.map en) es ck) (hW : Went en es seen D)
  (hF : liveX A f id ((d1, xb false) :: (d0, .tup [.one (vb false)]) :: e) = eF) (hT : ∀ k v, liveX A f id ((d1, xb true) :: (d0, .tup [.one (vb true), k, v]) :: e) = eT)
  (over : D.Perm L → XWp P A f b eF H Q)
  (more : ∀ x d, x ∈ L → d ∈ es.toList → en x = (d.key, d.val) → Went en es (seen.push d.born) (D ++ [x]) → D.length < L.length → XWp P A f b eT (H.set it (iterO m ck (seen.push d.born))) Q) :
  XWp P A f (.seq (.region id #[o0, o1] false) b) e H Q := by
 refine XWp.seq (XWp.next hi h0 h1 ht hI hM hB hW (fun hp => ?_) fun x d hx hd he hw hl => ?_)
 ·show XWp P A f b _ _ _
  rw [hF]; exact over hp
 ·show XWp P A f b _ _ _
  rw [hT]; exact more x d hx hd he hw hl
def ownP (s : Sh) (c : C) (l : List s.T) : HP := fun h =>
 (c = nilC ∧ l = []) ∨ ∃ k, c = rowC k 0 l.length 0 l.length false ∧ l ≠ [] ∧ h k = some (rowO s true 0 l)
theorem own_open {cs : List HP} {s : Sh} {c : C} {l : List s.T} (h : On cs H) (j : Nat) (hj : cs[j]? = some (ownP s c l)) :
  (c = nilC ∧ l = [] ∧ On (cs.eraseIdx j) H) ∨ ∃ k, c = rowC k 0 l.length 0 l.length false ∧ l ≠ [] ∧ On (cs.eraseIdx j ++ [pts k (rowO s true 0 l)]) H := by
 refine On.alt j hj h fun h' b => ?_
 rcases b with ⟨rfl, rfl⟩ | ⟨k, rfl, hn, b⟩
 ·exact ⟨[], trivial, fun hh => .inl ⟨rfl, rfl, by simpa using hh⟩⟩
 ·exact ⟨_, SL_one b, fun hh => .inr ⟨k, rfl, hn, hh⟩⟩
theorem own_nil {s : Sh} {h : Frag} : ownP s nilC [] h := .inl ⟨rfl, rfl⟩
theorem own_row {s : Sh} {k : Nat} {l : List s.T} (hn : l ≠ []) {h : Frag} (x : SL [pts k (rowO s true 0 l)] h) : ownP s (rowC k 0 l.length 0 l.length false) l h := by
 obtain ⟨h1, h2, hd, s1, s2, a, b⟩ := x
 exact .inr ⟨k, rfl, hn, s1 _ _ a⟩
theorem own_items {s : Sh} {c : C} {l : List s.T} {h : Frag} (x : ownP s c l h) : itemsP s c l h := by
 rcases x with ⟨rfl, rfl⟩ | ⟨k, rfl, _, x⟩
 ·exact items_nil
 ·exact .inr ⟨k, 0, l, 0, false, rfl, x, by omega, fun _ => by omega, by simp⟩
theorem On.addOwn {s : Sh} {cs : List HP} (h : On cs H) : On (cs ++ [ownP s nilC []]) H :=
 SL_app' ⟨_, fun _ => none, fun _ => .inr rfl, fun _ _ x => x, fun _ _ x => by simp at x, h, SL_one own_nil⟩
theorem or_append_own {s : Sh} {t u el ty : TypeId} {by_ : Nat} {z : List C} {cs : List HP} {c y : C} {l lm : List s.T} {m : Nat} (hs : On cs H) (j : Nat) (hj : cs[j]? = some (ownP s c l))
  (hy : slCells H s.cells y = some (lm.flatMap (enc s), m, true)) (hpu : A.pureSl t = true) (he : elemT P t = some el) (hu : (elemT P u).isSome = true) (hsz : szT P el = some s.cells) (h0 : Nat.ble 1 s.cells = true) (hb : byT P el = some by_) (hz : zeroC P el = some z)
  (hml : m = lm.length) (h1 : (l.length : Int) + m ≤ 9223372036854775807) (h2 : ((l.length : Int) + m) * by_ ≤ 140737488355328) :
  ∃ c' H', Ob P A [.y (.one c), .y (.one y)] H (.call { callee := .builtin .append, args := #[.tmp 0, .tmp 1], argTypes := #[t, u] }) ty (.y (.one c')) H' ∧ On (cs.eraseIdx j ++ [ownP s c' (l ++ lm)]) H' := by
 by_cases hm : m = 0
 ·have hl : lm = [] := List.eq_nil_of_length_eq_zero (by omega)
  subst hm; subst hl
  refine ⟨c, H, ob_append_none (items_cells (On.mono (A' := itemsP s c l) j hj (fun _ x => own_items x) hs) j (by rw [List.getElem?_set_self (List.getElem?_eq_some_iff.1 hj).1])) hy he hu hsz h0 hb hz, ?_⟩
  rw [List.append_nil]
  exact On.alt j hj hs fun h a => ⟨[ownP s c l], SL_one a, fun hh => hh⟩
 ·have hne : lm ≠ [] := fun e => hm (by rw [hml, e]; rfl)
  rcases own_open hs j hj with ⟨rfl, rfl, h⟩ | ⟨k, rfl, _, h⟩
  ·refine ⟨_, _, or_append_new (b' := false) (nil' := true) (pu := true) (l := ([] : List s.T)) (l' := lm) (n' := lm.length) (nl := 0) rfl rfl hpu hy rfl he hu hsz h0 hb hz hml hm h1 h2 (List.nil_append _) (by omega), ?_⟩
   exact On.last (fun _ x => own_row hne (SL_one x)) (On.new' rfl (rowO s true 0 lm) h)
  ·have hH := On.at h (cs.eraseIdx j).length (by rw [List.getElem?_append_right (Nat.le_refl _), Nat.sub_self]; rfl)
   refine ⟨_, _, or_append (o := 0) (d' := 0) (l' := l ++ lm) (n' := (l ++ lm).length) hH hy rfl he hu hsz h0 hb hz hml hm (by omega) h1 h2 rfl (by rw [List.drop_zero]) (by rw [List.length_append, hml]), ?_⟩
   have hp := On.put (rowO s true 0 (l ++ lm)) h (cs.eraseIdx j).length (by rw [List.getElem?_append_right (Nat.le_refl _), Nat.sub_self]; rfl)
   rw [show (cs.eraseIdx j ++ [pts k (rowO s true 0 l)]).set (cs.eraseIdx j).length (pts k (rowO s true 0 (l ++ lm))) = cs.eraseIdx j ++ [pts k (rowO s true 0 (l ++ lm))] by rw [List.set_append_right _ _ (Nat.le_refl _), Nat.sub_self]; rfl] at hp
   exact On.last (fun _ x => own_row (by simp [hne]) (SL_one x)) hp
end
end Go.Lg
end
section
namespace Go.Lg
section
variable {P : Program} {A : Ann} {f : FuncId} {e : Env} {H : Heap} {Q : Ex → Env → Heap → Prop} {B : Nat → Prop} {β : Nat → Nat × Nat} {w : World}
theorem XWp.rebag {c : Code} (id : Nat) (h : XWp P A f c e H fun x e' H' => ∃ es es2 : List (Value × Value), H'[id]? = some (bagO es) ∧ es.Perm es2 ∧ Q x e' (H'.set id (bagO es2))) : XWp P A f c e H Q := by
 intro hP hA n B β w a hok hst he hn
 refine Code.wp_mono ?_ (h hP hA n B β w a hok hst he hn)
 rintro ex a' w' ⟨x, e', H', β', ⟨es, es2, hH', hp, hq⟩, rfl, g1, g2, g3, g4, g5⟩
 have s2 := retell_stp (β := β') (w := w') hH' (v' := .bag es2) rfl rfl
 obtain ⟨m, ck, h1, h2, h3⟩ := g1.live id _ hH'
 exact ⟨x, e', _, β', hq, rfl, retell_str g1 hH' rfl rfl ⟨m, ck, h1, h2.trans hp, h3⟩, g2.trans s2, g3.mono s2, g4, g5⟩
theorem went_rest {α : Type} {en : α → Value × Value} (hi : ∀ x y, en x = en y → x = y) {es : Array MapEntry} {ck : Nat} {seen : Array Nat} {L D : List α} (hb : BagOk (L.map en) es ck) (h : Went en es seen D) : ∃ D2, (D ++ D2).Perm L := by
 obtain ⟨ds, h1, h2, h3, h4⟩ := h
 obtain ⟨hp, hnd, _⟩ := hb
 have hdn : ds.Nodup := nodup_of_map h2
 have hen : es.toList.Nodup := nodup_of_map hnd
 have hinj := inj_of_nodup hnd
 let rest := es.toList.filter fun d => !(ds.map (·.born)).contains d.born
 have hperm : (ds ++ rest).Perm es.toList := by
  rw [List.perm_ext_iff_of_nodup ?_ hen]
  ·intro x
   rw [List.mem_append]
   constructor
   ·rintro (hx | hx)
    ·exact h3 x hx
    ·exact (List.mem_filter.1 hx).1
   ·intro hx
    by_cases hc : x.born ∈ ds.map (·.born)
    ·obtain ⟨y, hy, hxy⟩ := List.mem_map.1 hc
     left
     rw [← hinj y (h3 y hy) x hx hxy]; exact hy
    ·right
     refine List.mem_filter.2 ⟨hx, ?_⟩
     simpa using hc
  ·rw [List.nodup_append]
   refine ⟨hdn, hen.sublist List.filter_sublist, fun a ha b hb hab => ?_⟩
   subst hab
   have := (List.mem_filter.1 hb).2
   have hm : a.born ∈ ds.map (·.born) := List.mem_map_of_mem ha
   simp only [Bool.not_eq_true', List.contains_eq_mem, decide_eq_false_iff_not] at this
   exact this hm
 have key : ∀ r : List MapEntry, (∀ d ∈ r, d ∈ es.toList) → ∃ D2 : List α, D2.map en = r.map fun d => (d.key, d.val) := by
  intro r
  induction r with
  | nil => intro _; exact ⟨[], rfl⟩
  | cons d r ih =>
   intro hr
   obtain ⟨D2, hD⟩ := ih fun x hx => hr x (by simp [hx])
   have : (d.key, d.val) ∈ L.map en := hp.subset (List.mem_map.2 ⟨d, hr d (by simp), rfl⟩)
   obtain ⟨x, _, hx⟩ := List.mem_map.1 this
   exact ⟨x :: D2, by rw [List.map_cons, List.map_cons, hD, hx]⟩
 obtain ⟨D2, hD⟩ := key rest fun d hd => (List.mem_filter.1 hd).1
 refine ⟨D2, perm_of_map hi ?_⟩
 rw [List.map_append, hD, ← h4, ← List.map_append]
 exact (hperm.map _).trans hp
theorem went_nodup {α γ : Type} {en : α → Value × Value} (hi : ∀ x y, en x = en y → x = y) (g : α → γ) {es : Array MapEntry} {ck : Nat} {seen : Array Nat} {L D : List α} (hb : BagOk (L.map en) es ck) (h : Went en es seen D) (hn : (L.map g).Nodup) : (D.map g).Nodup := by
 obtain ⟨D2, hp⟩ := went_rest hi hb h
 have := (hp.map g).nodup_iff.2 hn
 rw [List.map_append, List.nodup_append] at this
 exact this.1
end
end Go.Lg
end
