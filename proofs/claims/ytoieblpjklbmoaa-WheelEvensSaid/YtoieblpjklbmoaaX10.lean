/-
 X, part 10: an operation's rule.
-/
import Derived.Test.YtoieblpjklbmoaaX9
namespace Go.Lg
section
variable {P : Program} {B : Nat → Prop} {β : Nat → Nat × Nat} {H : Heap} {w : World}
theorem run_value {s : Sem Value} {u : Value} {w' : World} (h : s.run P w = .ok u w') : ((do pure (Next.value (← s))) : Sem Next).run P w = .ok (.value u) w' := by simp [h]
theorem alls_y {e : Env} {a : Act} (he : EnvR B β H w e a.tmps) : ∀ {xs : List Operand} {ys : List Y}, (xs.map (ev e)).mapM X.y? = some ys → All2 (RepY B β H w) ys (xs.map a.eval) := by
 intro xs
 induction xs with
 | nil => intro ys h; simp at h; subst h; exact .nil
 | cons x xs ih =>
  intro ys h
  simp only [List.map_cons, List.mapM_cons, Option.bind_eq_bind, kB, Option.pure_def, kI] at h
  obtain ⟨y, hy, r, hr, rfl⟩ := h
  exact .cons (repX_y (ev_sound he x) hy) (ih hr)
theorem alls_c {e : Env} {a : Act} (he : EnvR B β H w e a.tmps) : ∀ {xs : List Operand} {ys : List C}, (xs.map (ev e)).mapM X.c? = some ys → All2 (Rep B β H w) ys (xs.map a.eval) := by
 intro xs
 induction xs with
 | nil => intro ys h; simp at h; subst h; exact .nil
 | cons x xs ih =>
  intro ys h
  simp only [List.map_cons, List.mapM_cons, Option.bind_eq_bind, kB, Option.pure_def, kI] at h
  obtain ⟨y, hy, r, hr, rfl⟩ := h
  exact .cons (repX_c (ev_sound he x) hy) (ih hr)
theorem repA_of {c : C} {u : Value} (h : Rep B β H w c u) (hc : c.atom = true) : RepA B β H w c u := by
 cases c <;> first | (cases hc; done) | exact h
theorem part_sound (hP : POk P) {t : TypeId} {off n : Nat} {cs : List C} {arr : Array Value} (ha : All2 (Rep B β H w) cs arr.toList) (hsz : szT P t = some n) (hl : off + n ≤ cs.length) {v : Y} (hv : mkY (isAggT P t) (sub off n cs) = some v) :
  ∃ u, (part t arr off).run P w = .ok u w ∧ RepY B β H w v u := by
 obtain ⟨i, hi, _⟩ := szT_info hsz
 obtain ⟨d, hd⟩ := hP.under t i hi
 have hr := repY_mk (P := P) (t := t) ((ha.drop off).take n) hv
 have hal := ha.length
 have hal' : arr.toList.length = arr.size := Array.length_toList
 cases hag : isAggT P t with
 | true =>
  rw [hag] at hr
  simp only [if_true] at hr
  refine ⟨.agg (arr.extract off (off + n)), ?_, ?_⟩
  ·simp [part, run_isAggT hd, hag, run_szT hsz]
  ·have : (arr.extract off (off + n)) = ((arr.toList.drop off).take n).toArray := by
    apply Array.ext'
    simp [Array.toList_extract, List.extract]
   rw [this]; exact hr
 | false =>
  have h1 := mkY_one hv hag
  rw [hag] at hr
  simp only [Bool.false_eq_true, if_false] at hr
  have hn : n = 1 := by simp [sub] at h1; omega
  subst hn
  have hlt : off < arr.size := by omega
  refine ⟨arr[off], ?_, ?_⟩
  ·simp [part, run_isAggT hd, hag, hlt]
  ·have : ((arr.toList.drop off).take 1).headD undef = arr[off] := by
    rw [List.drop_eq_getElem_cons (by omega)]
    simp
   rw [this] at hr; exact hr
theorem op_sound {A : Ann} {K : Callee} (hP : POk P) (hK : CallOK P K) {e : Env} {o : Oper} {v : X} {H' : Heap} (h : opX P A K (ev e) H o = some (v, H')) {a : Act} (hst : StR B β H w) (he : EnvR B β H w e a.tmps)
  {next : Act → World → Prop} {Q : Exit → Act → World → Prop} (hn : ∀ β' w' u, StR B β' H' w' → Stp β H w β' H' w' → RepX B β' H' w' v u → next (a.put o.dst u) w') : o.wp P a w next Q := by
 cases hop : o.op with
 | move x | assign x =>
  simp only [opX, hop, kI, kP] at h
  obtain ⟨rfl, rfl⟩ := h
  exact wp_value (w' := w) (u := a.eval x) (by simp [execOp, hop]) (hn β w _ hst (Stp.refl _ _ _) (ev_sound he x))
 | pick c x y =>
  simp only [opX, hop] at h
  split at h
  ·rename_i t ht
   simp only [kI, kP] at h
   obtain ⟨rfl, rfl⟩ := h
   have hc := ev_sound he c
   rw [ht] at hc
   obtain ⟨_, hc⟩ := hc
   cases t with
   | true => exact wp_value (w' := w) (u := a.eval x) (by simp [execOp, hop, hc, asBool]) (hn β w _ hst (Stp.refl _ _ _) (ev_sound he x))
   | false => exact wp_value (w' := w) (u := a.eval y) (by simp [execOp, hop, hc, asBool]) (hn β w _ hst (Stp.refl _ _ _) (ev_sound he y))
  ·cases h
 | alloc t =>
  simp only [opX, hop, kM, kP] at h
  obtain ⟨cs, hz, rfl, rfl⟩ := h
  obtain ⟨i, z, hi, hz, _, hr⟩ := zero_rep (B := B) (β := β) (H := H) (w := w) hz
  obtain ⟨r1, r2, r3⟩ := obj_sound (e := t) hst hr
  refine wp_value ?_ (hn _ _ _ r1 r2 r3)
  simp [execOp, hop, Instr.alloc, zeroValue, typeInfo, hi, hz, newVar, Go.newRow]
 | box t x =>
  simp only [opX, hop, kB, kR, kI, kP] at h
  obtain ⟨y, hy, ⟨hl, _⟩, rfl, rfl⟩ := h
  obtain ⟨hc, _⟩ := repY_cells (repX_y (ev_sound he x) hy) hl
  obtain ⟨r1, r2, r3⟩ := obj_sound (e := t) hst hc
  refine wp_value ?_ (hn _ _ _ r1 r2 r3)
  simp [execOp, hop, Instr.box, newVar, Go.newRow]
 | build t ps =>
  simp only [opX, hop, kB, kR, kM, kP] at h
  obtain ⟨z, hz, ha, cs, hcs, rfl, rfl⟩ := h
  obtain ⟨arr, hrun, hr⟩ := build_sound hP hz ha (parts_sound he ps) hcs
  exact wp_value (by simpa [execOp, hop] using run_value hrun) (hn β w _ hst (Stp.refl _ _ _) ⟨arr.toList, by simp, hr⟩)
 | buildSlice t n ps =>
  simp only [opX, hop, kB, kR] at h
  obtain ⟨el, hel, sz, hsz, z, hz, ⟨h0, hsm⟩, cs, hcs, h⟩ := h
  by_cases hdry : A.dryB t = true
  ·rw [if_pos hdry] at h
   simp only [kR, kI, kP] at h
   obtain ⟨himm, rfl, rfl⟩ := h
   have hi : immL H cs = some (cs, H) := by
    clear hcs hn
    induction cs with
    | nil => rfl
    | cons c cs ih =>
     simp only [List.all_cons, kA] at himm
     have hc : immC H c = some (c, H) := by
      have hi := himm.1
      cases c <;> first | (cases hi; done) | (unfold immC; exact if_pos hi)
     simp only [immL, hc, kS, ih himm.2, kT]
   obtain ⟨β', w', u, hrun, r1, r2, r3⟩ := buildSlice_sound (A := { A with pureSl := fun _ => true }) hst hel hsz hz h0 hsm (parts_sound he ps) hcs (c := .sl false false true cs n) (H' := H) (by simp only [if_true, hi, kT])
   exact wp_value (by simpa [execOp, hop] using run_value hrun) (hn β' w' u r1 r2 r3)
  rw [if_neg hdry] at h
  have h' : ∃ c, v = .y (.one c) ∧ (if A.pureSl t then (immL H cs).map fun (cs, H) => (C.sl false false true cs n, H) else some (rowNew H false sz n cs)) = some (c, H') := by
   by_cases hp : A.pureSl t = true
   ·rw [if_pos hp] at h ⊢
    simp only [kM, kP] at h
    obtain ⟨⟨cs', H1⟩, him, rfl, rfl⟩ := h
    exact ⟨_, rfl, by rw [him]; rfl⟩
   ·rw [if_neg hp] at h ⊢
    simp only [kI, kP] at h
    obtain ⟨rfl, rfl⟩ := h
    exact ⟨_, rfl, rfl⟩
  obtain ⟨c, rfl, h'⟩ := h'
  obtain ⟨β', w', u, hrun, r1, r2, r3⟩ := buildSlice_sound hst hel hsz hz h0 hsm (parts_sound he ps) hcs h'
  exact wp_value (by simpa [execOp, hop] using run_value hrun) (hn β' w' u r1 r2 r3)
 | load t x =>
  simp only [opX, hop, kB, kR, kM, kP] at h
  obtain ⟨c, hc, n, hsz, h0, cs, hcs, y, hy, rfl, rfl⟩ := h
  obtain ⟨ad, u, heq, hrun, hr⟩ := load_sound hP hst (repX_c (ev_sound he x) hc) hsz h0 hcs hy
  exact wp_value (w' := w) (u := u) (by simp [execOp, hop, Instr.loadAt, heq, Instr.sureAddr, hrun]) (hn β w _ hst (Stp.refl _ _ _) hr)
 | store t x y =>
  simp only [opX, hop, kB, kR, kM, kP] at h
  obtain ⟨c, hc, z, hz, hsz, H1, hs, rfl, rfl⟩ := h
  obtain ⟨w', hrun, r1, r2⟩ := st_sound hst (repX_c (ev_sound he x) hc) (repX_y (ev_sound he y) hz) hsz hs
  exact wp_skip' (w' := w') (by simp [execOp, hop, hrun]) (hn β w' _ r1 r2 ⟨[], rfl, .nil⟩)
 | nilCheck x =>
  simp only [opX, hop] at h
  have hx := ev_sound he x
  split at h <;> first | cases h | skip
  all_goals
   rename_i hex
   rw [hex] at hx
   refine wp_value (w' := w) (u := a.eval x) ?_ (hn β w _ hst (Stp.refl _ _ _) hx)
  ·obtain ⟨_, _, hx⟩ := hx; simp [execOp, hop, hx]
  ·obtain ⟨_, _, hx, _⟩ := hx; simp [execOp, hop, hx]
  ·obtain ⟨_, _, _, _, _, _, _, _, ⟨_, hx⟩, _⟩ := hx; simp [execOp, hop, hx]
  ·obtain ⟨_, _, hx, _⟩ := hx; simp [execOp, hop, hx]
  ·obtain ⟨_, _, _, hx⟩ := hx; simp [execOp, hop, hx]
 | binOp op t x y yt =>
  simp only [opX, hop, kM, kP] at h
  obtain ⟨r, hr, rfl, rfl⟩ := h
  obtain ⟨u, hrun, hu⟩ := bin_sound hst (ev_sound he x) (ev_sound he y) hr
  exact wp_value (w' := w) (u := u) (by simpa [execOp, hop] using run_value hrun) (hn β w _ hst (Stp.refl _ _ _) hu)
 | unOp op t x =>
  simp only [opX, hop, kB, kM, kP] at h
  obtain ⟨b, hb, u, hu, rfl, rfl⟩ := h
  have := repX_toV (ev_sound he x) hb
  exact wp_value (w' := w) (u := u) (by simpa [execOp, hop, this] using run_value (pv_run w hu)) (hn β w _ hst (Stp.refl _ _ _) (repY_ofV u))
 | convert s d x =>
  simp only [opX, hop, kB, kM, kP] at h
  obtain ⟨b, hb, u, hu, rfl, rfl⟩ := h
  have := repX_toV (ev_sound he x) hb
  exact wp_value (w' := w) (u := u) (by simpa [execOp, hop, this] using run_value (pv_run w hu)) (hn β w _ hst (Stp.refl _ _ _) (repY_ofV u))
 | makeFunc f first cap =>
  simp only [opX, hop, kB, kR, kI, kP] at h
  obtain ⟨as, has, cs, hcs, hall, rfl, rfl⟩ := h
  rw [List.all_eq_true] at hall
  have h1 := (alls_c he has).mono_mem fun c u hm hr => repA_of hr (hall c (by simp [hm]))
  have h2 := (alls_c he hcs).mono_mem fun c u hm hr => repA_of hr (hall c (by simp [hm]))
  refine wp_value (w' := w) (u := .func f (first.map a.eval) (cap.map a.eval)) (by simp [execOp, hop, Instr.makeFunc]) (hn β w _ hst (Stp.refl _ _ _) ⟨_, _, ?_, h1, h2⟩)
  congr 1 <;> (apply Array.ext'; simp)
 | makeSlice t l c =>
  simp only [opX, hop, kB, kR, kI, kP] at h
  obtain ⟨el, hel, sz, hsz, by_, hby, z, hz, n, hl, m, hc, ⟨h0, h1, h2, h3, h4, h5⟩, rfl, rfl⟩ := h
  obtain ⟨kl, hkl⟩ := repX_int (ev_sound he l) hl
  obtain ⟨kc, hkc⟩ := repX_int (ev_sound he c) hc
  obtain ⟨β', w', u, hrun, r1, r2, r3⟩ := make_sound (P := P) (B := B) (pu := A.pureSl t) (kl := kl) (kc := kc) hst hel hsz hby hz h0 h1 h2 h3 h4 h5
  exact wp_value (by simpa [execOp, hop, hkl, hkc] using run_value hrun) (hn β' w' u r1 r2 r3)
 | slice t x lo hi mx =>
  simp only [opX, hop, kM, kP] at h
  obtain ⟨r, hr, rfl, rfl⟩ := h
  obtain ⟨u, hrun, hu⟩ := slice_sound hst (ev_sound he x) (opt_sound he lo) (opt_sound he hi) (opt_sound he mx) hr
  exact wp_value (w' := w) (u := u) (by simpa [execOp, hop] using run_value hrun) (hn β w _ hst (Stp.refl _ _ _) hu)
 | fieldAddr t x j =>
  simp only [opX, hop, kB, kR, kM, kP] at h
  obtain ⟨c, hc, f, hf, sz, hsz, h0, c', hc', rfl, rfl⟩ := h
  obtain ⟨u, hrun, hu⟩ := fieldAddr_sound (repX_c (ev_sound he x) hc) hf hsz h0 hc'
  exact wp_value (w' := w) (u := u) (by simpa [execOp, hop] using run_value hrun) (hn β w _ hst (Stp.refl _ _ _) hu)
 | field t x j =>
  simp only [opX, hop] at h
  split at h
  ·rename_i cs hcs
   simp only [kB, kR, kM, kP] at h
   obtain ⟨f, hf, sz, hsz, hl, y, hy, rfl, rfl⟩ := h
   have hx := ev_sound he x
   rw [hcs] at hx
   obtain ⟨xs, hxe, hxs⟩ := hx
   obtain ⟨u, hrun, hu⟩ := part_sound hP (arr := xs.toArray) hxs hsz hl hy
   refine wp_value (w' := w) (u := u) ?_ (hn β w _ hst (Stp.refl _ _ _) hu)
   unfold fieldsOf at hf
   split at hf
   ·rename_i fs hu'
    simp [execOp, hop, Instr.field, run_underlying hu', hf, hxe, asAgg, hrun]
   ·cases hf
  ·cases h
 | indexAddr t x i =>
  simp only [opX, hop, kB, kM, kP] at h
  obtain ⟨c, hc, n, hi, c', hc', rfl, rfl⟩ := h
  obtain ⟨k, hk⟩ := repX_int (ev_sound he i) hi
  obtain ⟨u, hrun, hu⟩ := indexAddr_sound (k := k) hst (repX_c (ev_sound he x) hc) hc'
  exact wp_value (w' := w) (u := u) (by simpa [execOp, hop, hk] using run_value hrun) (hn β w _ hst (Stp.refl _ _ _) hu)
 | index t x i =>
  simp only [opX, hop, kB] at h
  obtain ⟨n, hi, h⟩ := h
  obtain ⟨k, hk⟩ := repX_int (ev_sound he i) hi
  have hx := ev_sound he x
  split at h
  ·rename_i len el cs hu hcs
   simp only [kB, kR, kM, kP] at h
   obtain ⟨sz, hsz, ⟨h0, h1, h2⟩, y, hy, rfl, rfl⟩ := h
   rw [hcs] at hx
   obtain ⟨xs, hxe, hxs⟩ := hx
   obtain ⟨u, hrun, hr⟩ := part_sound hP (arr := xs.toArray) hxs hsz h2 hy
   refine wp_value (w' := w) (u := u) ?_ (hn β w _ hst (Stp.refl _ _ _) hr)
   simp [execOp, hop, Instr.index, hk, asIntOf, run_underlying hu, hxe, h0, h1, run_szT hsz, hrun]
  ·rename_i s hu hcs
   simp only [kR, kM, kP] at h
   obtain ⟨h0, b, hb, rfl, rfl⟩ := h
   rw [hcs] at hx
   obtain ⟨_, hxe⟩ := hx
   refine wp_value (w' := w) (u := .int .u8 b.toNat) ?_ (hn β w _ hst (Stp.refl _ _ _) ⟨rfl, rfl⟩)
   simp [execOp, hop, Instr.index, hk, asIntOf, run_underlying hu, hxe, h0, hb]
  ·cases h
 | extract t j =>
  simp only [opX, hop] at h
  split at h
  ·rename_i vs hvs
   simp only [kM, kP] at h
   obtain ⟨y, hy, rfl, rfl⟩ := h
   have hx := ev_sound he t
   rw [hvs] at hx
   obtain ⟨xs, hxe, hxs⟩ := hx
   obtain ⟨u, hu, hr⟩ := hxs.get hy
   refine wp_value (w' := w) (u := u) ?_ (hn β w _ hst (Stp.refl _ _ _) hr)
   simp [execOp, hop, Instr.extract, hxe, hu]
  ·cases h
 | call c =>
  simp only [opX, hop] at h
  split at h
  ·rename_i b hb
   have ha := evs_sound he c.args.toList
   obtain ⟨β', w', u, hrun, r1, r2, r3⟩ := builtin_sound (us := c.args.map a.eval) hst (by rw [Array.toList_map]; exact ha) h
   refine wp_value ?_ (hn β' w' u r1 r2 r3)
   simp [execOp, hop, resolve, hb, invoke]
   exact hrun
  ·rename_i f hf
   split at h
   ·rename_i g first cap hg
    simp only [kB] at h
    obtain ⟨as, has, h⟩ := h
    have hx := ev_sound he f
    rw [hg] at hx
    obtain ⟨us, vs, hfe, h1, h2⟩ := hx
    have hargs : All2 (RepY B β H w) (first.map Y.one ++ as ++ cap.map Y.one) (us ++ c.args.toList.map a.eval ++ vs) := by
     have k1 : ∀ {l : List C} {m : List Value}, All2 (RepA B β H w) l m → All2 (RepY B β H w) (l.map Y.one) m := by
      intro l m hm
      induction hm with
      | nil => exact .nil
      | cons r _ ih =>
       refine .cons ?_ ih
       rename_i c u _ _ _
       cases c <;> first | exact r | exact r.elim
     exact ((k1 h1).append (alls_y he has)).append (k1 h2)
    obtain ⟨⟨fn, hfn, hbody⟩, hc⟩ := call_sound hK hst hargs h
    have hname := hP.names g fn hfn
    refine wp_enter (f := g) (args := (us ++ c.args.toList.map a.eval ++ vs).toArray) (w' := w) ?_ (hc.mono fun ee w' hh => ?_)
    ·have hnb : fn.body ≠ none := by cases hfb : fn.body <;> simp_all
     have hname' : fn.name ≠ "runtime.NumGoroutine" := by simpa using hname
     simp [execOp, hop, resolve, hf, hfe, Deferred.ofValue, invoke, callFunc, hfn, hname', hnb]
    ·obtain ⟨u, β', rfl, r1, r2, r3⟩ := hh
     exact ⟨u, rfl, hn β' w' u r1 r2 r3⟩
   ·cases h
  ·cases h
 | makeMap t r =>
  simp only [opX, hop, kR, kI, kP, kA] at h
  obtain ⟨⟨ht, hr⟩, rfl, rfl⟩ := h
  obtain ⟨k, e, hu⟩ := isMapT_under ht
  obtain ⟨h1, h2⟩ := map_new hst (if A.bagT t then .bag [] else .map #[] 0) (.map #[] 0) (fun β' w' hb _ => by
   split
   ·exact ⟨#[], 0, hb, .refl _, by simp, by simp⟩
   ·exact hb)
  refine wp_value (u := .map (some w.heap.size)) ?_ (hn _ _ _ h1 h2 ⟨if A.bagT t then .bag [] else .map #[] 0, by simp, by cases A.bagT t <;> rfl, by rw [upd_same]⟩)
  cases r with
  | none => simp [execOp, hop, Instr.makeMap]
  | some x =>
   simp only [kT, Option.all_some] at hr
   obtain ⟨n, hi⟩ := Option.isSome_iff_exists.1 hr
   obtain ⟨k, hk⟩ := repX_int (ev_sound he x) hi
   simp [execOp, hop, Instr.makeMap, run_underlying hu, hk, asInt, asIntOf]
 | lookup t x i ok =>
  simp only [opX, hop, kM, kP] at h
  obtain ⟨v', hv, rfl, rfl⟩ := h
  obtain ⟨u, hrun, hr⟩ := lookup_sound hst (ev_sound he x) (ev_sound he i) hv
  exact wp_value (w' := w) (u := u) (by simpa [execOp, hop] using run_value hrun) (hn β w _ hst (Stp.refl _ _ _) hr)
 | mapUpdate t m k x =>
  simp only [opX, hop, kM, kP] at h
  obtain ⟨H1, hu, rfl, rfl⟩ := h
  obtain ⟨w', hrun, r1, r2⟩ := update_sound hst (ev_sound he m) (ev_sound he k) (ev_sound he x) hu
  exact wp_skip' (w' := w') (by simp [execOp, hop, hrun]) (hn β w' _ r1 r2 ⟨[], rfl, .nil⟩)
 | insert t m k x =>
  simp only [opX, hop, kM, kP] at h
  obtain ⟨H1, hu, rfl, rfl⟩ := h
  obtain ⟨w', hrun, r1, r2⟩ := update_sound hst (ev_sound he m) (ev_sound he k) (ev_sound he x) hu
  exact wp_skip' (w' := w') (by simp [execOp, hop, hrun]) (hn β w' _ r1 r2 ⟨[], rfl, .nil⟩)
 | mapEntry t m k =>
  simp only [opX, hop] at h
  obtain ⟨w', u, hrun, r1, r2, r3⟩ := mapEntry_sound hst (ev_sound he m) (ev_sound he k) h
  exact wp_value (u := u) (by simpa [execOp, hop] using run_value hrun) (hn β w' _ r1 r2 r3)
 | entryStore t m k x =>
  simp only [opX, hop, kM, kP] at h
  obtain ⟨H1, hu, rfl, rfl⟩ := h
  have hki : ∃ n, (ev e k).int? = some n := by
   unfold entryStoreX at hu
   split at hu
   ·simp only [kB] at hu
    obtain ⟨_, _, n, hn', _⟩ := hu
    exact ⟨n, hn'⟩
   ·cases hu
  obtain ⟨n, hi⟩ := hki
  obtain ⟨ik, hk⟩ := repX_int (ev_sound he k) hi
  obtain ⟨w', hrun, r1, r2⟩ := entryStore_sound (P := P) (t := t) (ik := ik) hst (ev_sound he m) hi (ev_sound he x) hu
  exact wp_skip' (w' := w') (by simp [execOp, hop, hk, hrun]) (hn β w' _ r1 r2 ⟨[], rfl, .nil⟩)
 | range t x =>
  simp only [opX, hop] at h
  obtain ⟨β', w', u, hrun, r1, r2, r3⟩ := range_sound hst (ev_sound he x) h
  exact wp_value (u := u) (by simpa [execOp, hop] using run_value hrun) (hn β' w' _ r1 r2 r3)
 | next it isString =>
  simp only [opX, hop] at h
  cases isString with
  | true => cases h
  | false =>
   simp only [Bool.false_eq_true, if_false] at h
   obtain ⟨w', u, hrun, r1, r2, r3⟩ := next_sound (type := o.type) hst (ev_sound he it) h
   exact wp_value (u := u) (by simpa [execOp, hop] using run_value hrun) (hn β w' _ r1 r2 r3)
 | entry it =>
  simp only [opX, hop, kM, kP] at h
  obtain ⟨v', hv, rfl, rfl⟩ := h
  obtain ⟨u, hrun, hr⟩ := entry_sound hst (ev_sound he it) hv
  exact wp_value (w' := w) (u := u) (by simpa [execOp, hop] using run_value hrun) (hn β w _ hst (Stp.refl _ _ _) hr)
 | _ => simp only [opX, hop] at h; cases h
end
end Go.Lg
