/-
 X, part 4: reading and writing cells; letting go of a row.
-/
import Derived.Test.YtoieblpjklbmoaaX3
namespace Go.Lg
/-- What the program's tables must say. -/
structure POk (P : Program) : Prop where
 names : ∀ (f : Nat) (fn : Func), P.funcs[f]? = some fn → (fn.name == "runtime.NumGoroutine") = false
 under : ∀ t i, P.info? t = some i → ∃ d, P.underlying t = some d
 mixed : P.follows .mixedOrders = true
 elems : ∀ t n e, t < P.types.size → P.underlying t = some (.array n e) → ∃ i, P.info? e = some i
 fields : ∀ t fs, t < P.types.size → P.underlying t = some (.struct fs) → ∀ f ∈ fs.toList, ∃ i, P.info? f.type = some i
theorem pv_run {α : Type} {P : Program} (w : World) : ∀ {s : Sem α} {a : α}, pv P s = some a → s.run P w = .ok a w := by
 intro s
 induction s with
 | pure a => intro b h; simp only [pv, kI] at h; subst h; rfl
 | program k ih => intro b h; simp only [pv] at h; simpa only [Sem.run] using ih P h
 | _ => intro b h; simp only [pv] at h; cases h
theorem szT_info {P : Program} {t : TypeId} {n : Nat} (h : szT P t = some n) : ∃ i, P.info? t = some i ∧ i.size = n := by
 unfold szT at h
 exact kM.1 h
theorem run_szT {P : Program} {t : TypeId} {n : Nat} (h : szT P t = some n) (w : World) : (sizeOf t).run P w = .ok n w := by
 obtain ⟨i, hi, rfl⟩ := szT_info h
 simp [sizeOf, typeInfo, hi]
theorem run_isAggT {P : Program} {t : TypeId} {d : TypeDesc} (h : P.underlying t = some d) (w : World) : (isAgg t).run P w = .ok (isAggT P t) w := by
 unfold isAgg isAggT
 simp only [Sem.run_bind, run_underlying h, Result.andThen_ok, h]
 cases d <;> rfl
section
variable {P : Program} {B : Nat → Prop} {β : Nat → Nat × Nat} {H : Heap} {w : World}
/-! ### Constants, plain values -/
theorem rep_ofV (v : Value) : Rep B β H w (C.ofV v) v := by
 cases v with
 | slice a n c =>
  by_cases h : (a.isNone && n == 0 && c == 0) = true
  ·simp only [C.ofV, h, if_true]
   simp only [kA, Option.isNone_iff_eq_none, beq_iff_eq] at h
   obtain ⟨⟨rfl, rfl⟩, rfl⟩ := h
   exact ⟨none, 0, [], rfl, ⟨fun _ => ⟨rfl, rfl, rfl⟩, fun h => (by cases h), fun _ => rfl, Nat.le_refl _, fun h => absurd rfl h⟩, rfl⟩
  ·simp only [C.ofV, h, Bool.false_eq_true, if_false]; trivial
 | func f a b =>
  by_cases h : (a.isEmpty && b.isEmpty) = true
  ·simp only [C.ofV, h, if_true]
   simp only [kA, Array.isEmpty_iff] at h
   obtain ⟨rfl, rfl⟩ := h
   exact ⟨[], [], rfl, .nil, .nil⟩
  ·simp only [C.ofV, h, Bool.false_eq_true, if_false]; trivial
 | pointer a => cases a <;> first | exact ⟨rfl, rfl⟩ | trivial
 | map a => cases a <;> first | exact ⟨rfl, rfl⟩ | trivial
 | bool _ | int _ _ | float _ _ | complex _ _ _ | string _ | nilFunc | nilIface => exact ⟨rfl, rfl⟩
 | chan _ | iface _ _ | agg _ | tuple _ => trivial
theorem repY_ofV (v : Value) : RepY B β H w (Y.ofV v) v := by
 unfold Y.ofV
 split
 ·rename_i cs
  refine ⟨cs.toList, by simp, ?_⟩
  induction cs.toList with
  | nil => exact .nil
  | cons a l ih => exact .cons (rep_ofV a) ih
 ·exact rep_ofV v
theorem rep_toV {c : C} {u a : Value} (h : Rep B β H w c u) (ha : c.toV = some a) : u = a := by
 cases c <;> simp only [C.toV] at ha <;> first | cases ha | skip
 exact h.2
theorem rep_toVs : ∀ {cs : List C} {us : List Value} {vs : List Value}, All2 (Rep B β H w) cs us → cs.mapM C.toV = some vs → us = vs := by
 intro cs
 induction cs with
 | nil => intro us vs h hv; cases h; simp at hv; exact hv.symm
 | cons c cs ih =>
  intro us vs h hv
  cases h with
  | cons r t =>
   simp only [List.mapM_cons, Option.bind_eq_bind, kB] at hv
   obtain ⟨a, ha, vs', hvs, e⟩ := hv
   simp only [Option.pure_def, kI] at e
   rw [← e, rep_toV r ha, ih t hvs]
theorem repY_toV {v : Y} {u a : Value} (h : RepY B β H w v u) (ha : v.toV = some a) : u = a := by
 cases v with
 | one c => exact rep_toV h ha
 | agg cs =>
  obtain ⟨xs, rfl, hx⟩ := h
  simp only [Y.toV, kM] at ha
  obtain ⟨vs, hvs, rfl⟩ := ha
  rw [rep_toVs hx hvs]
theorem repX_toV {v : X} {u a : Value} (h : RepX B β H w v u) (ha : v.toV = some a) : u = a := by
 cases v with
 | y v => exact repY_toV h ha
 | tup vs => cases ha
theorem repX_c {v : X} {u : Value} {c : C} (h : RepX B β H w v u) (hc : v.c? = some c) : Rep B β H w c u := by
 cases v with
 | tup _ => cases hc
 | y v => cases v with
  | agg _ => cases hc
  | one d => simp only [X.c?, kI] at hc; subst hc; exact h
theorem repX_y {v : X} {u : Value} {y : Y} (h : RepX B β H w v u) (hc : v.y? = some y) : RepY B β H w y u := by
 cases v with
 | tup _ => cases hc
 | y v => simp only [X.y?, kI] at hc; subst hc; exact h
theorem repX_int {v : X} {u : Value} {n : Int} (h : RepX B β H w v u) (hc : v.int? = some n) : ∃ k, u = .int k n := by
 unfold X.int? at hc
 split at hc
 ·rename_i k m
  simp only [kI] at hc
  subst hc
  exact ⟨k, h.2⟩
 ·cases hc
theorem rep_one {c : C} {u : Value} (h : Rep B β H w c u) (hl : c.live = true) : u.oneCell' = true := by
 cases c with
 | sc v => obtain ⟨hp, rfl⟩ := h; cases u <;> simp_all [plain, Value.oneCell']
 | sl b nil capd cells n => obtain ⟨a, cap, xs, rfl, _⟩ := h; rfl
 | row id st off len capd =>
  obtain ⟨pu, mu, d, st', sz, cells, ho, hle, ⟨a, l, c, rfl⟩, hh⟩ := h
  rfl
 | ptr id off => obtain ⟨cells, ho, rfl⟩ := h; rfl
 | rd cells => obtain ⟨ad, xs, rfl, _⟩ := h; rfl
 | ra id st pos =>
  obtain ⟨pu, mu, d, st', sz, cells, ho, hle, ⟨a, rfl⟩, hh⟩ := h
  rfl
 | mp id => obtain ⟨es, ho, _, rfl⟩ := h; rfl
 | it id => obtain ⟨es, ho, _, rfl⟩ := h; rfl
 | fn f a b => obtain ⟨us, vs, rfl, _⟩ := h; rfl
 | dead => cases hl
theorem rep_oneCells {c : C} {u : Value} (h : Rep B β H w c u) (hl : c.live = true) : u.cells = #[u] := by
 have := rep_one h hl
 cases u <;> simp_all [Value.oneCell', Value.cells]
/-- The cells of a value. -/
theorem repY_cells {v : Y} {u : Value} (h : RepY B β H w v u) (hl : v.cells.all C.live = true) :
  All2 (Rep B β H w) v.cells u.cells.toList ∧ ∀ x ∈ u.cells.toList, x.oneCell' = true := by
 cases v with
 | one c =>
  simp only [Y.cells, List.all_cons, List.all_nil, Bool.and_true] at hl
  rw [rep_oneCells h hl]
  exact ⟨.cons h .nil, by simp [rep_one h hl]⟩
 | agg cs =>
  obtain ⟨xs, rfl, hx⟩ := h
  simp only [Y.cells, Value.cells] at hl ⊢
  refine ⟨hx, fun x hm => ?_⟩
  obtain ⟨c, hc, hr⟩ := hx.mem hm
  exact rep_one hr (by simpa using List.all_eq_true.1 hl c hc)
theorem repY_mk {t : TypeId} {cs : List C} {xs : List Value} {v : Y} (hx : All2 (Rep B β H w) cs xs) (h : mkY (isAggT P t) cs = some v) :
  RepY B β H w v (if isAggT P t then .agg xs.toArray else xs.headD undef) := by
 unfold mkY at h
 split at h
 ·rename_i ha
  simp only [kI] at h
  subst h
  rw [ha]; exact ⟨xs, rfl, hx⟩
 ·rename_i ha
  split at h
  ·simp only [kI] at h
   subst h
   cases hx with
   | cons r t => cases t; simp only [ha, Bool.false_eq_true, if_false]; exact r
  ·cases h
/-! ### Immutable cells -/
theorem rep_of_repI {c : C} {u : Value} (h : RepI (fun x => Free β H w x ∧ ¬ B x) w c u) : Rep B β H w c u := by
 cases c with
 | sc v => simp only [RepI] at h; exact h
 | sl b nil capd cells n =>
  simp only [RepI] at h
  obtain ⟨rfl, a, cap, xs, hu, ho, hl⟩ := h
  exact ⟨a, cap, xs, hu, ho.mono fun b hb => ⟨⟨hb.1, fun _ => hb.2⟩, rfl⟩, hl⟩
 | _ => simp only [RepI] at h
theorem repI_of_rep {c : C} {u : Value} (h : Rep B β H w c u) (hi : c.imm = true) : RepI (fun x => Free β H w x ∧ ¬ B x) w c u := by
 cases c with
 | sc v => simp only [RepI]; exact h
 | sl b nil capd cells n =>
  cases b with
  | true => cases hi
  | false =>
   obtain ⟨a, cap, xs, hu, ho, hl⟩ := h
   simp only [RepI]
   exact ⟨trivial, a, cap, xs, hu, ho.mono fun b hb => ⟨⟨hb.1, hb.2 rfl⟩, rfl⟩, hl⟩
 | _ => cases hi
theorem rep_of_repIL {cs : List C} {us : List Value} (h : RepIL (fun x => Free β H w x ∧ ¬ B x) w cs us) : All2 (Rep B β H w) cs us :=
 (repIL_iff.1 h).mono fun _ _ => rep_of_repI
theorem repIL_of_rep {cs : List C} {us : List Value} (h : All2 (Rep B β H w) cs us) (hi : cs.all C.imm = true) : RepIL (fun x => Free β H w x ∧ ¬ B x) w cs us :=
 repIL_iff.2 (h.mono_mem fun a _ hm hr => repI_of_rep hr (by simpa using List.all_eq_true.1 hi a hm))
theorem all_sub {p : C → Bool} {cs : List C} {o n : Nat} (h : cs.all p = true) : (sub o n cs).all p = true := by
 rw [List.all_eq_true] at h ⊢
 intro x hx
 exact h x (List.mem_of_mem_drop (List.mem_of_mem_take hx))
theorem cell_at {b o : Nat} {arr : Array Value} {e : TypeId} {fr : Nat × Nat} (hb : w.heap[b]? = some (.cells arr e fr)) (j : Nat) : w.cell? ⟨b, o + j, none⟩ = arr[o + j]? := cell_of_row w b (o + j) arr e fr hb
theorem cell_list {b o : Nat} {arr : Array Value} {e : TypeId} {fr : Nat × Nat} (hb : w.heap[b]? = some (.cells arr e fr)) {n j : Nat} {x : Value} (hj : ((arr.toList.drop o).take n)[j]? = some x) :
  w.cell? ⟨b, o + j, none⟩ = some x := by
 rw [cell_at hb, ← Array.getElem?_toList]
 rw [List.getElem?_take] at hj
 split at hj
 ·simpa using hj
 ·cases hj
/-! ### Cells from an address on -/
theorem ld_sound (hst : StR B β H w) {c : C} {u : Value} (hr : Rep B β H w c u) {n : Nat} (hn : 0 < n) {cs : List C} (h : ldCells H c n = some cs) :
  ∃ ad xs, u = .pointer (some ad) ∧ All2 (Rep B β H w) cs xs ∧ cs.length = n ∧ ∀ j x, xs[j]? = some x → w.cell? (ad.add j) = some x := by
 cases c with
 | ptr id off =>
  simp only [ldCells] at h
  obtain ⟨cells, ho, rfl⟩ := hr
  rw [ho] at h
  simp only [kR, kI] at h
  obtain ⟨hl, rfl⟩ := h
  obtain ⟨h0, arr, e, hb, ha⟩ := hst.live id _ ho
  refine ⟨_, (arr.toList.drop off).take n, rfl, (ha.drop off).take n, by simp [sub]; omega, fun j x hj => ?_⟩
  rw [Addr.add_lit]
  exact cell_list hb hj
 | rd cells =>
  simp only [ldCells, kR, kI] at h
  obtain ⟨hl, rfl⟩ := h
  obtain ⟨ad, xs, rfl, hx, hc⟩ := hr
  have ha := rep_of_repIL hx
  have hlen := ha.length
  have hne : xs ≠ [] := fun e => by subst e; simp at hlen; omega
  obtain ⟨hs, _, hcell⟩ := hc hne
  obtain ⟨b, o, s⟩ := ad
  simp only at hs; subst hs
  refine ⟨_, xs.take n, rfl, ha.take n, by simp; omega, fun j x hj => ?_⟩
  rw [Addr.add_lit]
  refine hcell j x ?_
  rw [List.getElem?_take] at hj
  split at hj
  ·exact hj
  ·cases hj
 | ra id st pos =>
  simp only [ldCells] at h
  obtain ⟨pu, mu, d, st', sz, cells, ho, hle, _, hh⟩ := hr
  rw [ho] at h
  simp only [kR, kI] at h
  obtain ⟨⟨rfl, hd, hl⟩, rfl⟩ := h
  obtain ⟨_, rfl⟩ := hh rfl
  obtain ⟨h1, h2, h3, h4, arr, e, hb, hsz, ha⟩ := hst.live id _ ho
  refine ⟨_, (((arr.toList.drop (β id).2).take cells.length).drop (pos - d * sz)).take n, rfl, (ha.drop _).take n, by simp [sub]; omega, fun j x hj => ?_⟩
  rw [Addr.add_lit]
  rw [List.getElem?_take] at hj
  split at hj
  ·rw [List.getElem?_drop] at hj
   have := cell_list hb hj
   rw [Nat.add_assoc]
   exact this
  ·cases hj
 | _ => simp only [ldCells] at h; cases h
theorem loadVar_run (hP : POk P) {t : TypeId} {n : Nat} (hsz : szT P t = some n) {ad : Addr} {xs : List Value} (hl : xs.length = n) (hn : 0 < n) (h1 : isAggT P t = false → n = 1)
  (hc : ∀ j x, xs[j]? = some x → w.cell? (ad.add j) = some x) : (loadVar t ad).run P w = .ok (if isAggT P t then .agg xs.toArray else xs.headD undef) w := by
 obtain ⟨i, hi, _⟩ := szT_info hsz
 obtain ⟨d, hd⟩ := hP.under t i hi
 unfold loadVar
 simp only [Sem.run_bind, run_isAggT hd, Result.andThen_ok]
 cases hag : isAggT P t with
 | true =>
  have := run_loadCells_list (P := P) w ad xs hc
  simp only [if_true, Sem.run_bind, run_szT hsz, Result.andThen_ok]
  rw [hl] at this
  simp [this]
 | false =>
  have := h1 hag
  subst this
  match xs, hl with
  | [x], _ =>
   have := hc 0 x rfl
   rw [Addr.add_zero'] at this
   simp [run_load, this]
theorem mkY_one {cs : List C} {v : Y} {t : TypeId} (h : mkY (isAggT P t) cs = some v) : isAggT P t = false → cs.length = 1 := by
 intro ha
 rw [ha] at h
 unfold mkY at h
 simp only [Bool.false_eq_true, if_false] at h
 split at h
 ·rfl
 ·cases h
theorem load_sound (hP : POk P) (hst : StR B β H w) {t : TypeId} {c : C} {u : Value} (hr : Rep B β H w c u) {n : Nat} (hsz : szT P t = some n) (hn : 0 < n) {cs : List C} (h : ldCells H c n = some cs)
  {v : Y} (hv : mkY (isAggT P t) cs = some v) : ∃ ad x, u = .pointer (some ad) ∧ (loadVar t ad).run P w = .ok x w ∧ RepY B β H w v x := by
 obtain ⟨ad, xs, rfl, ha, hl, hc⟩ := ld_sound hst hr hn h
 refine ⟨ad, _, rfl, loadVar_run hP hsz (by rw [ha.length, hl]) hn (fun e => by rw [← hl]; exact mkY_one hv e) hc, repY_mk ha hv⟩
/-! ### A row is let go of -/
theorem imm_sound (hst : StR B β H w) {c : C} {u : Value} (hr : Rep B β H w c u) {c' : C} {H' : Heap} (h : immC H c = some (c', H')) :
  StR B β H' w ∧ Stp β H w β H' w ∧ Rep B β H' w c' u ∧ c'.imm = true ∧ c'.live = true := by
 have other : c.imm = true → c' = c ∧ H' = H → StR B β H' w ∧ Stp β H w β H' w ∧ Rep B β H' w c' u ∧ c'.imm = true ∧ c'.live = true := by
  rintro hi ⟨rfl, rfl⟩
  exact ⟨hst, Stp.refl _ _ _, hr, hi, by cases c' <;> simp_all [C.imm, C.live]⟩
 cases c with
 | row id st off len capd =>
  obtain ⟨pu, mu, d, st', sz, cells, ho, hle, _, hh⟩ := hr
  simp only [immC, ho] at h
  cases pu with
  | false => cases h
  | true =>
   simp only [kR, kI, kP] at h
   obtain ⟨⟨rfl, hd, hl⟩, rfl, rfl⟩ := h
   obtain ⟨_, _, a, cap, rfl, h1, h2, h3, h4⟩ := hh rfl
   obtain ⟨g1, g2, g3, g4, arr, e, hb, hsz, ha⟩ := hst.live id _ ho
   have turn : Turn β w id (.row true mu d st sz cells) (β id) (.row true false d st sz cells) w :=
    ⟨rfl, rfl, rfl, Nat.le_refl _, fun _ _ _ => rfl, .inl rfl, (fun h => by cases h), ⟨rfl, rfl, Nat.le_refl _, fun _ => ⟨rfl, rfl, fun arr e fr h => ⟨arr, e, fr, h, rfl⟩⟩⟩, rfl⟩
   have stp := turn.stp hst ho
   rw [upd_self] at stp
   have str := turn.str hst ho (hst.inb id _ ho rfl) (by rw [upd_self]; exact ⟨g1, g2, g3, g4, arr, e, hb, hsz, ha.mono fun _ _ => Rep.mono stp⟩)
   rw [upd_self] at str
   refine ⟨str, stp, ?_, rfl, rfl⟩
   have hin := lt_of_get ho
   have hfree : Free β (H.set id (.row true false d st sz cells)) w (β id).1 := by
    refine ⟨hst.inb id _ ho rfl, fun j oj hj hm e => ?_⟩
    by_cases ej : j = id
    ·subst ej
     have : O.row true false d st sz cells = oj := by simpa [hin] using hj
     subst this
     cases hm
    ·rw [List.getElem?_set_ne (fun x => ej x.symm)] at hj
     exact ej (hst.inj j id oj _ hj (O.there_mut hm) ho rfl e)
   have hx := ((ha.drop ((off - d) * sz)).take (len * sz)).mono fun _ _ => Rep.mono stp
   refine ⟨some a, cap, _, rfl, ⟨(fun h => by cases h), fun _ => rfl, h2, h1, fun hne => ?_⟩, repIL_of_rep hx (all_sub (g4 rfl))⟩
   have hcap : 0 < cap := by
    rcases Nat.eq_zero_or_pos cap with h | h
    ·exfalso; apply hne
     have : len = 0 := by omega
     simp [this]
    ·exact h
   refine ⟨a, rfl, by rw [h3 hcap], ⟨by rw [h3 hcap]; exact hfree, fun _ => by rw [h3 hcap]; exact hst.bor id _ ho rfl⟩, fun j x hj => ?_⟩
   rw [h3 hcap]
   rw [List.getElem?_take] at hj
   split at hj
   ·rw [List.getElem?_drop] at hj
    have := cell_list hb hj
    simpa only [Nat.add_assoc] using this
   ·cases hj
 | sc v => simp only [immC, C.imm, if_true, kI, kP] at h; exact other rfl ⟨h.1.symm, h.2.symm⟩
 | sl b nil capd cells n =>
  cases b with
  | true => simp [immC, C.imm] at h
  | false => simp only [immC, C.imm, if_true, kI, kP] at h; exact other rfl ⟨h.1.symm, h.2.symm⟩
 | _ => simp [immC, C.imm] at h
theorem immL_sound : ∀ {cs : List C} {us : List Value} {H : Heap} (_ : StR B β H w) (_ : All2 (Rep B β H w) cs us) {cs' : List C} {H' : Heap}, immL H cs = some (cs', H') →
  StR B β H' w ∧ Stp β H w β H' w ∧ All2 (Rep B β H' w) cs' us ∧ cs'.all C.imm = true ∧ cs'.length = cs.length ∧ cs'.all C.live = true := by
 intro cs
 induction cs with
 | nil =>
  intro us H hst hr cs' H' h
  simp only [immL, kI, kP] at h
  obtain ⟨rfl, rfl⟩ := h
  exact ⟨hst, Stp.refl _ _ _, by cases hr; exact .nil, rfl, rfl, rfl⟩
 | cons c cs ih =>
  intro us H hst hr cs' H' h
  cases hr with
  | cons r t =>
   simp only [immL, kB, kM] at h
   obtain ⟨⟨c1, H1⟩, h1, ⟨cs1, H2⟩, h2, h3⟩ := h
   simp only [kP] at h3
   obtain ⟨rfl, rfl⟩ := h3
   obtain ⟨s1, p1, r1, i1, l1⟩ := imm_sound hst r h1
   obtain ⟨s2, p2, r2, i2, e2, l2⟩ := ih s1 (t.mono fun _ _ => Rep.mono p1) h2
   exact ⟨s2, p1.trans p2, .cons (Rep.mono p2 r1) r2, by simp [i1]; simpa using i2, by simp [e2], by simp [l1]; simpa using l2⟩
end
end Go.Lg
