/- Lemmas. -/
import Derived.Test.YtjhgjbagmkiibaaX7
import Derived.Test.YtjhgjbagmkiibaaX25
section
namespace Go.Lg
section
variable {P : Program} {B : Nat → Prop} {β : Nat → Nat × Nat} {H : Heap} {w : World}
theorem ev_sound {e : Env} {a : Act} (he : EnvR B β H w e a.tmps) (x : Operand) : RepX B β H w (ev e x) (a.eval x) := by
 cases x with
 | tmp t => exact he t
 | const v => exact repY_ofV v
 | global g => exact trivial
 | func f => exact ⟨[], [], rfl, .nil, .nil⟩
theorem opt_sound {e : Env} {a : Act} (he : EnvR B β H w e a.tmps) (x : Option Operand) : OptR B β H w (x.map (ev e)) (x.map a.eval) := by
 cases x with
 | none => exact .none
 | some x => exact .some (ev_sound he x)
theorem evs_sound {e : Env} {a : Act} (he : EnvR B β H w e a.tmps) : ∀ xs : List Operand, All2 (RepX B β H w) (xs.map (ev e)) (xs.map a.eval)
 | [] => .nil
 | x :: xs => .cons (ev_sound he x) (evs_sound he xs)
theorem parts_sound {e : Env} {a : Act} (he : EnvR B β H w e a.tmps) (ps : Array (Nat × Operand)) :
  All2 (fun (p : Nat × X) (q : Nat × Value) => p.1 = q.1 ∧ RepX B β H w p.2 q.2) (ps.toList.map fun p => (p.1, ev e p.2)) (ps.map fun (i, x) => (i, a.eval x)).toList := by
 rw [Array.toList_map]
 induction ps.toList with
 | nil => exact .nil
 | cons p l ih => exact .cons ⟨rfl, ev_sound he p.2⟩ ih
theorem bin_sound (hst : StR B β H w) {op : BinOp} {t : TypeId} {ox oy : Operand} {x y r : X} {a b : Value} (hx : RepX B β H w x a) (hy : RepX B β H w y b) (h : binX P op t ox oy x y = some r) :
  ∃ v, ((do eqGuard op t ox oy a b; binOp op t a b) : Sem Value).run P w = .ok v w ∧ RepX B β H w r v := by
 unfold binX at h
 split at h
 ·rename_i a' b' ha hb
  obtain rfl := repX_toV hx ha
  obtain rfl := repX_toV hy hb
  simp only [kM] at h
  obtain ⟨v, hv, rfl⟩ := h
  exact ⟨v, pv_run w hv, repY_ofV v⟩
 ·simp only [kB] at h
  obtain ⟨c, hc, d, hd, r', hr, h⟩ := h
  have := eq_sound (P := P) hst (repX_c hx hc) (repX_c hy hd) hr ox oy
  cases op <;> simp only [kI] at h <;> first | cases h | skip
  ·exact ⟨_, this.1, rfl, rfl⟩
  ·exact ⟨_, this.2, rfl, rfl⟩
theorem toVs_eq : ∀ {xs : List X} {us vs : List Value}, All2 (RepX B β H w) xs us → xs.mapM X.toV = some vs → us = vs := by
 intro xs
 induction xs with
 | nil => intro us vs h hv; cases h; simp at hv; exact hv.symm
 | cons c cs ih =>
  intro us vs h hv
  cases h with
  | cons r t =>
   simp only [List.mapM_cons, Option.bind_eq_bind, kB] at hv
   obtain ⟨a, ha, vs', hvs, e⟩ := hv
   simp only [Option.pure_def, kI] at e
   rw [← e, repX_toV r ha, ih t hvs]
theorem builtin_plain (hst : StR B β H w) {b : Builtin} {ts : Array TypeId} {type : TypeId} {consts : Array Bool} {args : List X} {us : Array Value} (ha : All2 (RepX B β H w) args us.toList) {v : X} {H' : Heap}
  (h : (args.mapM X.toV).bind (fun vs => (pv P (builtin b ts type consts vs.toArray)).bind fun | .value v => some (X.y (Y.ofV v), H) | _ => none) = some (v, H')) :
  ∃ β' w' u, (builtin b ts type consts us).run P w = .ok (.value u) w' ∧ StR B β' H' w' ∧ Stp β H w β' H' w' ∧ RepX B β' H' w' v u := by
 simp only [kB] at h
 obtain ⟨vs, hvs, nx, hnx, h⟩ := h
 have := toVs_eq ha hvs
 subst this
 cases nx with
 | value u =>
  simp only [kI, kP] at h
  obtain ⟨rfl, rfl⟩ := h
  exact ⟨β, w, u, by simpa using pv_run w hnx, hst, Stp.refl _ _ _, repY_ofV u⟩
 | _ => cases h
theorem len_slice {ts : Array TypeId} {type t e : TypeId} {a : Option Addr} {n c : Nat} (hts : ts[0]? = some t) (he : elemT P t = some e) : (Builtin.len_ ts type #[.slice a n c]).run P w = .ok (goInt n) w := by
 simp [Builtin.len_, hts, run_underlying (elemT_under he)]
theorem clear_sound (hst : StR B β H w) {c : C} {u : Value} (hc : Rep B β H w c u) {t ty : TypeId} {ts : Array TypeId} (hts : ts[0]? = some t) {H' : Heap} (h : clearX P H t c = some H') :
  ∃ w', (Builtin.clear_ ts ty #[u]).run P w = .ok (.tuple #[]) w' ∧ StR B β H' w' ∧ Stp β H w β H' w' := by
 unfold clearX at h
 simp only [kB] at h
 obtain ⟨e, he, sz, hsz, z, hz, h⟩ := h
 have ht := elemT_under he
 obtain ⟨i, zv, hi, hzv, hzs, hzr⟩ := zero_rep (B := B) (β := β) (H := H) (w := w) hz
 have hisz : i.size = sz := by obtain ⟨i', hi', rfl⟩ := szT_info hsz; rw [hi] at hi'; cases hi'; rfl
 cases c with
 | row id st off len capd =>
  obtain ⟨pu, mu, d, st', sz', cells, ho, hle, _, hh⟩ := hc
  simp only [ho] at h
  cases mu with
  | false => cases h
  | true =>
   simp only [kR, kI] at h
   obtain ⟨⟨rfl, rfl, hd, hl, hl0, hpp, hlive⟩, rfl⟩ := h
   obtain ⟨_, _, a, cap, rfl, h1, h2, h3, h4⟩ := hh rfl
   obtain ⟨g1, g2, g3, g4, arr, et, hb, hasz, ha⟩ := hst.live id _ ho
   have haddr := h3 (by omega)
   subst haddr
   have hr := made_rep hzr (sz := sz) (by rw [hzs, hisz]) g1 (len * sz)
   have hkl : ((List.range (len * sz)).map fun i => z.getD (i % sz) C.dead).length = len * sz := by simp
   have hxe : ((Array.range (len * sz)).map (zv.cells[· % zv.cells.size]!)).toList = (Builtin.zeroCells zv.cells len).toList := by
    unfold Builtin.zeroCells; rw [hzs, hisz]
   rw [hxe] at hr
   have hkx : (Builtin.zeroCells zv.cells len).toList.length = len * sz := by rw [hr.length, hkl]
   have hfit : (off - d) * sz + len * sz ≤ cells.length := by
    rw [g3, ← Nat.add_mul]; exact Nat.mul_le_mul_right _ (by omega)
   have hfa : (β id).2 + (off - d) * sz + (Builtin.zeroCells zv.cells len).toList.length ≤ arr.toList.length := by
    rw [hkx, show arr.toList.length = arr.size from Array.length_toList]; omega
   have hmem : ∀ c ∈ (List.range (len * sz)).map fun i => z.getD (i % sz) C.dead, c ∈ z := by
    intro c hc
    simp only [List.mem_map, List.mem_range] at hc
    obtain ⟨j, _, rfl⟩ := hc
    have hzl : z.length = sz := by rw [← hzr.length, Array.length_toList, hzs, hisz]
    have hlt : j % sz < z.length := by rw [hzl]; exact Nat.mod_lt _ g1
    rw [List.getD_eq_getElem?_getD, List.getElem?_eq_getElem hlt]
    exact List.getElem_mem hlt
   have hone : ∀ v ∈ (Builtin.zeroCells zv.cells len).toList, v.oneCell' = true := fun v hv => by
    obtain ⟨c, hc, hr'⟩ := hr.mem hv
    exact rep_one hr' (List.all_eq_true.1 hlive c (hmem c hc))
   have hrun : (Builtin.clear_ ts ty #[.slice (some ⟨(β id).1, (β id).2 + (off - d) * sz, none⟩) len cap]).run P w = .ok (.tuple #[]) (w.setRow (β id).1 (splice ((β id).2 + (off - d) * sz) (Builtin.zeroCells zv.cells len).toList arr.toList).toArray) := by
    have hst' := run_storeCells_at P (β id).1 ((β id).2 + (off - d) * sz) et (Builtin.zeroCells zv.cells len).toList 0 arr w hb (by simpa using hfa) hone
    simp only [Nat.add_zero] at hst'
    obtain ⟨len, rfl⟩ : ∃ k, len = k + 1 := ⟨len - 1, by omega⟩
    simp [Builtin.clear_, hts, run_underlying ht, zeroValue, typeInfo, hi, hzv, hst', splice]
   have turn : Turn β w id (.row pu true d st sz cells) (β id) (.row pu true d st sz (splice ((off - d) * sz) ((List.range (len * sz)).map fun i => z.getD (i % sz) C.dead) cells)) (w.setRow (β id).1 (splice ((β id).2 + (off - d) * sz) (Builtin.zeroCells zv.cells len).toList arr.toList).toArray) := by
    refine setRow_turn rfl ⟨rfl, rfl, Nat.le_refl _, fun _ => ⟨rfl, rfl, fun arr' e' fr' h => ?_⟩⟩
    rw [hb] at h
    simp only [kI, Obj.cells.injEq] at h
    obtain ⟨rfl, rfl, _⟩ := h
    exact ⟨_, _, _, setRow_heap w _ _ _ _ _ hb, by rw [List.size_toArray, length_splice hfa]; simp⟩
   have stp := turn.stp hst ho
   rw [upd_self] at stp
   have str := turn.str hst ho (by simpa using hst.inb id _ ho (by rfl))
   rw [upd_self] at str
   refine ⟨_, hrun, str ⟨g1, g2, by rw [length_splice (by omega)]; exact g3, fun hp => ?_, _, et, setRow_heap w _ _ _ _ _ hb, ?_, ?_⟩, stp⟩
   ·rw [List.all_eq_true]
    intro y hy
    unfold splice at hy
    simp only [List.mem_append] at hy
    rcases hy with (hy | hy) | hy
    ·exact List.all_eq_true.1 (g4 hp) y (List.mem_of_mem_take hy)
    ·exact List.all_eq_true.1 (hpp hp) y (hmem y hy)
    ·exact List.all_eq_true.1 (g4 hp) y (List.mem_of_mem_drop hy)
   ·rw [length_splice (by omega), List.size_toArray, length_splice hfa]
    simpa using hasz
   ·rw [length_splice (by omega)]
    simp only
    rw [sub_splice (by omega) (by simpa using hasz)]
    exact (ha.splice hr _).mono fun _ _ => Rep.mono stp
 | _ => simp only at h; cases h
theorem builtin_sound {A : Ann} (hst : StR B β H w) {b : Builtin} {ts : Array TypeId} {type : TypeId} {consts : Array Bool} {args : List X} {us : Array Value} (ha : All2 (RepX B β H w) args us.toList) {v : X} {H' : Heap}
  (h : builtinX P A H b ts type consts args = some (v, H')) :
  ∃ β' w' u, (builtin b ts type consts us).run P w = .ok (.value u) w' ∧ StR B β' H' w' ∧ Stp β H w β' H' w' ∧ RepX B β' H' w' v u := by
 unfold builtinX at h
 split at h
 ·-- append
  rename_i x y
  split at h
  ·rename_i t u hts
   simp only [kR, kB, kM, kP] at h
   obtain ⟨hu, s, hs, z, hz, ⟨c, H1⟩, happ, rfl, rfl⟩ := h
   obtain ⟨us⟩ := us
   simp only at ha
   cases ha with
   | cons r1 ha =>
    cases ha with
    | cons r2 ha =>
     cases ha
     obtain ⟨el, hel⟩ := Option.isSome_iff_exists.1 hu
     have hts' : ts = #[t, u] := by cases ts; simp_all
     subst hts'
     obtain ⟨β', w', v, hrun, r1, r2, r3⟩ := append_sound (P := P) (A := A) (ty := type) hst (repX_c r1 hs) (repX_c r2 hz) hel happ
     exact ⟨β', w', v, by simp [builtin, hrun], r1, r2, r3⟩
  ·cases h
 ·-- copy
  rename_i x y
  split at h
  ·rename_i t ts' hts
   simp only [kB, kM, kP] at h
   obtain ⟨d, hd, s, hs, ⟨n, H1⟩, hcp, rfl, rfl⟩ := h
   obtain ⟨us⟩ := us
   simp only at ha
   cases ha with
   | cons r1 ha =>
    cases ha with
    | cons r2 ha =>
     cases ha
     obtain ⟨w', hrun, r1, r2⟩ := copy_sound (P := P) (ty := type) (ts := ts) hst (repX_c r1 hd) (repX_c r2 hs) (by rw [← Array.getElem?_toList, hts]; rfl) hcp
     exact ⟨β, w', _, by simp [builtin, hrun], r1, r2, rfl, rfl⟩
  ·cases h
 ·-- len of a slice
  rename_i b nil capd cs n
  simp only [kR, kI, kP] at h
  obtain ⟨ht, rfl, rfl⟩ := h
  obtain ⟨us⟩ := us
  simp only at ha
  cases ha with
  | cons r1 ha =>
   cases ha
   obtain ⟨a, cap, xs, rfl, _⟩ := r1
   obtain ⟨e, he⟩ := Option.isSome_iff_exists.1 ht
   simp only [kB] at he
   obtain ⟨t, hts, he⟩ := he
   exact ⟨β, w, _, by simp [builtin, len_slice hts he], hst, Stp.refl _ _ _, rfl, rfl⟩
 ·rename_i id st off n capd
  split at h
  ·rename_i pu mu d st' sz cs ho
   simp only [kR, kI, kP] at h
   obtain ⟨⟨rfl, ht⟩, rfl, rfl⟩ := h
   obtain ⟨us⟩ := us
   simp only at ha
   cases ha with
   | cons r1 ha =>
    cases ha
    obtain ⟨pu', mu', d', st', sz', cs', ho', hle, _, hh⟩ := r1
    rw [ho] at ho'
    simp only [kI, O.row.injEq] at ho'
    obtain ⟨rfl, rfl, rfl, rfl, rfl, rfl⟩ := ho'
    obtain ⟨_, _, a, cap, rfl, _⟩ := hh rfl
    obtain ⟨e, he⟩ := Option.isSome_iff_exists.1 ht
    simp only [kB] at he
    obtain ⟨t, hts, he⟩ := he
    exact ⟨β, w, _, by simp [builtin, len_slice hts he], hst, Stp.refl _ _ _, rfl, rfl⟩
  ·cases h
 ·-- len of a map
  rename_i id
  split at h
  ·rename_i ht
   split at h
   ·rename_i es hbg
    simp only [kI, kP] at h
    obtain ⟨rfl, rfl⟩ := h
    obtain ⟨us⟩ := us
    simp only at ha
    cases ha with
    | cons r1 ha =>
     cases ha
     obtain ⟨_, rfl, es', clock, hb, hp, _⟩ := bag_block (id := id) (es := es) hst (x := .y (.one (.mp id))) r1 (by simp only [bagX, hbg, kT])
     have hl : es'.size = es.length := by have := hp.length_eq; simpa using this
     cases hts : ts[0]? with
     | none => rw [hts] at ht; cases ht
     | some t =>
      rw [hts] at ht
      obtain ⟨k, e, hu⟩ := isMapT_under (P := P) (t := t) (by simpa using ht)
      exact ⟨β, w, goInt es'.size, by simp [builtin, len_map hts hu hb], hst, Stp.refl _ _ _, rfl, by rw [hl]⟩
   simp only [kM, kP] at h
   obtain ⟨⟨es, clock⟩, hm, rfl, rfl⟩ := h
   obtain ⟨us⟩ := us
   simp only at ha
   cases ha with
   | cons r1 ha =>
    cases ha
    obtain ⟨_, hb⟩ := map_block hst hm
    obtain ⟨_, _, _, rfl⟩ := r1
    cases hts : ts[0]? with
    | none => rw [hts] at ht; cases ht
    | some t =>
     rw [hts] at ht
     obtain ⟨k, e, hu⟩ := isMapT_under (P := P) (t := t) (by simpa using ht)
     exact ⟨β, w, _, by simp [builtin, len_map hts hu hb], hst, Stp.refl _ _ _, rfl, rfl⟩
  ·cases h
 ·-- delete
  rename_i m k
  simp only [kB, kM, kP] at h
  obtain ⟨t, hts, H1, hd, rfl, rfl⟩ := h
  obtain ⟨us⟩ := us
  simp only at ha
  cases ha with
  | cons r1 ha =>
   cases ha with
   | cons r2 ha =>
    cases ha
    obtain ⟨w', hrun, r3, r4⟩ := delete_sound (type := type) hst hts r1 r2 hd
    exact ⟨β, w', .tuple #[], by simp [builtin, hrun], r3, r4, [], rfl, .nil⟩
 ·-- clear
  rename_i x
  simp only [kB, kM, kP] at h
  obtain ⟨t, hts, c, hc, H1, hd, rfl, rfl⟩ := h
  obtain ⟨us⟩ := us
  simp only at ha
  cases ha with
  | cons r1 ha =>
   cases ha
   obtain ⟨w', hrun, r3, r4⟩ := clear_sound (ty := type) hst (repX_c r1 hc) hts hd
   exact ⟨β, w', .tuple #[], by simp [builtin, hrun], r3, r4, [], rfl, .nil⟩
 ·rename_i s
  simp only [kR, kI, kP] at h
  obtain ⟨ht, rfl, rfl⟩ := h
  obtain ⟨us⟩ := us
  simp only at ha
  cases ha with
  | cons r1 ha =>
   cases ha
   obtain ⟨_, rfl⟩ := r1
   rw [Option.any_eq_true] at ht
   obtain ⟨t, hts, hs⟩ := ht
   have hu : P.underlying t = some .string := by
    unfold isStrT at hs
    split at hs
    ·assumption
    ·cases hs
   exact ⟨β, w, _, by simp [builtin, Builtin.len_, hts, run_underlying hu], hst, Stp.refl _ _ _, rfl, rfl⟩
 ·exact builtin_plain hst ha h
theorem wp_value {o : Oper} {a : Act} {next : Act → World → Prop} {Q : Exit → Act → World → Prop} {u : Value} {w' : World} (h : (execOp a.eval o).run P w = .ok (.value u) w') (hn : next (a.put o.dst u) w') : o.wp P a w next Q := by
 unfold Oper.wp; rw [h]; exact hn
theorem wp_skip' {o : Oper} {a : Act} {next : Act → World → Prop} {Q : Exit → Act → World → Prop} {w' : World} (h : (execOp a.eval o).run P w = .ok .skip w') (hn : next (a.put o.dst undef) w') : o.wp P a w next Q := by
 unfold Oper.wp; rw [h]; exact hn
theorem wp_enter {o : Oper} {a : Act} {next : Act → World → Prop} {Q : Exit → Act → World → Prop} {w' : World} {f : FuncId} {args : Array Value} (h : (execOp a.eval o).run P w = .ok (.enter f args) w')
  (hn : Calls P f args w' fun e w'' => ∃ v, e = .returned v ∧ next (a.put o.dst v) w'') : o.wp P a w next Q := by
 unfold Oper.wp; rw [h]
 refine hn.mono fun e w'' he => ?_
 obtain ⟨v, rfl, hv⟩ := he
 exact hv
theorem snap_sound (hst : StR B β H w) {B' : Nat → Prop} (hB : ∀ b, B' b ↔ B b ∨ ∃ id o, H[id]? = some o ∧ o.mut = true ∧ (β id).1 = b) {c c' : C} {u : Value} (hr : Rep B β H w c u) (h : snapC H c = some c') {β' : Nat → Nat × Nat} :
  Rep B' β' [] w c' u := by
 have hS : ∀ b, (Free β H w b ∧ ¬ B b) → (Free β' [] w b ∧ ¬ B' b) ∧ w.heap[b]? = w.heap[b]? := by
  rintro b ⟨⟨h1, h2⟩, h3⟩
  refine ⟨⟨⟨h1, fun id o ho => by simp at ho⟩, fun hb => ?_⟩, rfl⟩
  rcases (hB b).1 hb with h | ⟨id, o, ho, hm, he⟩
  ·exact h3 h
  ·exact h2 id o ho hm he
 cases c with
 | sc v => simp only [snapC, kI] at h; subst h; exact hr
 | sl b nil capd cs n =>
  simp only [snapC, kI] at h; subst h
  obtain ⟨a, cap, xs, hu, ho, hx⟩ := hr
  refine ⟨a, cap, xs, hu, ho.mono fun x hx => ⟨⟨⟨hx.1.1, fun id o ho => by simp at ho⟩, fun hb => ?_⟩, rfl⟩, RepIL.mono hS _ _ hx⟩
  exact (hS x ⟨hx.1, hx.2 hb⟩).1.2
 | row id st off len capd =>
  simp only [snapC] at h
  obtain ⟨pu, mu, d, st', sz, cells, ho, hle, _, hh⟩ := hr
  rw [ho] at h
  cases pu with
  | false => cases h
  | true =>
   simp only [kR, kI] at h
   obtain ⟨⟨rfl, hd, hl⟩, rfl⟩ := h
   obtain ⟨_, _, a, cap, rfl, h1, h2, h3, h4⟩ := hh rfl
   obtain ⟨g1, g2, g3, g4, arr, e, hb, hsz, ha⟩ := hst.live id _ ho
   refine ⟨some a, cap, _, rfl, ⟨(fun h => by cases h), fun _ => rfl, h2, h1, fun hne => ?_⟩, RepIL.mono hS _ _ (repIL_of_rep ((ha.drop ((off - d) * sz)).take (len * sz)) (all_sub (g4 rfl)))⟩
   have hcap : 0 < cap := by
    rcases Nat.eq_zero_or_pos cap with h | h
    ·exfalso; apply hne
     have : len = 0 := by omega
     simp [this]
    ·exact h
   have haddr := h3 hcap
   subst haddr
   refine ⟨_, rfl, rfl, ⟨⟨hst.inb id _ ho rfl, fun id o ho => by simp at ho⟩, (fun h => by cases h)⟩, fun j x hj => ?_⟩
   rw [List.getElem?_take] at hj
   split at hj
   ·rw [List.getElem?_drop] at hj
    have := cell_list hb hj
    simpa only [Nat.add_assoc] using this
   ·cases hj
 | _ => simp only [snapC] at h; cases h
theorem snaps_sound (hst : StR B β H w) {B' : Nat → Prop} (hB : ∀ b, B' b ↔ B b ∨ ∃ id o, H[id]? = some o ∧ o.mut = true ∧ (β id).1 = b) {β' : Nat → Nat × Nat} : ∀ {cs cs' : List C} {us : List Value}, All2 (Rep B β H w) cs us → cs.mapM (snapC H) = some cs' → All2 (Rep B' β' [] w) cs' us := by
 intro cs
 induction cs with
 | nil => intro cs' us h hm; cases h; simp at hm; subst hm; exact .nil
 | cons c cs ih =>
  intro cs' us h hm
  cases h with
  | cons r t =>
   simp only [List.mapM_cons, Option.bind_eq_bind, kB, Option.pure_def, kI] at hm
   obtain ⟨c', hc, r', hr, rfl⟩ := hm
   exact .cons (snap_sound hst hB r hc) (ih t hr)
theorem snapY_sound (hst : StR B β H w) {B' : Nat → Prop} (hB : ∀ b, B' b ↔ B b ∨ ∃ id o, H[id]? = some o ∧ o.mut = true ∧ (β id).1 = b) {y y' : Y} {u : Value} (hr : RepY B β H w y u) (h : snapY H y = some y') {β' : Nat → Nat × Nat} :
  RepY B' β' [] w y' u := by
 cases y with
 | one c =>
  simp only [snapY, kM] at h
  obtain ⟨c', hc, rfl⟩ := h
  exact snap_sound hst hB hr hc
 | agg cs =>
  simp only [snapY, kM] at h
  obtain ⟨cs', hc, rfl⟩ := h
  obtain ⟨xs, rfl, hx⟩ := hr
  exact ⟨xs, rfl, snaps_sound hst hB hx hc⟩
theorem snapYs_sound (hst : StR B β H w) {B' : Nat → Prop} (hB : ∀ b, B' b ↔ B b ∨ ∃ id o, H[id]? = some o ∧ o.mut = true ∧ (β id).1 = b) {β' : Nat → Nat × Nat} : ∀ {cs cs' : List Y} {us : List Value}, All2 (RepY B β H w) cs us → cs.mapM (snapY H) = some cs' → All2 (RepY B' β' [] w) cs' us := by
 intro cs
 induction cs with
 | nil => intro cs' us h hm; cases h; simp at hm; subst hm; exact .nil
 | cons c cs ih =>
  intro cs' us h hm
  cases h with
  | cons r t =>
   simp only [List.mapM_cons, Option.bind_eq_bind, kB, Option.pure_def, kI] at hm
   obtain ⟨c', hc, r', hr, rfl⟩ := hm
   exact .cons (snapY_sound hst hB r hc) (ih t hr)
theorem Stp.empty {β0 β' : Nat → Nat × Nat} {H' : Heap} {w' : World} (h : Stp β0 [] w β' H' w') : ∀ b, b < w.heap.size → w'.heap[b]? = w.heap[b]? :=
 fun b hb => (h.free b ⟨hb, fun id o ho => by simp at ho⟩).1
theorem keep_stp (hst : StR B β H w) {w' : World} (os : w'.os = w.os) (tape : w'.tape = w.tape) (output : w'.output = w.output) (size : w.heap.size ≤ w'.heap.size) (hb : ∀ b, b < w.heap.size → w'.heap[b]? = w.heap[b]?) :
  Stp β H w β H w' ∧ StR B β H w' := by
 have stp : Stp β H w β H w' := by
  refine ⟨os, tape, output, size, fun b h => ⟨hb b h.1, Nat.lt_of_lt_of_le h.1 size, h.2⟩, fun id o ho => ⟨o, ho, ?_⟩⟩
  exact Kept.same fun ht => hb _ (hst.inb id o ho ht)
 exact ⟨stp, ⟨fun id o ho ht => Nat.lt_of_lt_of_le (hst.inb id o ho ht) size, hst.inj, hst.bor, fun b h => Nat.lt_of_lt_of_le (hst.blt b h) size, fun id o ho => (hst.live id o ho).mono stp rfl fun ht => hb _ (hst.inb id o ho ht)⟩⟩
theorem back_sound {B' : Nat → Prop} (hB : ∀ b, B' b ↔ B b ∨ ∃ id o, H[id]? = some o ∧ o.mut = true ∧ (β id).1 = b) {β' : Nat → Nat × Nat} {H' : Heap} (hst : StR B' β' H' w) {c c' : C} {u : Value} (hr : Rep B' β' H' w c u) (h : backC H' c = some c') :
  Rep B β H w c' u := by
 have hS : ∀ b, (b < w.heap.size ∧ ¬ B' b) → (Free β H w b ∧ ¬ B b) ∧ w.heap[b]? = w.heap[b]? := by
  rintro b ⟨h1, h2⟩
  exact ⟨⟨⟨h1, fun id o ho hm he => h2 ((hB b).2 (.inr ⟨id, o, ho, hm, he⟩))⟩, fun hb => h2 ((hB b).2 (.inl hb))⟩, rfl⟩
 have hS' : ∀ b, (Free β' H' w b ∧ ¬ B' b) → (Free β H w b ∧ ¬ B b) ∧ w.heap[b]? = w.heap[b]? := fun b hb => hS b ⟨hb.1.1, hb.2⟩
 cases c with
 | sc v => simp only [backC, kI] at h; subst h; exact hr
 | sl b nil capd cs n =>
  cases b with
  | true => cases h
  | false =>
   simp only [backC, kI] at h; subst h
   obtain ⟨a, cap, xs, hu, ho, hx⟩ := hr
   exact ⟨a, cap, xs, hu, ho.mono fun x hx => ⟨⟨(hS' x ⟨hx.1, hx.2 rfl⟩).1.1, fun _ => (hS' x ⟨hx.1, hx.2 rfl⟩).1.2⟩, rfl⟩, RepIL.mono hS' _ _ hx⟩
 | row id st off len capd =>
  simp only [backC] at h
  obtain ⟨pu, mu, d, st', sz, cells, ho, hle, _, hh⟩ := hr
  rw [ho] at h
  cases pu with
  | false => cases h
  | true =>
   simp only [kR, kI] at h
   obtain ⟨⟨rfl, hd, hl⟩, rfl⟩ := h
   obtain ⟨_, _, a, cap, rfl, h1, h2, h3, h4⟩ := hh rfl
   obtain ⟨g1, g2, g3, g4, arr, e, hb, hsz, ha⟩ := hst.live id _ ho
   refine ⟨some a, cap, _, rfl, ⟨(fun h => by cases h), fun _ => rfl, h2, h1, fun hne => ?_⟩, RepIL.mono hS' _ _ (repIL_of_rep ((ha.drop ((off - d) * sz)).take (len * sz)) (all_sub (g4 rfl)))⟩
   have hcap : 0 < cap := by
    rcases Nat.eq_zero_or_pos cap with h | h
    ·exfalso; apply hne
     have : len = 0 := by omega
     simp [this]
    ·exact h
   have haddr := h3 hcap
   subst haddr
   have hf := (hS _ ⟨hst.inb id _ ho rfl, hst.bor id _ ho rfl⟩).1
   refine ⟨_, rfl, rfl, ⟨hf.1, fun _ => hf.2⟩, fun j x hj => ?_⟩
   rw [List.getElem?_take] at hj
   split at hj
   ·rw [List.getElem?_drop] at hj
    have := cell_list hb hj
    simpa only [Nat.add_assoc] using this
   ·cases hj
 | _ => simp only [backC] at h; cases h
theorem backs_sound {B' : Nat → Prop} (hB : ∀ b, B' b ↔ B b ∨ ∃ id o, H[id]? = some o ∧ o.mut = true ∧ (β id).1 = b) {β' : Nat → Nat × Nat} {H' : Heap} (hst : StR B' β' H' w) : ∀ {cs cs' : List C} {us : List Value}, All2 (Rep B' β' H' w) cs us → cs.mapM (backC H') = some cs' → All2 (Rep B β H w) cs' us := by
 intro cs
 induction cs with
 | nil => intro cs' us h hm; cases h; simp at hm; subst hm; exact .nil
 | cons c cs ih =>
  intro cs' us h hm
  cases h with
  | cons r t =>
   simp only [List.mapM_cons, Option.bind_eq_bind, kB, Option.pure_def, kI] at hm
   obtain ⟨c', hc, r', hr, rfl⟩ := hm
   exact .cons (back_sound hB hst r hc) (ih t hr)
theorem backY_sound {B' : Nat → Prop} (hB : ∀ b, B' b ↔ B b ∨ ∃ id o, H[id]? = some o ∧ o.mut = true ∧ (β id).1 = b) {β' : Nat → Nat × Nat} {H' : Heap} (hst : StR B' β' H' w) {y y' : Y} {u : Value} (hr : RepY B' β' H' w y u) (h : backY H' y = some y') :
  RepY B β H w y' u := by
 cases y with
 | one c =>
  simp only [backY, kM] at h
  obtain ⟨c', hc, rfl⟩ := h
  exact back_sound hB hst hr hc
 | agg cs =>
  simp only [backY, kM] at h
  obtain ⟨cs', hc, rfl⟩ := h
  obtain ⟨xs, rfl, hx⟩ := hr
  exact ⟨xs, rfl, backs_sound hB hst hx hc⟩
theorem backYs_sound {B' : Nat → Prop} (hB : ∀ b, B' b ↔ B b ∨ ∃ id o, H[id]? = some o ∧ o.mut = true ∧ (β id).1 = b) {β' : Nat → Nat × Nat} {H' : Heap} (hst : StR B' β' H' w) : ∀ {cs cs' : List Y} {us : List Value}, All2 (RepY B' β' H' w) cs us → cs.mapM (backY H') = some cs' → All2 (RepY B β H w) cs' us := by
 intro cs
 induction cs with
 | nil => intro cs' us h hm; cases h; simp at hm; subst hm; exact .nil
 | cons c cs ih =>
  intro cs' us h hm
  cases h with
  | cons r t =>
   simp only [List.mapM_cons, Option.bind_eq_bind, kB, Option.pure_def, kI] at hm
   obtain ⟨c', hc, r', hr, rfl⟩ := hm
   exact .cons (backY_sound hB hst r hc) (ih t hr)
theorem pack_mapM {f : Y → Option Y} {rs rs' : List Y} (h : rs.mapM f = some rs') : (∃ r r', rs = [r] ∧ rs' = [r'] ∧ f r = some r') ∨ (pack rs = .tup rs ∧ pack rs' = .tup rs') := by
 match rs, h with
 | [], h => simp at h; subst h; exact .inr ⟨rfl, rfl⟩
 | [r], h =>
  simp only [List.mapM_cons, List.mapM_nil, Option.bind_eq_bind, kB, Option.pure_def, kI] at h
  obtain ⟨r', hr, x, rfl, rfl⟩ := h
  exact .inl ⟨r, r', rfl, rfl, hr⟩
 | r :: s :: t, h =>
  simp only [List.mapM_cons, Option.bind_eq_bind, kB, Option.pure_def, kI] at h
  obtain ⟨r', hr, x, ⟨s', hs, t', ht, rfl⟩, rfl⟩ := h
  exact .inr ⟨rfl, rfl⟩
theorem call_sound {A : Ann} {K : Callee} (hK : CallOK P K) (hst : StR B β H w) {f : FuncId} {args : List Y} {us : List Value} (ha : All2 (RepY B β H w) args us) {v : X} {H' : Heap} (h : callX A K f args H = some (v, H')) :
  (∃ fn, P.funcs[f]? = some fn ∧ fn.body.isSome = true) ∧
   Calls P f us.toArray w fun e w' => ∃ u β', e = .returned u ∧ StR B β' H' w' ∧ Stp β H w β' H' w' ∧ RepX B β' H' w' v u := by
 unfold callX at h
 split at h
 ·simp only [kB, kM, kP] at h
  obtain ⟨as, has, ⟨rs, H1⟩, hk, rs', hrs, rfl, rfl⟩ := h
  obtain ⟨hfn, hc⟩ := hK _ _ _ _ _ hk
  refine ⟨hfn, ?_⟩
  let B' : Nat → Prop := fun b => B b ∨ ∃ id o, H[id]? = some o ∧ o.mut = true ∧ (β id).1 = b
  have hB : ∀ b, B' b ↔ B b ∨ ∃ id o, H[id]? = some o ∧ o.mut = true ∧ (β id).1 = b := fun b => Iff.rfl
  have hst0 : StR B' β [] w := ⟨fun id o h => by simp at h, fun i j oi oj h => by simp at h, fun id o h => by simp at h, fun b hb => by
   rcases hb with hb | ⟨id, o, ho, hm, rfl⟩
   ·exact hst.blt b hb
   ·exact hst.inb id o ho (O.there_mut hm), fun id o h => by simp at h⟩
  refine (hc B' β w us hst0 (snapYs_sound hst hB ha has)).mono fun e w' he => ?_
  obtain ⟨u, β', rfl, hst', stp', hr⟩ := he
  obtain ⟨stp, hstk⟩ := keep_stp hst stp'.os stp'.tape stp'.output stp'.size stp'.empty
  refine ⟨u, β, rfl, hstk, stp, ?_⟩
  unfold RepRes at hr
  rcases pack_mapM hrs with ⟨r, r', rfl, rfl, hb⟩ | ⟨h1, h2⟩
  ·exact backY_sound hB hst' hr hb
  ·rw [h1] at hr
   rw [h2]
   obtain ⟨xs, rfl, hx⟩ := hr
   exact ⟨xs, rfl, backYs_sound hB hst' hx hrs⟩
 ·simp only [kM, kP] at h
  obtain ⟨⟨rs, H1⟩, hk, rfl, rfl⟩ := h
  obtain ⟨hfn, hc⟩ := hK _ _ _ _ _ hk
  exact ⟨hfn, hc B β w us hst ha⟩
end
end Go.Lg
end
section
namespace Go.Lg
section
variable {P : Program} {B : Nat → Prop} {β : Nat → Nat × Nat} {H : Heap} {w : World}
theorem run_value {s : Sem Value} {u : Value} {w' : World} (h : s.run P w = .ok u w') : ((do pure (Next.value (← s))) : Sem Next).run P w = .ok (.value u) w' := by simp [h]
theorem alls_y {e : Env} {a : Act} (he : EnvR B β H w e a.tmps) : ∀ {xs : List Operand} {ys : List Y}, (xs.map (ev e)).mapM X.y? = some ys → All2 (RepY B β H w) ys (xs.map a.eval) := by
 intro xs
 induction xs with
 | nil => intro ys h; simp at h; subst h; exact .nil
 | cons x xs ih =>
  intro ys h
  simp only [List.map_cons, List.mapM_cons, Option.bind_eq_bind, kB, Option.pure_def, kI] at h
  obtain ⟨y, hy, r, hr, rfl⟩ := h
  exact .cons (repX_y (ev_sound he x) hy) (ih hr)
theorem alls_c {e : Env} {a : Act} (he : EnvR B β H w e a.tmps) : ∀ {xs : List Operand} {ys : List C}, (xs.map (ev e)).mapM X.c? = some ys → All2 (Rep B β H w) ys (xs.map a.eval) := by
 intro xs
 induction xs with
 | nil => intro ys h; simp at h; subst h; exact .nil
 | cons x xs ih =>
  intro ys h
  simp only [List.map_cons, List.mapM_cons, Option.bind_eq_bind, kB, Option.pure_def, kI] at h
  obtain ⟨y, hy, r, hr, rfl⟩ := h
  exact .cons (repX_c (ev_sound he x) hy) (ih hr)
theorem repA_of {c : C} {u : Value} (h : Rep B β H w c u) (hc : c.atom = true) : RepA B β H w c u := by
 cases c <;> first | (cases hc; done) | exact h
theorem part_sound (hP : POk P) {t : TypeId} {off n : Nat} {cs : List C} {arr : Array Value} (ha : All2 (Rep B β H w) cs arr.toList) (hsz : szT P t = some n) (hl : off + n ≤ cs.length) {v : Y} (hv : mkY (isAggT P t) (sub off n cs) = some v) :
  ∃ u, (part t arr off).run P w = .ok u w ∧ RepY B β H w v u := by
 obtain ⟨i, hi, _⟩ := szT_info hsz
 obtain ⟨d, hd⟩ := hP.under t i hi
 have hr := repY_mk (P := P) (t := t) ((ha.drop off).take n) hv
 have hal := ha.length
 have hal' : arr.toList.length = arr.size := Array.length_toList
 cases hag : isAggT P t with
 | true =>
  rw [hag] at hr
  simp only [if_true] at hr
  refine ⟨.agg (arr.extract off (off + n)), ?_, ?_⟩
  ·simp [part, run_isAggT hd, hag, run_szT hsz]
  ·have : (arr.extract off (off + n)) = ((arr.toList.drop off).take n).toArray := by
    apply Array.ext'
    simp [Array.toList_extract, List.extract]
   rw [this]; exact hr
 | false =>
  have h1 := mkY_one hv hag
  rw [hag] at hr
  simp only [Bool.false_eq_true, if_false] at hr
  have hn : n = 1 := by simp [sub] at h1; omega
  subst hn
  have hlt : off < arr.size := by omega
  refine ⟨arr[off], ?_, ?_⟩
  ·simp [part, run_isAggT hd, hag, hlt]
  ·have : ((arr.toList.drop off).take 1).headD undef = arr[off] := by
    rw [List.drop_eq_getElem_cons (by omega)]
    simp
   rw [this] at hr; exact hr
theorem op_sound {A : Ann} {K : Callee} (hP : POk P) (hK : CallOK P K) {e : Env} {o : Oper} {v : X} {H' : Heap} (h : opX P A K (ev e) H o = some (v, H')) {a : Act} (hst : StR B β H w) (he : EnvR B β H w e a.tmps)
  {next : Act → World → Prop} {Q : Exit → Act → World → Prop} (hn : ∀ β' w' u, StR B β' H' w' → Stp β H w β' H' w' → RepX B β' H' w' v u → next (a.put o.dst u) w') : o.wp P a w next Q := by
 cases hop : o.op with
 | move x | assign x =>
  simp only [opX, hop, kI, kP] at h
  obtain ⟨rfl, rfl⟩ := h
  exact wp_value (w' := w) (u := a.eval x) (by simp [execOp, hop]) (hn β w _ hst (Stp.refl _ _ _) (ev_sound he x))
 | pick c x y =>
  simp only [opX, hop] at h
  split at h
  ·rename_i t ht
   simp only [kI, kP] at h
   obtain ⟨rfl, rfl⟩ := h
   have hc := ev_sound he c
   rw [ht] at hc
   obtain ⟨_, hc⟩ := hc
   cases t with
   | true => exact wp_value (w' := w) (u := a.eval x) (by simp [execOp, hop, hc, asBool]) (hn β w _ hst (Stp.refl _ _ _) (ev_sound he x))
   | false => exact wp_value (w' := w) (u := a.eval y) (by simp [execOp, hop, hc, asBool]) (hn β w _ hst (Stp.refl _ _ _) (ev_sound he y))
  ·cases h
 | alloc t =>
  simp only [opX, hop, kM, kP] at h
  obtain ⟨cs, hz, rfl, rfl⟩ := h
  obtain ⟨i, z, hi, hz, _, hr⟩ := zero_rep (B := B) (β := β) (H := H) (w := w) hz
  obtain ⟨r1, r2, r3⟩ := obj_sound (e := t) hst hr
  refine wp_value ?_ (hn _ _ _ r1 r2 r3)
  simp [execOp, hop, Instr.alloc, zeroValue, typeInfo, hi, hz, newVar, Go.newRow]
 | box t x =>
  simp only [opX, hop, kB, kR, kI, kP] at h
  obtain ⟨y, hy, ⟨hl, _⟩, rfl, rfl⟩ := h
  obtain ⟨hc, _⟩ := repY_cells (repX_y (ev_sound he x) hy) hl
  obtain ⟨r1, r2, r3⟩ := obj_sound (e := t) hst hc
  refine wp_value ?_ (hn _ _ _ r1 r2 r3)
  simp [execOp, hop, Instr.box, newVar, Go.newRow]
 | build t ps =>
  simp only [opX, hop, kB, kR, kM, kP] at h
  obtain ⟨z, hz, ha, cs, hcs, rfl, rfl⟩ := h
  obtain ⟨arr, hrun, hr⟩ := build_sound hP hz ha (parts_sound he ps) hcs
  exact wp_value (by simpa [execOp, hop] using run_value hrun) (hn β w _ hst (Stp.refl _ _ _) ⟨arr.toList, by simp, hr⟩)
 | buildSlice t n ps =>
  simp only [opX, hop, kB, kR] at h
  obtain ⟨el, hel, sz, hsz, z, hz, ⟨h0, hsm⟩, cs, hcs, h⟩ := h
  by_cases hdry : A.dryB t = true
  ·rw [if_pos hdry] at h
   simp only [kR, kI, kP] at h
   obtain ⟨himm, rfl, rfl⟩ := h
   have hi : immL H cs = some (cs, H) := by
    clear hcs hn
    induction cs with
    | nil => rfl
    | cons c cs ih =>
     simp only [List.all_cons, kA] at himm
     have hc : immC H c = some (c, H) := by
      have hi := himm.1
      cases c <;> first | (cases hi; done) | (unfold immC; exact if_pos hi)
     simp only [immL, hc, kS, ih himm.2, kT]
   obtain ⟨β', w', u, hrun, r1, r2, r3⟩ := buildSlice_sound (A := { A with pureSl := fun _ => true }) hst hel hsz hz h0 hsm (parts_sound he ps) hcs (c := .sl false false true cs n) (H' := H) (by simp only [if_true, hi, kT])
   exact wp_value (by simpa [execOp, hop] using run_value hrun) (hn β' w' u r1 r2 r3)
  rw [if_neg hdry] at h
  have h' : ∃ c, v = .y (.one c) ∧ (if A.pureSl t then (immL H cs).map fun (cs, H) => (C.sl false false true cs n, H) else some (rowNew H false sz n cs)) = some (c, H') := by
   by_cases hp : A.pureSl t = true
   ·rw [if_pos hp] at h ⊢
    simp only [kM, kP] at h
    obtain ⟨⟨cs', H1⟩, him, rfl, rfl⟩ := h
    exact ⟨_, rfl, by rw [him]; rfl⟩
   ·rw [if_neg hp] at h ⊢
    simp only [kI, kP] at h
    obtain ⟨rfl, rfl⟩ := h
    exact ⟨_, rfl, rfl⟩
  obtain ⟨c, rfl, h'⟩ := h'
  obtain ⟨β', w', u, hrun, r1, r2, r3⟩ := buildSlice_sound hst hel hsz hz h0 hsm (parts_sound he ps) hcs h'
  exact wp_value (by simpa [execOp, hop] using run_value hrun) (hn β' w' u r1 r2 r3)
 | load t x =>
  simp only [opX, hop, kB, kR, kM, kP] at h
  obtain ⟨c, hc, n, hsz, h0, cs, hcs, y, hy, rfl, rfl⟩ := h
  obtain ⟨ad, u, heq, hrun, hr⟩ := load_sound hP hst (repX_c (ev_sound he x) hc) hsz h0 hcs hy
  exact wp_value (w' := w) (u := u) (by simp [execOp, hop, Instr.loadAt, heq, Instr.sureAddr, hrun]) (hn β w _ hst (Stp.refl _ _ _) hr)
 | store t x y =>
  simp only [opX, hop, kB, kR, kM, kP] at h
  obtain ⟨c, hc, z, hz, hsz, H1, hs, rfl, rfl⟩ := h
  obtain ⟨w', hrun, r1, r2⟩ := st_sound hst (repX_c (ev_sound he x) hc) (repX_y (ev_sound he y) hz) hsz hs
  exact wp_skip' (w' := w') (by simp [execOp, hop, hrun]) (hn β w' _ r1 r2 ⟨[], rfl, .nil⟩)
 | nilCheck x =>
  simp only [opX, hop] at h
  have hx := ev_sound he x
  split at h <;> first | cases h | skip
  all_goals
   rename_i hex
   rw [hex] at hx
   refine wp_value (w' := w) (u := a.eval x) ?_ (hn β w _ hst (Stp.refl _ _ _) hx)
  ·obtain ⟨_, _, hx⟩ := hx; simp [execOp, hop, hx]
  ·obtain ⟨_, _, hx, _⟩ := hx; simp [execOp, hop, hx]
  ·obtain ⟨_, _, _, _, _, _, _, _, ⟨_, hx⟩, _⟩ := hx; simp [execOp, hop, hx]
  ·obtain ⟨_, _, hx, _⟩ := hx; simp [execOp, hop, hx]
  ·obtain ⟨_, _, _, hx⟩ := hx; simp [execOp, hop, hx]
 | binOp op t x y yt =>
  simp only [opX, hop, kM, kP] at h
  obtain ⟨r, hr, rfl, rfl⟩ := h
  obtain ⟨u, hrun, hu⟩ := bin_sound hst (ev_sound he x) (ev_sound he y) hr
  exact wp_value (w' := w) (u := u) (by simpa [execOp, hop] using run_value hrun) (hn β w _ hst (Stp.refl _ _ _) hu)
 | unOp op t x =>
  simp only [opX, hop, kB, kM, kP] at h
  obtain ⟨b, hb, u, hu, rfl, rfl⟩ := h
  have := repX_toV (ev_sound he x) hb
  exact wp_value (w' := w) (u := u) (by simpa [execOp, hop, this] using run_value (pv_run w hu)) (hn β w _ hst (Stp.refl _ _ _) (repY_ofV u))
 | convert s d x =>
  simp only [opX, hop, kB, kM, kP] at h
  obtain ⟨b, hb, u, hu, rfl, rfl⟩ := h
  have := repX_toV (ev_sound he x) hb
  exact wp_value (w' := w) (u := u) (by simpa [execOp, hop, this] using run_value (pv_run w hu)) (hn β w _ hst (Stp.refl _ _ _) (repY_ofV u))
 | makeFunc f first cap =>
  simp only [opX, hop, kB, kR, kI, kP] at h
  obtain ⟨as, has, cs, hcs, hall, rfl, rfl⟩ := h
  rw [List.all_eq_true] at hall
  have h1 := (alls_c he has).mono_mem fun c u hm hr => repA_of hr (hall c (by simp [hm]))
  have h2 := (alls_c he hcs).mono_mem fun c u hm hr => repA_of hr (hall c (by simp [hm]))
  refine wp_value (w' := w) (u := .func f (first.map a.eval) (cap.map a.eval)) (by simp [execOp, hop, Instr.makeFunc]) (hn β w _ hst (Stp.refl _ _ _) ⟨_, _, ?_, h1, h2⟩)
  congr 1 <;> (apply Array.ext'; simp)
 | makeSlice t l c =>
  simp only [opX, hop, kB, kR, kI, kP] at h
  obtain ⟨el, hel, sz, hsz, by_, hby, z, hz, n, hl, m, hc, ⟨h0, h1, h2, h3, h4, h5⟩, rfl, rfl⟩ := h
  obtain ⟨kl, hkl⟩ := repX_int (ev_sound he l) hl
  obtain ⟨kc, hkc⟩ := repX_int (ev_sound he c) hc
  obtain ⟨β', w', u, hrun, r1, r2, r3⟩ := make_sound (P := P) (B := B) (pu := A.pureSl t) (kl := kl) (kc := kc) hst hel hsz hby hz h0 h1 h2 h3 h4 h5
  exact wp_value (by simpa [execOp, hop, hkl, hkc] using run_value hrun) (hn β' w' u r1 r2 r3)
 | slice t x lo hi mx =>
  simp only [opX, hop, kM, kP] at h
  obtain ⟨r, hr, rfl, rfl⟩ := h
  obtain ⟨u, hrun, hu⟩ := slice_sound hst (ev_sound he x) (opt_sound he lo) (opt_sound he hi) (opt_sound he mx) hr
  exact wp_value (w' := w) (u := u) (by simpa [execOp, hop] using run_value hrun) (hn β w _ hst (Stp.refl _ _ _) hu)
 | fieldAddr t x j =>
  simp only [opX, hop, kB, kR, kM, kP] at h
  obtain ⟨c, hc, f, hf, sz, hsz, h0, c', hc', rfl, rfl⟩ := h
  obtain ⟨u, hrun, hu⟩ := fieldAddr_sound (repX_c (ev_sound he x) hc) hf hsz h0 hc'
  exact wp_value (w' := w) (u := u) (by simpa [execOp, hop] using run_value hrun) (hn β w _ hst (Stp.refl _ _ _) hu)
 | field t x j =>
  simp only [opX, hop] at h
  split at h
  ·rename_i cs hcs
   simp only [kB, kR, kM, kP] at h
   obtain ⟨f, hf, sz, hsz, hl, y, hy, rfl, rfl⟩ := h
   have hx := ev_sound he x
   rw [hcs] at hx
   obtain ⟨xs, hxe, hxs⟩ := hx
   obtain ⟨u, hrun, hu⟩ := part_sound hP (arr := xs.toArray) hxs hsz hl hy
   refine wp_value (w' := w) (u := u) ?_ (hn β w _ hst (Stp.refl _ _ _) hu)
   unfold fieldsOf at hf
   split at hf
   ·rename_i fs hu'
    simp [execOp, hop, Instr.field, run_underlying hu', hf, hxe, asAgg, hrun]
   ·cases hf
  ·cases h
 | indexAddr t x i =>
  simp only [opX, hop, kB, kM, kP] at h
  obtain ⟨c, hc, n, hi, c', hc', rfl, rfl⟩ := h
  obtain ⟨k, hk⟩ := repX_int (ev_sound he i) hi
  obtain ⟨u, hrun, hu⟩ := indexAddr_sound (k := k) hst (repX_c (ev_sound he x) hc) hc'
  exact wp_value (w' := w) (u := u) (by simpa [execOp, hop, hk] using run_value hrun) (hn β w _ hst (Stp.refl _ _ _) hu)
 | index t x i =>
  simp only [opX, hop, kB] at h
  obtain ⟨n, hi, h⟩ := h
  obtain ⟨k, hk⟩ := repX_int (ev_sound he i) hi
  have hx := ev_sound he x
  split at h
  ·rename_i len el cs hu hcs
   simp only [kB, kR, kM, kP] at h
   obtain ⟨sz, hsz, ⟨h0, h1, h2⟩, y, hy, rfl, rfl⟩ := h
   rw [hcs] at hx
   obtain ⟨xs, hxe, hxs⟩ := hx
   obtain ⟨u, hrun, hr⟩ := part_sound hP (arr := xs.toArray) hxs hsz h2 hy
   refine wp_value (w' := w) (u := u) ?_ (hn β w _ hst (Stp.refl _ _ _) hr)
   simp [execOp, hop, Instr.index, hk, asIntOf, run_underlying hu, hxe, h0, h1, run_szT hsz, hrun]
  ·rename_i s hu hcs
   simp only [kR, kM, kP] at h
   obtain ⟨h0, b, hb, rfl, rfl⟩ := h
   rw [hcs] at hx
   obtain ⟨_, hxe⟩ := hx
   refine wp_value (w' := w) (u := .int .u8 b.toNat) ?_ (hn β w _ hst (Stp.refl _ _ _) ⟨rfl, rfl⟩)
   simp [execOp, hop, Instr.index, hk, asIntOf, run_underlying hu, hxe, h0, hb]
  ·cases h
 | extract t j =>
  simp only [opX, hop] at h
  split at h
  ·rename_i vs hvs
   simp only [kM, kP] at h
   obtain ⟨y, hy, rfl, rfl⟩ := h
   have hx := ev_sound he t
   rw [hvs] at hx
   obtain ⟨xs, hxe, hxs⟩ := hx
   obtain ⟨u, hu, hr⟩ := hxs.get hy
   refine wp_value (w' := w) (u := u) ?_ (hn β w _ hst (Stp.refl _ _ _) hr)
   simp [execOp, hop, Instr.extract, hxe, hu]
  ·cases h
 | call c =>
  simp only [opX, hop] at h
  split at h
  ·rename_i b hb
   have ha := evs_sound he c.args.toList
   obtain ⟨β', w', u, hrun, r1, r2, r3⟩ := builtin_sound (us := c.args.map a.eval) hst (by rw [Array.toList_map]; exact ha) h
   refine wp_value ?_ (hn β' w' u r1 r2 r3)
   simp [execOp, hop, resolve, hb, invoke]
   exact hrun
  ·rename_i f hf
   split at h
   ·rename_i g first cap hg
    simp only [kB] at h
    obtain ⟨as, has, h⟩ := h
    have hx := ev_sound he f
    rw [hg] at hx
    obtain ⟨us, vs, hfe, h1, h2⟩ := hx
    have hargs : All2 (RepY B β H w) (first.map Y.one ++ as ++ cap.map Y.one) (us ++ c.args.toList.map a.eval ++ vs) := by
     have k1 : ∀ {l : List C} {m : List Value}, All2 (RepA B β H w) l m → All2 (RepY B β H w) (l.map Y.one) m := by
      intro l m hm
      induction hm with
      | nil => exact .nil
      | cons r _ ih =>
       refine .cons ?_ ih
       rename_i c u _ _ _
       cases c <;> first | exact r | exact r.elim
     exact ((k1 h1).append (alls_y he has)).append (k1 h2)
    obtain ⟨⟨fn, hfn, hbody⟩, hc⟩ := call_sound hK hst hargs h
    have hname := hP.names g fn hfn
    refine wp_enter (f := g) (args := (us ++ c.args.toList.map a.eval ++ vs).toArray) (w' := w) ?_ (hc.mono fun ee w' hh => ?_)
    ·have hnb : fn.body ≠ none := by cases hfb : fn.body <;> simp_all
     have hname' : fn.name ≠ "runtime.NumGoroutine" := by simpa using hname
     simp [execOp, hop, resolve, hf, hfe, Deferred.ofValue, invoke, callFunc, hfn, hname', hnb]
    ·obtain ⟨u, β', rfl, r1, r2, r3⟩ := hh
     exact ⟨u, rfl, hn β' w' u r1 r2 r3⟩
   ·cases h
  ·cases h
 | makeMap t r =>
  simp only [opX, hop, kR, kI, kP, kA] at h
  obtain ⟨⟨ht, hr⟩, rfl, rfl⟩ := h
  obtain ⟨k, e, hu⟩ := isMapT_under ht
  obtain ⟨h1, h2⟩ := map_new hst (if A.bagT t then .bag [] else .map #[] 0) (.map #[] 0) (fun β' w' hb _ => by
   split
   ·exact ⟨#[], 0, hb, .refl _, by simp, by simp⟩
   ·exact hb)
  refine wp_value (u := .map (some w.heap.size)) ?_ (hn _ _ _ h1 h2 ⟨if A.bagT t then .bag [] else .map #[] 0, by simp, by cases A.bagT t <;> rfl, by rw [upd_same]⟩)
  cases r with
  | none => simp [execOp, hop, Instr.makeMap]
  | some x =>
   simp only [kT, Option.all_some] at hr
   obtain ⟨n, hi⟩ := Option.isSome_iff_exists.1 hr
   obtain ⟨k, hk⟩ := repX_int (ev_sound he x) hi
   simp [execOp, hop, Instr.makeMap, run_underlying hu, hk, asInt, asIntOf]
 | lookup t x i ok =>
  simp only [opX, hop, kM, kP] at h
  obtain ⟨v', hv, rfl, rfl⟩ := h
  obtain ⟨u, hrun, hr⟩ := lookup_sound hst (ev_sound he x) (ev_sound he i) hv
  exact wp_value (w' := w) (u := u) (by simpa [execOp, hop] using run_value hrun) (hn β w _ hst (Stp.refl _ _ _) hr)
 | mapUpdate t m k x =>
  simp only [opX, hop, kM, kP] at h
  obtain ⟨H1, hu, rfl, rfl⟩ := h
  obtain ⟨w', hrun, r1, r2⟩ := update_sound hst (ev_sound he m) (ev_sound he k) (ev_sound he x) hu
  exact wp_skip' (w' := w') (by simp [execOp, hop, hrun]) (hn β w' _ r1 r2 ⟨[], rfl, .nil⟩)
 | insert t m k x =>
  simp only [opX, hop, kM, kP] at h
  obtain ⟨H1, hu, rfl, rfl⟩ := h
  obtain ⟨w', hrun, r1, r2⟩ := update_sound hst (ev_sound he m) (ev_sound he k) (ev_sound he x) hu
  exact wp_skip' (w' := w') (by simp [execOp, hop, hrun]) (hn β w' _ r1 r2 ⟨[], rfl, .nil⟩)
 | mapEntry t m k =>
  simp only [opX, hop] at h
  obtain ⟨w', u, hrun, r1, r2, r3⟩ := mapEntry_sound hst (ev_sound he m) (ev_sound he k) h
  exact wp_value (u := u) (by simpa [execOp, hop] using run_value hrun) (hn β w' _ r1 r2 r3)
 | entryStore t m k x =>
  simp only [opX, hop, kM, kP] at h
  obtain ⟨H1, hu, rfl, rfl⟩ := h
  have hki : ∃ n, (ev e k).int? = some n := by
   unfold entryStoreX at hu
   split at hu
   ·simp only [kB] at hu
    obtain ⟨_, _, n, hn', _⟩ := hu
    exact ⟨n, hn'⟩
   ·cases hu
  obtain ⟨n, hi⟩ := hki
  obtain ⟨ik, hk⟩ := repX_int (ev_sound he k) hi
  obtain ⟨w', hrun, r1, r2⟩ := entryStore_sound (P := P) (t := t) (ik := ik) hst (ev_sound he m) hi (ev_sound he x) hu
  exact wp_skip' (w' := w') (by simp [execOp, hop, hk, hrun]) (hn β w' _ r1 r2 ⟨[], rfl, .nil⟩)
 | range t x =>
  simp only [opX, hop] at h
  obtain ⟨β', w', u, hrun, r1, r2, r3⟩ := range_sound hst (ev_sound he x) h
  exact wp_value (u := u) (by simpa [execOp, hop] using run_value hrun) (hn β' w' _ r1 r2 r3)
 | next it isString =>
  simp only [opX, hop] at h
  cases isString with
  | true => cases h
  | false =>
   simp only [Bool.false_eq_true, if_false] at h
   obtain ⟨w', u, hrun, r1, r2, r3⟩ := next_sound (type := o.type) hst (ev_sound he it) h
   exact wp_value (u := u) (by simpa [execOp, hop] using run_value hrun) (hn β w' _ r1 r2 r3)
 | entry it =>
  simp only [opX, hop, kM, kP] at h
  obtain ⟨v', hv, rfl, rfl⟩ := h
  obtain ⟨u, hrun, hr⟩ := entry_sound hst (ev_sound he it) hv
  exact wp_value (w' := w) (u := u) (by simpa [execOp, hop] using run_value hrun) (hn β w _ hst (Stp.refl _ _ _) hr)
 | _ => simp only [opX, hop] at h; cases h
end
end Go.Lg
end
section
namespace Go.Lg
section
variable {P : Program} {B : Nat → Prop} {β : Nat → Nat × Nat} {H : Heap} {w : World}
theorem put_size (a : Act) (d : Option Nat) (u : Value) : (a.put d u).tmps.size = a.tmps.size := by cases d <;> simp [Act.put]
theorem put_defers (a : Act) (d : Option Nat) (u : Value) : (a.put d u).defers = a.defers := by cases d <;> rfl
theorem envR_put {e : Env} {a : Act} (he : EnvR B β H w e a.tmps) {d : Option Nat} (hd : ∀ t, d = some t → t < a.tmps.size) {v : X} {u : Value} (hr : RepX B β H w v u) : EnvR B β H w (putD d v e) (a.put d u).tmps := by
 cases d with
 | none => exact he
 | some t =>
  intro s
  have ht := hd t rfl
  simp only [putD, get, Act.put]
  by_cases e : t = s
  ·subst e
   rw [if_pos rfl, Array.getD_eq_getD_getElem?, Array.getElem?_setIfInBounds]
   simp [ht, hr]
  ·rw [if_neg e, Array.getD_eq_getD_getElem?, Array.getElem?_setIfInBounds, if_neg e, ← Array.getD_eq_getD_getElem?]
   exact he s
theorem want_sound {ops : Array Oper} {e : Env} {o : Oper} {b : Bool} (h : wantX ops (get e) o = some b) {a : Act} (he : EnvR B β H w e a.tmps) : Region.wanted o (yielded ops a.tmps) = b := by
 unfold wantX at h
 unfold Region.wanted
 cases hg : o.guard with
 | none => rw [hg] at h; simpa using h
 | some p =>
  obtain ⟨j, want⟩ := p
  rw [hg] at h
  simp only at h ⊢
  cases hd : (ops[j]?).bind (·.dst) with
  | none =>
   rw [hd] at h
   simp only [Option.map_none, kI] at h
   simp [yielded, hd, ← h]
  | some t =>
   rw [hd] at h
   simp only [kT] at h
   have hr := he t
   split at h
   ·rename_i b' hb
    simp only [kI] at hb
    rw [hb] at hr
    obtain ⟨_, hr⟩ := hr
    have hget : a.tmps[t]? = some (.bool b') := by
     rw [Array.getD_eq_getD_getElem?] at hr
     cases hx : a.tmps[t]? with
     | none => rw [hx] at hr; simp [undef] at hr
     | some x => rw [hx] at hr; simpa using hr
    simp only [kI] at h
    simp [yielded, hd, hget, ← h]
   ·rename_i vs hb
    simp only [kI] at hb h
    rw [hb] at hr
    obtain ⟨xs, hr, _⟩ := hr
    have : yielded ops a.tmps j = none := by
     simp only [yielded, hd, kS]
     rw [Array.getD_eq_getD_getElem?] at hr
     cases hx : a.tmps[t]? with
     | none => rfl
     | some x => rw [hx] at hr; simp only [Option.getD_some] at hr; rw [hr]
    rw [this, ← h]; rfl
   ·rename_i hb; cases hb
   ·cases h
def dstOK (n : Nat) (ops : Array Oper) : Bool := ops.all fun o => match o.dst with | some d => decide (d < n) | none => true
theorem dstOK_spec {n : Nat} {ops : Array Oper} (h : dstOK n ops = true) {i : Nat} {o : Oper} (ho : ops[i]? = some o) : ∀ t, o.dst = some t → t < n := by
 intro t ht
 unfold dstOK at h
 rw [Array.all_eq_true'] at h
 have := h o (Array.mem_of_getElem? ho)
 rw [ht] at this
 simpa using this
theorem late_sound {id : Nat} {o : Oper} {v : X} {H' : Heap} (h : fillH P id H o = some (v, H')) {a : Act} (hst : StR B β H w)
  {next : Act → World → Prop} {Q : Exit → Act → World → Prop} (hn : ∀ β' w' u, StR B β' H' w' → Stp β H w β' H' w' → RepX B β' H' w' v u → next (a.put o.dst u) w') : o.wp P a w next Q := by
 unfold fillH at h
 split at h
 ·rename_i t hop
  split at h
  ·rename_i hh
   simp only [kM, kP] at h
   obtain ⟨cs, hz, rfl, rfl⟩ := h
   obtain ⟨i, z, hi, hz, _, hr⟩ := zero_rep (B := B) (β := β) (H := H) (w := w) hz
   have hN : New w (.cells z.cells t (0, 0)) (w.alloc (.cells z.cells t)) := ⟨rfl, rfl, rfl, rfl⟩
   have stp := hN.fill_stp hst hh (.obj cs) 0
   refine wp_value (u := .pointer (some ⟨w.heap.size, 0, none⟩)) ?_ (hn _ _ _ (hN.fill_str hst hh _ 0 ⟨by rw [upd_same], z.cells, t, by rw [upd_same]; exact hN.new, hr.mono fun _ _ => Rep.mono stp⟩) stp ⟨cs, by simp [lt_of_get hh], by rw [upd_same]⟩)
   simp [execOp, hop, Instr.alloc, zeroValue, typeInfo, hi, hz, newVar, Go.newRow]
  ·cases h
 ·cases h
theorem ops_sound {A : Ann} {K : Callee} (hP : POk P) (hK : CallOK P K) (hKH : KHid K) {m : Nat → Option (Bool × List Nat)} {lt : List Nat} {bs : Nat} {ops : Array Oper} {n : Nat} (hm : maskOK A m lt ops = true) (hd : dstOK n ops = true) {Q : Exit → Act → World → Prop} {eF : Env} {HF : Heap} : ∀ (l : List Nat) {e : Env} {H : Heap}, opsX P A K (mkM m lt bs) ops l e H = some (eF, HF) →
  ∀ {β : Nat → Nat × Nat} {w : World} {a : Act}, StR B β H w → EnvR B β H w e a.tmps → a.tmps.size = n →
   (∀ β' w' a', StR B β' HF w' → Stp β H w β' HF w' → EnvR B β' HF w' eF a'.tmps → a'.tmps.size = n → a'.defers = a.defers → Q .normal a' w') → wpOps P ops Q l a w := by
 intro l
 induction l with
 | nil =>
  intro e H h β w a hst he hn hq
  simp only [opsX, kI, kP] at h
  obtain ⟨rfl, rfl⟩ := h
  exact hq β w a hst (Stp.refl _ _ _) he hn rfl
 | cons i l ih =>
  intro e H h β w a hst he hn hq
  simp only [opsX] at h
  rw [wpOps_cons]
  unfold wpOp
  cases ho : ops[i]? with
  | none => rw [ho] at h; exact ih h hst he hn hq
  | some o =>
   rw [ho] at h
   simp only [kB] at h
   obtain ⟨b, hb, h⟩ := h
   have hw := want_sound hb he
   simp only
   rw [hw]
   have hdst : ∀ t, o.dst = some t → t < a.tmps.size := by rw [hn]; exact dstOK_spec hd ho
   cases b with
   | true =>
    simp only [if_true, kB] at h ⊢
    obtain ⟨⟨v, H1⟩, hop, h⟩ := h
    have step : ∀ {next : Act → World → Prop} {Q : Exit → Act → World → Prop}, (∀ β' w' u, StR B β' H1 w' → Stp β H w β' H1 w' → RepX B β' H1 w' v u → next (a.put o.dst u) w') → o.wp P a w next Q := by
     intro next Q hn'
     cases hmk : mkM m lt bs i with
     | late id => rw [hmk] at hop; exact late_sound hop hst hn'
     | _ => exact op_sound hP hK (opD_opX hKH (fun id e => by rw [hmk] at e; cases e) (maskOK_ins hm ho) hop) hst he hn'
    refine .inl (step fun β1 w1 u hst1 stp1 hr => ?_)
    refine ih h hst1 (envR_put (he.mono stp1) hdst hr) (by rw [put_size, hn]) fun β' w' a' h1 h2 h3 h4 h5 => hq β' w' a' h1 (stp1.trans h2) h3 h4 (by rw [h5, put_defers])
   | false =>
    simp only [Bool.false_eq_true, if_false] at h ⊢
    exact ih h hst (envR_put he hdst ⟨[], rfl, .nil⟩) (by rw [put_size, hn]) fun β' w' a' h1 h2 h3 h4 h5 => hq β' w' a' h1 h2 h3 h4 (by rw [h5, put_defers])
end
end Go.Lg
end
