/-
 X, part 9: each operation.
-/
import Derived.Test.YtoieblpjklbmoaaX27
import Derived.Test.YtoieblpjklbmoaaX25
namespace Go.Lg
section
variable {P : Program} {B : Nat → Prop} {β : Nat → Nat × Nat} {H : Heap} {w : World}
theorem ev_sound {e : Env} {a : Act} (he : EnvR B β H w e a.tmps) (x : Operand) : RepX B β H w (ev e x) (a.eval x) := by
 cases x with
 | tmp t => exact he t
 | const v => exact repY_ofV v
 | global g => exact trivial
 | func f => exact ⟨[], [], rfl, .nil, .nil⟩
theorem opt_sound {e : Env} {a : Act} (he : EnvR B β H w e a.tmps) (x : Option Operand) : OptR B β H w (x.map (ev e)) (x.map a.eval) := by
 cases x with
 | none => exact .none
 | some x => exact .some (ev_sound he x)
theorem evs_sound {e : Env} {a : Act} (he : EnvR B β H w e a.tmps) : ∀ xs : List Operand, All2 (RepX B β H w) (xs.map (ev e)) (xs.map a.eval)
 | [] => .nil
 | x :: xs => .cons (ev_sound he x) (evs_sound he xs)
theorem parts_sound {e : Env} {a : Act} (he : EnvR B β H w e a.tmps) (ps : Array (Nat × Operand)) :
  All2 (fun (p : Nat × X) (q : Nat × Value) => p.1 = q.1 ∧ RepX B β H w p.2 q.2) (ps.toList.map fun p => (p.1, ev e p.2)) (ps.map fun (i, x) => (i, a.eval x)).toList := by
 rw [Array.toList_map]
 induction ps.toList with
 | nil => exact .nil
 | cons p l ih => exact .cons ⟨rfl, ev_sound he p.2⟩ ih
theorem bin_sound (hst : StR B β H w) {op : BinOp} {t : TypeId} {ox oy : Operand} {x y r : X} {a b : Value} (hx : RepX B β H w x a) (hy : RepX B β H w y b) (h : binX P op t ox oy x y = some r) :
  ∃ v, ((do eqGuard op t ox oy a b; binOp op t a b) : Sem Value).run P w = .ok v w ∧ RepX B β H w r v := by
 unfold binX at h
 split at h
 ·rename_i a' b' ha hb
  obtain rfl := repX_toV hx ha
  obtain rfl := repX_toV hy hb
  simp only [kM] at h
  obtain ⟨v, hv, rfl⟩ := h
  exact ⟨v, pv_run w hv, repY_ofV v⟩
 ·simp only [kB] at h
  obtain ⟨c, hc, d, hd, r', hr, h⟩ := h
  have := eq_sound (P := P) hst (repX_c hx hc) (repX_c hy hd) hr ox oy
  cases op <;> simp only [kI] at h <;> first | cases h | skip
  ·exact ⟨_, this.1, rfl, rfl⟩
  ·exact ⟨_, this.2, rfl, rfl⟩
theorem toVs_eq : ∀ {xs : List X} {us vs : List Value}, All2 (RepX B β H w) xs us → xs.mapM X.toV = some vs → us = vs := by
 intro xs
 induction xs with
 | nil => intro us vs h hv; cases h; simp at hv; exact hv.symm
 | cons c cs ih =>
  intro us vs h hv
  cases h with
  | cons r t =>
   simp only [List.mapM_cons, Option.bind_eq_bind, kB] at hv
   obtain ⟨a, ha, vs', hvs, e⟩ := hv
   simp only [Option.pure_def, kI] at e
   rw [← e, repX_toV r ha, ih t hvs]
theorem builtin_plain (hst : StR B β H w) {b : Builtin} {ts : Array TypeId} {type : TypeId} {consts : Array Bool} {args : List X} {us : Array Value} (ha : All2 (RepX B β H w) args us.toList) {v : X} {H' : Heap}
  (h : (args.mapM X.toV).bind (fun vs => (pv P (builtin b ts type consts vs.toArray)).bind fun | .value v => some (X.y (Y.ofV v), H) | _ => none) = some (v, H')) :
  ∃ β' w' u, (builtin b ts type consts us).run P w = .ok (.value u) w' ∧ StR B β' H' w' ∧ Stp β H w β' H' w' ∧ RepX B β' H' w' v u := by
 simp only [kB] at h
 obtain ⟨vs, hvs, nx, hnx, h⟩ := h
 have := toVs_eq ha hvs
 subst this
 cases nx with
 | value u =>
  simp only [kI, kP] at h
  obtain ⟨rfl, rfl⟩ := h
  exact ⟨β, w, u, by simpa using pv_run w hnx, hst, Stp.refl _ _ _, repY_ofV u⟩
 | _ => cases h
theorem len_slice {ts : Array TypeId} {type t e : TypeId} {a : Option Addr} {n c : Nat} (hts : ts[0]? = some t) (he : elemT P t = some e) : (Builtin.len_ ts type #[.slice a n c]).run P w = .ok (goInt n) w := by
 simp [Builtin.len_, hts, run_underlying (elemT_under he)]
theorem clear_sound (hst : StR B β H w) {c : C} {u : Value} (hc : Rep B β H w c u) {t ty : TypeId} {ts : Array TypeId} (hts : ts[0]? = some t) {H' : Heap} (h : clearX P H t c = some H') :
  ∃ w', (Builtin.clear_ ts ty #[u]).run P w = .ok (.tuple #[]) w' ∧ StR B β H' w' ∧ Stp β H w β H' w' := by
 unfold clearX at h
 simp only [kB] at h
 obtain ⟨e, he, sz, hsz, z, hz, h⟩ := h
 have ht := elemT_under he
 obtain ⟨i, zv, hi, hzv, hzs, hzr⟩ := zero_rep (B := B) (β := β) (H := H) (w := w) hz
 have hisz : i.size = sz := by obtain ⟨i', hi', rfl⟩ := szT_info hsz; rw [hi] at hi'; cases hi'; rfl
 cases c with
 | row id st off len capd =>
  obtain ⟨pu, mu, d, st', sz', cells, ho, hle, _, hh⟩ := hc
  simp only [ho] at h
  cases mu with
  | false => cases h
  | true =>
   simp only [kR, kI] at h
   obtain ⟨⟨rfl, rfl, hd, hl, hl0, hpp, hlive⟩, rfl⟩ := h
   obtain ⟨_, _, a, cap, rfl, h1, h2, h3, h4⟩ := hh rfl
   obtain ⟨g1, g2, g3, g4, arr, et, hb, hasz, ha⟩ := hst.live id _ ho
   have haddr := h3 (by omega)
   subst haddr
   have hr := made_rep hzr (sz := sz) (by rw [hzs, hisz]) g1 (len * sz)
   have hkl : ((List.range (len * sz)).map fun i => z.getD (i % sz) C.dead).length = len * sz := by simp
   have hxe : ((Array.range (len * sz)).map (zv.cells[· % zv.cells.size]!)).toList = (Builtin.zeroCells zv.cells len).toList := by
    unfold Builtin.zeroCells; rw [hzs, hisz]
   rw [hxe] at hr
   have hkx : (Builtin.zeroCells zv.cells len).toList.length = len * sz := by rw [hr.length, hkl]
   have hfit : (off - d) * sz + len * sz ≤ cells.length := by
    rw [g3, ← Nat.add_mul]; exact Nat.mul_le_mul_right _ (by omega)
   have hfa : (β id).2 + (off - d) * sz + (Builtin.zeroCells zv.cells len).toList.length ≤ arr.toList.length := by
    rw [hkx, show arr.toList.length = arr.size from Array.length_toList]; omega
   have hmem : ∀ c ∈ (List.range (len * sz)).map fun i => z.getD (i % sz) C.dead, c ∈ z := by
    intro c hc
    simp only [List.mem_map, List.mem_range] at hc
    obtain ⟨j, _, rfl⟩ := hc
    have hzl : z.length = sz := by rw [← hzr.length, Array.length_toList, hzs, hisz]
    have hlt : j % sz < z.length := by rw [hzl]; exact Nat.mod_lt _ g1
    rw [List.getD_eq_getElem?_getD, List.getElem?_eq_getElem hlt]
    exact List.getElem_mem hlt
   have hone : ∀ v ∈ (Builtin.zeroCells zv.cells len).toList, v.oneCell' = true := fun v hv => by
    obtain ⟨c, hc, hr'⟩ := hr.mem hv
    exact rep_one hr' (List.all_eq_true.1 hlive c (hmem c hc))
   have hrun : (Builtin.clear_ ts ty #[.slice (some ⟨(β id).1, (β id).2 + (off - d) * sz, none⟩) len cap]).run P w = .ok (.tuple #[]) (w.setRow (β id).1 (splice ((β id).2 + (off - d) * sz) (Builtin.zeroCells zv.cells len).toList arr.toList).toArray) := by
    have hst' := run_storeCells_at P (β id).1 ((β id).2 + (off - d) * sz) et (Builtin.zeroCells zv.cells len).toList 0 arr w hb (by simpa using hfa) hone
    simp only [Nat.add_zero] at hst'
    obtain ⟨len, rfl⟩ : ∃ k, len = k + 1 := ⟨len - 1, by omega⟩
    simp [Builtin.clear_, hts, run_underlying ht, zeroValue, typeInfo, hi, hzv, hst', splice]
   have turn : Turn β w id (.row pu true d st sz cells) (β id) (.row pu true d st sz (splice ((off - d) * sz) ((List.range (len * sz)).map fun i => z.getD (i % sz) C.dead) cells)) (w.setRow (β id).1 (splice ((β id).2 + (off - d) * sz) (Builtin.zeroCells zv.cells len).toList arr.toList).toArray) := by
    refine setRow_turn rfl ⟨rfl, rfl, Nat.le_refl _, fun _ => ⟨rfl, rfl, fun arr' e' fr' h => ?_⟩⟩
    rw [hb] at h
    simp only [kI, Obj.cells.injEq] at h
    obtain ⟨rfl, rfl, _⟩ := h
    exact ⟨_, _, _, setRow_heap w _ _ _ _ _ hb, by rw [List.size_toArray, length_splice hfa]; simp⟩
   have stp := turn.stp hst ho
   rw [upd_self] at stp
   have str := turn.str hst ho (by simpa using hst.inb id _ ho (by rfl))
   rw [upd_self] at str
   refine ⟨_, hrun, str ⟨g1, g2, by rw [length_splice (by omega)]; exact g3, fun hp => ?_, _, et, setRow_heap w _ _ _ _ _ hb, ?_, ?_⟩, stp⟩
   ·rw [List.all_eq_true]
    intro y hy
    unfold splice at hy
    simp only [List.mem_append] at hy
    rcases hy with (hy | hy) | hy
    ·exact List.all_eq_true.1 (g4 hp) y (List.mem_of_mem_take hy)
    ·exact List.all_eq_true.1 (hpp hp) y (hmem y hy)
    ·exact List.all_eq_true.1 (g4 hp) y (List.mem_of_mem_drop hy)
   ·rw [length_splice (by omega), List.size_toArray, length_splice hfa]
    simpa using hasz
   ·rw [length_splice (by omega)]
    simp only
    rw [sub_splice (by omega) (by simpa using hasz)]
    exact (ha.splice hr _).mono fun _ _ => Rep.mono stp
 | _ => simp only at h; cases h
theorem builtin_sound {A : Ann} (hst : StR B β H w) {b : Builtin} {ts : Array TypeId} {type : TypeId} {consts : Array Bool} {args : List X} {us : Array Value} (ha : All2 (RepX B β H w) args us.toList) {v : X} {H' : Heap}
  (h : builtinX P A H b ts type consts args = some (v, H')) :
  ∃ β' w' u, (builtin b ts type consts us).run P w = .ok (.value u) w' ∧ StR B β' H' w' ∧ Stp β H w β' H' w' ∧ RepX B β' H' w' v u := by
 unfold builtinX at h
 split at h
 ·-- append
  rename_i x y
  split at h
  ·rename_i t u hts
   simp only [kR, kB, kM, kP] at h
   obtain ⟨hu, s, hs, z, hz, ⟨c, H1⟩, happ, rfl, rfl⟩ := h
   obtain ⟨us⟩ := us
   simp only at ha
   cases ha with
   | cons r1 ha =>
    cases ha with
    | cons r2 ha =>
     cases ha
     obtain ⟨el, hel⟩ := Option.isSome_iff_exists.1 hu
     have hts' : ts = #[t, u] := by cases ts; simp_all
     subst hts'
     obtain ⟨β', w', v, hrun, r1, r2, r3⟩ := append_sound (P := P) (A := A) (ty := type) hst (repX_c r1 hs) (repX_c r2 hz) hel happ
     exact ⟨β', w', v, by simp [builtin, hrun], r1, r2, r3⟩
  ·cases h
 ·-- copy
  rename_i x y
  split at h
  ·rename_i t ts' hts
   simp only [kB, kM, kP] at h
   obtain ⟨d, hd, s, hs, ⟨n, H1⟩, hcp, rfl, rfl⟩ := h
   obtain ⟨us⟩ := us
   simp only at ha
   cases ha with
   | cons r1 ha =>
    cases ha with
    | cons r2 ha =>
     cases ha
     obtain ⟨w', hrun, r1, r2⟩ := copy_sound (P := P) (ty := type) (ts := ts) hst (repX_c r1 hd) (repX_c r2 hs) (by rw [← Array.getElem?_toList, hts]; rfl) hcp
     exact ⟨β, w', _, by simp [builtin, hrun], r1, r2, rfl, rfl⟩
  ·cases h
 ·-- len of a slice
  rename_i b nil capd cs n
  simp only [kR, kI, kP] at h
  obtain ⟨ht, rfl, rfl⟩ := h
  obtain ⟨us⟩ := us
  simp only at ha
  cases ha with
  | cons r1 ha =>
   cases ha
   obtain ⟨a, cap, xs, rfl, _⟩ := r1
   obtain ⟨e, he⟩ := Option.isSome_iff_exists.1 ht
   simp only [kB] at he
   obtain ⟨t, hts, he⟩ := he
   exact ⟨β, w, _, by simp [builtin, len_slice hts he], hst, Stp.refl _ _ _, rfl, rfl⟩
 ·rename_i id st off n capd
  split at h
  ·rename_i pu mu d st' sz cs ho
   simp only [kR, kI, kP] at h
   obtain ⟨⟨rfl, ht⟩, rfl, rfl⟩ := h
   obtain ⟨us⟩ := us
   simp only at ha
   cases ha with
   | cons r1 ha =>
    cases ha
    obtain ⟨pu', mu', d', st', sz', cs', ho', hle, _, hh⟩ := r1
    rw [ho] at ho'
    simp only [kI, O.row.injEq] at ho'
    obtain ⟨rfl, rfl, rfl, rfl, rfl, rfl⟩ := ho'
    obtain ⟨_, _, a, cap, rfl, _⟩ := hh rfl
    obtain ⟨e, he⟩ := Option.isSome_iff_exists.1 ht
    simp only [kB] at he
    obtain ⟨t, hts, he⟩ := he
    exact ⟨β, w, _, by simp [builtin, len_slice hts he], hst, Stp.refl _ _ _, rfl, rfl⟩
  ·cases h
 ·-- len of a map
  rename_i id
  split at h
  ·rename_i ht
   split at h
   ·rename_i es hbg
    simp only [kI, kP] at h
    obtain ⟨rfl, rfl⟩ := h
    obtain ⟨us⟩ := us
    simp only at ha
    cases ha with
    | cons r1 ha =>
     cases ha
     obtain ⟨_, rfl, es', clock, hb, hp, _⟩ := bag_block (id := id) (es := es) hst (x := .y (.one (.mp id))) r1 (by simp only [bagX, hbg, kT])
     have hl : es'.size = es.length := by have := hp.length_eq; simpa using this
     cases hts : ts[0]? with
     | none => rw [hts] at ht; cases ht
     | some t =>
      rw [hts] at ht
      obtain ⟨k, e, hu⟩ := isMapT_under (P := P) (t := t) (by simpa using ht)
      exact ⟨β, w, goInt es'.size, by simp [builtin, len_map hts hu hb], hst, Stp.refl _ _ _, rfl, by rw [hl]⟩
   simp only [kM, kP] at h
   obtain ⟨⟨es, clock⟩, hm, rfl, rfl⟩ := h
   obtain ⟨us⟩ := us
   simp only at ha
   cases ha with
   | cons r1 ha =>
    cases ha
    obtain ⟨_, hb⟩ := map_block hst hm
    obtain ⟨_, _, _, rfl⟩ := r1
    cases hts : ts[0]? with
    | none => rw [hts] at ht; cases ht
    | some t =>
     rw [hts] at ht
     obtain ⟨k, e, hu⟩ := isMapT_under (P := P) (t := t) (by simpa using ht)
     exact ⟨β, w, _, by simp [builtin, len_map hts hu hb], hst, Stp.refl _ _ _, rfl, rfl⟩
  ·cases h
 ·-- delete
  rename_i m k
  simp only [kB, kM, kP] at h
  obtain ⟨t, hts, H1, hd, rfl, rfl⟩ := h
  obtain ⟨us⟩ := us
  simp only at ha
  cases ha with
  | cons r1 ha =>
   cases ha with
   | cons r2 ha =>
    cases ha
    obtain ⟨w', hrun, r3, r4⟩ := delete_sound (type := type) hst hts r1 r2 hd
    exact ⟨β, w', .tuple #[], by simp [builtin, hrun], r3, r4, [], rfl, .nil⟩
 ·-- clear
  rename_i x
  simp only [kB, kM, kP] at h
  obtain ⟨t, hts, c, hc, H1, hd, rfl, rfl⟩ := h
  obtain ⟨us⟩ := us
  simp only at ha
  cases ha with
  | cons r1 ha =>
   cases ha
   obtain ⟨w', hrun, r3, r4⟩ := clear_sound (ty := type) hst (repX_c r1 hc) hts hd
   exact ⟨β, w', .tuple #[], by simp [builtin, hrun], r3, r4, [], rfl, .nil⟩
 ·rename_i s
  simp only [kR, kI, kP] at h
  obtain ⟨ht, rfl, rfl⟩ := h
  obtain ⟨us⟩ := us
  simp only at ha
  cases ha with
  | cons r1 ha =>
   cases ha
   obtain ⟨_, rfl⟩ := r1
   rw [Option.any_eq_true] at ht
   obtain ⟨t, hts, hs⟩ := ht
   have hu : P.underlying t = some .string := by
    unfold isStrT at hs
    split at hs
    ·assumption
    ·cases hs
   exact ⟨β, w, _, by simp [builtin, Builtin.len_, hts, run_underlying hu], hst, Stp.refl _ _ _, rfl, rfl⟩
 ·exact builtin_plain hst ha h
/-! ### Calls -/
theorem wp_value {o : Oper} {a : Act} {next : Act → World → Prop} {Q : Exit → Act → World → Prop} {u : Value} {w' : World} (h : (execOp a.eval o).run P w = .ok (.value u) w') (hn : next (a.put o.dst u) w') : o.wp P a w next Q := by
 unfold Oper.wp; rw [h]; exact hn
theorem wp_skip' {o : Oper} {a : Act} {next : Act → World → Prop} {Q : Exit → Act → World → Prop} {w' : World} (h : (execOp a.eval o).run P w = .ok .skip w') (hn : next (a.put o.dst undef) w') : o.wp P a w next Q := by
 unfold Oper.wp; rw [h]; exact hn
theorem wp_enter {o : Oper} {a : Act} {next : Act → World → Prop} {Q : Exit → Act → World → Prop} {w' : World} {f : FuncId} {args : Array Value} (h : (execOp a.eval o).run P w = .ok (.enter f args) w')
  (hn : Calls P f args w' fun e w'' => ∃ v, e = .returned v ∧ next (a.put o.dst v) w'') : o.wp P a w next Q := by
 unfold Oper.wp; rw [h]
 refine hn.mono fun e w'' he => ?_
 obtain ⟨v, rfl, hv⟩ := he
 exact hv
theorem snap_sound (hst : StR B β H w) {B' : Nat → Prop} (hB : ∀ b, B' b ↔ B b ∨ ∃ id o, H[id]? = some o ∧ o.mut = true ∧ (β id).1 = b) {c c' : C} {u : Value} (hr : Rep B β H w c u) (h : snapC H c = some c') {β' : Nat → Nat × Nat} :
  Rep B' β' [] w c' u := by
 have hS : ∀ b, (Free β H w b ∧ ¬ B b) → (Free β' [] w b ∧ ¬ B' b) ∧ w.heap[b]? = w.heap[b]? := by
  rintro b ⟨⟨h1, h2⟩, h3⟩
  refine ⟨⟨⟨h1, fun id o ho => by simp at ho⟩, fun hb => ?_⟩, rfl⟩
  rcases (hB b).1 hb with h | ⟨id, o, ho, hm, he⟩
  ·exact h3 h
  ·exact h2 id o ho hm he
 cases c with
 | sc v => simp only [snapC, kI] at h; subst h; exact hr
 | sl b nil capd cs n =>
  simp only [snapC, kI] at h; subst h
  obtain ⟨a, cap, xs, hu, ho, hx⟩ := hr
  refine ⟨a, cap, xs, hu, ho.mono fun x hx => ⟨⟨⟨hx.1.1, fun id o ho => by simp at ho⟩, fun hb => ?_⟩, rfl⟩, RepIL.mono hS _ _ hx⟩
  exact (hS x ⟨hx.1, hx.2 hb⟩).1.2
 | row id st off len capd =>
  simp only [snapC] at h
  obtain ⟨pu, mu, d, st', sz, cells, ho, hle, _, hh⟩ := hr
  rw [ho] at h
  cases pu with
  | false => cases h
  | true =>
   simp only [kR, kI] at h
   obtain ⟨⟨rfl, hd, hl⟩, rfl⟩ := h
   obtain ⟨_, _, a, cap, rfl, h1, h2, h3, h4⟩ := hh rfl
   obtain ⟨g1, g2, g3, g4, arr, e, hb, hsz, ha⟩ := hst.live id _ ho
   refine ⟨some a, cap, _, rfl, ⟨(fun h => by cases h), fun _ => rfl, h2, h1, fun hne => ?_⟩, RepIL.mono hS _ _ (repIL_of_rep ((ha.drop ((off - d) * sz)).take (len * sz)) (all_sub (g4 rfl)))⟩
   have hcap : 0 < cap := by
    rcases Nat.eq_zero_or_pos cap with h | h
    ·exfalso; apply hne
     have : len = 0 := by omega
     simp [this]
    ·exact h
   have haddr := h3 hcap
   subst haddr
   refine ⟨_, rfl, rfl, ⟨⟨hst.inb id _ ho rfl, fun id o ho => by simp at ho⟩, (fun h => by cases h)⟩, fun j x hj => ?_⟩
   rw [List.getElem?_take] at hj
   split at hj
   ·rw [List.getElem?_drop] at hj
    have := cell_list hb hj
    simpa only [Nat.add_assoc] using this
   ·cases hj
 | _ => simp only [snapC] at h; cases h
theorem snaps_sound (hst : StR B β H w) {B' : Nat → Prop} (hB : ∀ b, B' b ↔ B b ∨ ∃ id o, H[id]? = some o ∧ o.mut = true ∧ (β id).1 = b) {β' : Nat → Nat × Nat} : ∀ {cs cs' : List C} {us : List Value}, All2 (Rep B β H w) cs us → cs.mapM (snapC H) = some cs' → All2 (Rep B' β' [] w) cs' us := by
 intro cs
 induction cs with
 | nil => intro cs' us h hm; cases h; simp at hm; subst hm; exact .nil
 | cons c cs ih =>
  intro cs' us h hm
  cases h with
  | cons r t =>
   simp only [List.mapM_cons, Option.bind_eq_bind, kB, Option.pure_def, kI] at hm
   obtain ⟨c', hc, r', hr, rfl⟩ := hm
   exact .cons (snap_sound hst hB r hc) (ih t hr)
theorem snapY_sound (hst : StR B β H w) {B' : Nat → Prop} (hB : ∀ b, B' b ↔ B b ∨ ∃ id o, H[id]? = some o ∧ o.mut = true ∧ (β id).1 = b) {y y' : Y} {u : Value} (hr : RepY B β H w y u) (h : snapY H y = some y') {β' : Nat → Nat × Nat} :
  RepY B' β' [] w y' u := by
 cases y with
 | one c =>
  simp only [snapY, kM] at h
  obtain ⟨c', hc, rfl⟩ := h
  exact snap_sound hst hB hr hc
 | agg cs =>
  simp only [snapY, kM] at h
  obtain ⟨cs', hc, rfl⟩ := h
  obtain ⟨xs, rfl, hx⟩ := hr
  exact ⟨xs, rfl, snaps_sound hst hB hx hc⟩
theorem snapYs_sound (hst : StR B β H w) {B' : Nat → Prop} (hB : ∀ b, B' b ↔ B b ∨ ∃ id o, H[id]? = some o ∧ o.mut = true ∧ (β id).1 = b) {β' : Nat → Nat × Nat} : ∀ {cs cs' : List Y} {us : List Value}, All2 (RepY B β H w) cs us → cs.mapM (snapY H) = some cs' → All2 (RepY B' β' [] w) cs' us := by
 intro cs
 induction cs with
 | nil => intro cs' us h hm; cases h; simp at hm; subst hm; exact .nil
 | cons c cs ih =>
  intro cs' us h hm
  cases h with
  | cons r t =>
   simp only [List.mapM_cons, Option.bind_eq_bind, kB, Option.pure_def, kI] at hm
   obtain ⟨c', hc, r', hr, rfl⟩ := hm
   exact .cons (snapY_sound hst hB r hc) (ih t hr)
/-- Nothing that was there has turned. -/
theorem Stp.empty {β0 β' : Nat → Nat × Nat} {H' : Heap} {w' : World} (h : Stp β0 [] w β' H' w') : ∀ b, b < w.heap.size → w'.heap[b]? = w.heap[b]? :=
 fun b hb => (h.free b ⟨hb, fun id o ho => by simp at ho⟩).1
theorem keep_stp (hst : StR B β H w) {w' : World} (os : w'.os = w.os) (tape : w'.tape = w.tape) (output : w'.output = w.output) (size : w.heap.size ≤ w'.heap.size) (hb : ∀ b, b < w.heap.size → w'.heap[b]? = w.heap[b]?) :
  Stp β H w β H w' ∧ StR B β H w' := by
 have stp : Stp β H w β H w' := by
  refine ⟨os, tape, output, size, fun b h => ⟨hb b h.1, Nat.lt_of_lt_of_le h.1 size, h.2⟩, fun id o ho => ⟨o, ho, ?_⟩⟩
  exact Kept.same fun ht => hb _ (hst.inb id o ho ht)
 exact ⟨stp, ⟨fun id o ho ht => Nat.lt_of_lt_of_le (hst.inb id o ho ht) size, hst.inj, hst.bor, fun b h => Nat.lt_of_lt_of_le (hst.blt b h) size, fun id o ho => (hst.live id o ho).mono stp rfl fun ht => hb _ (hst.inb id o ho ht)⟩⟩
theorem back_sound {B' : Nat → Prop} (hB : ∀ b, B' b ↔ B b ∨ ∃ id o, H[id]? = some o ∧ o.mut = true ∧ (β id).1 = b) {β' : Nat → Nat × Nat} {H' : Heap} (hst : StR B' β' H' w) {c c' : C} {u : Value} (hr : Rep B' β' H' w c u) (h : backC H' c = some c') :
  Rep B β H w c' u := by
 have hS : ∀ b, (b < w.heap.size ∧ ¬ B' b) → (Free β H w b ∧ ¬ B b) ∧ w.heap[b]? = w.heap[b]? := by
  rintro b ⟨h1, h2⟩
  exact ⟨⟨⟨h1, fun id o ho hm he => h2 ((hB b).2 (.inr ⟨id, o, ho, hm, he⟩))⟩, fun hb => h2 ((hB b).2 (.inl hb))⟩, rfl⟩
 have hS' : ∀ b, (Free β' H' w b ∧ ¬ B' b) → (Free β H w b ∧ ¬ B b) ∧ w.heap[b]? = w.heap[b]? := fun b hb => hS b ⟨hb.1.1, hb.2⟩
 cases c with
 | sc v => simp only [backC, kI] at h; subst h; exact hr
 | sl b nil capd cs n =>
  cases b with
  | true => cases h
  | false =>
   simp only [backC, kI] at h; subst h
   obtain ⟨a, cap, xs, hu, ho, hx⟩ := hr
   exact ⟨a, cap, xs, hu, ho.mono fun x hx => ⟨⟨(hS' x ⟨hx.1, hx.2 rfl⟩).1.1, fun _ => (hS' x ⟨hx.1, hx.2 rfl⟩).1.2⟩, rfl⟩, RepIL.mono hS' _ _ hx⟩
 | row id st off len capd =>
  simp only [backC] at h
  obtain ⟨pu, mu, d, st', sz, cells, ho, hle, _, hh⟩ := hr
  rw [ho] at h
  cases pu with
  | false => cases h
  | true =>
   simp only [kR, kI] at h
   obtain ⟨⟨rfl, hd, hl⟩, rfl⟩ := h
   obtain ⟨_, _, a, cap, rfl, h1, h2, h3, h4⟩ := hh rfl
   obtain ⟨g1, g2, g3, g4, arr, e, hb, hsz, ha⟩ := hst.live id _ ho
   refine ⟨some a, cap, _, rfl, ⟨(fun h => by cases h), fun _ => rfl, h2, h1, fun hne => ?_⟩, RepIL.mono hS' _ _ (repIL_of_rep ((ha.drop ((off - d) * sz)).take (len * sz)) (all_sub (g4 rfl)))⟩
   have hcap : 0 < cap := by
    rcases Nat.eq_zero_or_pos cap with h | h
    ·exfalso; apply hne
     have : len = 0 := by omega
     simp [this]
    ·exact h
   have haddr := h3 hcap
   subst haddr
   have hf := (hS _ ⟨hst.inb id _ ho rfl, hst.bor id _ ho rfl⟩).1
   refine ⟨_, rfl, rfl, ⟨hf.1, fun _ => hf.2⟩, fun j x hj => ?_⟩
   rw [List.getElem?_take] at hj
   split at hj
   ·rw [List.getElem?_drop] at hj
    have := cell_list hb hj
    simpa only [Nat.add_assoc] using this
   ·cases hj
 | _ => simp only [backC] at h; cases h
theorem backs_sound {B' : Nat → Prop} (hB : ∀ b, B' b ↔ B b ∨ ∃ id o, H[id]? = some o ∧ o.mut = true ∧ (β id).1 = b) {β' : Nat → Nat × Nat} {H' : Heap} (hst : StR B' β' H' w) : ∀ {cs cs' : List C} {us : List Value}, All2 (Rep B' β' H' w) cs us → cs.mapM (backC H') = some cs' → All2 (Rep B β H w) cs' us := by
 intro cs
 induction cs with
 | nil => intro cs' us h hm; cases h; simp at hm; subst hm; exact .nil
 | cons c cs ih =>
  intro cs' us h hm
  cases h with
  | cons r t =>
   simp only [List.mapM_cons, Option.bind_eq_bind, kB, Option.pure_def, kI] at hm
   obtain ⟨c', hc, r', hr, rfl⟩ := hm
   exact .cons (back_sound hB hst r hc) (ih t hr)
theorem backY_sound {B' : Nat → Prop} (hB : ∀ b, B' b ↔ B b ∨ ∃ id o, H[id]? = some o ∧ o.mut = true ∧ (β id).1 = b) {β' : Nat → Nat × Nat} {H' : Heap} (hst : StR B' β' H' w) {y y' : Y} {u : Value} (hr : RepY B' β' H' w y u) (h : backY H' y = some y') :
  RepY B β H w y' u := by
 cases y with
 | one c =>
  simp only [backY, kM] at h
  obtain ⟨c', hc, rfl⟩ := h
  exact back_sound hB hst hr hc
 | agg cs =>
  simp only [backY, kM] at h
  obtain ⟨cs', hc, rfl⟩ := h
  obtain ⟨xs, rfl, hx⟩ := hr
  exact ⟨xs, rfl, backs_sound hB hst hx hc⟩
theorem backYs_sound {B' : Nat → Prop} (hB : ∀ b, B' b ↔ B b ∨ ∃ id o, H[id]? = some o ∧ o.mut = true ∧ (β id).1 = b) {β' : Nat → Nat × Nat} {H' : Heap} (hst : StR B' β' H' w) : ∀ {cs cs' : List Y} {us : List Value}, All2 (RepY B' β' H' w) cs us → cs.mapM (backY H') = some cs' → All2 (RepY B β H w) cs' us := by
 intro cs
 induction cs with
 | nil => intro cs' us h hm; cases h; simp at hm; subst hm; exact .nil
 | cons c cs ih =>
  intro cs' us h hm
  cases h with
  | cons r t =>
   simp only [List.mapM_cons, Option.bind_eq_bind, kB, Option.pure_def, kI] at hm
   obtain ⟨c', hc, r', hr, rfl⟩ := hm
   exact .cons (backY_sound hB hst r hc) (ih t hr)
theorem pack_mapM {f : Y → Option Y} {rs rs' : List Y} (h : rs.mapM f = some rs') : (∃ r r', rs = [r] ∧ rs' = [r'] ∧ f r = some r') ∨ (pack rs = .tup rs ∧ pack rs' = .tup rs') := by
 match rs, h with
 | [], h => simp at h; subst h; exact .inr ⟨rfl, rfl⟩
 | [r], h =>
  simp only [List.mapM_cons, List.mapM_nil, Option.bind_eq_bind, kB, Option.pure_def, kI] at h
  obtain ⟨r', hr, x, rfl, rfl⟩ := h
  exact .inl ⟨r, r', rfl, rfl, hr⟩
 | r :: s :: t, h =>
  simp only [List.mapM_cons, Option.bind_eq_bind, kB, Option.pure_def, kI] at h
  obtain ⟨r', hr, x, ⟨s', hs, t', ht, rfl⟩, rfl⟩ := h
  exact .inr ⟨rfl, rfl⟩
theorem call_sound {A : Ann} {K : Callee} (hK : CallOK P K) (hst : StR B β H w) {f : FuncId} {args : List Y} {us : List Value} (ha : All2 (RepY B β H w) args us) {v : X} {H' : Heap} (h : callX A K f args H = some (v, H')) :
  (∃ fn, P.funcs[f]? = some fn ∧ fn.body.isSome = true) ∧
   Calls P f us.toArray w fun e w' => ∃ u β', e = .returned u ∧ StR B β' H' w' ∧ Stp β H w β' H' w' ∧ RepX B β' H' w' v u := by
 unfold callX at h
 split at h
 ·simp only [kB, kM, kP] at h
  obtain ⟨as, has, ⟨rs, H1⟩, hk, rs', hrs, rfl, rfl⟩ := h
  obtain ⟨hfn, hc⟩ := hK _ _ _ _ _ hk
  refine ⟨hfn, ?_⟩
  let B' : Nat → Prop := fun b => B b ∨ ∃ id o, H[id]? = some o ∧ o.mut = true ∧ (β id).1 = b
  have hB : ∀ b, B' b ↔ B b ∨ ∃ id o, H[id]? = some o ∧ o.mut = true ∧ (β id).1 = b := fun b => Iff.rfl
  have hst0 : StR B' β [] w := ⟨fun id o h => by simp at h, fun i j oi oj h => by simp at h, fun id o h => by simp at h, fun b hb => by
   rcases hb with hb | ⟨id, o, ho, hm, rfl⟩
   ·exact hst.blt b hb
   ·exact hst.inb id o ho (O.there_mut hm), fun id o h => by simp at h⟩
  refine (hc B' β w us hst0 (snapYs_sound hst hB ha has)).mono fun e w' he => ?_
  obtain ⟨u, β', rfl, hst', stp', hr⟩ := he
  obtain ⟨stp, hstk⟩ := keep_stp hst stp'.os stp'.tape stp'.output stp'.size stp'.empty
  refine ⟨u, β, rfl, hstk, stp, ?_⟩
  unfold RepRes at hr
  rcases pack_mapM hrs with ⟨r, r', rfl, rfl, hb⟩ | ⟨h1, h2⟩
  ·exact backY_sound hB hst' hr hb
  ·rw [h1] at hr
   rw [h2]
   obtain ⟨xs, rfl, hx⟩ := hr
   exact ⟨xs, rfl, backYs_sound hB hst' hx hrs⟩
 ·simp only [kM, kP] at h
  obtain ⟨⟨rs, H1⟩, hk, rfl, rfl⟩ := h
  obtain ⟨hfn, hc⟩ := hK _ _ _ _ _ hk
  exact ⟨hfn, hc B β w us hst ha⟩
end
end Go.Lg
