/-
 X, part 12: a region that draws its order comes to what the text's order comes to.
-/
import Derived.Test.YtoieblpjklbmoaaX11
namespace Go.Lg
def masksMeet (a b : Option (Bool × List Nat)) : Bool :=
 match a, b with
 | some (true, s), some (false, t) | some (false, t), some (true, s) => !s.all t.contains
 | _, _ => true
/-- A look for a key, and the entry of just that key. -/
def sameTmp : Operand → Operand → Bool
 | .tmp a, .tmp b => a == b
 | _, _ => false
theorem sameTmp_eq {a b : Operand} (h : sameTmp a b = true) : a = b := by
 cases a <;> cases b <;> simp_all [sameTmp]
def twinB : Op → Op → Bool
 | .lookup t m k false, .mapEntry t' m' k' => t == t' && sameTmp m m' && sameTmp k k'
 | _, _ => false
def indep (A : Ann) (m : Nat → Option (Bool × List Nat)) (l : List Nat) (ops : Array Oper) (j i : Nat) (x y : Oper) : Bool :=
 x.apart ops y && (l.contains i || kindO A y == 0 || (!l.contains j && ((twinB x.op y.op && (m j).isNone && (m i).isNone) || kindO A x == 0 || (kindO A x == 1 && kindO A y == 1) || !masksMeet (m j) (m i))))
def drawOK (A : Ann) (m : Nat → Option (Bool × List Nat)) (l : List Nat) (ops : Array Oper) : Bool :=
 let b := Region.before ops
 (List.range ops.size).all fun i => match ops[i]? with
  | none => true
  | some oi => oi.after.all (fun e => !Region.binds .any e || decide (e.on < i)) &&
   (List.range i).all fun j => (b.getD i 0).testBit j || (match ops[j]? with | some oj => indep A m l ops j i oj oi | none => true)
section
variable {P : Program} {A : Ann} {K : Callee}
/-! ### Two that do not meet -/
def EnvEq (e e' : Env) : Prop := ∀ t, get e t = get e' t
theorem EnvEq.refl (e : Env) : EnvEq e e := fun _ => rfl
theorem EnvEq.trans {a b c : Env} (h : EnvEq a b) (k : EnvEq b c) : EnvEq a c := fun t => (h t).trans (k t)
theorem EnvEq.symm {a b : Env} (h : EnvEq a b) : EnvEq b a := fun t => (h t).symm
theorem EnvEq.put {e e' : Env} (h : EnvEq e e') (d : Option Nat) (v : X) : EnvEq (putD d v e) (putD d v e') := by
 cases d with
 | none => exact h
 | some t =>
  intro s
  simp only [putD, get]
  split
  ·rfl
  ·exact h s
theorem EnvEq.fn {e e' : Env} (h : EnvEq e e') : get e = get e' := funext h
theorem EnvEq.ev {e e' : Env} (h : EnvEq e e') : ev e = ev e' := by
 funext x; cases x <;> first | rfl | exact h _
theorem opD_env {mk : Msk} {e e' : Env} {H : Heap} {o : Oper} (h : EnvEq e e') : opD P A K mk e H o = opD P A K mk e' H o := by
 unfold opD
 have hi : ∀ ts, idsOf e ts = idsOf e' ts := fun ts => by unfold idsOf; rw [h.fn]
 cases mk <;> simp only [h.ev, hi]
theorem putD_comm {d d' : Option Nat} (h : ∀ t, d = some t → d' ≠ some t) (v v' : X) (e : Env) : EnvEq (putD d v (putD d' v' e)) (putD d' v' (putD d v e)) := by
 cases d with
 | none => exact EnvEq.refl _
 | some t => cases d' with
  | none => exact EnvEq.refl _
  | some t' =>
   have hne : t ≠ t' := fun e => h t rfl (by rw [e])
   intro s
   simp only [putD, get]
   by_cases h1 : t = s <;> by_cases h2 : t' = s <;> simp_all
theorem opsX_eq {mk : Nat → Msk} {ops : Array Oper} : ∀ (l : List Nat) {e e' : Env} {H : Heap} {f : Env} {H' : Heap}, EnvEq e e' → opsX P A K mk ops l e H = some (f, H') → ∃ f', opsX P A K mk ops l e' H = some (f', H') ∧ EnvEq f f' := by
 intro l
 induction l with
 | nil =>
  intro e e' H f H' he h
  simp only [opsX, kI, kP] at h ⊢
  obtain ⟨rfl, rfl⟩ := h
  exact ⟨e', ⟨rfl, rfl⟩, he⟩
 | cons i l ih =>
  intro e e' H f H' he h
  simp only [opsX] at h ⊢
  cases ho : ops[i]? with
  | none => rw [ho] at h; exact ih he h
  | some o =>
   rw [ho] at h
   simp only [kB] at h ⊢
   obtain ⟨b, hb, h⟩ := h
   rw [← he.fn]
   cases b with
   | true =>
    simp only [if_true, kB] at h
    obtain ⟨⟨v, H1⟩, hop, h⟩ := h
    rw [opD_env he] at hop
    obtain ⟨f', h1, h2⟩ := ih (he.put o.dst v) h
    exact ⟨f', ⟨true, hb, by simp only [if_true, kB]; exact ⟨(v, H1), hop, h1⟩⟩, h2⟩
   | false =>
    simp only [Bool.false_eq_true, if_false] at h
    obtain ⟨f', h1, h2⟩ := ih (he.put o.dst .undef) h
    exact ⟨f', ⟨false, hb, by simpa using h1⟩, h2⟩
theorem get_put {d : Option Nat} {v : X} {e : Env} {t : Nat} (h : ∀ s, d = some s → s ≠ t) : get (putD d v e) t = get e t := by
 cases d with
 | none => rfl
 | some s => simp only [putD, get]; rw [if_neg (h s rfl)]
theorem want_put {ops : Array Oper} {o : Oper} {d : Option Nat} {v : X} {e : Env} (h : ∀ s, d = some s → s ∉ o.looksAt ops) : wantX ops (get (putD d v e)) o = wantX ops (get e) o := by
 unfold wantX
 cases hg : o.guard with
 | none => rfl
 | some p =>
  obtain ⟨j, want⟩ := p
  simp only
  cases hd : (ops[j]?).bind (·.dst) with
  | none => rfl
  | some t =>
   simp only [kT]
   rw [get_put fun s hs e => h s hs (by subst e; simp [Oper.looksAt, hg, hd])]
theorem op_put {ops : Array Oper} {o : Oper} {d : Option Nat} {v : X} {e : Env} {H : Heap} (h : ∀ s, d = some s → s ∉ o.looksAt ops) : opX P A K (ev (putD d v e)) H o = opX P A K (ev e) H o := by
 refine opX_congr o H fun x hx => ?_
 cases x with
 | tmp t =>
  refine get_put fun s hs e => h s hs ?_
  subst e
  exact List.mem_append_left _ (List.mem_filterMap.2 ⟨.tmp s, by simpa using hx, rfl⟩)
 | _ => rfl
theorem opD_put {ops : Array Oper} {mk : Msk} {o : Oper} {d : Option Nat} {v : X} {e : Env} {H : Heap} (h : ∀ s, d = some s → s ∉ o.looksAt ops) (hm : ∀ s, d = some s → s ∉ mk.ts) :
  opD P A K mk (putD d v e) H o = opD P A K mk e H o := by
 have hi : idsOf (putD d v e) mk.ts = idsOf e mk.ts := by
  unfold idsOf
  have key : ∀ l : List Nat, (∀ t ∈ l, t ∈ mk.ts) → (l.filterMap fun t => (get (putD d v e) t).c?.bind C.id?) = l.filterMap fun t => (get e t).c?.bind C.id? := by
   intro l
   induction l with
   | nil => intro _; rfl
   | cons t l ih =>
    intro hl
    simp only [List.filterMap_cons, ih fun t ht => hl t (by simp [ht]), get_put fun s hs e => hm s hs (by rw [e]; exact hl t (by simp))]
  exact key _ fun t h => h
 have ho : ∀ H, opX P A K (ev (putD d v e)) H o = opX P A K (ev e) H o := fun H => op_put h
 unfold opD
 cases mk with
 | no => exact ho H
 | ins ts => simp only [Msk.ts] at hi; simp only [ho, hi]
 | out ts => simp only [Msk.ts] at hi; simp only [ho, hi]
 | late id => rfl
theorem opD_reads {mk : Msk} {e : Env} {H : Heap} {o : Oper} (hk : kindO A o ≤ 1) (hl : ∀ id, mk ≠ .late id) (hm : ∀ ts, mk ≠ .out ts) {v : X} {H' : Heap} (h : opD P A K mk e H o = some (v, H')) : H' = H := by
 unfold opD at h
 split at h
 ·by_cases h0 : kindO A o = 0
  ·exact (opX_quiet h0 h).1
  ·exact opX_reads (evF e) (by omega) h
 ·simp only [kM, kP] at h
  obtain ⟨_, _, _, h⟩ := h
  exact h.symm
 ·exact absurd rfl (hm _)
 ·exact absurd rfl (hl _)
theorem opD_quiet {mk : Msk} {e : Env} {H : Heap} {o : Oper} (hk : kindO A o = 0) (hl : ∀ id, mk ≠ .late id) (hm : ∀ ts, mk ≠ .out ts) {v : X} {H' : Heap} (h : opD P A K mk e H o = some (v, H')) : H' = H ∧ ∀ H2, opD P A K mk e H2 o = some (v, H2) := by
 refine ⟨opD_reads (by omega) hl hm h, fun H2 => ?_⟩
 unfold opD at h ⊢
 split at h
 ·exact (opX_quiet hk h).2 H2
 ·simp only [kM] at h ⊢
  obtain ⟨⟨v', H3⟩, h1, h2⟩ := h
  exact ⟨_, (opX_quiet hk h1).2 _, by simp only [kP] at h2 ⊢; exact ⟨h2.1, trivial⟩⟩
 ·exact absurd rfl (hm _)
 ·exact absurd rfl (hl _)
/-- What sees nothing of these leaves them. -/
theorem opD_out (hK : KHid K) {ts : List Nat} {e : Env} {H : Heap} {o : Oper} {v : X} {H' : Heap} (h : opD P A K (.out ts) e H o = some (v, H')) : ∀ i ∈ idsOf e ts, H.getD i hole = H'.getD i hole := by
 intro i hi
 unfold opD at h
 simp only at h
 split at h
 ·rename_i hM
  simp only [kM] at h
  obtain ⟨⟨v1, H1⟩, h1, h2⟩ := h
  obtain ⟨H2', _, hd⟩ := opX_hid hK (hide_hid hM) (evF e) h1
  have l1 := hd.le
  obtain ⟨_, rfl⟩ := Prod.mk.inj h2
  have hc : (idsOf e ts).contains i = true := by simpa using hi
  have := List.all_eq_true.1 hM i hi
  cases hg : H[i]? with
  | none => rw [hg] at this; cases this
  | some o' =>
   have hlt := (List.getElem?_eq_some_iff.1 hg).1
   have hb : (backH (idsOf e ts) H H1)[i]? = some o' := by
    rw [back_get, if_pos hc, List.getElem?_eq_getElem (show i < H1.length by simp only at l1; omega)]
    simp [List.getD, hg]
   simp only [List.getD, hg, hb]
 ·cases h
theorem opD_ins_congr {s : List Nat} {e : Env} {H H2 : Heap} {o : Oper} {v : X} {H' : Heap} (hs : ∀ i ∈ idsOf e s, H.getD i hole = H2.getD i hole) (h : opD P A K (.ins s) e H o = some (v, H')) : opD P A K (.ins s) e H2 o = some (v, H2) := by
 unfold opD at h ⊢
 simp only [kM] at h ⊢
 obtain ⟨⟨v', H3⟩, h1, h2⟩ := h
 rw [only_congr hs] at h1
 exact ⟨(v', H3), h1, by simp only [kP] at h2 ⊢; exact ⟨h2.1, trivial⟩⟩
theorem ids_sub {e : Env} {s t : List Nat} (h : s.all t.contains = true) : ∀ i ∈ idsOf e s, i ∈ idsOf e t := by
 intro i hi
 unfold idsOf at hi ⊢
 rw [List.mem_filterMap] at hi ⊢
 obtain ⟨a, ha, hb⟩ := hi
 exact ⟨a, by simpa using List.all_eq_true.1 h a ha, hb⟩
/-- A place that was laid stays one while others work. -/
theorem hole_stays (hK : KHid K) {mk : Msk} {e : Env} {H H1 : Heap} {o : Oper} {v : X} {id : Nat} (hh : H[id]? = some (.map .hole)) (hl : mk ≠ .late id) (hi : ∀ ts, mk = .ins ts → kindO A o ≤ 1)
  (h : opD P A K mk e H o = some (v, H1)) (cs : List C) (hcs : (O.obj cs).inH H.length = true) :
  H1[id]? = some (.map .hole) ∧ ∃ H2, opD P A K mk e (H.set id (.obj cs)) o = some (v, H2) ∧ H2 = H1.set id (.obj cs) := by
 have hlt := (List.getElem?_eq_some_iff.1 hh).1
 have mk' : ∀ o' : O, o'.inH H.length = true → Hid (fun i => if i = id then some o' else none) H.length H (H.set id o') := by
  intro o' ho'
  refine ⟨by simp, Nat.le_refl _, fun i o1 hi' => ?_, fun i hi' => ?_⟩
  ·split at hi'
   ·rename_i e'; subst e'; cases hi'
    exact ⟨hlt, ho', ⟨_, .inr rfl, hh⟩, by simp [hlt]⟩
   ·cases hi'
  ·split at hi'
   ·cases hi'
   ·rename_i e'; rw [List.getElem?_set_ne (fun x => e' x.symm)]
 have key := fun o' ho' => opD_hid hK (mk' o' ho') (mk := mk) (e := e) (o := o) (fun id' e' => by
  rw [if_neg]; rintro rfl; exact hl e') hi h
 obtain ⟨_, _, g1⟩ := key (.row true false 0 0 1 []) rfl
 obtain ⟨H2, e2, g2⟩ := key (.obj cs) hcs
 have h1 : H1[id]? = some (.map .hole) := by
  obtain ⟨_, _, ⟨o1, hc, hx⟩, _⟩ := g1.hid id (.row true false 0 0 1 []) (by simp)
  simp only at hx
  rw [hx]
  rcases hc with rfl | rfl <;> rfl
 refine ⟨h1, H2, e2, ?_⟩
 apply List.ext_getElem?
 intro i
 by_cases hi' : i = id
 ·subst hi'
  obtain ⟨_, _, _, hx⟩ := g2.hid i (.obj cs) (by simp)
  rw [hx, List.getElem?_set_self (List.getElem?_eq_some_iff.1 h1).1]
 ·rw [List.getElem?_set_ne (fun x => hi' x.symm)]
  exact (g2.same i (by simp [hi'])).symm
theorem zero_inH {t : TypeId} {cs : List C} (h : zeroC P t = some cs) (n : Nat) : (O.obj cs).inH n = true := by
 unfold zeroC at h
 simp only [kB] at h
 obtain ⟨i, _, v, _, h⟩ := h
 simp only [kR, kI] at h
 obtain ⟨_, rfl⟩ := h
 simp only [O.inH, List.all_eq_true, List.mem_map]
 rintro c ⟨u, _, rfl⟩
 unfold C.ofV
 split
 ·split <;> rfl
 ·split <;> rfl
 ·split <;> rfl
theorem swap_op (hK : KHid K) {oi oj : Oper} {mi mj : Msk} {e : Env} {H H1 H2 : Heap} {vi vj : X} (hmi : ∀ ts, mi = .ins ts → kindO A oi ≤ 1) (hmj : ∀ ts, mj = .ins ts → kindO A oj ≤ 1)
  (hmi2 : ∀ ts, mi = .out ts → 2 ≤ kindO A oi) (hmj2 : ∀ ts, mj = .out ts → 2 ≤ kindO A oj) (hli : ∀ id, mi ≠ .late id) (hlj : ∀ id, mj ≠ .late id)
  (hk : kindO A oj = 0 ∨ kindO A oi = 0 ∨ (kindO A oj = 1 ∧ kindO A oi = 1) ∨ ∃ s t, s.all t.contains = true ∧ ((mj = .ins s ∧ mi = .out t) ∨ (mj = .out t ∧ mi = .ins s))) (hj : opD P A K mj e H oj = some (vj, H1)) (hi : opD P A K mi e H1 oi = some (vi, H2)) :
  ∃ H1', opD P A K mi e H oi = some (vi, H1') ∧ opD P A K mj e H1' oj = some (vj, H2) := by
 have lowi : kindO A oi ≤ 1 → ∀ ts, mi ≠ .out ts := fun hk ts e => by have := hmi2 ts e; omega
 have lowj : kindO A oj ≤ 1 → ∀ ts, mj ≠ .out ts := fun hk ts e => by have := hmj2 ts e; omega
 rcases hk with hk | hk | ⟨hk, hk'⟩ | ⟨s, t, hst, ⟨rfl, rfl⟩ | ⟨rfl, rfl⟩⟩
 ·obtain ⟨rfl, hq⟩ := opD_quiet hk hlj (lowj (by omega)) hj
  exact ⟨H2, hi, hq H2⟩
 ·obtain ⟨rfl, hq⟩ := opD_quiet hk hli (lowi (by omega)) hi
  exact ⟨H, hq H, hj⟩
 ·obtain rfl := opD_reads (by omega) hlj (lowj (by omega)) hj
  obtain rfl := opD_reads (by omega) hli (lowi (by omega)) hi
  exact ⟨_, hi, hj⟩
 ·obtain rfl := opD_reads (hmj s rfl) (by simp) (by simp) hj
  exact ⟨H2, hi, opD_ins_congr (fun i hi' => opD_out hK hi i (ids_sub hst i hi')) hj⟩
 ·obtain rfl := opD_reads (hmi s rfl) (by simp) (by simp) hi
  exact ⟨H, opD_ins_congr (fun i hi' => (opD_out hK hj i (ids_sub hst i hi')).symm) hi, hj⟩
/-- One that was laid is filled first. -/
theorem swap_late (hK : KHid K) {oi oj : Oper} {mj : Msk} {e : Env} {H H1 H2 : Heap} {vi vj : X} {id : Nat} (hmj : ∀ ts, mj = .ins ts → kindO A oj ≤ 1) (hlj : mj ≠ .late id) (hh : H[id]? = some (.map .hole))
  (hj : opD P A K mj e H oj = some (vj, H1)) (hi : opD P A K (.late id) e H1 oi = some (vi, H2)) :
  ∃ H1', opD P A K (.late id) e H oi = some (vi, H1') ∧ opD P A K mj e H1' oj = some (vj, H2) := by
 simp only [opD, fillH] at hi ⊢
 split at hi
 ·rename_i t hop
  split at hi
  ·simp only [kM, kP] at hi
   obtain ⟨cs, hz, rfl, rfl⟩ := hi
   obtain ⟨_, H3, e3, rfl⟩ := hole_stays hK hh hlj hmj hj cs (zero_inH hz _)
   exact ⟨H.set id (.obj cs), by rw [hh, hz]; rfl, e3⟩
  ·cases hi
 ·cases hi
theorem idx_inj {l : List Nat} {i j : Nat} (hi : l.contains i = true) (h : l.idxOf i = l.idxOf j) : i = j := by
 have hm : i ∈ l := by simpa using hi
 have h1 : l[l.idxOf i]'(List.idxOf_lt_length_iff.2 hm) = i := List.getElem_idxOf _
 have hlt : l.idxOf j < l.length := by rw [← h]; exact List.idxOf_lt_length_iff.2 hm
 have h2 : l[l.idxOf j]'hlt = j := List.getElem_idxOf _
 rw [← h1, ← h2]
 congr 1
/-! A look for a key, and the entry of that key -/
theorem findNow_val {d : TypeDesc} {k : Value} : ∀ {l : List MapEntry} {i : Nat} {p : Nat × Value}, Instr.findNow d k l i = some (some p) → ∃ j e, p.1 = i + j ∧ l[j]? = some e ∧ e.val = p.2
 | [], i, p, h => by simp [Instr.findNow] at h
 | e :: es, i, p, h => by
  unfold Instr.findNow at h
  split at h
  ·cases h; exact ⟨0, e, rfl, rfl, rfl⟩
  ·obtain ⟨j, e', h1, h2, h3⟩ := findNow_val h
   exact ⟨j + 1, e', by omega, by simpa using h2, h3⟩
  ·cases h
theorem findAsking_val {kt : TypeId} {k : Value} : ∀ {l : List MapEntry} {i : Nat} {p : Nat × Value}, pv P (Instr.findAsking kt k l i) = some (some p) → ∃ j e, p.1 = i + j ∧ l[j]? = some e ∧ e.val = p.2
 | [], i, p, h => by simp [Instr.findAsking, pv, pure] at h
 | e :: es, i, p, h => by
  unfold Instr.findAsking at h
  rw [pv_bnd] at h
  simp only [kB] at h
  obtain ⟨b, _, h⟩ := h
  cases b with
  | true => simp only [if_true, pv, pure, kI] at h; subst h; exact ⟨0, e, rfl, rfl, rfl⟩
  | false =>
   simp only [Bool.false_eq_true, if_false] at h
   obtain ⟨j, e', h1, h2, h3⟩ := findAsking_val h
   exact ⟨j + 1, e', by omega, by simpa using h2, h3⟩
theorem findKey_val {kt : TypeId} {k : Value} {l : List MapEntry} {p : Nat × Value} (h : pv P (Instr.findKey kt k l) = some (some p)) : ∃ e, l[p.1]? = some e ∧ e.val = p.2 := by
 unfold Instr.findKey at h
 rw [pv_bnd] at h
 simp only [kB] at h
 obtain ⟨d, _, h⟩ := h
 split at h
 ·rename_i r hr
  simp only [pv, pure, kI] at h
  subst h
  obtain ⟨j, e, h1, h2, h3⟩ := findNow_val hr
  exact ⟨e, by rw [h1, Nat.zero_add]; exact h2, h3⟩
 ·obtain ⟨j, e, h1, h2, h3⟩ := findAsking_val h
  exact ⟨e, by rw [h1, Nat.zero_add]; exact h2, h3⟩
theorem lookup_twin {H H' : Heap} {t : TypeId} {x k v r : X} (h : lookupX P H t x k false = some v) (h' : mapEntryX P H t x k = some (r, H')) : lookupX P H' t x k false = some v := by
 unfold mapEntryX at h'
 split at h'
 ·rename_i id
  simp only [kB] at h'
  obtain ⟨⟨es, clock⟩, hm, kv, hk, ⟨es', clock', v1, v2⟩, hu, h'⟩ := h'
  split at h'
  case isFalse => cases h'
  case isTrue hg =>
  cases h'
  have hlt : id < H.length := by
   unfold mapAt at hm
   split at hm
   ·rename_i hh; exact (List.getElem?_eq_some_iff.1 hh).1
   ·cases hm
  have hm' : mapAt (H.set id (.map (.map es' clock'))) id = some (es', clock') := by
   unfold mapAt
   rw [List.getElem?_set_self hlt]
  unfold lookupX at h ⊢
  simp only [bagX, bagAt_none hm, bagAt_none hm', Option.map_none] at h ⊢
  simp only [entriesX, hm, hm', kT, kS, hk] at h ⊢
  simp only [kB] at h ⊢
  obtain ⟨u, hl, ho⟩ := h
  refine ⟨u, ?_, ho⟩
  unfold lookupV at hl ⊢
  unfold entryV at hu
  unfold placeV at hg
  cases hd : P.underlying t with
  | none => rw [pv_bnd, pv_und0 hd] at hl; cases hl
  | some d =>
   rw [pv_bnd, pv_und hd] at hl hu hg ⊢
   simp only [kS] at hl hu hg ⊢
   cases d <;> first | (simp [pv, stuck] at hl; done) | skip
   rename_i kt el
   simp only [pv_bnd, kB] at hl hu
   obtain ⟨_, hc1, f, hf, hl⟩ := hl
   obtain ⟨_, hc2, f2, hf2, hu⟩ := hu
   rw [hf] at hf2
   cases hf2
   simp only [pv_bnd, pv_und hd, hf, kS] at hg
   have hg2 : ∃ f3, pv P (Instr.findKey kt kv es'.toList) = some f3 ∧ f3.map (·.1) = some ((f.map (·.1)).getD es.size) := by
    cases h3 : pv P (Instr.findKey kt kv es'.toList) with
    | none => rw [h3] at hg; cases hg
    | some f3 =>
     rw [h3] at hg
     simp only [kS, pv, pure, kI, Option.getD_some] at hg
     exact ⟨f3, rfl, hg⟩
   obtain ⟨f3, hf3, hg3⟩ := hg2
   cases f3 with
   | none => cases hg3
   | some p3 =>
    obtain ⟨e3, he3, hv3⟩ := findKey_val hf3
    simp only [kT, kI] at hg3
    simp only [pv_bnd, kB]
    cases f with
    | none =>
     simp only [pv_bnd, kB] at hu
     obtain ⟨z, hz, hu⟩ := hu
     simp only [pv, pure, kI, kP] at hu
     obtain ⟨rfl, rfl, rfl, rfl⟩ := hu
     simp only [Option.map_none, Option.getD_none] at hg3
     have hne : (es.push { key := kv, val := z, born := clock }).isEmpty = false := by simp
     refine ⟨(), by rw [hne]; exact hc2, some p3, hf3, ?_⟩
     rw [hg3, Array.getElem?_toList, Array.getElem?_push_size] at he3
     cases he3
     simp only [pv_bnd, hz, kS] at hl
     obtain ⟨j3, w3⟩ := p3
     simp only at hv3 ⊢
     rw [← hv3]
     exact hl
    | some p =>
     obtain ⟨i, v0⟩ := p
     simp only [pv_bnd, kB] at hu
     obtain ⟨key', hkey, hu⟩ := hu
     simp only [pv, pure, kI, kP] at hu
     obtain ⟨rfl, rfl, rfl, rfl⟩ := hu
     simp only [kT, Option.getD_some] at hg3
     obtain ⟨e, he, hv⟩ := findKey_val hf
     simp only at he hv
     have hi : i < es.size := by rw [Array.getElem?_toList] at he; exact (Array.getElem?_eq_some_iff.1 he).1
     have hne : (es.modify i fun e => { e with key := key' }).isEmpty = false := by
      rw [Array.isEmpty_eq_false_iff]
      intro h0
      have := congrArg Array.size h0
      simp at this
      rw [this] at hi
      simp at hi
     refine ⟨(), by rw [hne]; exact hc2, some p3, hf3, ?_⟩
     rw [hg3, Array.getElem?_toList, Array.getElem?_modify] at he3
     rw [Array.getElem?_toList] at he
     simp only [if_true, he, kT, kI] at he3
     subst he3
     obtain ⟨j3, w3⟩ := p3
     simp only at hv3 hl ⊢
     rw [← hv3, hv]
     exact hl
 ·cases h'
theorem twin_swap {oi oj : Oper} {e : Env} {H H1 H2 : Heap} {vi vj : X} (ht : twinB oj.op oi.op = true) (h1 : opD P A K .no e H oj = some (vj, H1)) (h2 : opD P A K .no e H1 oi = some (vi, H2)) :
  ∃ H1', opD P A K .no e H oi = some (vi, H1') ∧ opD P A K .no e H1' oj = some (vj, H2) := by
 simp only [opD] at h1 h2 ⊢
 unfold twinB at ht
 split at ht
 ·rename_i t m k t' m' k' e1 e2
  simp only [kA, beq_iff_eq] at ht
  obtain ⟨⟨rfl, hm⟩, hk⟩ := ht
  obtain rfl := sameTmp_eq hm
  obtain rfl := sameTmp_eq hk
  unfold opX at h1 h2 ⊢
  rw [e1] at h1
  rw [e2] at h2
  simp only [kM, kP] at h1
  obtain ⟨v, hl, rfl, rfl⟩ := h1
  refine ⟨H2, by rw [e2]; exact h2, ?_⟩
  rw [e1]
  simp only [lookup_twin hl h2, kT]
 ·cases ht
theorem swapX (hK : KHid K) {m : Nat → Option (Bool × List Nat)} {lt : List Nat} {bs : Nat} {ops : Array Oper} (hm : maskOK A m lt ops = true) {i j : Nat} (hij : i ≠ j) {oi oj : Oper} (hoi : ops[i]? = some oi) (hoj : ops[j]? = some oj) (hin : indep A m lt ops j i oj oi = true) {l : List Nat} {e : Env} {H : Heap}
  (hH : lt.contains i = true → H[bs + lt.idxOf i]? = some (.map .hole)) {f : Env} {H' : Heap}
  (h : opsX P A K (mkM m lt bs) ops (j :: i :: l) e H = some (f, H')) : ∃ f', opsX P A K (mkM m lt bs) ops (i :: j :: l) e H = some (f', H') ∧ EnvEq f f' := by
 unfold indep at hin
 simp only [kA] at hin
 obtain ⟨hap, hk⟩ := hin
 obtain ⟨ha1, ha2, ha3⟩ := Oper.apart_spec hap
 have swap : ∀ {vi vj : X} {H1 H2 : Heap}, opD P A K (mkM m lt bs j) e H oj = some (vj, H1) → opD P A K (mkM m lt bs i) e H1 oi = some (vi, H2) →
   ∃ H1', opD P A K (mkM m lt bs i) e H oi = some (vi, H1') ∧ opD P A K (mkM m lt bs j) e H1' oj = some (vj, H2) := by
  intro vi vj H1 H2 h1 h2
  by_cases hl : lt.contains i = true
  ·have e1 : mkM m lt bs i = .late (bs + lt.idxOf i) := mkM_late.2 ⟨hl, rfl⟩
   rw [e1] at h2 ⊢
   refine swap_late hK (maskOK_ins hm hoj) (fun e2 => ?_) (hH hl) h1 h2
   obtain ⟨_, e3⟩ := mkM_late.1 e2
   exact hij (idx_inj hl (by omega))
  ·have nli : ∀ id, mkM m lt bs i ≠ .late id := fun id e => hl (mkM_late.1 e).1
   by_cases hlj : lt.contains j = true
   ·have hq : kindO A oi = 0 := by
     rw [Bool.eq_false_iff.2 hl, hlj] at hk
     simpa using hk
    obtain ⟨rfl, hq'⟩ := opD_quiet hq nli (fun ts e => by have := maskOK_out hm hoi ts e; omega) h2
    exact ⟨H, hq' H, h1⟩
   ·have nlj : ∀ id, mkM m lt bs j ≠ .late id := fun id e => hlj (mkM_late.1 e).1
    by_cases htw : (twinB oj.op oi.op = true ∧ (m j).isNone = true) ∧ (m i).isNone = true
    ·obtain ⟨⟨t1, t2⟩, t3⟩ := htw
     have e1 : mkM m lt bs j = .no := by unfold mkM; rw [if_neg hlj, Option.isNone_iff_eq_none.1 t2]
     have e2 : mkM m lt bs i = .no := by unfold mkM; rw [if_neg hl, Option.isNone_iff_eq_none.1 t3]
     rw [e1] at h1 ⊢
     rw [e2] at h2 ⊢
     exact twin_swap t1 h1 h2
    refine swap_op hK (maskOK_ins hm hoi) (maskOK_ins hm hoj) (maskOK_out hm hoi) (maskOK_out hm hoj) nli nlj ?_ h1 h2
    simp only [hl, hlj, Bool.false_or, Bool.not_false, Bool.true_and, Bool.or_eq_true, beq_iff_eq, kA] at hk
    rcases hk with hk | ((hk | hk) | hk) | hk
    ·exact .inr (.inl hk)
    ·exact absurd hk htw
    ·exact .inl hk
    ·exact .inr (.inr (.inl hk))
    ·refine .inr (.inr (.inr ?_))
     unfold masksMeet at hk
     split at hk
     ·rename_i s t e1 e2
      refine ⟨s, t, by simpa using hk, .inl ⟨?_, ?_⟩⟩
      ·unfold mkM; rw [if_neg hlj, e1]
      ·unfold mkM; rw [if_neg hl, e2]
     ·rename_i t s e1 e2
      refine ⟨s, t, by simpa using hk, .inr ⟨?_, ?_⟩⟩
      ·unfold mkM; rw [if_neg hlj, e1]
      ·unfold mkM; rw [if_neg hl, e2]
     ·cases hk
 have si : ∀ s, oj.dst = some s → s ∉ (mkM m lt bs i).ts := fun s h2 => maskOK_ts hm hoi j oj s hoj h2
 have sj : ∀ s, oi.dst = some s → s ∉ (mkM m lt bs j).ts := fun s h2 => maskOK_ts hm hoj i oi s hoi h2
 have hcomm := fun v v' => putD_comm (d := oi.dst) (d' := oj.dst) (fun t ht ht' => ha2 t ht' ht) v v' e
 simp only [opsX, hoi, hoj, kB] at h ⊢
 obtain ⟨bj, hbj, h⟩ := h
 cases bj with
 | true =>
  simp only [if_true, kB] at h
  obtain ⟨⟨vj, H1⟩, hopj, bi, hbi, h⟩ := h
  rw [want_put ha1] at hbi
  cases bi with
  | true =>
   simp only [if_true, kB] at h
   obtain ⟨⟨vi, H2⟩, hopi, h⟩ := h
   rw [opD_put (fun s hs => ha1 s hs) si] at hopi
   obtain ⟨H1', h1, h2⟩ := swap hopj hopi
   obtain ⟨f', h3, h4⟩ := opsX_eq l (hcomm vi vj) h
   refine ⟨f', ⟨true, hbi, ?_⟩, h4⟩
   simp only [if_true, kB]
   refine ⟨(vi, H1'), h1, true, by rw [want_put ha3]; exact hbj, ?_⟩
   simp only [if_true, kB]
   exact ⟨(vj, H2), by rw [opD_put (fun s hs => ha3 s hs) sj]; exact h2, h3⟩
  | false =>
   simp only [Bool.false_eq_true, if_false] at h
   obtain ⟨f', h3, h4⟩ := opsX_eq l (hcomm .undef vj) h
   refine ⟨f', ⟨false, hbi, ?_⟩, h4⟩
   simp only [Bool.false_eq_true, if_false, kB]
   refine ⟨true, by rw [want_put ha3]; exact hbj, ?_⟩
   simp only [if_true, kB]
   exact ⟨(vj, H1), by rw [opD_put (fun s hs => ha3 s hs) sj]; exact hopj, h3⟩
 | false =>
  simp only [Bool.false_eq_true, if_false, kB] at h
  obtain ⟨bi, hbi, h⟩ := h
  rw [want_put ha1] at hbi
  cases bi with
  | true =>
   simp only [if_true, kB] at h
   obtain ⟨⟨vi, H2⟩, hopi, h⟩ := h
   rw [opD_put (fun s hs => ha1 s hs) si] at hopi
   obtain ⟨f', h3, h4⟩ := opsX_eq l (hcomm vi .undef) h
   refine ⟨f', ⟨true, hbi, ?_⟩, h4⟩
   simp only [if_true, kB]
   refine ⟨(vi, H2), hopi, false, by rw [want_put ha3]; exact hbj, ?_⟩
   simpa using h3
  | false =>
   simp only [Bool.false_eq_true, if_false] at h
   obtain ⟨f', h3, h4⟩ := opsX_eq l (hcomm .undef .undef) h
   refine ⟨f', ⟨false, hbi, ?_⟩, h4⟩
   simp only [Bool.false_eq_true, if_false, kB]
   exact ⟨false, by rw [want_put ha3]; exact hbj, by simpa using h3⟩
/-- One that nothing ahead of it meets comes first. -/
theorem bubble (hK : KHid K) {m : Nat → Option (Bool × List Nat)} {lt : List Nat} {bs : Nat} {ops : Array Oper} (hm : maskOK A m lt ops = true) {i : Nat} {oi : Oper} (hoi : ops[i]? = some oi) : ∀ (pre : List Nat) {post : List Nat}, (∀ j ∈ pre, i ≠ j ∧ ∃ oj, ops[j]? = some oj ∧ indep A m lt ops j i oj oi = true) → ∀ {e : Env} {H : Heap} {f : Env} {H' : Heap},
  (lt.contains i = true → H[bs + lt.idxOf i]? = some (.map .hole)) →
  opsX P A K (mkM m lt bs) ops (pre ++ i :: post) e H = some (f, H') → ∃ f', opsX P A K (mkM m lt bs) ops (i :: (pre ++ post)) e H = some (f', H') ∧ EnvEq f f' := by
 intro pre
 induction pre with
 | nil => intro post _ e H f H' _ h; exact ⟨f, h, EnvEq.refl _⟩
 | cons j pre ih =>
  intro post hpre e H f H' hH h
  obtain ⟨hij, oj, hoj, hin⟩ := hpre j (by simp)
  have h1 : ∃ f', opsX P A K (mkM m lt bs) ops (j :: i :: (pre ++ post)) e H = some (f', H') ∧ EnvEq f f' := by
   have hpre' : ∀ k ∈ pre, i ≠ k ∧ ∃ oj, ops[k]? = some oj ∧ indep A m lt ops k i oj oi = true := fun k hk => hpre k (by simp [hk])
   simp only [List.cons_append] at h
   simp only [opsX] at h
   rw [hoj] at h
   simp only [kB] at h
   obtain ⟨b, hb, h⟩ := h
   cases b with
   | true =>
    simp only [if_true, kB] at h
    obtain ⟨⟨v, H1⟩, hop, h⟩ := h
    have hH1 : lt.contains i = true → H1[bs + lt.idxOf i]? = some (.map .hole) := fun hl =>
     (hole_stays hK (hH hl) (fun e2 => by obtain ⟨_, e3⟩ := mkM_late.1 e2; exact hij (idx_inj hl (by omega))) (maskOK_ins hm hoj) hop [] rfl).1
    obtain ⟨f', h1, h2⟩ := ih hpre' hH1 h
    refine ⟨f', ?_, h2⟩
    show opsX P A K (mkM m lt bs) ops (j :: (i :: (pre ++ post))) e H = _
    rw [opsX, hoj]
    simp only [hb, kS, if_true, hop]
    exact h1
   | false =>
    simp only [Bool.false_eq_true, if_false] at h
    obtain ⟨f', h1, h2⟩ := ih hpre' hH h
    refine ⟨f', ?_, h2⟩
    show opsX P A K (mkM m lt bs) ops (j :: (i :: (pre ++ post))) e H = _
    rw [opsX, hoj]
    simp only [hb, kS, Bool.false_eq_true, if_false]
    exact h1
  obtain ⟨f1, h1, e1⟩ := h1
  obtain ⟨f2, h2, e2⟩ := swapX hK hm hij hoi hoj hin hH h1
  exact ⟨f2, h2, e1.trans e2⟩
end
end Go.Lg
