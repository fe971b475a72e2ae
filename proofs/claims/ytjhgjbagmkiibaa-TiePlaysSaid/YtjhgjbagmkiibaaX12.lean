/- Lemmas. -/
import Derived.Test.YtjhgjbagmkiibaaX9
import Derived.LoopN
import Derived.Scope
section
namespace Go.Lg
def masksMeet (a b : Option (Bool × List Nat)) : Bool :=
 match a, b with
 | some (true, s), some (false, t) | some (false, t), some (true, s) => !s.all t.contains
 | _, _ => true
def sameTmp : Operand → Operand → Bool
 | .tmp a, .tmp b => a == b
 | _, _ => false
theorem sameTmp_eq {a b : Operand} (h : sameTmp a b = true) : a = b := by
 cases a <;> cases b <;> simp_all [sameTmp]
def twinB : Op → Op → Bool
 | .lookup t m k false, .mapEntry t' m' k' => t == t' && sameTmp m m' && sameTmp k k'
 | _, _ => false
def indep (A : Ann) (m : Nat → Option (Bool × List Nat)) (l : List Nat) (ops : Array Oper) (j i : Nat) (x y : Oper) : Bool :=
 x.apart ops y && (l.contains i || kindO A y == 0 || (!l.contains j && ((twinB x.op y.op && (m j).isNone && (m i).isNone) || kindO A x == 0 || (kindO A x == 1 && kindO A y == 1) || !masksMeet (m j) (m i))))
def drawOK (A : Ann) (m : Nat → Option (Bool × List Nat)) (l : List Nat) (ops : Array Oper) : Bool :=
 let b := Region.before ops
 (List.range ops.size).all fun i => match ops[i]? with
  | none => true
  | some oi => oi.after.all (fun e => !Region.binds .any e || decide (e.on < i)) &&
   (List.range i).all fun j => (b.getD i 0).testBit j || (match ops[j]? with | some oj => indep A m l ops j i oj oi | none => true)
section
variable {P : Program} {A : Ann} {K : Callee}
def EnvEq (e e' : Env) : Prop := ∀ t, get e t = get e' t
theorem EnvEq.refl (e : Env) : EnvEq e e := fun _ => rfl
theorem EnvEq.trans {a b c : Env} (h : EnvEq a b) (k : EnvEq b c) : EnvEq a c := fun t => (h t).trans (k t)
theorem EnvEq.symm {a b : Env} (h : EnvEq a b) : EnvEq b a := fun t => (h t).symm
theorem EnvEq.put {e e' : Env} (h : EnvEq e e') (d : Option Nat) (v : X) : EnvEq (putD d v e) (putD d v e') := by
 cases d with
 | none => exact h
 | some t =>
  intro s
  simp only [putD, get]
  split
  ·rfl
  ·exact h s
theorem EnvEq.fn {e e' : Env} (h : EnvEq e e') : get e = get e' := funext h
theorem EnvEq.ev {e e' : Env} (h : EnvEq e e') : ev e = ev e' := by
 funext x; cases x <;> first | rfl | exact h _
theorem opD_env {mk : Msk} {e e' : Env} {H : Heap} {o : Oper} (h : EnvEq e e') : opD P A K mk e H o = opD P A K mk e' H o := by
 unfold opD
 have hi : ∀ ts, idsOf e ts = idsOf e' ts := fun ts => by unfold idsOf; rw [h.fn]
 cases mk <;> simp only [h.ev, hi]
theorem putD_comm {d d' : Option Nat} (h : ∀ t, d = some t → d' ≠ some t) (v v' : X) (e : Env) : EnvEq (putD d v (putD d' v' e)) (putD d' v' (putD d v e)) := by
 cases d with
 | none => exact EnvEq.refl _
 | some t => cases d' with
  | none => exact EnvEq.refl _
  | some t' =>
   have hne : t ≠ t' := fun e => h t rfl (by rw [e])
   intro s
   simp only [putD, get]
   by_cases h1 : t = s <;> by_cases h2 : t' = s <;> simp_all
theorem opsX_eq {mk : Nat → Msk} {ops : Array Oper} : ∀ (l : List Nat) {e e' : Env} {H : Heap} {f : Env} {H' : Heap}, EnvEq e e' → opsX P A K mk ops l e H = some (f, H') → ∃ f', opsX P A K mk ops l e' H = some (f', H') ∧ EnvEq f f' := by
 intro l
 induction l with
 | nil =>
  intro e e' H f H' he h
  simp only [opsX, kI, kP] at h ⊢
  obtain ⟨rfl, rfl⟩ := h
  exact ⟨e', ⟨rfl, rfl⟩, he⟩
 | cons i l ih =>
  intro e e' H f H' he h
  simp only [opsX] at h ⊢
  cases ho : ops[i]? with
  | none => rw [ho] at h; exact ih he h
  | some o =>
   rw [ho] at h
   simp only [kB] at h ⊢
   obtain ⟨b, hb, h⟩ := h
   rw [← he.fn]
   cases b with
   | true =>
    simp only [if_true, kB] at h
    obtain ⟨⟨v, H1⟩, hop, h⟩ := h
    rw [opD_env he] at hop
    obtain ⟨f', h1, h2⟩ := ih (he.put o.dst v) h
    exact ⟨f', ⟨true, hb, by simp only [if_true, kB]; exact ⟨(v, H1), hop, h1⟩⟩, h2⟩
   | false =>
    simp only [Bool.false_eq_true, if_false] at h
    obtain ⟨f', h1, h2⟩ := ih (he.put o.dst .undef) h
    exact ⟨f', ⟨false, hb, by simpa using h1⟩, h2⟩
theorem get_put {d : Option Nat} {v : X} {e : Env} {t : Nat} (h : ∀ s, d = some s → s ≠ t) : get (putD d v e) t = get e t := by
 cases d with
 | none => rfl
 | some s => simp only [putD, get]; rw [if_neg (h s rfl)]
theorem want_put {ops : Array Oper} {o : Oper} {d : Option Nat} {v : X} {e : Env} (h : ∀ s, d = some s → s ∉ o.looksAt ops) : wantX ops (get (putD d v e)) o = wantX ops (get e) o := by
 unfold wantX
 cases hg : o.guard with
 | none => rfl
 | some p =>
  obtain ⟨j, want⟩ := p
  simp only
  cases hd : (ops[j]?).bind (·.dst) with
  | none => rfl
  | some t =>
   simp only [kT]
   rw [get_put fun s hs e => h s hs (by subst e; simp [Oper.looksAt, hg, hd])]
theorem op_put {ops : Array Oper} {o : Oper} {d : Option Nat} {v : X} {e : Env} {H : Heap} (h : ∀ s, d = some s → s ∉ o.looksAt ops) : opX P A K (ev (putD d v e)) H o = opX P A K (ev e) H o := by
 refine opX_congr o H fun x hx => ?_
 cases x with
 | tmp t =>
  refine get_put fun s hs e => h s hs ?_
  subst e
  exact List.mem_append_left _ (List.mem_filterMap.2 ⟨.tmp s, by simpa using hx, rfl⟩)
 | _ => rfl
theorem opD_put {ops : Array Oper} {mk : Msk} {o : Oper} {d : Option Nat} {v : X} {e : Env} {H : Heap} (h : ∀ s, d = some s → s ∉ o.looksAt ops) (hm : ∀ s, d = some s → s ∉ mk.ts) :
  opD P A K mk (putD d v e) H o = opD P A K mk e H o := by
 have hi : idsOf (putD d v e) mk.ts = idsOf e mk.ts := by
  unfold idsOf
  have key : ∀ l : List Nat, (∀ t ∈ l, t ∈ mk.ts) → (l.filterMap fun t => (get (putD d v e) t).c?.bind C.id?) = l.filterMap fun t => (get e t).c?.bind C.id? := by
   intro l
   induction l with
   | nil => intro _; rfl
   | cons t l ih =>
    intro hl
    simp only [List.filterMap_cons, ih fun t ht => hl t (by simp [ht]), get_put fun s hs e => hm s hs (by rw [e]; exact hl t (by simp))]
  exact key _ fun t h => h
 have ho : ∀ H, opX P A K (ev (putD d v e)) H o = opX P A K (ev e) H o := fun H => op_put h
 unfold opD
 cases mk with
 | no => exact ho H
 | ins ts => simp only [Msk.ts] at hi; simp only [ho, hi]
 | out ts => simp only [Msk.ts] at hi; simp only [ho, hi]
 | late id => rfl
theorem opD_reads {mk : Msk} {e : Env} {H : Heap} {o : Oper} (hk : kindO A o ≤ 1) (hl : ∀ id, mk ≠ .late id) (hm : ∀ ts, mk ≠ .out ts) {v : X} {H' : Heap} (h : opD P A K mk e H o = some (v, H')) : H' = H := by
 unfold opD at h
 split at h
 ·by_cases h0 : kindO A o = 0
  ·exact (opX_quiet h0 h).1
  ·exact opX_reads (evF e) (by omega) h
 ·simp only [kM, kP] at h
  obtain ⟨_, _, _, h⟩ := h
  exact h.symm
 ·exact absurd rfl (hm _)
 ·exact absurd rfl (hl _)
theorem opD_quiet {mk : Msk} {e : Env} {H : Heap} {o : Oper} (hk : kindO A o = 0) (hl : ∀ id, mk ≠ .late id) (hm : ∀ ts, mk ≠ .out ts) {v : X} {H' : Heap} (h : opD P A K mk e H o = some (v, H')) : H' = H ∧ ∀ H2, opD P A K mk e H2 o = some (v, H2) := by
 refine ⟨opD_reads (by omega) hl hm h, fun H2 => ?_⟩
 unfold opD at h ⊢
 split at h
 ·exact (opX_quiet hk h).2 H2
 ·simp only [kM] at h ⊢
  obtain ⟨⟨v', H3⟩, h1, h2⟩ := h
  exact ⟨_, (opX_quiet hk h1).2 _, by simp only [kP] at h2 ⊢; exact ⟨h2.1, trivial⟩⟩
 ·exact absurd rfl (hm _)
 ·exact absurd rfl (hl _)
theorem opD_out (hK : KHid K) {ts : List Nat} {e : Env} {H : Heap} {o : Oper} {v : X} {H' : Heap} (h : opD P A K (.out ts) e H o = some (v, H')) : ∀ i ∈ idsOf e ts, H.getD i hole = H'.getD i hole := by
 intro i hi
 unfold opD at h
 simp only at h
 split at h
 ·rename_i hM
  simp only [kM] at h
  obtain ⟨⟨v1, H1⟩, h1, h2⟩ := h
  obtain ⟨H2', _, hd⟩ := opX_hid hK (hide_hid hM) (evF e) h1
  have l1 := hd.le
  obtain ⟨_, rfl⟩ := Prod.mk.inj h2
  have hc : (idsOf e ts).contains i = true := by simpa using hi
  have := List.all_eq_true.1 hM i hi
  cases hg : H[i]? with
  | none => rw [hg] at this; cases this
  | some o' =>
   have hlt := (List.getElem?_eq_some_iff.1 hg).1
   have hb : (backH (idsOf e ts) H H1)[i]? = some o' := by
    rw [back_get, if_pos hc, List.getElem?_eq_getElem (show i < H1.length by simp only at l1; omega)]
    simp [List.getD, hg]
   simp only [List.getD, hg, hb]
 ·cases h
theorem opD_ins_congr {s : List Nat} {e : Env} {H H2 : Heap} {o : Oper} {v : X} {H' : Heap} (hs : ∀ i ∈ idsOf e s, H.getD i hole = H2.getD i hole) (h : opD P A K (.ins s) e H o = some (v, H')) : opD P A K (.ins s) e H2 o = some (v, H2) := by
 unfold opD at h ⊢
 simp only [kM] at h ⊢
 obtain ⟨⟨v', H3⟩, h1, h2⟩ := h
 rw [only_congr hs] at h1
 exact ⟨(v', H3), h1, by simp only [kP] at h2 ⊢; exact ⟨h2.1, trivial⟩⟩
theorem ids_sub {e : Env} {s t : List Nat} (h : s.all t.contains = true) : ∀ i ∈ idsOf e s, i ∈ idsOf e t := by
 intro i hi
 unfold idsOf at hi ⊢
 rw [List.mem_filterMap] at hi ⊢
 obtain ⟨a, ha, hb⟩ := hi
 exact ⟨a, by simpa using List.all_eq_true.1 h a ha, hb⟩
theorem hole_stays (hK : KHid K) {mk : Msk} {e : Env} {H H1 : Heap} {o : Oper} {v : X} {id : Nat} (hh : H[id]? = some (.map .hole)) (hl : mk ≠ .late id) (hi : ∀ ts, mk = .ins ts → kindO A o ≤ 1)
  (h : opD P A K mk e H o = some (v, H1)) (cs : List C) (hcs : (O.obj cs).inH H.length = true) :
  H1[id]? = some (.map .hole) ∧ ∃ H2, opD P A K mk e (H.set id (.obj cs)) o = some (v, H2) ∧ H2 = H1.set id (.obj cs) := by
 have hlt := (List.getElem?_eq_some_iff.1 hh).1
 have mk' : ∀ o' : O, o'.inH H.length = true → Hid (fun i => if i = id then some o' else none) H.length H (H.set id o') := by
  intro o' ho'
  refine ⟨by simp, Nat.le_refl _, fun i o1 hi' => ?_, fun i hi' => ?_⟩
  ·split at hi'
   ·rename_i e'; subst e'; cases hi'
    exact ⟨hlt, ho', ⟨_, .inr rfl, hh⟩, by simp [hlt]⟩
   ·cases hi'
  ·split at hi'
   ·cases hi'
   ·rename_i e'; rw [List.getElem?_set_ne (fun x => e' x.symm)]
 have key := fun o' ho' => opD_hid hK (mk' o' ho') (mk := mk) (e := e) (o := o) (fun id' e' => by
  rw [if_neg]; rintro rfl; exact hl e') hi h
 obtain ⟨_, _, g1⟩ := key (.row true false 0 0 1 []) rfl
 obtain ⟨H2, e2, g2⟩ := key (.obj cs) hcs
 have h1 : H1[id]? = some (.map .hole) := by
  obtain ⟨_, _, ⟨o1, hc, hx⟩, _⟩ := g1.hid id (.row true false 0 0 1 []) (by simp)
  simp only at hx
  rw [hx]
  rcases hc with rfl | rfl <;> rfl
 refine ⟨h1, H2, e2, ?_⟩
 apply List.ext_getElem?
 intro i
 by_cases hi' : i = id
 ·subst hi'
  obtain ⟨_, _, _, hx⟩ := g2.hid i (.obj cs) (by simp)
  rw [hx, List.getElem?_set_self (List.getElem?_eq_some_iff.1 h1).1]
 ·rw [List.getElem?_set_ne (fun x => hi' x.symm)]
  exact (g2.same i (by simp [hi'])).symm
theorem zero_inH {t : TypeId} {cs : List C} (h : zeroC P t = some cs) (n : Nat) : (O.obj cs).inH n = true := by
 unfold zeroC at h
 simp only [kB] at h
 obtain ⟨i, _, v, _, h⟩ := h
 simp only [kR, kI] at h
 obtain ⟨_, rfl⟩ := h
 simp only [O.inH, List.all_eq_true, List.mem_map]
 rintro c ⟨u, _, rfl⟩
 unfold C.ofV
 split
 ·split <;> rfl
 ·split <;> rfl
 ·split <;> rfl
theorem swap_op (hK : KHid K) {oi oj : Oper} {mi mj : Msk} {e : Env} {H H1 H2 : Heap} {vi vj : X} (hmi : ∀ ts, mi = .ins ts → kindO A oi ≤ 1) (hmj : ∀ ts, mj = .ins ts → kindO A oj ≤ 1)
  (hmi2 : ∀ ts, mi = .out ts → 2 ≤ kindO A oi) (hmj2 : ∀ ts, mj = .out ts → 2 ≤ kindO A oj) (hli : ∀ id, mi ≠ .late id) (hlj : ∀ id, mj ≠ .late id)
  (hk : kindO A oj = 0 ∨ kindO A oi = 0 ∨ (kindO A oj = 1 ∧ kindO A oi = 1) ∨ ∃ s t, s.all t.contains = true ∧ ((mj = .ins s ∧ mi = .out t) ∨ (mj = .out t ∧ mi = .ins s))) (hj : opD P A K mj e H oj = some (vj, H1)) (hi : opD P A K mi e H1 oi = some (vi, H2)) :
  ∃ H1', opD P A K mi e H oi = some (vi, H1') ∧ opD P A K mj e H1' oj = some (vj, H2) := by
 have lowi : kindO A oi ≤ 1 → ∀ ts, mi ≠ .out ts := fun hk ts e => by have := hmi2 ts e; omega
 have lowj : kindO A oj ≤ 1 → ∀ ts, mj ≠ .out ts := fun hk ts e => by have := hmj2 ts e; omega
 rcases hk with hk | hk | ⟨hk, hk'⟩ | ⟨s, t, hst, ⟨rfl, rfl⟩ | ⟨rfl, rfl⟩⟩
 ·obtain ⟨rfl, hq⟩ := opD_quiet hk hlj (lowj (by omega)) hj
  exact ⟨H2, hi, hq H2⟩
 ·obtain ⟨rfl, hq⟩ := opD_quiet hk hli (lowi (by omega)) hi
  exact ⟨H, hq H, hj⟩
 ·obtain rfl := opD_reads (by omega) hlj (lowj (by omega)) hj
  obtain rfl := opD_reads (by omega) hli (lowi (by omega)) hi
  exact ⟨_, hi, hj⟩
 ·obtain rfl := opD_reads (hmj s rfl) (by simp) (by simp) hj
  exact ⟨H2, hi, opD_ins_congr (fun i hi' => opD_out hK hi i (ids_sub hst i hi')) hj⟩
 ·obtain rfl := opD_reads (hmi s rfl) (by simp) (by simp) hi
  exact ⟨H, opD_ins_congr (fun i hi' => (opD_out hK hj i (ids_sub hst i hi')).symm) hi, hj⟩
theorem swap_late (hK : KHid K) {oi oj : Oper} {mj : Msk} {e : Env} {H H1 H2 : Heap} {vi vj : X} {id : Nat} (hmj : ∀ ts, mj = .ins ts → kindO A oj ≤ 1) (hlj : mj ≠ .late id) (hh : H[id]? = some (.map .hole))
  (hj : opD P A K mj e H oj = some (vj, H1)) (hi : opD P A K (.late id) e H1 oi = some (vi, H2)) :
  ∃ H1', opD P A K (.late id) e H oi = some (vi, H1') ∧ opD P A K mj e H1' oj = some (vj, H2) := by
 simp only [opD, fillH] at hi ⊢
 split at hi
 ·rename_i t hop
  split at hi
  ·simp only [kM, kP] at hi
   obtain ⟨cs, hz, rfl, rfl⟩ := hi
   obtain ⟨_, H3, e3, rfl⟩ := hole_stays hK hh hlj hmj hj cs (zero_inH hz _)
   exact ⟨H.set id (.obj cs), by rw [hh, hz]; rfl, e3⟩
  ·cases hi
 ·cases hi
theorem idx_inj {l : List Nat} {i j : Nat} (hi : l.contains i = true) (h : l.idxOf i = l.idxOf j) : i = j := by
 have hm : i ∈ l := by simpa using hi
 have h1 : l[l.idxOf i]'(List.idxOf_lt_length_iff.2 hm) = i := List.getElem_idxOf _
 have hlt : l.idxOf j < l.length := by rw [← h]; exact List.idxOf_lt_length_iff.2 hm
 have h2 : l[l.idxOf j]'hlt = j := List.getElem_idxOf _
 rw [← h1, ← h2]
 congr 1
theorem findNow_val {d : TypeDesc} {k : Value} : ∀ {l : List MapEntry} {i : Nat} {p : Nat × Value}, Instr.findNow d k l i = some (some p) → ∃ j e, p.1 = i + j ∧ l[j]? = some e ∧ e.val = p.2
 | [], i, p, h => by simp [Instr.findNow] at h
 | e :: es, i, p, h => by
  unfold Instr.findNow at h
  split at h
  ·cases h; exact ⟨0, e, rfl, rfl, rfl⟩
  ·obtain ⟨j, e', h1, h2, h3⟩ := findNow_val h
   exact ⟨j + 1, e', by omega, by simpa using h2, h3⟩
  ·cases h
theorem findAsking_val {kt : TypeId} {k : Value} : ∀ {l : List MapEntry} {i : Nat} {p : Nat × Value}, pv P (Instr.findAsking kt k l i) = some (some p) → ∃ j e, p.1 = i + j ∧ l[j]? = some e ∧ e.val = p.2
 | [], i, p, h => by simp [Instr.findAsking, pv, pure] at h
 | e :: es, i, p, h => by
  unfold Instr.findAsking at h
  rw [pv_bnd] at h
  simp only [kB] at h
  obtain ⟨b, _, h⟩ := h
  cases b with
  | true => simp only [if_true, pv, pure, kI] at h; subst h; exact ⟨0, e, rfl, rfl, rfl⟩
  | false =>
   simp only [Bool.false_eq_true, if_false] at h
   obtain ⟨j, e', h1, h2, h3⟩ := findAsking_val h
   exact ⟨j + 1, e', by omega, by simpa using h2, h3⟩
theorem findKey_val {kt : TypeId} {k : Value} {l : List MapEntry} {p : Nat × Value} (h : pv P (Instr.findKey kt k l) = some (some p)) : ∃ e, l[p.1]? = some e ∧ e.val = p.2 := by
 unfold Instr.findKey at h
 rw [pv_bnd] at h
 simp only [kB] at h
 obtain ⟨d, _, h⟩ := h
 split at h
 ·rename_i r hr
  simp only [pv, pure, kI] at h
  subst h
  obtain ⟨j, e, h1, h2, h3⟩ := findNow_val hr
  exact ⟨e, by rw [h1, Nat.zero_add]; exact h2, h3⟩
 ·obtain ⟨j, e, h1, h2, h3⟩ := findAsking_val h
  exact ⟨e, by rw [h1, Nat.zero_add]; exact h2, h3⟩
theorem lookup_twin {H H' : Heap} {t : TypeId} {x k v r : X} (h : lookupX P H t x k false = some v) (h' : mapEntryX P H t x k = some (r, H')) : lookupX P H' t x k false = some v := by
 unfold mapEntryX at h'
 split at h'
 ·rename_i id
  simp only [kB] at h'
  obtain ⟨⟨es, clock⟩, hm, kv, hk, ⟨es', clock', v1, v2⟩, hu, h'⟩ := h'
  split at h'
  case isFalse => cases h'
  case isTrue hg =>
  cases h'
  have hlt : id < H.length := by
   unfold mapAt at hm
   split at hm
   ·rename_i hh; exact (List.getElem?_eq_some_iff.1 hh).1
   ·cases hm
  have hm' : mapAt (H.set id (.map (.map es' clock'))) id = some (es', clock') := by
   unfold mapAt
   rw [List.getElem?_set_self hlt]
  unfold lookupX at h ⊢
  simp only [bagX, bagAt_none hm, bagAt_none hm', Option.map_none] at h ⊢
  simp only [entriesX, hm, hm', kT, kS, hk] at h ⊢
  simp only [kB] at h ⊢
  obtain ⟨u, hl, ho⟩ := h
  refine ⟨u, ?_, ho⟩
  unfold lookupV at hl ⊢
  unfold entryV at hu
  unfold placeV at hg
  cases hd : P.underlying t with
  | none => rw [pv_bnd, pv_und0 hd] at hl; cases hl
  | some d =>
   rw [pv_bnd, pv_und hd] at hl hu hg ⊢
   simp only [kS] at hl hu hg ⊢
   cases d <;> first | (simp [pv, stuck] at hl; done) | skip
   rename_i kt el
   simp only [pv_bnd, kB] at hl hu
   obtain ⟨_, hc1, f, hf, hl⟩ := hl
   obtain ⟨_, hc2, f2, hf2, hu⟩ := hu
   rw [hf] at hf2
   cases hf2
   simp only [pv_bnd, pv_und hd, hf, kS] at hg
   have hg2 : ∃ f3, pv P (Instr.findKey kt kv es'.toList) = some f3 ∧ f3.map (·.1) = some ((f.map (·.1)).getD es.size) := by
    cases h3 : pv P (Instr.findKey kt kv es'.toList) with
    | none => rw [h3] at hg; cases hg
    | some f3 =>
     rw [h3] at hg
     simp only [kS, pv, pure, kI, Option.getD_some] at hg
     exact ⟨f3, rfl, hg⟩
   obtain ⟨f3, hf3, hg3⟩ := hg2
   cases f3 with
   | none => cases hg3
   | some p3 =>
    obtain ⟨e3, he3, hv3⟩ := findKey_val hf3
    simp only [kT, kI] at hg3
    simp only [pv_bnd, kB]
    cases f with
    | none =>
     simp only [pv_bnd, kB] at hu
     obtain ⟨z, hz, hu⟩ := hu
     simp only [pv, pure, kI, kP] at hu
     obtain ⟨rfl, rfl, rfl, rfl⟩ := hu
     simp only [Option.map_none, Option.getD_none] at hg3
     have hne : (es.push { key := kv, val := z, born := clock }).isEmpty = false := by simp
     refine ⟨(), by rw [hne]; exact hc2, some p3, hf3, ?_⟩
     rw [hg3, Array.getElem?_toList, Array.getElem?_push_size] at he3
     cases he3
     simp only [pv_bnd, hz, kS] at hl
     obtain ⟨j3, w3⟩ := p3
     simp only at hv3 ⊢
     rw [← hv3]
     exact hl
    | some p =>
     obtain ⟨i, v0⟩ := p
     simp only [pv_bnd, kB] at hu
     obtain ⟨key', hkey, hu⟩ := hu
     simp only [pv, pure, kI, kP] at hu
     obtain ⟨rfl, rfl, rfl, rfl⟩ := hu
     simp only [kT, Option.getD_some] at hg3
     obtain ⟨e, he, hv⟩ := findKey_val hf
     simp only at he hv
     have hi : i < es.size := by rw [Array.getElem?_toList] at he; exact (Array.getElem?_eq_some_iff.1 he).1
     have hne : (es.modify i fun e => { e with key := key' }).isEmpty = false := by
      rw [Array.isEmpty_eq_false_iff]
      intro h0
      have := congrArg Array.size h0
      simp at this
      rw [this] at hi
      simp at hi
     refine ⟨(), by rw [hne]; exact hc2, some p3, hf3, ?_⟩
     rw [hg3, Array.getElem?_toList, Array.getElem?_modify] at he3
     rw [Array.getElem?_toList] at he
     simp only [if_true, he, kT, kI] at he3
     subst he3
     obtain ⟨j3, w3⟩ := p3
     simp only at hv3 hl ⊢
     rw [← hv3, hv]
     exact hl
 ·cases h'
theorem twin_swap {oi oj : Oper} {e : Env} {H H1 H2 : Heap} {vi vj : X} (ht : twinB oj.op oi.op = true) (h1 : opD P A K .no e H oj = some (vj, H1)) (h2 : opD P A K .no e H1 oi = some (vi, H2)) :
  ∃ H1', opD P A K .no e H oi = some (vi, H1') ∧ opD P A K .no e H1' oj = some (vj, H2) := by
 simp only [opD] at h1 h2 ⊢
 unfold twinB at ht
 split at ht
 ·rename_i t m k t' m' k' e1 e2
  simp only [kA, beq_iff_eq] at ht
  obtain ⟨⟨rfl, hm⟩, hk⟩ := ht
  obtain rfl := sameTmp_eq hm
  obtain rfl := sameTmp_eq hk
  unfold opX at h1 h2 ⊢
  rw [e1] at h1
  rw [e2] at h2
  simp only [kM, kP] at h1
  obtain ⟨v, hl, rfl, rfl⟩ := h1
  refine ⟨H2, by rw [e2]; exact h2, ?_⟩
  rw [e1]
  simp only [lookup_twin hl h2, kT]
 ·cases ht
theorem swapX (hK : KHid K) {m : Nat → Option (Bool × List Nat)} {lt : List Nat} {bs : Nat} {ops : Array Oper} (hm : maskOK A m lt ops = true) {i j : Nat} (hij : i ≠ j) {oi oj : Oper} (hoi : ops[i]? = some oi) (hoj : ops[j]? = some oj) (hin : indep A m lt ops j i oj oi = true) {l : List Nat} {e : Env} {H : Heap}
  (hH : lt.contains i = true → H[bs + lt.idxOf i]? = some (.map .hole)) {f : Env} {H' : Heap}
  (h : opsX P A K (mkM m lt bs) ops (j :: i :: l) e H = some (f, H')) : ∃ f', opsX P A K (mkM m lt bs) ops (i :: j :: l) e H = some (f', H') ∧ EnvEq f f' := by
 unfold indep at hin
 simp only [kA] at hin
 obtain ⟨hap, hk⟩ := hin
 obtain ⟨ha1, ha2, ha3⟩ := Oper.apart_spec hap
 have swap : ∀ {vi vj : X} {H1 H2 : Heap}, opD P A K (mkM m lt bs j) e H oj = some (vj, H1) → opD P A K (mkM m lt bs i) e H1 oi = some (vi, H2) →
   ∃ H1', opD P A K (mkM m lt bs i) e H oi = some (vi, H1') ∧ opD P A K (mkM m lt bs j) e H1' oj = some (vj, H2) := by
  intro vi vj H1 H2 h1 h2
  by_cases hl : lt.contains i = true
  ·have e1 : mkM m lt bs i = .late (bs + lt.idxOf i) := mkM_late.2 ⟨hl, rfl⟩
   rw [e1] at h2 ⊢
   refine swap_late hK (maskOK_ins hm hoj) (fun e2 => ?_) (hH hl) h1 h2
   obtain ⟨_, e3⟩ := mkM_late.1 e2
   exact hij (idx_inj hl (by omega))
  ·have nli : ∀ id, mkM m lt bs i ≠ .late id := fun id e => hl (mkM_late.1 e).1
   by_cases hlj : lt.contains j = true
   ·have hq : kindO A oi = 0 := by
     rw [Bool.eq_false_iff.2 hl, hlj] at hk
     simpa using hk
    obtain ⟨rfl, hq'⟩ := opD_quiet hq nli (fun ts e => by have := maskOK_out hm hoi ts e; omega) h2
    exact ⟨H, hq' H, h1⟩
   ·have nlj : ∀ id, mkM m lt bs j ≠ .late id := fun id e => hlj (mkM_late.1 e).1
    by_cases htw : (twinB oj.op oi.op = true ∧ (m j).isNone = true) ∧ (m i).isNone = true
    ·obtain ⟨⟨t1, t2⟩, t3⟩ := htw
     have e1 : mkM m lt bs j = .no := by unfold mkM; rw [if_neg hlj, Option.isNone_iff_eq_none.1 t2]
     have e2 : mkM m lt bs i = .no := by unfold mkM; rw [if_neg hl, Option.isNone_iff_eq_none.1 t3]
     rw [e1] at h1 ⊢
     rw [e2] at h2 ⊢
     exact twin_swap t1 h1 h2
    refine swap_op hK (maskOK_ins hm hoi) (maskOK_ins hm hoj) (maskOK_out hm hoi) (maskOK_out hm hoj) nli nlj ?_ h1 h2
    simp only [hl, hlj, Bool.false_or, Bool.not_false, Bool.true_and, Bool.or_eq_true, beq_iff_eq, kA] at hk
    rcases hk with hk | ((hk | hk) | hk) | hk
    ·exact .inr (.inl hk)
    ·exact absurd hk htw
    ·exact .inl hk
    ·exact .inr (.inr (.inl hk))
    ·refine .inr (.inr (.inr ?_))
     unfold masksMeet at hk
     split at hk
     ·rename_i s t e1 e2
      refine ⟨s, t, by simpa using hk, .inl ⟨?_, ?_⟩⟩
      ·unfold mkM; rw [if_neg hlj, e1]
      ·unfold mkM; rw [if_neg hl, e2]
     ·rename_i t s e1 e2
      refine ⟨s, t, by simpa using hk, .inr ⟨?_, ?_⟩⟩
      ·unfold mkM; rw [if_neg hlj, e1]
      ·unfold mkM; rw [if_neg hl, e2]
     ·cases hk
 have si : ∀ s, oj.dst = some s → s ∉ (mkM m lt bs i).ts := fun s h2 => maskOK_ts hm hoi j oj s hoj h2
 have sj : ∀ s, oi.dst = some s → s ∉ (mkM m lt bs j).ts := fun s h2 => maskOK_ts hm hoj i oi s hoi h2
 have hcomm := fun v v' => putD_comm (d := oi.dst) (d' := oj.dst) (fun t ht ht' => ha2 t ht' ht) v v' e
 simp only [opsX, hoi, hoj, kB] at h ⊢
 obtain ⟨bj, hbj, h⟩ := h
 cases bj with
 | true =>
  simp only [if_true, kB] at h
  obtain ⟨⟨vj, H1⟩, hopj, bi, hbi, h⟩ := h
  rw [want_put ha1] at hbi
  cases bi with
  | true =>
   simp only [if_true, kB] at h
   obtain ⟨⟨vi, H2⟩, hopi, h⟩ := h
   rw [opD_put (fun s hs => ha1 s hs) si] at hopi
   obtain ⟨H1', h1, h2⟩ := swap hopj hopi
   obtain ⟨f', h3, h4⟩ := opsX_eq l (hcomm vi vj) h
   refine ⟨f', ⟨true, hbi, ?_⟩, h4⟩
   simp only [if_true, kB]
   refine ⟨(vi, H1'), h1, true, by rw [want_put ha3]; exact hbj, ?_⟩
   simp only [if_true, kB]
   exact ⟨(vj, H2), by rw [opD_put (fun s hs => ha3 s hs) sj]; exact h2, h3⟩
  | false =>
   simp only [Bool.false_eq_true, if_false] at h
   obtain ⟨f', h3, h4⟩ := opsX_eq l (hcomm .undef vj) h
   refine ⟨f', ⟨false, hbi, ?_⟩, h4⟩
   simp only [Bool.false_eq_true, if_false, kB]
   refine ⟨true, by rw [want_put ha3]; exact hbj, ?_⟩
   simp only [if_true, kB]
   exact ⟨(vj, H1), by rw [opD_put (fun s hs => ha3 s hs) sj]; exact hopj, h3⟩
 | false =>
  simp only [Bool.false_eq_true, if_false, kB] at h
  obtain ⟨bi, hbi, h⟩ := h
  rw [want_put ha1] at hbi
  cases bi with
  | true =>
   simp only [if_true, kB] at h
   obtain ⟨⟨vi, H2⟩, hopi, h⟩ := h
   rw [opD_put (fun s hs => ha1 s hs) si] at hopi
   obtain ⟨f', h3, h4⟩ := opsX_eq l (hcomm vi .undef) h
   refine ⟨f', ⟨true, hbi, ?_⟩, h4⟩
   simp only [if_true, kB]
   refine ⟨(vi, H2), hopi, false, by rw [want_put ha3]; exact hbj, ?_⟩
   simpa using h3
  | false =>
   simp only [Bool.false_eq_true, if_false] at h
   obtain ⟨f', h3, h4⟩ := opsX_eq l (hcomm .undef .undef) h
   refine ⟨f', ⟨false, hbi, ?_⟩, h4⟩
   simp only [Bool.false_eq_true, if_false, kB]
   exact ⟨false, by rw [want_put ha3]; exact hbj, by simpa using h3⟩
theorem bubble (hK : KHid K) {m : Nat → Option (Bool × List Nat)} {lt : List Nat} {bs : Nat} {ops : Array Oper} (hm : maskOK A m lt ops = true) {i : Nat} {oi : Oper} (hoi : ops[i]? = some oi) : ∀ (pre : List Nat) {post : List Nat}, (∀ j ∈ pre, i ≠ j ∧ ∃ oj, ops[j]? = some oj ∧ indep A m lt ops j i oj oi = true) → ∀ {e : Env} {H : Heap} {f : Env} {H' : Heap},
  (lt.contains i = true → H[bs + lt.idxOf i]? = some (.map .hole)) →
  opsX P A K (mkM m lt bs) ops (pre ++ i :: post) e H = some (f, H') → ∃ f', opsX P A K (mkM m lt bs) ops (i :: (pre ++ post)) e H = some (f', H') ∧ EnvEq f f' := by
 intro pre
 induction pre with
 | nil => intro post _ e H f H' _ h; exact ⟨f, h, EnvEq.refl _⟩
 | cons j pre ih =>
  intro post hpre e H f H' hH h
  obtain ⟨hij, oj, hoj, hin⟩ := hpre j (by simp)
  have h1 : ∃ f', opsX P A K (mkM m lt bs) ops (j :: i :: (pre ++ post)) e H = some (f', H') ∧ EnvEq f f' := by
   have hpre' : ∀ k ∈ pre, i ≠ k ∧ ∃ oj, ops[k]? = some oj ∧ indep A m lt ops k i oj oi = true := fun k hk => hpre k (by simp [hk])
   simp only [List.cons_append] at h
   simp only [opsX] at h
   rw [hoj] at h
   simp only [kB] at h
   obtain ⟨b, hb, h⟩ := h
   cases b with
   | true =>
    simp only [if_true, kB] at h
    obtain ⟨⟨v, H1⟩, hop, h⟩ := h
    have hH1 : lt.contains i = true → H1[bs + lt.idxOf i]? = some (.map .hole) := fun hl =>
     (hole_stays hK (hH hl) (fun e2 => by obtain ⟨_, e3⟩ := mkM_late.1 e2; exact hij (idx_inj hl (by omega))) (maskOK_ins hm hoj) hop [] rfl).1
    obtain ⟨f', h1, h2⟩ := ih hpre' hH1 h
    refine ⟨f', ?_, h2⟩
    show opsX P A K (mkM m lt bs) ops (j :: (i :: (pre ++ post))) e H = _
    rw [opsX, hoj]
    simp only [hb, kS, if_true, hop]
    exact h1
   | false =>
    simp only [Bool.false_eq_true, if_false] at h
    obtain ⟨f', h1, h2⟩ := ih hpre' hH h
    refine ⟨f', ?_, h2⟩
    show opsX P A K (mkM m lt bs) ops (j :: (i :: (pre ++ post))) e H = _
    rw [opsX, hoj]
    simp only [hb, kS, Bool.false_eq_true, if_false]
    exact h1
  obtain ⟨f1, h1, e1⟩ := h1
  obtain ⟨f2, h2, e2⟩ := swapX hK hm hij hoi hoj hin hH h1
  exact ⟨f2, h2, e1.trans e2⟩
end
end Go.Lg
end
section
namespace Go.Lg
def un (ops : Array Oper) (listed : Array Bool) : List Nat := (List.range ops.size).filter fun i => !listed.getD i true
def Closed (ops : Array Oper) (listed : Array Bool) : Prop :=
 ∀ k o, listed.getD k false = true → ops[k]? = some o → ∀ e ∈ o.after.toList, Region.binds .any e = true → listed.getD e.on false = true
def befG (acc : Array Nat) (o : Oper) : Nat := o.after.foldl (fun s e => if Region.binds .any e then s ||| 2 ^ e.on ||| acc.getD e.on 0 else s) 0
theorem befG_bit {acc : Array Nat} {o : Oper} {j : Nat} (h : (befG acc o).testBit j = true) : ∃ e ∈ o.after.toList, Region.binds .any e = true ∧ (e.on = j ∨ (acc.getD e.on 0).testBit j = true) := by
 unfold befG at h
 rw [← Array.foldl_toList] at h
 have key : ∀ (l : List Edge) (s : Nat), (l.foldl (fun s e => if Region.binds .any e then s ||| 2 ^ e.on ||| acc.getD e.on 0 else s) s).testBit j = true → s.testBit j = true ∨ ∃ e ∈ l, Region.binds .any e = true ∧ (e.on = j ∨ (acc.getD e.on 0).testBit j = true) := by
  intro l
  induction l with
  | nil => intro s h; exact .inl h
  | cons e l ih =>
   intro s h
   rw [List.foldl_cons] at h
   rcases ih _ h with h1 | ⟨e', he', h1⟩
   ·by_cases hb : Region.binds .any e = true
    ·rw [if_pos hb] at h1
     simp only [Nat.testBit_or, Bool.or_eq_true] at h1
     rcases h1 with (h1 | h1) | h1
     ·exact .inl h1
     ·refine .inr ⟨e, by simp, hb, .inl ?_⟩
      rw [Nat.testBit_two_pow] at h1
      simpa using h1
     ·exact .inr ⟨e, by simp, hb, .inr h1⟩
    ·rw [if_neg hb] at h1; exact .inl h1
   ·exact .inr ⟨e', by simp [he'], h1⟩
 rcases key _ _ h with h | h
 ·simp at h
 ·exact h
theorem before_bit {ops : Array Oper} {i j : Nat} (h : ((Region.before ops).getD i 0).testBit j = true) :
  ∃ o, ops[i]? = some o ∧ ∃ e ∈ o.after.toList, Region.binds .any e = true ∧ (e.on = j ∨ (e.on < i ∧ ((Region.before ops).getD e.on 0).testBit j = true)) := by
 let Inv (n : Nat) (acc : Array Nat) : Prop := acc.size = n ∧ ∀ i j, (acc.getD i 0).testBit j = true → ∃ o, ops[i]? = some o ∧ ∃ e ∈ o.after.toList, Region.binds .any e = true ∧ (e.on = j ∨ (e.on < i ∧ (acc.getD e.on 0).testBit j = true))
 have key : ∀ (l pre : List Oper) (acc : Array Nat), ops.toList = pre ++ l → Inv pre.length acc → Inv ops.size (l.foldl (fun acc o => acc.push (befG acc o)) acc) := by
  intro l
  induction l with
  | nil =>
   intro pre acc h hi
   have : pre.length = ops.size := by rw [← Array.length_toList, h]; simp
   rw [← this]; exact hi
  | cons o l ih =>
   intro pre acc h hi
   rw [List.foldl_cons]
   refine ih (pre ++ [o]) _ (by simpa using h) ?_
   obtain ⟨hs, hb⟩ := hi
   have hget : ∀ k, k < acc.size → (acc.push (befG acc o)).getD k 0 = acc.getD k 0 := fun k hk => by
    simp only [Array.getD_eq_getD_getElem?, Array.getElem?_push]; rw [if_neg (by omega)]
   refine ⟨by simp [hs], fun i j hbit => ?_⟩
   by_cases hlt : i < acc.size
   ·rw [hget i hlt] at hbit
    obtain ⟨o', ho', e, he, hbd, hor⟩ := hb i j hbit
    refine ⟨o', ho', e, he, hbd, ?_⟩
    rcases hor with hor | ⟨h1, h2⟩
    ·exact .inl hor
    ·exact .inr ⟨h1, by rw [hget e.on (by omega)]; exact h2⟩
   ·by_cases heq : i = acc.size
    ·subst heq
     have : (acc.push (befG acc o)).getD acc.size 0 = befG acc o := by simp [Array.getD_eq_getD_getElem?]
     rw [this] at hbit
     obtain ⟨e, he, hbd, hor⟩ := befG_bit hbit
     refine ⟨o, ?_, e, he, hbd, ?_⟩
     ·rw [← Array.getElem?_toList, h, hs]; simp
     ·rcases hor with hor | hor
      ·exact .inl hor
      ·have hlt : e.on < acc.size := by
        rcases Nat.lt_or_ge e.on acc.size with h | h
        ·exact h
        ·rw [Array.getD_eq_getD_getElem?, Array.getElem?_eq_none h] at hor; simp at hor
       exact .inr ⟨hlt, by rw [hget _ hlt]; exact hor⟩
    ·rw [Array.getD_eq_getD_getElem?, Array.getElem?_eq_none (by simp; omega)] at hbit
     simp at hbit
 have := key ops.toList [] #[] rfl ⟨rfl, fun i j hb => by simp at hb⟩
 have e : Region.before ops = ops.toList.foldl (fun acc o => acc.push (befG acc o)) #[] := by
  unfold Region.before
  rw [← Array.foldl_toList]
  rfl
 rw [e] at h ⊢
 exact this.2 i j h
theorem before_listed {ops : Array Oper} {listed : Array Bool} (hc : Closed ops listed) : ∀ (i : Nat) {o : Oper} {j : Nat}, ops[i]? = some o → (∀ e ∈ o.after.toList, Region.binds .any e = true → listed.getD e.on false = true) →
  ((Region.before ops).getD i 0).testBit j = true → listed.getD j false = true := by
 intro i
 induction i using Nat.strongRecOn with
 | _ i ih =>
  intro o j ho ha hb
  obtain ⟨o', ho', e, he, hbd, hor⟩ := before_bit hb
  rw [ho] at ho'
  cases ho'
  rcases hor with rfl | ⟨hlt, hb'⟩
  ·exact ha e he hbd
  ·obtain ⟨oe, hoe, _⟩ := before_bit hb'
   exact ih e.on hlt hoe (hc e.on oe (ha e he hbd) hoe) hb'
theorem getD_tf {l : Array Bool} {i : Nat} (h : i < l.size) : l.getD i true = l.getD i false := by
 simp [Array.getD_eq_getD_getElem?, h]
section
variable {P : Program} {A : Ann} {K : Callee}
theorem drawOK_spec {mk : Nat → Option (Bool × List Nat)} {lt : List Nat} {ops : Array Oper} (h : drawOK A mk lt ops = true) {i : Nat} {oi : Oper} (ho : ops[i]? = some oi) :
  (∀ e ∈ oi.after.toList, Region.binds .any e = true → e.on < i) ∧ ∀ j oj, j < i → ops[j]? = some oj → ((Region.before ops).getD i 0).testBit j = true ∨ indep A mk lt ops j i oj oi = true := by
 unfold drawOK at h
 simp only [List.all_eq_true, List.mem_range] at h
 have hlt : i < ops.size := (Array.getElem?_eq_some_iff.1 ho).1
 have := h i hlt
 rw [ho] at this
 simp only [kA, Array.all_eq_true', List.all_eq_true, List.mem_range, Bool.or_eq_true, decide_eq_true_eq] at this
 obtain ⟨h1, h2⟩ := this
 refine ⟨fun e he hb => ?_, fun j oj hj hoj => ?_⟩
 ·have := h1 e (by simpa using he)
  rcases this with h | h
  ·rw [hb] at h; cases h
  ·exact h
 ·have := h2 j hj
  rw [hoj] at this
  exact this
theorem un_set {ops : Array Oper} {listed : Array Bool} (hs : listed.size = ops.size) {i : Nat} (hi : i < ops.size) : un ops (listed.setIfInBounds i true) = (un ops listed).filter fun j => decide (j ≠ i) := by
 unfold un
 rw [List.filter_filter]
 apply List.filter_congr
 intro j hj
 have hj' : j < ops.size := by simpa using hj
 simp only [Array.getD_eq_getD_getElem?, Array.getElem?_setIfInBounds]
 by_cases h : i = j
 ·subst h; simp [hs, hi]
 ·simp [h, Ne.symm h]
theorem nodup_split {l pre post : List Nat} {i : Nat} (hn : l.Nodup) (h : l = pre ++ i :: post) : (l.filter fun j => decide (j ≠ i)) = pre ++ post := by
 subst h
 rw [List.nodup_append] at hn
 obtain ⟨h1, h2, h3⟩ := hn
 rw [List.nodup_cons] at h2
 rw [List.filter_append, List.filter_cons]
 simp only [ne_eq, not_true, decide_false, Bool.false_eq_true, if_false]
 congr 1
 ·rw [List.filter_eq_self]
  intro a ha
  simpa using h3 a ha i (by simp)
 ·rw [List.filter_eq_self]
  intro a ha
  have : a ≠ i := fun e => h2.1 (by rw [← e]; exact ha)
  simpa using this
theorem mem_un {ops : Array Oper} {listed : Array Bool} {i : Nat} : i ∈ un ops listed ↔ i < ops.size ∧ listed.getD i true = false := by
 unfold un
 rw [List.mem_filter, List.mem_range]
 simp only [Bool.not_eq_true']
theorem un_nil {mk : Nat → Option (Bool × List Nat)} {lt : List Nat} {ops : Array Oper} {listed : Array Bool} (hdr : drawOK A mk lt ops = true) (hs : listed.size = ops.size) (hr : Region.ready .any ops listed = []) : un ops listed = [] := by
 rw [List.eq_nil_iff_forall_not_mem]
 intro i
 induction i using Nat.strongRecOn with
 | _ i ih =>
  intro hi
  obtain ⟨hlt, hl⟩ := mem_un.1 hi
  have ho : ops[i]? = some ops[i] := Array.getElem?_eq_getElem hlt
  have : i ∈ Region.ready .any ops listed := by
   rw [mem_ready]
   refine ⟨hl, ops[i], ho, fun e he hb => ?_⟩
   have hon := (drawOK_spec hdr ho).1 e (by simpa using he) hb
   have hne := ih e.on hon
   cases hx : listed.getD e.on false with
   | true => rfl
   | false => exact absurd (mem_un.2 ⟨by omega, by rw [getD_tf (by omega)]; exact hx⟩) hne
  rw [hr] at this
  cases this
theorem any_sound (hP : POk P) (hK : CallOK P K) (hKH : KHid K) {mk : Nat → Option (Bool × List Nat)} {lt : List Nat} {bs : Nat} {ops : Array Oper} {n : Nat} (hm : maskOK A mk lt ops = true) (hd : dstOK n ops = true) (hdr : drawOK A mk lt ops = true) {B : Nat → Prop} {Q : Exit → Act → World → Prop} {eF : Env} {HF : Heap} : ∀ (fuel : Nat) {listed : Array Bool} {e : Env} {H : Heap} {f : Env},
  listed.size = ops.size → Closed ops listed → (un ops listed).length ≤ fuel → (∀ i, i ∈ un ops listed → lt.contains i = true → H[bs + lt.idxOf i]? = some (.map .hole)) → opsX P A K (mkM mk lt bs) ops (un ops listed) e H = some (f, HF) → EnvEq f eF →
  ∀ {β : Nat → Nat × Nat} {w : World} {a : Act}, StR B β H w → EnvR B β H w e a.tmps → a.tmps.size = n →
   (∀ β' w' a', StR B β' HF w' → Stp β H w β' HF w' → EnvR B β' HF w' eF a'.tmps → a'.tmps.size = n → a'.defers = a.defers → Q .normal a' w') → wpAny P .any ops Q fuel listed a w := by
 intro fuel
 induction fuel with
 | zero =>
  intro listed e H f hs hc hl hH h hf β w a hst he hn hq
  have hun : un ops listed = [] := List.eq_nil_of_length_eq_zero (Nat.le_zero.1 hl)
  rw [hun] at h
  simp only [opsX, kI, kP] at h
  obtain ⟨rfl, rfl⟩ := h
  refine ⟨?_, hq β w a hst (Stp.refl _ _ _) (fun t => by rw [← hf t]; exact he t) hn rfl⟩
  rw [List.eq_nil_iff_forall_not_mem]
  intro i hi
  obtain ⟨h1, o, ho, _⟩ := mem_ready.1 hi
  have : i ∈ un ops listed := mem_un.2 ⟨(Array.getElem?_eq_some_iff.1 ho).1, h1⟩
  rw [hun] at this
  cases this
 | succ fuel ih =>
  intro listed e H f hs hc hl hH h hf β w a hst he hn hq
  refine ⟨fun hr => ?_, fun i hi => ?_⟩
  ·have hun := un_nil hdr hs hr
   rw [hun] at h
   simp only [opsX, kI, kP] at h
   obtain ⟨rfl, rfl⟩ := h
   exact hq β w a hst (Stp.refl _ _ _) (fun t => by rw [← hf t]; exact he t) hn rfl
  ·obtain ⟨hl1, o, ho, haft⟩ := mem_ready.1 hi
   have hlt : i < ops.size := (Array.getElem?_eq_some_iff.1 ho).1
   have hmem : i ∈ un ops listed := mem_un.2 ⟨hlt, hl1⟩
   obtain ⟨pre, post, hsplit⟩ := List.append_of_mem hmem
   have hnd : (un ops listed).Nodup := List.Pairwise.filter _ List.nodup_range
   have hsorted : (un ops listed).Pairwise (· < ·) := List.Pairwise.filter _ List.pairwise_lt_range
   have hpre : ∀ j ∈ pre, i ≠ j ∧ ∃ oj, ops[j]? = some oj ∧ indep A mk lt ops j i oj o = true := by
    intro j hj
    have hjm : j ∈ un ops listed := by rw [hsplit]; simp [hj]
    obtain ⟨hjl, hjf⟩ := mem_un.1 hjm
    have hji : j < i := by
     rw [hsplit, List.pairwise_append] at hsorted
     exact hsorted.2.2 j hj i (by simp)
    refine ⟨by omega, ops[j], Array.getElem?_eq_getElem hjl, ?_⟩
    rcases (drawOK_spec hdr ho).2 j ops[j] hji (Array.getElem?_eq_getElem hjl) with hb | hin
    ·have := before_listed hc i ho (fun e he hb => haft e (by simpa using he) hb) hb
     rw [getD_tf (by omega)] at hjf
     rw [this] at hjf
     cases hjf
    ·exact hin
   rw [hsplit] at h
   obtain ⟨f1, h1, e1⟩ := bubble hKH hm ho pre hpre (hH i hmem) h
   have hun' : un ops (listed.setIfInBounds i true) = pre ++ post := by rw [un_set hs hlt]; exact nodup_split hnd hsplit
   have hc' : Closed ops (listed.setIfInBounds i true) := by
    intro k ok hk hok e' he' hb
    by_cases hki : i = k
    ·subst hki
     rw [ho] at hok
     cases hok
     exact getD_set_true (haft e' (by simpa using he') hb)
    ·rw [getD_set_ne false hki] at hk
     exact getD_set_true (hc k ok hk hok e' he' hb)
   have hl' : (un ops (listed.setIfInBounds i true)).length ≤ fuel := by
    rw [hun']; rw [hsplit] at hl; simp at hl ⊢; omega
   have hf1 : EnvEq f1 eF := e1.symm.trans hf
   simp only [opsX, ho, kB] at h1
   obtain ⟨b, hb, h1⟩ := h1
   have hw := want_sound hb he
   unfold wpOp
   rw [ho]
   simp only
   rw [hw]
   have hdst : ∀ t, o.dst = some t → t < a.tmps.size := by rw [hn]; exact dstOK_spec hd ho
   cases b with
   | true =>
    simp only [if_true, kB] at h1 ⊢
    obtain ⟨⟨v, H1⟩, hop, h1⟩ := h1
    have step : ∀ {next : Act → World → Prop} {Q : Exit → Act → World → Prop}, (∀ β' w' u, StR B β' H1 w' → Stp β H w β' H1 w' → RepX B β' H1 w' v u → next (a.put o.dst u) w') → o.wp P a w next Q := by
     intro next Q hn'
     cases hmk : mkM mk lt bs i with
     | late id => rw [hmk] at hop; exact late_sound hop hst hn'
     | _ => exact op_sound hP hK (opD_opX hKH (fun id e => by rw [hmk] at e; cases e) (maskOK_ins hm ho) hop) hst he hn'
    refine .inl (step fun β1 w1 u hst1 stp1 hr => ?_)
    rw [← hun'] at h1
    have hH' : ∀ k, k ∈ un ops (listed.setIfInBounds i true) → lt.contains k = true → H1[bs + lt.idxOf k]? = some (.map .hole) := by
     intro k hk hlk
     rw [un_set hs hlt, List.mem_filter] at hk
     have hki : k ≠ i := by simpa using hk.2
     exact (hole_stays hKH (hH k hk.1 hlk) (fun e2 => by obtain ⟨_, e3⟩ := mkM_late.1 e2; exact hki (idx_inj hlk (by omega))) (maskOK_ins hm ho) hop [] rfl).1
    exact ih (by simpa using hs) hc' hl' hH' h1 hf1 hst1 (envR_put (he.mono stp1) hdst hr) (by rw [put_size, hn]) fun β' w' a' g1 g2 g3 g4 g5 => hq β' w' a' g1 (stp1.trans g2) g3 g4 (by rw [g5, put_defers])
   | false =>
    simp only [Bool.false_eq_true, if_false] at h1 ⊢
    rw [← hun'] at h1
    have hH' : ∀ k, k ∈ un ops (listed.setIfInBounds i true) → lt.contains k = true → H[bs + lt.idxOf k]? = some (.map .hole) := by
     intro k hk hlk
     rw [un_set hs hlt, List.mem_filter] at hk
     exact hH k hk.1 hlk
    exact ih (by simpa using hs) hc' hl' hH' h1 hf1 hst (envR_put he hdst ⟨[], rfl, .nil⟩) (by rw [put_size, hn]) fun β' w' a' g1 g2 g3 g4 g5 => hq β' w' a' g1 g2 g3 g4 (by rw [g5, put_defers])
def regionOK (A : Ann) (mk : Nat → Option (Bool × List Nat)) (lt : List Nat) (n : Nat) (ops : Array Oper) (draw : Bool) : Bool := maskOK A mk lt ops && dstOK n ops && (!draw || drawOK A mk lt ops)
theorem region_sound (hP : POk P) (hK : CallOK P K) (hKH : KHid K) {mk : Nat → Option (Bool × List Nat)} {lt : List Nat} {id n : Nat} {ops : Array Oper} {draw : Bool} (hok : regionOK A mk lt n ops draw = true) {B : Nat → Prop} {Q : Exit → Act → World → Prop} {e eF : Env} {H HF : Heap}
  (h : opsX P A K (mkM mk lt H.length) ops (List.range ops.size) e (holesX lt H) = some (eF, HF)) {β : Nat → Nat × Nat} {w : World} {a : Act} (hst : StR B β H w) (he : EnvR B β H w e a.tmps) (hn : a.tmps.size = n)
  (hq : ∀ β' w' a', StR B β' HF w' → Stp β H w β' HF w' → EnvR B β' HF w' eF a'.tmps → a'.tmps.size = n → a'.defers = a.defers → Q .normal a' w') : (Code.region id ops draw).wp P Q a w := by
 unfold regionOK at hok
 simp only [kA, Bool.or_eq_true, Bool.not_eq_true'] at hok
 obtain ⟨⟨hm, hd⟩, hdr⟩ := hok
 have hs0 : Stp β H w β (holesX lt H) w := holes_stp lt
 replace he := he.mono hs0
 have hq : ∀ β' w' a', StR B β' HF w' → Stp β (holesX lt H) w β' HF w' → EnvR B β' HF w' eF a'.tmps → a'.tmps.size = n → a'.defers = a.defers → Q .normal a' w' := fun β' w' a' g1 g2 g3 g4 g5 => hq β' w' a' g1 (hs0.trans g2) g3 g4 g5
 have hH : ∀ i, lt.contains i = true → (holesX lt H)[H.length + lt.idxOf i]? = some (.map .hole) := fun i hi => holes_at hi
 replace hst := holes_str hst lt
 generalize H.length = bs at h hH
 generalize holesX lt H = H at h hst he hq hH
 clear hs0
 cases draw with
 | false => exact wp_region (ops_sound hP hK hKH hm hd _ h hst he hn hq)
 | true =>
  have hdr : drawOK A mk lt ops = true := hdr.resolve_left (by simp)
  refine wp_region_any hP.mixed ?_
  have hu : un ops (Array.replicate ops.size false) = List.range ops.size := by
   unfold un
   rw [List.filter_eq_self]
   intro i hi
   have : i < ops.size := by simpa using hi
   simp [Array.getD_eq_getD_getElem?, this]
  rw [← hu] at h
  refine any_sound hP hK hKH hm hd hdr ops.size (by simp) (fun k o hk => ?_) (by rw [hu]; simp) (fun i _ hi => hH i hi) h (EnvEq.refl _) (hst.same rfl rfl rfl rfl) (EnvR.mono (w := w) (β' := β) (H' := H) (w' := { w with drawn := w.drawn + 1 }) (Stp.same rfl rfl rfl rfl) he) hn fun β' w' a' g1 g2 g3 g4 g5 =>
   hq β' w' a' g1 ((Stp.same rfl rfl rfl rfl : Stp β H w β H { w with drawn := w.drawn + 1 }).trans g2) g3 g4 g5
  rw [Array.getD_eq_getD_getElem?] at hk
  cases hx : (Array.replicate ops.size false)[k]? with
  | none => rw [hx] at hk; simp at hk
  | some b =>
   rw [hx] at hk
   simp only [Array.getElem?_replicate] at hx
   split at hx
   ·cases hx; simp at hk
   ·cases hx
end
end Go.Lg
end
section
namespace Go.Lg
def Ex.to : Ex → Exit
 | .normal => .normal
 | .exit id => .exit id
 | .goto l => .goto l
 | .ret => .ret
def codeOK (A : Ann) (f : FuncId) (n : Nat) : Code → Bool
 | .region id ops draw => regionOK A (A.mask f id) (A.late f id) n ops draw
 | .seq a b | .cond _ a b => codeOK A f n a && codeOK A f n b
 | .block _ c | .loop c | .scope c => codeOK A f n c
 | _ => true
theorem findLabel_ok {A : Ann} {f : FuncId} {n : Nat} : ∀ {c rest : Code} {l : Nat}, codeOK A f n c = true → findLabel c l = some rest → codeOK A f n rest = true := by
 intro c
 induction c with
 | seq a b iha ihb =>
  intro rest l h hf
  simp only [codeOK, kA] at h
  simp only [findLabel] at hf
  split at hf
  ·rename_i r hr
   cases hf
   simp only [codeOK, kA]
   exact ⟨iha h.1 hr, h.2⟩
  ·exact ihb h.2 hf
 | label l' =>
  intro rest l h hf
  simp only [findLabel] at hf
  split at hf
  ·cases hf; rfl
  ·cases hf
 | _ => intro rest l h hf; simp only [findLabel] at hf; cases hf
def jumps (P : Program) (c : Code) (Q : Exit → Act → World → Prop) : Nat → Code → Act → World → Prop
 | 0, _, _, _ => False
 | n + 1, r, a, w => r.wp P (fun e a w => match e with
  | .goto l => (match findLabel c l with
   | some rest => jumps P c Q n rest a w
   | none => Q (.goto l) a w)
  | e => Q e a w) a w
theorem wp_scope_jump {P : Program} {Q : Exit → Act → World → Prop} {a : Act} {w : World} {c : Code} (n : Nat) (h : jumps P c Q n c a w) : (Code.scope c).wp P Q a w := by
 intro b k cs
 have key : ∀ n r a w, jumps P c Q n r a w → ∃ e a' w', Q e a' w' ∧ Arrives P (lone (b.at a (.code r :: .inScope c :: k)) cs w) b k cs e a' w' := by
  intro n
  induction n with
  | zero => intro r a w h; exact h.elim
  | succ n ih =>
   intro r a w h
   obtain ⟨e, a₁, w₁, hq, harr⟩ := h b (.inScope c :: k) cs
   cases e with
   | normal => exact ⟨.normal, a₁, w₁, hq, Steps.trans harr (.one step_inScope)⟩
   | exit id => exact ⟨.exit id, a₁, w₁, hq, fun k' hk => harr k' (by simp [exitTo, hk])⟩
   | goto l =>
    simp only at hq
    split at hq
    ·rename_i rest hf
     obtain ⟨e₂, a₂, w₂, hq₂, harr₂⟩ := ih rest a₁ w₁ hq
     exact ⟨e₂, a₂, w₂, hq₂, .of_steps (harr _ (by simp [gotoIn, hf])) harr₂⟩
    ·rename_i hf
     exact ⟨.goto l, a₁, w₁, hq, fun k' hk => harr k' (by simp [gotoIn, hf, hk])⟩
   | ret => exact ⟨_, a₁, w₁, hq, harr⟩
   | panic ch => exact ⟨_, a₁, w₁, hq, harr⟩
   | outgrown => exact ⟨_, a₁, w₁, hq, harr⟩
 obtain ⟨e, a', w', hq, harr⟩ := key n c a w h
 exact ⟨e, a', w', hq, .of_steps (.one step_scope) harr⟩
section
variable {B : Nat → Prop} {β : Nat → Nat × Nat} {H : Heap} {w : World}
theorem get_restrict (l : List Nat) (e : Env) (t : Nat) : get (restrict l e) t = if t ∈ l then get e t else .dead := by
 induction l with
 | nil => rfl
 | cons s l ih =>
  simp only [restrict, List.map_cons, get]
  by_cases h : s = t
  ·subst h; simp
  ·rw [if_neg h]
   show get (restrict l e) t = _
   rw [ih]
   simp [Ne.symm h]
theorem EnvR.restrict {e : Env} {tmps : Array Value} (h : EnvR B β H w e tmps) (l : List Nat) : EnvR B β H w (restrict l e) tmps := by
 intro t
 rw [get_restrict]
 split
 ·exact h t
 ·exact trivial
theorem free_take {n : Nat} {b : Nat} (h : Free β H w b) : Free β (H.take n) w b :=
 ⟨h.1, fun id o ho hm => by
  rw [List.getElem?_take] at ho
  split at ho
  ·exact h.2 id o ho hm
  ·cases ho⟩
theorem get_take {n id : Nat} (h : id < n) : (H.take n)[id]? = H[id]? := by rw [List.getElem?_take, if_pos h]
theorem repA_take {n : Nat} {c : C} {u : Value} (h : RepA B β H w c u) (hc : c.inH n = true) : RepA B β (H.take n) w c u := by
 have hS : ∀ b, (Free β H w b ∧ ¬ B b) → (Free β (H.take n) w b ∧ ¬ B b) ∧ w.heap[b]? = w.heap[b]? := fun b hb => ⟨⟨free_take hb.1, hb.2⟩, rfl⟩
 cases c with
 | sc v => exact h
 | sl b nil capd cells m =>
  obtain ⟨a, cap, xs, hu, ho, hl⟩ := h
  exact ⟨a, cap, xs, hu, ho.mono fun b hb => ⟨⟨free_take hb.1, hb.2⟩, rfl⟩, RepIL.mono hS _ _ hl⟩
 | row id st off len capd =>
  obtain ⟨pu, mu, d, st', sz, cells, ho, r⟩ := h
  simp only [C.inH, decide_eq_true_eq] at hc
  exact ⟨pu, mu, d, st', sz, cells, by rw [get_take hc]; exact ho, r⟩
 | ptr id off =>
  obtain ⟨cells, ho, r⟩ := h
  simp only [C.inH, decide_eq_true_eq] at hc
  exact ⟨cells, by rw [get_take hc]; exact ho, r⟩
 | rd cells =>
  obtain ⟨ad, xs, hu, hl, r⟩ := h
  exact ⟨ad, xs, hu, RepIL.mono hS _ _ hl, fun hx => ⟨(r hx).1, free_take (r hx).2.1, (r hx).2.2⟩⟩
 | ra id st pos =>
  obtain ⟨pu, mu, d, st', sz, cells, ho, r⟩ := h
  simp only [C.inH, decide_eq_true_eq] at hc
  exact ⟨pu, mu, d, st', sz, cells, by rw [get_take hc]; exact ho, r⟩
 | mp id =>
  obtain ⟨es, ho, r⟩ := h
  simp only [C.inH, decide_eq_true_eq] at hc
  exact ⟨es, by rw [get_take hc]; exact ho, r⟩
 | it id =>
  obtain ⟨es, ho, r⟩ := h
  simp only [C.inH, decide_eq_true_eq] at hc
  exact ⟨es, by rw [get_take hc]; exact ho, r⟩
 | fn _ _ _ => exact h
 | dead => exact h
theorem rep_take {n : Nat} {c : C} {u : Value} (h : Rep B β H w c u) (hc : c.inH n = true) : Rep B β (H.take n) w c u := by
 cases c with
 | fn f first cap =>
  obtain ⟨us, vs, hu, h1, h2⟩ := h
  simp only [C.inH, List.all_eq_true] at hc
  have key : ∀ c ∈ first ++ cap, ∀ u, RepA B β H w c u → RepA B β (H.take n) w c u := by
   intro c hm u hr
   refine repA_take hr ?_
   have := hc c hm
   cases c <;> first | exact this | exact hr.elim
  exact ⟨us, vs, hu, h1.mono_mem fun c u hm hr => key c (by simp [hm]) u hr, h2.mono_mem fun c u hm hr => key c (by simp [hm]) u hr⟩
 | dead => trivial
 | sc v => exact repA_take (B := B) (β := β) (H := H) (w := w) (c := .sc v) h hc
 | sl b nil capd cells m => exact repA_take (B := B) (β := β) (H := H) (w := w) (c := .sl b nil capd cells m) h hc
 | row id st off len capd => exact repA_take (B := B) (β := β) (H := H) (w := w) (c := .row id st off len capd) h hc
 | ptr id off => exact repA_take (B := B) (β := β) (H := H) (w := w) (c := .ptr id off) h hc
 | rd cells => exact repA_take (B := B) (β := β) (H := H) (w := w) (c := .rd cells) h hc
 | ra id st pos => exact repA_take (B := B) (β := β) (H := H) (w := w) (c := .ra id st pos) h hc
 | mp id => exact repA_take (B := B) (β := β) (H := H) (w := w) (c := .mp id) h hc
 | it id => exact repA_take (B := B) (β := β) (H := H) (w := w) (c := .it id) h hc
theorem repL_take {n : Nat} {cs : List C} {us : List Value} (h : All2 (Rep B β H w) cs us) (hc : cs.all (C.inH n) = true) : All2 (Rep B β (H.take n) w) cs us :=
 h.mono_mem fun c _ hm hr => rep_take hr (List.all_eq_true.1 hc c hm)
theorem repX_take {n : Nat} {x : X} {u : Value} (h : RepX B β H w x u) (hc : x.inH n = true) : RepX B β (H.take n) w x u := by
 have key : ∀ {y : Y} {u : Value}, RepY B β H w y u → y.cells.all (C.inH n) = true → RepY B β (H.take n) w y u := by
  intro y u h hc
  cases y with
  | one c => exact rep_take h (by simpa [Y.cells] using hc)
  | agg cs => obtain ⟨xs, hu, hx⟩ := h; exact ⟨xs, hu, repL_take hx hc⟩
 cases x with
 | y v => exact key h hc
 | tup vs =>
  obtain ⟨xs, hu, hx⟩ := h
  exact ⟨xs, hu, hx.mono_mem fun y _ hm hr => key hr (List.all_eq_true.1 hc y hm)⟩
theorem trunc_sound (hst : StR B β H w) {n : Nat} {e : Env} {tmps : Array Value} (he : EnvR B β H w e tmps) {H' : Heap} (h : truncX n e H = some H') :
  H' = H.take n ∧ StR B β (H.take n) w ∧ EnvR B β (H.take n) w e tmps := by
 unfold truncX at h
 simp only [kR, kI] at h
 obtain ⟨⟨h1, h2⟩, rfl⟩ := h
 have hget : ∀ id o, (H.take n)[id]? = some o → H[id]? = some o := fun id o ho => by
  rw [List.getElem?_take] at ho
  split at ho
  ·exact ho
  ·cases ho
 refine ⟨rfl, ⟨fun id o ho ht => hst.inb id o (hget id o ho) ht, fun i j oi oj hi hti hj htj => hst.inj i j oi oj (hget _ _ hi) hti (hget _ _ hj) htj, fun id o ho ht => hst.bor id o (hget id o ho) ht, hst.blt, fun id o ho => ?_⟩, fun t => ?_⟩
 ·have hl := hst.live id o (hget id o ho)
  have hin : o.inH n = true := List.all_eq_true.1 h2 o (List.mem_of_getElem? ho)
  cases o with
  | row pu mu d st sz cells =>
   obtain ⟨g1, g2, g3, g4, arr, e, g5, g6, g7⟩ := hl
   refine ⟨g1, g2, g3, g4, arr, e, g5, g6, repL_take g7 ?_⟩
   cases pu with
   | false => exact hin
   | true =>
    rw [List.all_eq_true]
    intro c hc
    have := List.all_eq_true.1 (g4 rfl) c hc
    cases c <;> first | rfl | (cases this; done)
  | obj cells =>
   obtain ⟨g1, arr, e, g5, g7⟩ := hl
   exact ⟨g1, arr, e, g5, repL_take g7 hin⟩
  | map v =>
   cases v with
   | iter m since seen last =>
    refine ⟨hl.1, fun j hj => ?_⟩
    subst hj
    obtain ⟨v, hv, hv2⟩ := hl.2 j rfl
    simp only [O.inH, decide_eq_true_eq] at hin
    exact ⟨v, by rw [get_take hin]; exact hv, hv2⟩
   | _ => exact hl
 ·have key : ∀ {l : Env}, (l.all fun x => x.2.inH n) = true → (get l t).inH n = true := by
   intro l
   induction l with
   | nil => intro _; rfl
   | cons p l ih =>
    intro hl
    simp only [List.all_cons, kA] at hl
    obtain ⟨s, v⟩ := p
    simp only [get]
    split
    ·exact hl.1
    ·exact ih hl.2
  exact repX_take (he t) (key h1)
theorem Stp.take {β0 : Nat → Nat × Nat} {H0 : Heap} {w0 : World} (h : Stp β0 H0 w0 β H w) {n : Nat} (hn : H0.length = n) : Stp β0 H0 w0 β (H.take n) w :=
 ⟨h.os, h.tape, h.output, h.size, fun b hb => ⟨(h.free b hb).1, free_take (h.free b hb).2⟩, fun id o ho => by
  obtain ⟨o', h', k⟩ := h.ids id o ho
  exact ⟨o', by rw [get_take (by rw [← hn]; exact lt_of_get ho)]; exact h', k⟩⟩
end
end Go.Lg
end
section
namespace Go.Lg
section
variable {P : Program} {A : Ann} {K : Callee} {R : Nat → Option O} {n0 : Nat}
theorem ops_hid (hK : KHid K) {m : Nat → Option (Bool × List Nat)} {lt : List Nat} {bs : Nat} {ops : Array Oper} (hm : maskOK A m lt ops = true) (hbs : n0 ≤ bs) (hR : ∀ i o, R i = some o → i < n0) : ∀ {is : List Nat} {e : Env} {H1 H2 : Heap} {r : Env × Heap}, Hid R n0 H1 H2 → opsX P A K (mkM m lt bs) ops is e H1 = some r → Hids R n0 r (opsX P A K (mkM m lt bs) ops is e H2) := by
 intro is
 induction is with
 | nil =>
  intro e H1 H2 r hh h
  simp only [opsX, kI] at h
  subst h
  exact ⟨H2, rfl, hh⟩
 | cons i is ih =>
  intro e H1 H2 r hh h
  simp only [opsX] at h ⊢
  cases ho : ops[i]? with
  | none => rw [ho] at h; exact ih hh h
  | some o =>
   rw [ho] at h
   simp only [kB] at h
   obtain ⟨b, hb, h⟩ := h
   simp only [hb, kS]
   cases b with
   | true =>
    simp only [if_true, kB] at h ⊢
    obtain ⟨⟨v, H3⟩, h1, h⟩ := h
    obtain ⟨H3', e3, hh3⟩ := opD_hid hK hh (fun id e => by
     obtain ⟨_, rfl⟩ := mkM_late.1 e
     cases hr : R (bs + lt.idxOf i) with
     | none => rfl
     | some o' => have := hR _ _ hr; omega) (maskOK_ins hm ho) h1
    rw [e3]
    exact ih hh3 h
   | false =>
    simp only [Bool.false_eq_true, if_false] at h ⊢
    exact ih hh h
theorem trunc_hid {n : Nat} {e : Env} {H1 H2 H1' : Heap} (hh : Hid R n0 H1 H2) (hn : n0 ≤ n) (h : truncX n e H1 = some H1') : ∃ H2', truncX n e H2 = some H2' ∧ Hid R n0 H1' H2' := by
 unfold truncX at h ⊢
 split at h
 ·rename_i hc
  simp only [kI] at h
  subst h
  have h2 : (H2.take n).all (O.inH n) = true := by
   rw [List.all_eq_true]
   intro o ho
   obtain ⟨i, hi⟩ := List.getElem?_of_mem ho
   rw [List.getElem?_take] at hi
   split at hi
   ·rename_i hlt
    cases hR : R i with
    | none =>
     rw [← hh.same i hR] at hi
     exact List.all_eq_true.1 hc.2 o (List.mem_of_getElem? (by rw [List.getElem?_take, if_pos hlt]; exact hi))
    | some o' =>
     obtain ⟨_, g1, _, g3⟩ := hh.hid i o' hR
     rw [g3] at hi
     cases hi
     exact O.inH_mono hn g1
   ·cases hi
  refine ⟨H2.take n, by rw [if_pos ⟨hc.1, h2⟩], by simp [hh.len], by have := hh.le; simp; omega, fun i o hi => ?_, fun i hi => ?_⟩
  ·obtain ⟨g0, g1, ⟨o1, gc, g2⟩, g3⟩ := hh.hid i o hi
   exact ⟨g0, g1, ⟨o1, gc, by rw [List.getElem?_take, if_pos (by omega)]; exact g2⟩, by rw [List.getElem?_take, if_pos (by omega)]; exact g3⟩
  ·rw [List.getElem?_take, List.getElem?_take]
   split
   ·exact hh.same i hi
   ·rfl
 ·cases h
def Hid3 (R : Nat → Option O) (n0 : Nat) (r : Ex × Env × Heap) (x : Option (Ex × Env × Heap)) : Prop := ∃ H2', x = some (r.1, r.2.1, H2') ∧ Hid R n0 r.2.2 H2'
theorem code_hid (hK : KHid K) {f : FuncId} {nt : Nat} : ∀ (k : Nat),
  (∀ {c : Code} {e : Env} {H1 H2 : Heap} {r : Ex × Env × Heap}, codeOK A f nt c = true → Hid R n0 H1 H2 → codeX P A K f k c e H1 = some r → Hid3 R n0 r (codeX P A K f k c e H2)) ∧
  (∀ {c : Code} {an : Option (List Nat × Bool)} {n : Nat} {e : Env} {H1 H2 : Heap} {r : Ex × Env × Heap}, codeOK A f nt c = true → n0 ≤ n → Hid R n0 H1 H2 → loopX P A K f k c an n e H1 = some r → Hid3 R n0 r (loopX P A K f k c an n e H2)) ∧
  (∀ {c s : Code} {e : Env} {H1 H2 : Heap} {r : Ex × Env × Heap}, codeOK A f nt c = true → codeOK A f nt s = true → Hid R n0 H1 H2 → scopeX P A K f k c s e H1 = some r → Hid3 R n0 r (scopeX P A K f k c s e H2)) := by
 intro k
 induction k with
 | zero => exact ⟨(fun _ _ h => by simp only [codeX] at h; cases h), (fun _ _ _ h => by simp only [loopX] at h; cases h), (fun _ _ _ h => by simp only [scopeX] at h; cases h)⟩
 | succ k ih =>
  obtain ⟨i1, i2, i3⟩ := ih
  refine ⟨?_, ?_, ?_⟩
  ·intro c e H1 H2 r hok hh h
   cases c with
   | region id ops draw =>
    simp only [codeX, kM] at h ⊢
    obtain ⟨⟨e1, H3⟩, h1, rfl⟩ := h
    simp only [codeOK, regionOK, kA] at hok
    have hh2 : Hid R n0 (holesX (A.late f id) H1) (holesX (A.late f id) H2) := by
     unfold holesX
     split
     ·exact hh
     ·have key : ∀ (l : List Nat) {A1 A2 : Heap}, Hid R n0 A1 A2 → Hid R n0 (A1 ++ l.map fun _ => hole) (A2 ++ l.map fun _ => hole) := by
       intro l
       induction l with
       | nil => intro A1 A2 h; simpa using h
       | cons a l ih =>
        intro A1 A2 h
        have := ih (h.app hole)
        simpa using this
      exact key _ hh
    rw [hh.len] at h1
    obtain ⟨H3', e3, hh3⟩ := ops_hid hK hok.1.1 (by rw [← hh.len]; exact hh.le) (fun i o hi => (hh.hid i o hi).1) hh2 h1
    exact ⟨H3', by rw [e3]; rfl, hh3⟩
   | seq a b =>
    simp only [codeOK, kA] at hok
    simp only [codeX, kB] at h ⊢
    obtain ⟨⟨x, e1, H3⟩, h1, h⟩ := h
    obtain ⟨H3', e3, hh3⟩ := i1 hok.1 hh h1
    rw [e3]
    simp only [kS]
    cases x with
    | normal => exact i1 hok.2 hh3 h
    | _ =>
     simp only [kI] at h
     subst h
     exact ⟨H3', rfl, hh3⟩
   | cond c a b =>
    simp only [codeOK, kA] at hok
    simp only [codeX] at h ⊢
    split at h
    ·rename_i t ht
     cases t with
     | true => exact i1 hok.1 hh h
     | false => exact i1 hok.2 hh h
    ·cases h
   | block id c =>
    simp only [codeX, kM] at h ⊢
    obtain ⟨⟨x, e1, H3⟩, h1, rfl⟩ := h
    obtain ⟨H3', e3, hh3⟩ := i1 (c := c) hok hh h1
    exact ⟨H3', by rw [e3]; rfl, hh3⟩
   | loop c =>
    simp only [codeX] at h ⊢
    rw [← hh.len]
    exact i2 (c := c) hok hh.le hh h
   | scope c => simp only [codeX] at h ⊢; exact i3 (c := c) hok hok hh h
   | rangeFunc _ _ _ _ => simp only [codeX] at h; cases h
   | refuse _ => simp only [codeX] at h; cases h
   | _ =>
    simp only [codeX, kI] at h ⊢
    subst h
    exact ⟨H2, rfl, hh⟩
  ·intro c an n e H1 H2 r hok hn hh h
   simp only [loopX, kB] at h ⊢
   obtain ⟨⟨x, e1, H3⟩, h1, h⟩ := h
   obtain ⟨H3', e3, hh3⟩ := i1 hok hh h1
   rw [e3]
   simp only [kS]
   cases x with
   | normal =>
    simp only [kB] at h
    obtain ⟨H4, h4, h⟩ := h
    split at h4
    ·obtain ⟨H4', e4, hh4⟩ := trunc_hid hh3 hn h4
     simp only [e4, kS]
     exact i2 hok hn hh4 h
    ·simp only [kI] at h4
     subst h4
     simp only [kS]
     exact i2 hok hn hh3 h
   | _ =>
    simp only [kI] at h
    subst h
    exact ⟨H3', rfl, hh3⟩
  ·intro c s e H1 H2 r hok hos hh h
   simp only [scopeX, kB] at h ⊢
   obtain ⟨⟨x, e1, H3⟩, h1, h⟩ := h
   obtain ⟨H3', e3, hh3⟩ := i1 hos hh h1
   rw [e3]
   simp only [kS]
   cases x with
   | goto l =>
    simp only at h ⊢
    split at h
    ·rename_i rest hr
     exact i3 hok (findLabel_ok hok hr) hh3 h
    ·simp only [kI] at h
     subst h
     exact ⟨H3', rfl, hh3⟩
   | _ =>
    simp only [kI] at h
    subst h
    exact ⟨H3', rfl, hh3⟩
theorem res_hid {H1 H2 : Heap} (hh : Hid R n0 H1 H2) {e : Env} {v : ResultVar} {y : Y} (h : resX P e H1 v = some y) : resX P e H2 v = some y := by
 unfold resX at h ⊢
 split at h
 ·exact h
 ·simp only [kB] at h ⊢
  obtain ⟨c, hc, n, hn, h⟩ := h
  refine ⟨c, hc, n, hn, ?_⟩
  split at h
  ·rename_i h0
   rw [if_pos h0]
   simp only [kB] at h ⊢
   obtain ⟨cs, hcs, h⟩ := h
   exact ⟨cs, ld_rle hh.rle h0 hcs, h⟩
  ·cases h
theorem gc_hid {H1 H2 : Heap} (hh : Hid R n0 H1 H2) {g : Bool} {n : Nat} (hn : n0 ≤ n) {rs : List Y} : Hid R n0 (gcX g n rs H1) (gcX g n rs H2) := by
 have he : (H1.take n).all (O.inH n) = (H2.take n).all (O.inH n) := by
  rw [Bool.eq_iff_iff]
  constructor
  ·intro h
   obtain ⟨H2', h2, _⟩ := trunc_hid (e := []) hh hn (H1' := H1.take n) (by unfold truncX; rw [if_pos ⟨rfl, h⟩])
   unfold truncX at h2
   split at h2
   ·rename_i hc; exact hc.2
   ·cases h2
  ·intro h
   rw [List.all_eq_true] at h ⊢
   intro o ho
   obtain ⟨i, hi⟩ := List.getElem?_of_mem ho
   rw [List.getElem?_take] at hi
   split at hi
   ·rename_i hlt
    cases hR : R i with
    | none =>
     rw [hh.same i hR] at hi
     exact h o (List.mem_of_getElem? (by rw [List.getElem?_take, if_pos hlt]; exact hi))
    | some o' =>
     obtain ⟨_, g1, ⟨o1, gc, g2⟩, _⟩ := hh.hid i o' hR
     rw [g2] at hi
     cases hi
     rcases gc with rfl | rfl
     ·exact fro_inH (O.inH_mono hn g1)
     ·rfl
   ·cases hi
 unfold gcX
 rw [he]
 split
 ·rename_i hc
  simp only [kA] at hc
  obtain ⟨_, _, hc2⟩ := hc
  obtain ⟨H2', h2, hd⟩ := trunc_hid (e := []) hh hn (H1' := H1.take n) (by unfold truncX; rw [if_pos ⟨rfl, by rw [he]; exact hc2⟩])
  unfold truncX at h2
  split at h2
  ·simp only [kI] at h2; subst h2; exact hd
  ·cases h2
 ·exact hh
def SpHid (sp : List Y → Heap → Option (List Y × Heap)) : Prop := ∀ as H1 r, sp as H1 = some r → ∀ R n0 H2, Hid R n0 H1 H2 → Hids R n0 r (sp as H2)
theorem run_hid (hA : ∀ (f : Nat) (fn : Func) (c : Code), A.may f = true → P.funcs[f]? = some fn → fn.body = some c → codeOK A f fn.ntmps c = true)
  (hS : ∀ f sp, A.spec f = some sp → SpHid sp) : ∀ k, KHid (runX P A k) := by
 intro k
 induction k with
 | zero => intro f as H1 r h; simp only [runX] at h; cases h
 | succ k ih =>
  intro f as H1 r h R n0 H2 hh
  unfold runX at h ⊢
  split at h
  ·rename_i hmay
   rw [if_pos hmay]
   simp only [kB] at h
   obtain ⟨fn, hfn, c, hc, h⟩ := h
   simp only [hfn, hc, kS]
   split at h
   ·rename_i hl
    rw [if_pos hl]
    simp only [kB] at h
    obtain ⟨⟨x, e, H3⟩, h1, h⟩ := h
    obtain ⟨H3', e3, hh3⟩ := (code_hid ih k).1 (hA f fn c hmay hfn hc) hh h1
    rw [e3]
    simp only [kS]
    have main : ∀ {rs : List Y}, (fn.results.toList.mapM (resX P e H3)) = some rs → (fn.results.toList.mapM (resX P e H3')) = some rs := fun h => mapM_le (fun _ _ => res_hid hh3) h
    cases x with
    | normal =>
     simp only [kM] at h
     obtain ⟨rs, hrs, rfl⟩ := h
     exact ⟨gcX (A.gc f) H2.length rs H3', by simp only [main hrs, kT], by rw [← hh.len]; exact gc_hid hh3 hh.le⟩
    | ret =>
     simp only [kM] at h
     obtain ⟨rs, hrs, rfl⟩ := h
     exact ⟨gcX (A.gc f) H2.length rs H3', by simp only [main hrs, kT], by rw [← hh.len]; exact gc_hid hh3 hh.le⟩
    | exit id => cases h
    | goto l => cases h
   ·cases h
  ·rename_i hmay
   rw [if_neg hmay]
   cases hsp : A.spec f with
   | none => rw [hsp] at h; cases h
   | some sp =>
    rw [hsp] at h
    simp only [kS] at h ⊢
    exact hS f sp hsp _ _ _ h _ _ _ hh
end
end Go.Lg
end
