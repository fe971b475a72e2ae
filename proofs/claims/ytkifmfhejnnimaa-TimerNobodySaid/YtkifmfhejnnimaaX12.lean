/-
  X, part 12: a region that draws its order comes to what the text's order comes to.
-/
import Derived.Test.YtkifmfhejnnimaaX11
namespace Go.Lg

def masksMeet (a b : Option (Bool × List Nat)) : Bool :=
  match a, b with
  | some (true, s), some (false, t) | some (false, t), some (true, s) => !s.all t.contains
  | _, _ => true

def indep (A : Ann) (mk : Nat → Option (Bool × List Nat)) (ops : Array Oper) (j i : Nat) (x y : Oper) : Bool :=
  x.apart ops y && (kindO A x == 0 || kindO A y == 0 || (kindO A x == 1 && kindO A y == 1) || !masksMeet (mk j) (mk i))

def drawOK (A : Ann) (mk : Nat → Option (Bool × List Nat)) (ops : Array Oper) : Bool :=
  let b := Region.before ops
  (List.range ops.size).all fun i => match ops[i]? with
    | none => true
    | some oi => oi.after.all (fun e => !Region.binds .any e || decide (e.on < i)) &&
      (List.range i).all fun j => (b.getD i 0).testBit j || (match ops[j]? with | some oj => indep A mk ops j i oj oi | none => true)

section
variable {P : Program} {A : Ann} {K : Callee}

/-! ### Two that do not meet -/
def EnvEq (e e' : Env) : Prop := ∀ t, get e t = get e' t
theorem EnvEq.refl (e : Env) : EnvEq e e := fun _ => rfl
theorem EnvEq.trans {a b c : Env} (h : EnvEq a b) (k : EnvEq b c) : EnvEq a c := fun t => (h t).trans (k t)
theorem EnvEq.symm {a b : Env} (h : EnvEq a b) : EnvEq b a := fun t => (h t).symm
theorem EnvEq.put {e e' : Env} (h : EnvEq e e') (d : Option Nat) (v : X) : EnvEq (putD d v e) (putD d v e') := by
  cases d with
  | none => exact h
  | some t =>
    intro s
    simp only [putD, get]
    split
    · rfl
    · exact h s
theorem EnvEq.fn {e e' : Env} (h : EnvEq e e') : get e = get e' := funext h
theorem EnvEq.ev {e e' : Env} (h : EnvEq e e') : ev e = ev e' := by
  funext x; cases x <;> first | rfl | exact h _
theorem opD_env {mk : Option (Bool × List Nat)} {e e' : Env} {H : Heap} {o : Oper} (h : EnvEq e e') : opD P A K mk e H o = opD P A K mk e' H o := by
  unfold opD
  have hi : ∀ ts, idsOf e ts = idsOf e' ts := fun ts => by unfold idsOf; rw [h.fn]
  cases mk with
  | none => rw [h.ev]
  | some p =>
    obtain ⟨ins, ts⟩ := p
    cases ins <;> simp only [h.ev, hi]
theorem putD_comm {d d' : Option Nat} (h : ∀ t, d = some t → d' ≠ some t) (v v' : X) (e : Env) : EnvEq (putD d v (putD d' v' e)) (putD d' v' (putD d v e)) := by
  cases d with
  | none => exact EnvEq.refl _
  | some t => cases d' with
    | none => exact EnvEq.refl _
    | some t' =>
      have hne : t ≠ t' := fun e => h t rfl (by rw [e])
      intro s
      simp only [putD, get]
      by_cases h1 : t = s <;> by_cases h2 : t' = s <;> simp_all

theorem opsX_eq {mk : Nat → Option (Bool × List Nat)} {ops : Array Oper} : ∀ (l : List Nat) {e e' : Env} {H : Heap} {f : Env} {H' : Heap}, EnvEq e e' → opsX P A K mk ops l e H = some (f, H') → ∃ f', opsX P A K mk ops l e' H = some (f', H') ∧ EnvEq f f' := by
  intro l
  induction l with
  | nil =>
    intro e e' H f H' he h
    simp only [opsX, Option.some.injEq, Prod.mk.injEq] at h ⊢
    obtain ⟨rfl, rfl⟩ := h
    exact ⟨e', ⟨rfl, rfl⟩, he⟩
  | cons i l ih =>
    intro e e' H f H' he h
    simp only [opsX] at h ⊢
    cases ho : ops[i]? with
    | none => rw [ho] at h; exact ih he h
    | some o =>
      rw [ho] at h
      simp only [Option.bind_eq_some_iff] at h ⊢
      obtain ⟨b, hb, h⟩ := h
      rw [← he.fn]
      cases b with
      | true =>
        simp only [if_true, Option.bind_eq_some_iff] at h
        obtain ⟨⟨v, H1⟩, hop, h⟩ := h
        rw [opD_env he] at hop
        obtain ⟨f', h1, h2⟩ := ih (he.put o.dst v) h
        exact ⟨f', ⟨true, hb, by simp only [if_true, Option.bind_eq_some_iff]; exact ⟨(v, H1), hop, h1⟩⟩, h2⟩
      | false =>
        simp only [Bool.false_eq_true, if_false] at h
        obtain ⟨f', h1, h2⟩ := ih (he.put o.dst .undef) h
        exact ⟨f', ⟨false, hb, by simpa using h1⟩, h2⟩

theorem get_put {d : Option Nat} {v : X} {e : Env} {t : Nat} (h : ∀ s, d = some s → s ≠ t) : get (putD d v e) t = get e t := by
  cases d with
  | none => rfl
  | some s => simp only [putD, get]; rw [if_neg (h s rfl)]

theorem want_put {ops : Array Oper} {o : Oper} {d : Option Nat} {v : X} {e : Env} (h : ∀ s, d = some s → s ∉ o.looksAt ops) : wantX ops (get (putD d v e)) o = wantX ops (get e) o := by
  unfold wantX
  cases hg : o.guard with
  | none => rfl
  | some p =>
    obtain ⟨j, want⟩ := p
    simp only
    cases hd : (ops[j]?).bind (·.dst) with
    | none => rfl
    | some t =>
      simp only [Option.map_some]
      rw [get_put fun s hs e => h s hs (by subst e; simp [Oper.looksAt, hg, hd])]

theorem op_put {ops : Array Oper} {o : Oper} {d : Option Nat} {v : X} {e : Env} {H : Heap} (h : ∀ s, d = some s → s ∉ o.looksAt ops) : opX P A K (ev (putD d v e)) H o = opX P A K (ev e) H o := by
  refine opX_congr o H fun x hx => ?_
  cases x with
  | tmp t =>
    refine get_put fun s hs e => h s hs ?_
    subst e
    exact List.mem_append_left _ (List.mem_filterMap.2 ⟨.tmp s, by simpa using hx, rfl⟩)
  | _ => rfl

theorem opD_put {ops : Array Oper} {mk : Option (Bool × List Nat)} {o : Oper} {d : Option Nat} {v : X} {e : Env} {H : Heap} (h : ∀ s, d = some s → s ∉ o.looksAt ops) (hm : ∀ ins ts s, mk = some (ins, ts) → d = some s → s ∉ ts) :
    opD P A K mk (putD d v e) H o = opD P A K mk e H o := by
  have hi : ∀ ins ts, mk = some (ins, ts) → idsOf (putD d v e) ts = idsOf e ts := fun ins ts hmk => by
    unfold idsOf
    have key : ∀ l : List Nat, (∀ t ∈ l, t ∈ ts) → (l.filterMap fun t => (get (putD d v e) t).c?.bind C.id?) = l.filterMap fun t => (get e t).c?.bind C.id? := by
      intro l
      induction l with
      | nil => intro _; rfl
      | cons t l ih =>
        intro hl
        simp only [List.filterMap_cons, ih fun t ht => hl t (by simp [ht]), get_put fun s hs e => hm ins ts s hmk hs (by rw [e]; exact hl t (by simp))]
    exact key ts fun t h => h
  have ho : ∀ H, opX P A K (ev (putD d v e)) H o = opX P A K (ev e) H o := fun H => op_put h
  unfold opD
  cases mk with
  | none => exact ho H
  | some p =>
    obtain ⟨ins, ts⟩ := p
    cases ins <;> simp only [ho, hi _ _ rfl]

theorem opD_reads {mk : Option (Bool × List Nat)} {e : Env} {H : Heap} {o : Oper} (hk : kindO A o ≤ 1) (hm : ∀ ts, mk ≠ some (false, ts)) {v : X} {H' : Heap} (h : opD P A K mk e H o = some (v, H')) : H' = H := by
  unfold opD at h
  split at h
  · by_cases h0 : kindO A o = 0
    · exact (opX_quiet h0 h).1
    · exact opX_reads (evF e) (by omega) h
  · simp only [Option.map_eq_some_iff, Prod.mk.injEq] at h
    obtain ⟨_, _, _, h⟩ := h
    exact h.symm
  · exact absurd rfl (hm _)

theorem opD_quiet {mk : Option (Bool × List Nat)} {e : Env} {H : Heap} {o : Oper} (hk : kindO A o = 0) (hm : ∀ ts, mk ≠ some (false, ts)) {v : X} {H' : Heap} (h : opD P A K mk e H o = some (v, H')) : H' = H ∧ ∀ H2, opD P A K mk e H2 o = some (v, H2) := by
  refine ⟨opD_reads (by omega) hm h, fun H2 => ?_⟩
  unfold opD at h ⊢
  split at h
  · exact (opX_quiet hk h).2 H2
  · simp only [Option.map_eq_some_iff] at h ⊢
    obtain ⟨⟨v', H3⟩, h1, h2⟩ := h
    exact ⟨_, (opX_quiet hk h1).2 _, by simp only [Prod.mk.injEq] at h2 ⊢; exact ⟨h2.1, trivial⟩⟩
  · exact absurd rfl (hm _)

/-- What sees nothing of these leaves them. -/
theorem opD_out (hK : KHid K) {ts : List Nat} {e : Env} {H : Heap} {o : Oper} {v : X} {H' : Heap} (h : opD P A K (some (false, ts)) e H o = some (v, H')) : ∀ i ∈ idsOf e ts, H.getD i hole = H'.getD i hole := by
  intro i hi
  unfold opD at h
  simp only at h
  split at h
  · rename_i hM
    simp only [Option.map_eq_some_iff] at h
    obtain ⟨⟨v1, H1⟩, h1, h2⟩ := h
    obtain ⟨H2', _, hd⟩ := opX_hid hK (hide_hid hM) (evF e) h1
    have l1 := hd.le
    obtain ⟨_, rfl⟩ := Prod.mk.inj h2
    have hc : (idsOf e ts).contains i = true := by simpa using hi
    have := List.all_eq_true.1 hM i hi
    cases hg : H[i]? with
    | none => rw [hg] at this; cases this
    | some o' =>
      have hlt := (List.getElem?_eq_some_iff.1 hg).1
      have hb : (backH (idsOf e ts) H H1)[i]? = some o' := by
        rw [back_get, if_pos hc, List.getElem?_eq_getElem (show i < H1.length by simp only at l1; omega)]
        simp [List.getD, hg]
      simp only [List.getD, hg, hb]
  · cases h

theorem opD_ins_congr {s : List Nat} {e : Env} {H H2 : Heap} {o : Oper} {v : X} {H' : Heap} (hs : ∀ i ∈ idsOf e s, H.getD i hole = H2.getD i hole) (h : opD P A K (some (true, s)) e H o = some (v, H')) : opD P A K (some (true, s)) e H2 o = some (v, H2) := by
  unfold opD at h ⊢
  simp only [Option.map_eq_some_iff] at h ⊢
  obtain ⟨⟨v', H3⟩, h1, h2⟩ := h
  rw [only_congr hs] at h1
  exact ⟨(v', H3), h1, by simp only [Prod.mk.injEq] at h2 ⊢; exact ⟨h2.1, trivial⟩⟩

theorem ids_sub {e : Env} {s t : List Nat} (h : s.all t.contains = true) : ∀ i ∈ idsOf e s, i ∈ idsOf e t := by
  intro i hi
  unfold idsOf at hi ⊢
  rw [List.mem_filterMap] at hi ⊢
  obtain ⟨a, ha, hb⟩ := hi
  exact ⟨a, by simpa using List.all_eq_true.1 h a ha, hb⟩

theorem swap_op (hK : KHid K) {oi oj : Oper} {mi mj : Option (Bool × List Nat)} {e : Env} {H H1 H2 : Heap} {vi vj : X} (hmi : ∀ ins ts, mi = some (ins, ts) → if ins then kindO A oi ≤ 1 else 2 ≤ kindO A oi) (hmj : ∀ ins ts, mj = some (ins, ts) → if ins then kindO A oj ≤ 1 else 2 ≤ kindO A oj)
    (hk : kindO A oj = 0 ∨ kindO A oi = 0 ∨ (kindO A oj = 1 ∧ kindO A oi = 1) ∨ masksMeet mj mi = false) (hj : opD P A K mj e H oj = some (vj, H1)) (hi : opD P A K mi e H1 oi = some (vi, H2)) :
    ∃ H1', opD P A K mi e H oi = some (vi, H1') ∧ opD P A K mj e H1' oj = some (vj, H2) := by
  have low : ∀ {o : Oper} {mk : Option (Bool × List Nat)}, (∀ ins ts, mk = some (ins, ts) → if ins then kindO A o ≤ 1 else 2 ≤ kindO A o) → kindO A o ≤ 1 → ∀ ts, mk ≠ some (false, ts) := by
    intro o mk h hk ts e
    have := h _ _ e
    simp only [Bool.false_eq_true, if_false] at this
    omega
  rcases hk with hk | hk | ⟨hk, hk'⟩ | hk
  · obtain ⟨rfl, hq⟩ := opD_quiet hk (low hmj (by omega)) hj
    exact ⟨H2, hi, hq H2⟩
  · obtain ⟨rfl, hq⟩ := opD_quiet hk (low hmi (by omega)) hi
    exact ⟨H, hq H, hj⟩
  · obtain rfl := opD_reads (by omega) (low hmj (by omega)) hj
    obtain rfl := opD_reads (by omega) (low hmi (by omega)) hi
    exact ⟨_, hi, hj⟩
  · unfold masksMeet at hk
    split at hk
    · rename_i s t
      simp only [Bool.not_eq_false'] at hk
      have k1 := hmj _ _ rfl
      simp only [if_true] at k1
      obtain rfl := opD_reads k1 (by simp) hj
      exact ⟨H2, hi, opD_ins_congr (fun i hi' => opD_out hK hi i (ids_sub hk i hi')) hj⟩
    · rename_i t s
      simp only [Bool.not_eq_false'] at hk
      have k1 := hmi _ _ rfl
      simp only [if_true] at k1
      obtain rfl := opD_reads k1 (by simp) hi
      exact ⟨H, opD_ins_congr (fun i hi' => (opD_out hK hj i (ids_sub hk i hi')).symm) hi, hj⟩
    · cases hk

theorem swapX (hK : KHid K) {mk : Nat → Option (Bool × List Nat)} {ops : Array Oper} (hm : maskOK A mk ops = true) {i j : Nat} {oi oj : Oper} (hoi : ops[i]? = some oi) (hoj : ops[j]? = some oj) (hin : indep A mk ops j i oj oi = true) {l : List Nat} {e : Env} {H : Heap} {f : Env} {H' : Heap}
    (h : opsX P A K mk ops (j :: i :: l) e H = some (f, H')) : ∃ f', opsX P A K mk ops (i :: j :: l) e H = some (f', H') ∧ EnvEq f f' := by
  unfold indep at hin
  simp only [Bool.and_eq_true, Bool.or_eq_true, beq_iff_eq] at hin
  obtain ⟨hap, hk⟩ := hin
  obtain ⟨ha1, ha2, ha3⟩ := Oper.apart_spec hap
  have hk' : kindO A oj = 0 ∨ kindO A oi = 0 ∨ (kindO A oj = 1 ∧ kindO A oi = 1) ∨ masksMeet (mk j) (mk i) = false := by
    rcases hk with ((h | h) | h) | h
    · exact .inl h
    · exact .inr (.inl h)
    · exact .inr (.inr (.inl h))
    · exact .inr (.inr (.inr (by simpa using h)))
  have si : ∀ ins ts s, mk i = some (ins, ts) → oj.dst = some s → s ∉ ts := fun ins ts s h1 h2 => (maskOK_spec hm hoi h1).2 j oj s hoj h2
  have sj : ∀ ins ts s, mk j = some (ins, ts) → oi.dst = some s → s ∉ ts := fun ins ts s h1 h2 => (maskOK_spec hm hoj h1).2 i oi s hoi h2
  have hcomm := fun v v' => putD_comm (d := oi.dst) (d' := oj.dst) (fun t ht ht' => ha2 t ht' ht) v v' e
  simp only [opsX, hoi, hoj, Option.bind_eq_some_iff] at h ⊢
  obtain ⟨bj, hbj, h⟩ := h
  cases bj with
  | true =>
    simp only [if_true, Option.bind_eq_some_iff] at h
    obtain ⟨⟨vj, H1⟩, hopj, bi, hbi, h⟩ := h
    rw [want_put ha1] at hbi
    cases bi with
    | true =>
      simp only [if_true, Option.bind_eq_some_iff] at h
      obtain ⟨⟨vi, H2⟩, hopi, h⟩ := h
      rw [opD_put (fun s hs => ha1 s hs) si] at hopi
      obtain ⟨H1', h1, h2⟩ := swap_op hK (fun ins ts h1 => (maskOK_spec hm hoi h1).1) (fun ins ts h1 => (maskOK_spec hm hoj h1).1) hk' hopj hopi
      obtain ⟨f', h3, h4⟩ := opsX_eq l (hcomm vi vj) h
      refine ⟨f', ⟨true, hbi, ?_⟩, h4⟩
      simp only [if_true, Option.bind_eq_some_iff]
      refine ⟨(vi, H1'), h1, true, by rw [want_put ha3]; exact hbj, ?_⟩
      simp only [if_true, Option.bind_eq_some_iff]
      exact ⟨(vj, H2), by rw [opD_put (fun s hs => ha3 s hs) sj]; exact h2, h3⟩
    | false =>
      simp only [Bool.false_eq_true, if_false] at h
      obtain ⟨f', h3, h4⟩ := opsX_eq l (hcomm .undef vj) h
      refine ⟨f', ⟨false, hbi, ?_⟩, h4⟩
      simp only [Bool.false_eq_true, if_false, Option.bind_eq_some_iff]
      refine ⟨true, by rw [want_put ha3]; exact hbj, ?_⟩
      simp only [if_true, Option.bind_eq_some_iff]
      exact ⟨(vj, H1), by rw [opD_put (fun s hs => ha3 s hs) sj]; exact hopj, h3⟩
  | false =>
    simp only [Bool.false_eq_true, if_false, Option.bind_eq_some_iff] at h
    obtain ⟨bi, hbi, h⟩ := h
    rw [want_put ha1] at hbi
    cases bi with
    | true =>
      simp only [if_true, Option.bind_eq_some_iff] at h
      obtain ⟨⟨vi, H2⟩, hopi, h⟩ := h
      rw [opD_put (fun s hs => ha1 s hs) si] at hopi
      obtain ⟨f', h3, h4⟩ := opsX_eq l (hcomm vi .undef) h
      refine ⟨f', ⟨true, hbi, ?_⟩, h4⟩
      simp only [if_true, Option.bind_eq_some_iff]
      refine ⟨(vi, H2), hopi, false, by rw [want_put ha3]; exact hbj, ?_⟩
      simpa using h3
    | false =>
      simp only [Bool.false_eq_true, if_false] at h
      obtain ⟨f', h3, h4⟩ := opsX_eq l (hcomm .undef .undef) h
      refine ⟨f', ⟨false, hbi, ?_⟩, h4⟩
      simp only [Bool.false_eq_true, if_false, Option.bind_eq_some_iff]
      exact ⟨false, by rw [want_put ha3]; exact hbj, by simpa using h3⟩

theorem opsX_cons {mk : Nat → Option (Bool × List Nat)} {ops : Array Oper} (i : Nat) {l l' : List Nat} (hl : ∀ {e : Env} {H : Heap} {f : Env} {H' : Heap}, opsX P A K mk ops l e H = some (f, H') → ∃ f', opsX P A K mk ops l' e H = some (f', H') ∧ EnvEq f f') {e : Env} {H : Heap} {f : Env} {H' : Heap}
    (h : opsX P A K mk ops (i :: l) e H = some (f, H')) : ∃ f', opsX P A K mk ops (i :: l') e H = some (f', H') ∧ EnvEq f f' := by
  simp only [opsX] at h ⊢
  cases ho : ops[i]? with
  | none => rw [ho] at h; exact hl h
  | some o =>
    rw [ho] at h
    simp only [Option.bind_eq_some_iff] at h ⊢
    obtain ⟨b, hb, h⟩ := h
    cases b with
    | true =>
      simp only [if_true, Option.bind_eq_some_iff] at h
      obtain ⟨⟨v, H1⟩, hop, h⟩ := h
      obtain ⟨f', h1, h2⟩ := hl h
      exact ⟨f', ⟨true, hb, by simp only [if_true, Option.bind_eq_some_iff]; exact ⟨(v, H1), hop, h1⟩⟩, h2⟩
    | false =>
      simp only [Bool.false_eq_true, if_false] at h
      obtain ⟨f', h1, h2⟩ := hl h
      exact ⟨f', ⟨false, hb, by simpa using h1⟩, h2⟩

/-- One that nothing ahead of it meets comes first. -/
theorem bubble (hK : KHid K) {mk : Nat → Option (Bool × List Nat)} {ops : Array Oper} (hm : maskOK A mk ops = true) {i : Nat} {oi : Oper} (hoi : ops[i]? = some oi) : ∀ (pre : List Nat) {post : List Nat}, (∀ j ∈ pre, ∃ oj, ops[j]? = some oj ∧ indep A mk ops j i oj oi = true) → ∀ {e : Env} {H : Heap} {f : Env} {H' : Heap},
    opsX P A K mk ops (pre ++ i :: post) e H = some (f, H') → ∃ f', opsX P A K mk ops (i :: (pre ++ post)) e H = some (f', H') ∧ EnvEq f f' := by
  intro pre
  induction pre with
  | nil => intro post _ e H f H' h; exact ⟨f, h, EnvEq.refl _⟩
  | cons j pre ih =>
    intro post hpre e H f H' h
    obtain ⟨oj, hoj, hin⟩ := hpre j (by simp)
    obtain ⟨f1, h1, e1⟩ := opsX_cons (l := pre ++ i :: post) (l' := i :: (pre ++ post)) j (fun h => ih (fun k hk => hpre k (by simp [hk])) h) h
    obtain ⟨f2, h2, e2⟩ := swapX hK hm hoi hoj hin h1
    exact ⟨f2, h2, e1.trans e2⟩
end
end Go.Lg
