/-
  X, part 12: a region that draws its order comes to what the text's order comes to.
-/
import Derived.Test.YtpoaaggjgmdpdaaX11
namespace Go.Lg

/-- 0: the heap is not looked at; 1: it is read; 2: it turns. -/
def kindO (A : Ann) (o : Oper) : Nat :=
  match o.op with
  | .move _ | .assign _ | .pick _ _ _ | .build _ _ | .nilCheck _ | .binOp _ _ _ _ _ | .unOp _ _ _ | .convert _ _ _ | .makeFunc _ _ _ | .fieldAddr _ _ _ | .field _ _ _ | .index _ _ _ | .extract _ _ => 0
  | .load _ _ | .slice _ _ _ _ _ | .indexAddr _ _ _ => 1
  | .call c => match c.callee with
    | .builtin .append | .builtin .copy => 2
    | .builtin _ => 1
    | .value (.func g) => if A.pureFn g then 1 else 2
    | _ => 2
  | _ => 2

def indep (A : Ann) (ops : Array Oper) (x y : Oper) : Bool :=
  x.apart ops y && (kindO A x == 0 || kindO A y == 0 || (kindO A x == 1 && kindO A y == 1))

def drawOK (A : Ann) (ops : Array Oper) : Bool :=
  let b := Region.before ops
  (List.range ops.size).all fun i => match ops[i]? with
    | none => true
    | some oi => oi.after.all (fun e => !Region.binds .any e || decide (e.on < i)) &&
      (List.range i).all fun j => (b.getD i 0).testBit j || (match ops[j]? with | some oj => indep A ops oj oi | none => true)

section
variable {P : Program} {A : Ann} {K : Callee}

/-! ### What an operation looks at -/
theorem parts_congr {ρ ρ' : Operand → X} (ps : Array (Nat × Operand)) (h : ∀ x ∈ ps.toList.map (·.2), ρ x = ρ' x) : (ps.toList.map fun p => (p.1, ρ p.2)) = ps.toList.map fun p => (p.1, ρ' p.2) :=
  List.map_congr_left fun p hp => by rw [h p.2 (List.mem_map.2 ⟨p, hp, rfl⟩)]

theorem opX_congr {ρ ρ' : Operand → X} (o : Oper) (H : Heap) (h : ∀ x ∈ o.op.operands, ρ x = ρ' x) : opX P A K ρ H o = opX P A K ρ' H o := by
  unfold opX
  cases hop : o.op <;> rw [hop] at h <;> simp only [Op.operands] at h
  case build t ps => simp only; rw [parts_congr ps fun x hx => h x (by simpa using hx)]
  case buildSlice t n ps => simp only; rw [parts_congr ps fun x hx => h x (by simpa using hx)]
  case makeFunc f first cap =>
    simp only
    rw [List.map_congr_left (l := first.toList) fun x hx => h x (by simp [Array.mem_toList_iff.1 hx]), List.map_congr_left (l := cap.toList) fun x hx => h x (by simp [Array.mem_toList_iff.1 hx])]
  case slice t x lo hi mx => cases lo <;> cases hi <;> cases mx <;> simp_all
  case call c =>
    have hargs : c.args.toList.map ρ = c.args.toList.map ρ' := List.map_congr_left fun x hx => h x (by simp [Call.operands, Array.mem_toList_iff.1 hx])
    simp only [hargs]
    cases hc : c.callee with
    | value f => have hf : ρ f = ρ' f := h f (by simp [Call.operands, hc]); simp only [hf]
    | _ => rfl
  all_goals (first | rfl | (simp_all; done))

def Q0 (F : Heap → Option (X × Heap)) : Prop := ∃ r : Option X, ∀ H, F H = r.map fun v => (v, H)
theorem Q0.some' (v : X) : Q0 fun H => some (v, H) := ⟨some v, fun _ => rfl⟩
theorem Q0.none' : Q0 fun _ => none := ⟨none, fun _ => rfl⟩
theorem Q0.map' {α : Type} (s : Option α) (f : α → X) : Q0 fun H => s.map fun v => (f v, H) := ⟨s.map f, fun H => by cases s <;> rfl⟩
theorem Q0.bind' {α : Type} (s : Option α) {F : α → Heap → Option (X × Heap)} (h : ∀ a, Q0 (F a)) : Q0 fun H => s.bind fun a => F a H := by
  cases s with
  | none => exact Q0.none'
  | some a => exact h a
theorem Q0.ite' (p : Prop) [Decidable p] {F G : Heap → Option (X × Heap)} (h : Q0 F) (h' : Q0 G) : Q0 fun H => if p then F H else G H := by
  by_cases hp : p
  · simpa only [if_pos hp] using h
  · simpa only [if_neg hp] using h'

theorem opX_q0 {ρ : Operand → X} {o : Oper} (hk : kindO A o = 0) : Q0 fun H => opX P A K ρ H o := by
  unfold kindO at hk
  unfold opX
  cases hop : o.op <;> rw [hop] at hk <;> simp only at hk ⊢ <;> first | (cases hk; done) | skip
  case call c => exfalso; split at hk <;> first | (cases hk; done) | (split at hk <;> cases hk)
  case move x => exact Q0.some' _
  case assign x => exact Q0.some' _
  case pick c x y =>
    cases ρ c with
    | tup _ => exact Q0.none'
    | y v => cases v with
      | agg _ => exact Q0.none'
      | one c => cases c with
        | sc v => cases v <;> first | exact Q0.some' _ | exact Q0.none'
        | _ => exact Q0.none'
  case build t ps => exact Q0.bind' _ fun z => Q0.ite' _ (Q0.map' _ _) Q0.none'
  case nilCheck x =>
    cases ρ x with
    | tup _ => exact Q0.none'
    | y v => cases v with
      | agg _ => exact Q0.none'
      | one c => cases c with
        | fn f a b => cases f <;> first | exact Q0.some' _ | exact Q0.none'
        | ptr _ _ => exact Q0.some' _
        | rd _ => exact Q0.some' _
        | ra _ _ _ => exact Q0.some' _
        | mp _ => exact Q0.some' _
        | _ => exact Q0.none'
  case binOp op t x y u => exact Q0.map' _ _
  case unOp op t x => exact Q0.bind' _ fun a => Q0.map' _ _
  case convert s d x => exact Q0.bind' _ fun a => Q0.map' _ _
  case makeFunc f a b => exact Q0.bind' _ fun as => Q0.bind' _ fun cs => Q0.ite' _ (Q0.some' _) Q0.none'
  case fieldAddr t x j => exact Q0.bind' _ fun c => Q0.bind' _ fun f => Q0.bind' _ fun sz => Q0.ite' _ (Q0.map' _ _) Q0.none'
  case field t x j =>
    cases ρ x with
    | tup _ => exact Q0.none'
    | y v => cases v with
      | one _ => exact Q0.none'
      | agg cs => exact Q0.bind' _ fun f => Q0.bind' _ fun sz => Q0.ite' _ (Q0.map' _ _) Q0.none'
  case index t x i =>
    refine Q0.bind' _ fun n => ?_
    cases P.underlying t with
    | none => exact Q0.none'
    | some d => cases d with
      | array len el =>
        cases ρ x with
        | tup _ => exact Q0.none'
        | y v => cases v with
          | one _ => exact Q0.none'
          | agg cs => exact Q0.bind' _ fun sz => Q0.ite' _ (Q0.map' _ _) Q0.none'
      | string =>
        cases ρ x with
        | tup _ => exact Q0.none'
        | y v => cases v with
          | agg _ => exact Q0.none'
          | one c => cases c with
            | sc v => cases v <;> first | exact Q0.ite' _ (Q0.map' _ _) Q0.none' | exact Q0.none'
            | _ => exact Q0.none'
      | _ => exact Q0.none'
  case extract t j =>
    cases ρ t with
    | tup vs => exact Q0.map' _ _
    | y v => exact Q0.none'

theorem opX_quiet {ρ : Operand → X} {H : Heap} {o : Oper} (hk : kindO A o = 0) {v : X} {H' : Heap} (h : opX P A K ρ H o = some (v, H')) : H' = H ∧ ∀ H2, opX P A K ρ H2 o = some (v, H2) := by
  obtain ⟨r, hr⟩ := opX_q0 (P := P) (A := A) (K := K) (ρ := ρ) hk
  simp only at hr
  rw [hr] at h
  cases r with
  | none => cases h
  | some x =>
    simp only [Option.map_some, Option.some.injEq, Prod.mk.injEq] at h
    obtain ⟨rfl, rfl⟩ := h
    exact ⟨rfl, fun H2 => by rw [hr]; rfl⟩

def Q1 (F : Heap → Option (X × Heap)) : Prop := ∀ H, ∃ r : Option X, F H = r.map fun v => (v, H)
theorem Q1.map' {α : Type} (s : Heap → Option α) (f : α → X) : Q1 fun H => (s H).map fun v => (f v, H) := fun H => ⟨(s H).map f, by simp only; cases s H <;> rfl⟩
theorem Q1.some' (v : X) : Q1 fun H => some (v, H) := fun _ => ⟨some v, rfl⟩
theorem Q1.none' : Q1 fun _ => none := fun _ => ⟨none, rfl⟩
theorem Q1.bind' {α : Type} (s : Heap → Option α) {F : α → Heap → Option (X × Heap)} (h : ∀ a, Q1 (F a)) : Q1 fun H => (s H).bind fun a => F a H := fun H => by
  simp only
  cases s H with
  | none => exact ⟨none, rfl⟩
  | some a => exact h a H
theorem Q1.ite' (p : Heap → Prop) [∀ H, Decidable (p H)] {F G : Heap → Option (X × Heap)} (h : Q1 F) (h' : Q1 G) : Q1 fun H => if p H then F H else G H := fun H => by
  by_cases hp : p H
  · simpa only [if_pos hp] using h H
  · simpa only [if_neg hp] using h' H

theorem builtin_q1 {b : Builtin} (hb : b ≠ .append) (hc : b ≠ .copy) {ts : Array TypeId} {type : TypeId} {cs : Array Bool} {xs : List X} : Q1 fun H => builtinX P A H b ts type cs xs := by
  intro H
  show ∃ r : Option X, builtinX P A H b ts type cs xs = r.map _
  unfold builtinX
  split
  · exact absurd rfl hb
  · exact absurd rfl hc
  · by_cases hp : (ts[0]?.bind (elemT P)).isSome = true
    · rw [if_pos hp]; exact ⟨some _, rfl⟩
    · rw [if_neg hp]; exact ⟨none, rfl⟩
  · split
    · split
      · exact ⟨some _, rfl⟩
      · exact ⟨none, rfl⟩
    · exact ⟨none, rfl⟩
  · rename_i s
    by_cases hp : ts[0]?.any (isStrT P) = true
    · rw [if_pos hp]; exact ⟨some _, rfl⟩
    · rw [if_neg hp]; exact ⟨none, rfl⟩
  · cases xs.mapM X.toV with
    | none => exact ⟨none, rfl⟩
    | some vs =>
      simp only [Option.bind_some]
      cases pv P (builtin b ts type cs vs.toArray) with
      | none => exact ⟨none, rfl⟩
      | some n => cases n with
        | value v => exact ⟨some _, rfl⟩
        | _ => exact ⟨none, rfl⟩

theorem opX_q1 {ρ : Operand → X} (hρ : ∀ g, ρ (.func g) = .y (.one (.fn (.func g) [] []))) {o : Oper} (hk : kindO A o = 1) : Q1 fun H => opX P A K ρ H o := by
  unfold kindO at hk
  unfold opX
  cases hop : o.op <;> rw [hop] at hk <;> simp only at hk ⊢ <;> first | (cases hk; done) | skip
  case load t x => exact Q1.bind' (fun _ => _) fun c => Q1.bind' (fun _ => _) fun n => Q1.ite' (fun _ => _) (Q1.bind' (fun H => ldCells H c n) fun cs => Q1.map' (fun _ => _) _) Q1.none'
  case slice t x lo hi mx => exact Q1.map' (fun H => sliceX P H t (ρ x) (lo.map ρ) (hi.map ρ) (mx.map ρ)) _
  case indexAddr t x i => exact Q1.bind' (fun _ => _) fun c => Q1.bind' (fun _ => _) fun n => Q1.map' (fun H => indexAddrX P H t c n) _
  case call c =>
    cases hc : c.callee with
    | invoke r m => exact Q1.none'
    | builtin b =>
      rw [hc] at hk
      simp only
      refine builtin_q1 ?_ ?_ <;> (rintro rfl; cases hk)
    | value f =>
      rw [hc] at hk
      simp only
      cases f with
      | func g =>
        simp only at hk
        have hg : A.pureFn g = true := by
          by_cases h : A.pureFn g = true
          · exact h
          · rw [if_neg h] at hk; cases hk
        intro H
        show ∃ r : Option X, (match ρ (Operand.func g) with
          | .y (.one (.fn (.func g) first cap)) => ((c.args.toList.map ρ).mapM X.y?).bind fun as => callX A K g (first.map .one ++ as ++ cap.map .one) H
          | _ => none) = r.map fun v => (v, H)
        rw [hρ]
        simp only [List.map_nil, List.nil_append, List.append_nil, callX, hg, if_true]
        cases (c.args.toList.map ρ).mapM X.y? with
        | none => exact ⟨none, rfl⟩
        | some as =>
          simp only [Option.bind_some]
          cases as.mapM (snapY H) with
          | none => exact ⟨none, rfl⟩
          | some bs =>
            simp only [Option.bind_some]
            cases K g bs [] with
            | none => exact ⟨none, rfl⟩
            | some p =>
              simp only [Option.bind_some]
              cases p.1.mapM (backY p.2) with
              | none => exact ⟨none, rfl⟩
              | some rs => exact ⟨some _, rfl⟩
      | _ => cases hk

theorem opX_reads {ρ : Operand → X} (hρ : ∀ g, ρ (.func g) = .y (.one (.fn (.func g) [] []))) {H : Heap} {o : Oper} (hk : kindO A o = 1) {v : X} {H' : Heap} (h : opX P A K ρ H o = some (v, H')) : H' = H := by
  obtain ⟨r, hr⟩ := opX_q1 (P := P) (A := A) (K := K) (ρ := ρ) hρ hk H
  have hr : opX P A K ρ H o = r.map fun v => (v, H) := hr
  rw [hr] at h
  cases r with
  | none => cases h
  | some x =>
    simp only [Option.map_some, Option.some.injEq, Prod.mk.injEq] at h
    exact h.2.symm

/-! ### Two that do not meet -/
def EnvEq (e e' : Env) : Prop := ∀ t, get e t = get e' t
theorem EnvEq.refl (e : Env) : EnvEq e e := fun _ => rfl
theorem EnvEq.trans {a b c : Env} (h : EnvEq a b) (k : EnvEq b c) : EnvEq a c := fun t => (h t).trans (k t)
theorem EnvEq.symm {a b : Env} (h : EnvEq a b) : EnvEq b a := fun t => (h t).symm
theorem EnvEq.put {e e' : Env} (h : EnvEq e e') (d : Option Nat) (v : X) : EnvEq (putD d v e) (putD d v e') := by
  cases d with
  | none => exact h
  | some t =>
    intro s
    simp only [putD, get]
    split
    · rfl
    · exact h s
theorem EnvEq.fn {e e' : Env} (h : EnvEq e e') : get e = get e' := funext h
theorem EnvEq.ev {e e' : Env} (h : EnvEq e e') : ev e = ev e' := by
  funext x; cases x <;> first | rfl | exact h _
theorem putD_comm {d d' : Option Nat} (h : ∀ t, d = some t → d' ≠ some t) (v v' : X) (e : Env) : EnvEq (putD d v (putD d' v' e)) (putD d' v' (putD d v e)) := by
  cases d with
  | none => exact EnvEq.refl _
  | some t => cases d' with
    | none => exact EnvEq.refl _
    | some t' =>
      have hne : t ≠ t' := fun e => h t rfl (by rw [e])
      intro s
      simp only [putD, get]
      by_cases h1 : t = s <;> by_cases h2 : t' = s <;> simp_all

theorem opsX_eq {ops : Array Oper} : ∀ (l : List Nat) {e e' : Env} {H : Heap} {f : Env} {H' : Heap}, EnvEq e e' → opsX P A K ops l e H = some (f, H') → ∃ f', opsX P A K ops l e' H = some (f', H') ∧ EnvEq f f' := by
  intro l
  induction l with
  | nil =>
    intro e e' H f H' he h
    simp only [opsX, Option.some.injEq, Prod.mk.injEq] at h ⊢
    obtain ⟨rfl, rfl⟩ := h
    exact ⟨e', ⟨rfl, rfl⟩, he⟩
  | cons i l ih =>
    intro e e' H f H' he h
    simp only [opsX] at h ⊢
    cases ho : ops[i]? with
    | none => rw [ho] at h; exact ih he h
    | some o =>
      rw [ho] at h
      simp only [Option.bind_eq_some_iff] at h ⊢
      obtain ⟨b, hb, h⟩ := h
      rw [← he.fn, ← he.ev]
      cases b with
      | true =>
        simp only [if_true, Option.bind_eq_some_iff] at h
        obtain ⟨⟨v, H1⟩, hop, h⟩ := h
        obtain ⟨f', h1, h2⟩ := ih (he.put o.dst v) h
        exact ⟨f', ⟨true, hb, by simp only [if_true, Option.bind_eq_some_iff]; exact ⟨(v, H1), hop, h1⟩⟩, h2⟩
      | false =>
        simp only [Bool.false_eq_true, if_false] at h
        obtain ⟨f', h1, h2⟩ := ih (he.put o.dst .undef) h
        exact ⟨f', ⟨false, hb, by simpa using h1⟩, h2⟩

theorem get_put {d : Option Nat} {v : X} {e : Env} {t : Nat} (h : ∀ s, d = some s → s ≠ t) : get (putD d v e) t = get e t := by
  cases d with
  | none => rfl
  | some s => simp only [putD, get]; rw [if_neg (h s rfl)]

theorem want_put {ops : Array Oper} {o : Oper} {d : Option Nat} {v : X} {e : Env} (h : ∀ s, d = some s → s ∉ o.looksAt ops) : wantX ops (get (putD d v e)) o = wantX ops (get e) o := by
  unfold wantX
  cases hg : o.guard with
  | none => rfl
  | some p =>
    obtain ⟨j, want⟩ := p
    simp only
    cases hd : (ops[j]?).bind (·.dst) with
    | none => rfl
    | some t =>
      simp only [Option.map_some]
      rw [get_put fun s hs e => h s hs (by subst e; simp [Oper.looksAt, hg, hd])]

theorem op_put {ops : Array Oper} {o : Oper} {d : Option Nat} {v : X} {e : Env} {H : Heap} (h : ∀ s, d = some s → s ∉ o.looksAt ops) : opX P A K (ev (putD d v e)) H o = opX P A K (ev e) H o := by
  refine opX_congr o H fun x hx => ?_
  cases x with
  | tmp t =>
    refine get_put fun s hs e => h s hs ?_
    subst e
    exact List.mem_append_left _ (List.mem_filterMap.2 ⟨.tmp s, by simpa using hx, rfl⟩)
  | _ => rfl

theorem evF (e : Env) : ∀ g, ev e (.func g) = .y (.one (.fn (.func g) [] [])) := fun _ => rfl

theorem swap_op {oi oj : Oper} {e1 e2 : Env} {H H1 H2 : Heap} {vi vj : X} (hk : kindO A oj = 0 ∨ kindO A oi = 0 ∨ (kindO A oj = 1 ∧ kindO A oi = 1)) (hj : opX P A K (ev e1) H oj = some (vj, H1)) (hi : opX P A K (ev e2) H1 oi = some (vi, H2)) :
    ∃ H1', opX P A K (ev e2) H oi = some (vi, H1') ∧ opX P A K (ev e1) H1' oj = some (vj, H2) := by
  rcases hk with hk | hk | ⟨hk, hk'⟩
  · obtain ⟨rfl, hq⟩ := opX_quiet hk hj
    exact ⟨H2, hi, hq H2⟩
  · obtain ⟨rfl, hq⟩ := opX_quiet hk hi
    exact ⟨H, hq H, hj⟩
  · obtain rfl := opX_reads (evF e1) hk hj
    obtain rfl := opX_reads (evF e2) hk' hi
    exact ⟨_, hi, hj⟩

theorem swapX {ops : Array Oper} {i j : Nat} {oi oj : Oper} (hoi : ops[i]? = some oi) (hoj : ops[j]? = some oj) (hin : indep A ops oj oi = true) {l : List Nat} {e : Env} {H : Heap} {f : Env} {H' : Heap}
    (h : opsX P A K ops (j :: i :: l) e H = some (f, H')) : ∃ f', opsX P A K ops (i :: j :: l) e H = some (f', H') ∧ EnvEq f f' := by
  unfold indep at hin
  simp only [Bool.and_eq_true, Bool.or_eq_true, beq_iff_eq] at hin
  obtain ⟨hap, hk⟩ := hin
  obtain ⟨ha1, ha2, ha3⟩ := Oper.apart_spec hap
  have hk' : kindO A oj = 0 ∨ kindO A oi = 0 ∨ (kindO A oj = 1 ∧ kindO A oi = 1) := by
    rcases hk with (h | h) | h
    · exact .inl h
    · exact .inr (.inl h)
    · exact .inr (.inr h)
  have hcomm := fun v v' => putD_comm (d := oi.dst) (d' := oj.dst) (fun t ht ht' => ha2 t ht' ht) v v' e
  simp only [opsX, hoi, hoj, Option.bind_eq_some_iff] at h ⊢
  obtain ⟨bj, hbj, h⟩ := h
  cases bj with
  | true =>
    simp only [if_true, Option.bind_eq_some_iff] at h
    obtain ⟨⟨vj, H1⟩, hopj, bi, hbi, h⟩ := h
    rw [want_put ha1] at hbi
    cases bi with
    | true =>
      simp only [if_true, Option.bind_eq_some_iff] at h
      obtain ⟨⟨vi, H2⟩, hopi, h⟩ := h
      rw [op_put (fun s hs => ha1 s hs)] at hopi
      obtain ⟨H1', h1, h2⟩ := swap_op hk' hopj hopi
      obtain ⟨f', h3, h4⟩ := opsX_eq l (hcomm vi vj) h
      refine ⟨f', ⟨true, hbi, ?_⟩, h4⟩
      simp only [if_true, Option.bind_eq_some_iff]
      refine ⟨(vi, H1'), h1, true, by rw [want_put ha3]; exact hbj, ?_⟩
      simp only [if_true, Option.bind_eq_some_iff]
      exact ⟨(vj, H2), by rw [op_put (fun s hs => ha3 s hs)]; exact h2, h3⟩
    | false =>
      simp only [Bool.false_eq_true, if_false] at h
      obtain ⟨f', h3, h4⟩ := opsX_eq l (hcomm .undef vj) h
      refine ⟨f', ⟨false, hbi, ?_⟩, h4⟩
      simp only [Bool.false_eq_true, if_false, Option.bind_eq_some_iff]
      refine ⟨true, by rw [want_put ha3]; exact hbj, ?_⟩
      simp only [if_true, Option.bind_eq_some_iff]
      exact ⟨(vj, H1), by rw [op_put (fun s hs => ha3 s hs)]; exact hopj, h3⟩
  | false =>
    simp only [Bool.false_eq_true, if_false, Option.bind_eq_some_iff] at h
    obtain ⟨bi, hbi, h⟩ := h
    rw [want_put ha1] at hbi
    cases bi with
    | true =>
      simp only [if_true, Option.bind_eq_some_iff] at h
      obtain ⟨⟨vi, H2⟩, hopi, h⟩ := h
      rw [op_put (fun s hs => ha1 s hs)] at hopi
      obtain ⟨f', h3, h4⟩ := opsX_eq l (hcomm vi .undef) h
      refine ⟨f', ⟨true, hbi, ?_⟩, h4⟩
      simp only [if_true, Option.bind_eq_some_iff]
      refine ⟨(vi, H2), hopi, false, by rw [want_put ha3]; exact hbj, ?_⟩
      simpa using h3
    | false =>
      simp only [Bool.false_eq_true, if_false] at h
      obtain ⟨f', h3, h4⟩ := opsX_eq l (hcomm .undef .undef) h
      refine ⟨f', ⟨false, hbi, ?_⟩, h4⟩
      simp only [Bool.false_eq_true, if_false, Option.bind_eq_some_iff]
      exact ⟨false, by rw [want_put ha3]; exact hbj, by simpa using h3⟩

theorem opsX_cons {ops : Array Oper} (i : Nat) {l l' : List Nat} (hl : ∀ {e : Env} {H : Heap} {f : Env} {H' : Heap}, opsX P A K ops l e H = some (f, H') → ∃ f', opsX P A K ops l' e H = some (f', H') ∧ EnvEq f f') {e : Env} {H : Heap} {f : Env} {H' : Heap}
    (h : opsX P A K ops (i :: l) e H = some (f, H')) : ∃ f', opsX P A K ops (i :: l') e H = some (f', H') ∧ EnvEq f f' := by
  simp only [opsX] at h ⊢
  cases ho : ops[i]? with
  | none => rw [ho] at h; exact hl h
  | some o =>
    rw [ho] at h
    simp only [Option.bind_eq_some_iff] at h ⊢
    obtain ⟨b, hb, h⟩ := h
    cases b with
    | true =>
      simp only [if_true, Option.bind_eq_some_iff] at h
      obtain ⟨⟨v, H1⟩, hop, h⟩ := h
      obtain ⟨f', h1, h2⟩ := hl h
      exact ⟨f', ⟨true, hb, by simp only [if_true, Option.bind_eq_some_iff]; exact ⟨(v, H1), hop, h1⟩⟩, h2⟩
    | false =>
      simp only [Bool.false_eq_true, if_false] at h
      obtain ⟨f', h1, h2⟩ := hl h
      exact ⟨f', ⟨false, hb, by simpa using h1⟩, h2⟩

/-- One that nothing ahead of it meets comes first. -/
theorem bubble {ops : Array Oper} {i : Nat} {oi : Oper} (hoi : ops[i]? = some oi) : ∀ (pre : List Nat) {post : List Nat}, (∀ j ∈ pre, ∃ oj, ops[j]? = some oj ∧ indep A ops oj oi = true) → ∀ {e : Env} {H : Heap} {f : Env} {H' : Heap},
    opsX P A K ops (pre ++ i :: post) e H = some (f, H') → ∃ f', opsX P A K ops (i :: (pre ++ post)) e H = some (f', H') ∧ EnvEq f f' := by
  intro pre
  induction pre with
  | nil => intro post _ e H f H' h; exact ⟨f, h, EnvEq.refl _⟩
  | cons j pre ih =>
    intro post hpre e H f H' h
    obtain ⟨oj, hoj, hin⟩ := hpre j (by simp)
    obtain ⟨f1, h1, e1⟩ := opsX_cons (l := pre ++ i :: post) (l' := i :: (pre ++ post)) j (fun h => ih (fun k hk => hpre k (by simp [hk])) h) h
    obtain ⟨f2, h2, e2⟩ := swapX hoi hoj hin h1
    exact ⟨f2, h2, e1.trans e2⟩
end
end Go.Lg
