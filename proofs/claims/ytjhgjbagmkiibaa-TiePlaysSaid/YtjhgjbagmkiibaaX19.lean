/- Lemmas. -/
import Derived.Test.YtjhgjbagmkiibaaX15
import Derived.Laws.StructEq
section
namespace Go.Lg
section
variable {P : Program} {A : Ann} {f : FuncId} {e e1 e2 : Env} {H H1 H2 : Heap} {Q : Ex → Env → Heap → Prop}
def Wp (P : Program) (A : Ann) (f : FuncId) (c : Code) (e : Env) (H : Heap) (Q : Ex → Env → Heap → Prop) : Prop := ∃ x e' H', Does P A f c e H x e' H' ∧ Q x e' H'
abbrev Ob (P : Program) (A : Ann) (vals : List X) (H : Heap) (op : Op) (ty : TypeId) (v : X) (H' : Heap) : Prop :=
 ∃ k, opX P A (runX P A k) (ev (vals.zipIdx.map fun p => (p.2, p.1))) H { dst := none, op := op, type := ty, pos := "", after := #[], guard := none } = some (v, H')
def ansOf (ans : List (Nat × X × Heap)) (i : Nat) : Option (X × Heap) :=
 match ans with
 | [] => none
 | (j, v) :: r => if i = j then some v else ansOf r i
def runO (P : Program) (A : Ann) (mk : Nat → Msk) (ops : Array Oper) (ans : List (Nat × X × Heap)) : List Nat → Env → Heap → Option (Env × Heap)
 | [], e, H => some (e, H)
 | i :: r, e, H => match ops[i]? with
  | none => runO P A mk ops ans r e H
  | some o => (wantX ops (get e) o).bind fun b =>
   if b then ((ansOf ans i).or (opD P A (runX P A 0) (mk i) e H o)).bind fun (v, H) => runO P A mk ops ans r (putD o.dst v e) H
   else runO P A mk ops ans r (putD o.dst .undef e) H
def obO (P : Program) (A : Ann) (mk : Nat → Msk) (ops : Array Oper) (ans : List (Nat × X × Heap)) : List Nat → Env → Heap → Prop
 | [], _, _ => True
 | i :: r, e, H => match ops[i]? with
  | none => obO P A mk ops ans r e H
  | some o => match wantX ops (get e) o with
   | some true => match ansOf ans i with
    | some (v, H') => (∃ k, opD P A (runX P A k) (mk i) e H o = some (v, H')) ∧ obO P A mk ops ans r (putD o.dst v e) H'
    | none => match opD P A (runX P A 0) (mk i) e H o with
     | some (v, H') => obO P A mk ops ans r (putD o.dst v e) H'
     | none => False
   | some false => obO P A mk ops ans r (putD o.dst .undef e) H
   | none => False
theorem ops_of {mk : Nat → Msk} {ops : Array Oper} {ans : List (Nat × X × Heap)} : ∀ {is : List Nat} {e : Env} {H : Heap}, obO P A mk ops ans is e H → runO P A mk ops ans is e H = some (e1, H1) → Ops P A mk ops is e H e1 H1 := by
 intro is
 induction is with
 | nil => intro e H _ h; simp only [runO, kI, kP] at h; obtain ⟨rfl, rfl⟩ := h; exact Ops.nil
 | cons i is ih =>
  intro e H ho h
  cases hop : ops[i]? with
  | none =>
   simp only [runO, obO, hop] at h ho
   obtain ⟨k, hk⟩ := ih ho h
   exact ⟨k, by simp only [opsX, hop]; exact hk⟩
  | some o =>
   simp only [runO, obO, hop] at h ho
   cases hw : wantX ops (get e) o with
   | none => simp only [hw] at ho
   | some b =>
    simp only [hw, kS] at h ho
    cases b with
    | false =>
     simp only [Bool.false_eq_true, if_false] at h ho
     exact Ops.skip hop hw (ih ho h)
    | true =>
     simp only [if_true] at h
     cases ha : ansOf ans i with
     | some v =>
      obtain ⟨v, H'⟩ := v
      simp only [ha, Option.some_or, kS] at h ho
      exact Ops.cons hop hw ho.1 (ih ho.2 h)
     | none =>
      simp only [ha, Option.none_or] at h ho
      cases hx : opD P A (runX P A 0) (mk i) e H o with
      | none => simp only [hx] at ho
      | some v =>
       obtain ⟨v, H'⟩ := v
       simp only [hx, kS] at h ho
       exact Ops.cons hop hw ⟨0, hx⟩ (ih ho h)
def liveX (A : Ann) (f id : Nat) (e : Env) : Env := match A.live f id with | some l => restrict l e | none => e
theorem cast {T U : Prop} (h : T) (e : T = U) : U := e ▸ h
theorem wS {a b : Code} (h : Wp P A f a e H fun x e1 H1 => match x with | .normal => Wp P A f b e1 H1 Q | x => Q x e1 H1) : Wp P A f (.seq a b) e H Q := by
 obtain ⟨x, e1, H1, h1, h2⟩ := h
 cases x with
 | normal => obtain ⟨x, e2, H2, h3, h4⟩ := h2; exact ⟨x, e2, H2, h1.seq h3, h4⟩
 | _ => exact ⟨_, e1, H1, h1.seqX (by simp), h2⟩
theorem wR {id : Nat} {ops : Array Oper} {d : Bool} (ans : List (Nat × X × Heap)) (e1 : Env) (H1 : Heap) (ho : obO P A (mkM (A.mask f id) (A.late f id) H.length) ops ans (List.range ops.size) e (holesX (A.late f id) H))
  (hr : (runO P A (mkM (A.mask f id) (A.late f id) H.length) ops ans (List.range ops.size) e (holesX (A.late f id) H)).map (fun x => (liveX A f id x.1, x.2)) = some (e1, H1)) (h : Q .normal e1 H1) : Wp P A f (.region id ops d) e H Q := by
 obtain ⟨⟨e0, H0⟩, h0, h1⟩ := kM.1 hr
 simp only [kP] at h1
 obtain ⟨rfl, rfl⟩ := h1
 exact ⟨.normal, _, _, Does.region (ops_of ho h0), h⟩
theorem rSq {id : Nat} {ops : Array Oper} {d : Bool} {b : Code} (ans : List (Nat × X × Heap)) (e1 : Env) (H1 : Heap) (ho : obO P A (mkM (A.mask f id) (A.late f id) H.length) ops ans (List.range ops.size) e (holesX (A.late f id) H))
  (hr : (runO P A (mkM (A.mask f id) (A.late f id) H.length) ops ans (List.range ops.size) e (holesX (A.late f id) H)).map (fun x => (liveX A f id x.1, x.2)) = some (e1, H1)) (h : Wp P A f b e1 H1 Q) : Wp P A f (.seq (.region id ops d) b) e H Q :=
 wS (wR ans e1 H1 ho hr h)
theorem wT {c : Operand} {a b : Code} (hc : ev e c = .y (.one (.sc (.bool true)))) (h : Wp P A f a e H Q) : Wp P A f (.cond c a b) e H Q := by
 obtain ⟨x, e1, H1, h1, h2⟩ := h
 exact ⟨x, e1, H1, h1.condT hc, h2⟩
theorem wF {c : Operand} {a b : Code} (hc : ev e c = .y (.one (.sc (.bool false)))) (h : Wp P A f b e H Q) : Wp P A f (.cond c a b) e H Q := by
 obtain ⟨x, e1, H1, h1, h2⟩ := h
 exact ⟨x, e1, H1, h1.condF hc, h2⟩
theorem wB {id : Nat} {c : Code} (h : Wp P A f c e H fun x e1 H1 => match x with | .exit id' => (if id' = id then Q .normal e1 H1 else Q (.exit id') e1 H1) | x => Q x e1 H1) : Wp P A f (.block id c) e H Q := by
 obtain ⟨x, e1, H1, h1, h2⟩ := h
 refine ⟨_, e1, H1, h1.block, ?_⟩
 cases x with
 | exit id' => simp only [leave]; simp only at h2; split at h2 <;> rename_i hh <;> simp only [hh, if_true, if_false] <;> exact h2
 | _ => exact h2
theorem wK (h : Q .normal e H) : Wp P A f .skip e H Q := ⟨_, _, _, Does.skip, h⟩
theorem Wp.label {l : Nat} (h : Q .normal e H) : Wp P A f (.label l) e H Q := ⟨_, _, _, Does.label, h⟩
theorem wX {id : Nat} (h : Q (.exit id) e H) : Wp P A f (.exit id) e H Q := ⟨_, _, _, Does.exit, h⟩
theorem wE (h : Q .ret e H) : Wp P A f .ret e H Q := ⟨_, _, _, Does.ret, h⟩
def endX (an : Option (List Nat × Bool)) (n : Nat) (e : Env) (H : Heap) : Option (Env × Heap) :=
 (match an with | some (_, true) => truncX n (headX an e) H | _ => some H).map fun H => (headX an e, H)
theorem Wp.cut {a b : Code} {T : Type} (envT : T → Env) (heapT : T → Heap) (I : T → Prop)
  (h1 : Wp P A f a e H fun x e' H' => x = .normal ∧ ∃ t, (e', H') = (envT t, heapT t) ∧ I t) (h2 : ∀ t, I t → Wp P A f b (envT t) (heapT t) Q) : Wp P A f (.seq a b) e H Q := by
 refine wS ?_
 obtain ⟨x, e1, H1, g1, rfl, t, g2, g3⟩ := h1
 obtain ⟨rfl, rfl⟩ := Prod.mk.inj g2
 exact ⟨_, _, _, g1, h2 t g3⟩
theorem Wp.loop {c : Code} {T : Type} (m : T → Nat) (envT : T → Env) (heapT : T → Heap) (I : T → Prop) (t0 : T)
  (h0 : (headX ((firstRegion c).bind (A.loop f)) e, H) = (envT t0, heapT t0)) (hI : I t0)
  (hb : ∀ t, I t → Wp P A f c (envT t) (heapT t) fun x e' H' => match x with
   | .normal => ∃ t', endX ((firstRegion c).bind (A.loop f)) H.length e' H' = some (envT t', heapT t') ∧ I t' ∧ m t' < m t
   | x => Q x e' H') : Wp P A f (.loop c) e H Q := by
 suffices key : ∀ n t, I t → m t < n → ∃ x e1 H1, Loops P A f c ((firstRegion c).bind (A.loop f)) H.length (envT t) (heapT t) x e1 H1 ∧ Q x e1 H1 by
  obtain ⟨x, e1, H1, h1, h2⟩ := key _ t0 hI (Nat.lt_succ_self _)
  rw [← (Prod.mk.inj h0).1, ← (Prod.mk.inj h0).2] at h1
  exact ⟨x, e1, H1, Does.loop h1, h2⟩
 intro n
 induction n with
 | zero => intro t _ h; omega
 | succ n ih =>
  intro t hI hn
  obtain ⟨x, e1, H1, h1, h2⟩ := hb t hI
  cases x with
  | normal =>
   obtain ⟨t', h3, h4, h5⟩ := h2
   obtain ⟨x, e2, H2, h6, h7⟩ := ih t' h4 (by omega)
   obtain ⟨H3, h8, h9⟩ := kM.1 h3
   simp only [kP] at h9
   obtain ⟨h9, rfl⟩ := h9
   rw [← h9] at h6
   exact ⟨x, e2, H2, Loops.round h1 h8 h6, h7⟩
  | _ => exact ⟨_, e1, H1, Loops.last h1 (by simp), h2⟩
theorem Wp.mono {c : Code} {Q' : Ex → Env → Heap → Prop} (h : Wp P A f c e H Q) (g : ∀ x e H, Q x e H → Q' x e H) : Wp P A f c e H Q' := by
 obtain ⟨x, e1, H1, h1, h2⟩ := h
 exact ⟨x, e1, H1, h1, g _ _ _ h2⟩
theorem Runs.of {fn : Func} {c : Code} {args : List Y} {R : List Y → Heap → Prop} (hf : P.funcs[f]? = some fn) (hb : fn.body = some c) (hm : (A.may f && (decide (args.length ≤ fn.ntmps) && !A.gc f)) = true)
  (e0 : Env) (he : (args.zipIdx.map fun p => (p.2, X.y p.1)) = e0)
  (h : Wp P A f c e0 H fun x e H => (x = .normal ∨ x = .ret) ∧ ∃ rs, fn.results.toList.mapM (resX P e H) = some rs ∧ R rs H) : ∃ rs H', Runs P A f args H rs H' ∧ R rs H' := by
 subst he
 obtain ⟨x, e1, H1, h1, h2, rs, h3, h4⟩ := h
 simp only [kA, decide_eq_true_eq, Bool.not_eq_true'] at hm
 exact ⟨rs, H1, Runs.mk hm.1 hm.2.2 hf hb hm.2.1 h1 h2 h3, h4⟩
abbrev vi (n : Int) : C := .sc (.int .i64 n)
abbrev vb (b : Bool) : C := .sc (.bool b)
abbrev xi (n : Int) : X := .y (.one (.sc (.int .i64 n)))
abbrev xb (b : Bool) : X := .y (.one (.sc (.bool b)))
abbrev sv (s : Sh) (b nil capd : Bool) (l : List s.T) : C := .sl b nil capd (l.flatMap (enc s)) l.length
abbrev xs (s : Sh) (b nil capd : Bool) (l : List s.T) : X := .y (.one (sv s b nil capd l))
abbrev lo : Int := -9223372036854775808
abbrev hi : Int := 9223372036854775807
theorem wrap64 {n : Int} (h : -9223372036854775808 ≤ n ∧ n ≤ 9223372036854775807) : IntKind.wrap .i64 n = n := by
 simp only [IntKind.wrap, IntKind.signed, IntKind.bits, Bool.true_and]
 split <;> rename_i hh <;> simp only [decide_eq_true_eq, ge_iff_le] at hh <;> omega
theorem ob_raw {vals : List X} {op : Op} {ty : TypeId} {r v : X} (h : opX P A (runX P A 0) (ev (vals.zipIdx.map fun p => (p.2, p.1))) H { dst := none, op := op, type := ty, pos := "", after := #[], guard := none } = some (r, H)) (hv : r = v) : Ob P A vals H op ty v H :=
 ⟨0, hv ▸ h⟩
theorem drop_enc {s : Sh} {l : List s.T} : ∀ {i : Nat} {x : s.T}, l[i]? = some x → (l.flatMap (enc s)).drop (i * s.cells) = enc s x ++ (l.drop (i + 1)).flatMap (enc s) := by
 induction l with
 | nil => intro i x h; simp at h
 | cons y l ih =>
  intro i x h
  cases i with
  | zero => simp only [List.getElem?_cons_zero, kI] at h; subst h; simp
  | succ i =>
   rw [List.flatMap_cons, Nat.add_mul, Nat.one_mul, Nat.add_comm (i * _), ← List.drop_drop]
   rw [List.drop_append_of_le_length (by rw [enc_len]; exact Nat.le_refl _)]
   rw [show (enc s y).drop s.cells = [] by apply List.drop_eq_nil_of_le; rw [enc_len]; exact Nat.le_refl _, List.nil_append, ih (by simpa using h)]
   rfl
theorem ob_index {s : Sh} {b nil capd : Bool} {l : List s.T} {t el : TypeId} {i : Int} {x : s.T} (hu : P.underlying t = some (.slice el)) (hs : szT P el = some s.cells) (h0 : Nat.ble 1 s.cells = true) (hi : 0 ≤ i) (hx : l[i.toNat]? = some x) :
  Ob P A [.y (.one (.sl b nil capd (l.flatMap (enc s)) l.length)), .y (.one (.sc (.int .i64 i)))] H (.indexAddr t (.tmp 0) (.tmp 1)) 0 (.y (.one (.rd (enc s x ++ (l.drop (i.toNat + 1)).flatMap (enc s))))) H := by
 refine ⟨0, ?_⟩
 have hlt : i.toNat < l.length := by rw [List.getElem?_eq_some_iff] at hx; exact hx.1
 show ((indexAddrX P H t (.sl b nil capd (l.flatMap (enc s)) l.length) i).map fun c => (X.y (.one c), H)) = _
 unfold indexAddrX
 simp only [hu, hs, kS]
 rw [if_pos ⟨hi, by omega, Nat.le_of_ble_eq_true h0, flat_len s l⟩]
 simp only [kT, drop_enc hx]
def WpL (P : Program) (A : Ann) (f : FuncId) (c : Code) (an : Option (List Nat × Bool)) (n : Nat) (e : Env) (H : Heap) (Q : Ex → Env → Heap → Prop) : Prop := ∃ x e' H', Loops P A f c an n e H x e' H' ∧ Q x e' H'
theorem Wp.loopU {c : Code} (e1 : Env) (an : Option (List Nat × Bool)) (n : Nat) (h0 : ((firstRegion c).bind (A.loop f), headX ((firstRegion c).bind (A.loop f)) e, H.length) = (an, e1, n)) (h : WpL P A f c an n e1 H Q) : Wp P A f (.loop c) e H Q := by
 simp only [kP] at h0
 obtain ⟨rfl, rfl, rfl⟩ := h0
 obtain ⟨x, e1, H1, h1, h2⟩ := h
 exact ⟨x, e1, H1, Does.loop h1, h2⟩
theorem WpL.step {c : Code} {an : Option (List Nat × Bool)} {n : Nat} (h : Wp P A f c e H fun x e' H' => match x with
  | .normal => ∃ e1 H1, endX an n e' H' = some (e1, H1) ∧ WpL P A f c an n e1 H1 Q
  | x => Q x e' H') : WpL P A f c an n e H Q := by
 obtain ⟨x, e1, H1, h1, h2⟩ := h
 cases x with
 | normal =>
  obtain ⟨e2, H2, h3, x, e3, H3, h4, h5⟩ := h2
  obtain ⟨H4, h8, h9⟩ := kM.1 h3
  simp only [kP] at h9
  obtain ⟨rfl, rfl⟩ := h9
  exact ⟨x, e3, H3, Loops.round h1 h8 h4, h5⟩
 | _ => exact ⟨_, e1, H1, Loops.last h1 (by simp), h2⟩
def PureC (P : Program) (A : Ann) (g : FuncId) (args res : List Y) : Prop := ∃ rs H', Runs P A g args [] rs H' ∧ rs.mapM (backY H') = some res
theorem ob_pure {g : FuncId} {vals : List X} {xs0 xs1 res : List Y} {ats : Array TypeId} {ty : TypeId} {v : X} (args : List Operand) (hp : A.pureFn g = true) (ha : (args.map (ev (vals.zipIdx.map fun p => (p.2, p.1)))).mapM X.y? = some xs0) (hs : xs0.mapM (snapY H) = some xs1)
  (hc : PureC P A g xs1 res) (hv : pack res = v) : Ob P A vals H (.call { callee := .value (.func g), args := args.toArray, argTypes := ats }) ty v H := by
 obtain ⟨rs, H', h1, h2⟩ := hc
 obtain ⟨k, hk⟩ := Runs.pure hp hs h1 h2
 refine ⟨k, ?_⟩
 subst hv
 show ((args.toArray.toList.map _).mapM X.y?).bind _ = _
 rw [show args.toArray.toList = args from rfl, ha]
 simp only [kS, List.map_nil, List.nil_append, List.append_nil]
 exact hk
theorem beq_t {a b : Int} (h : a = b) : (a == b) = true := by simp [h]
theorem beq_f {a b : Int} (h : a ≠ b) : (a == b) = false := by simp [h]
theorem bne_t {a b : Int} (h : a ≠ b) : (a != b) = true := by simp [h]
theorem bne_f {a b : Int} (h : a = b) : (a != b) = false := by simp [h]
theorem get_of {α : Type} {l : List α} {i : Nat} (h : i < l.length) : ∃ x, l[i]? = some x := ⟨l[i], List.getElem?_eq_getElem h⟩
end
end Go.Lg
end
section
namespace Go.Lg
section
variable {P : Program} {A : Ann}
theorem back_sc {H : Heap} {rs : List Y} {v : Value} (h : rs.mapM (backY H) = some [.one (.sc v)]) : rs = [.one (.sc v)] := by
 match rs, h with
 | [], h => simp at h
 | [r], h =>
  simp only [List.mapM_cons, List.mapM_nil, Option.bind_eq_bind, Option.pure_def, kS, kB, kI, List.cons.injEq, and_true] at h
  obtain ⟨y, hy, rfl⟩ := h
  cases r with
  | one c =>
   simp only [backY, kM] at hy
   obtain ⟨c', hc, he⟩ := hy
   cases he
   cases c with
   | sc u => simp only [backC, kI] at hc; rw [hc]
   | sl b nil capd cs n => cases b <;> simp [backC] at hc
   | row id st off len capd =>
    simp only [backC] at hc
    split at hc
    ·split at hc <;> cases hc
    ·cases hc
   | _ => simp [backC] at hc
  | agg cs =>
   simp only [backY, kM] at hy
   obtain ⟨c', hc, he⟩ := hy
   cases he
 | r :: r' :: rs, h =>
  exfalso
  simp only [List.mapM_cons, Option.bind_eq_bind, Option.pure_def, kB, kI] at h
  obtain ⟨a, _, l, ⟨b, _, l', _, rfl⟩, he⟩ := h
  cases he
theorem law_of_pure {f : FuncId} {args : List Y} {v : Value} (h : PureC P A f args [.one (.sc v)]) : ∃ k H', runX P A k f args [] = some ([.one (.sc v)], H') := by
 obtain ⟨rs, H', ⟨k, hk⟩, hb⟩ := h
 rw [back_sc hb] at hk
 exact ⟨k, H', hk⟩
end
end Go.Lg
end
section
namespace Go.Lg
section
variable {P : Program} {A : Ann} {H : Heap}
abbrev tr (s : Sh) (pu : Bool) (l : List s.T) : O := .row pu true 0 l.length s.cells (l.flatMap (enc s))
theorem enc_live : ∀ (s : Sh) (x : s.T), (enc s x).all C.live = true
 | .int _, _ => rfl
 | .bool, _ => rfl
 | .str, _ => rfl
 | .sl _ _, _ => rfl
 | .nil, _ => rfl
 | .pr a b, x => by simp only [enc, List.all_append, enc_live a x.1, enc_live b x.2, Bool.and_true]
theorem flat_live (s : Sh) (l : List s.T) : (l.flatMap (enc s)).all C.live = true := by
 rw [List.all_eq_true]
 intro c hc
 obtain ⟨x, _, hx⟩ := List.mem_flatMap.1 hc
 exact List.all_eq_true.1 (enc_live s x) c hx
theorem flat_take {s : Sh} : ∀ {l : List s.T} {j : Nat}, (l.flatMap (enc s)).take (j * s.cells) = (l.take j).flatMap (enc s) := by
 intro l
 induction l with
 | nil => intro j; simp
 | cons y l ih =>
  intro j
  cases j with
  | zero => simp
  | succ j =>
   rw [List.flatMap_cons, Nat.add_mul, Nat.one_mul, List.take_append, enc_len, List.take_of_length_le (by rw [enc_len]; omega), show j * s.cells + s.cells - s.cells = j * s.cells by omega, ih]
   rfl
theorem flat_drop {s : Sh} : ∀ {l : List s.T} {j : Nat}, (l.flatMap (enc s)).drop (j * s.cells) = (l.drop j).flatMap (enc s) := by
 intro l
 induction l with
 | nil => intro j; simp
 | cons y l ih =>
  intro j
  cases j with
  | zero => simp
  | succ j =>
   rw [List.flatMap_cons, Nat.add_mul, Nat.one_mul, List.drop_append, enc_len, List.drop_of_length_le (by rw [enc_len]; omega), show j * s.cells + s.cells - s.cells = j * s.cells by omega, ih]
   rfl
theorem ob_call {g : FuncId} {vals : List X} {xs0 res : List Y} {ats : Array TypeId} {ty : TypeId} {v : X} {H' : Heap} (args : List Operand) (hp : A.pureFn g = false) (ha : (args.map (ev (vals.zipIdx.map fun p => (p.2, p.1)))).mapM X.y? = some xs0)
  (hc : Runs P A g xs0 H res H') (hv : pack res = v) : Ob P A vals H (.call { callee := .value (.func g), args := args.toArray, argTypes := ats }) ty v H' := by
 obtain ⟨k, hk⟩ := Runs.call hp hc
 refine ⟨k, ?_⟩
 subst hv
 show ((args.toArray.toList.map _).mapM X.y?).bind _ = _
 rw [show args.toArray.toList = args from rfl, ha]
 simp only [kS, List.map_nil, List.nil_append, List.append_nil]
 exact hk
theorem runs_of {g : FuncId} {args res : List Y} {H' : Heap} (h : ∃ rs H1, Runs P A g args H rs H1 ∧ (rs = res ∧ H1 = H')) : Runs P A g args H res H' := by
 obtain ⟨rs, H1, h1, rfl, rfl⟩ := h
 exact h1
theorem snap_cons {y y' : Y} {l l' : List Y} (h : snapY H y = some y') (hl : l.mapM (snapY H) = some l') : (y :: l).mapM (snapY H) = some (y' :: l') := by
 rw [List.mapM_cons, h]; simp [hl]
theorem snap_nil : ([] : List Y).mapM (snapY H) = some [] := rfl
end
end Go.Lg
end
section
namespace Go.Lg
section
variable {P : Program} {A : Ann} {H : Heap}
theorem pv_bind {α β : Type} (s : Sem α) (f : α → Sem β) : pv P (s >>= f) = (pv P s).bind fun a => pv P (f a) := by
 show pv P (Sem.bind s f) = _
 induction s with
 | pure a => rfl
 | program k ih => exact ih P
 | _ => rfl
theorem pv_pure {α : Type} (a : α) : pv P (pure a : Sem α) = some a := rfl
theorem pv_program : pv P program = some P := rfl
theorem pv_underlying {t : TypeId} {d : TypeDesc} (h : P.underlying t = some d) : pv P (underlying t) = some d := by
 simp [underlying, pv_bind, pv_program, h]
 try rfl
theorem pv_sizeOf {t : TypeId} {i : TypeInfo} (h : P.info? t = some i) : pv P (sizeOf t) = some i.size := by
 simp [sizeOf, typeInfo, pv_bind, pv_program, h]
 try rfl
theorem pv_equal_int {d : Nat} {t : TypeId} {k k' : IntKind} {a b : Int} (h : P.underlying t = some (.int k')) : pv P (Op.equalIn (d + 1) t (.int k a) (.int k b)) = some (a == b) := by
 simp [Op.equalIn, pv_bind, pv_underlying h]
 try rfl
theorem pv_equal_bool {d : Nat} {t : TypeId} {a b : Bool} (h : P.underlying t = some .bool) : pv P (Op.equalIn (d + 1) t (.bool a) (.bool b)) = some (a == b) := by
 simp [Op.equalIn, pv_bind, pv_underlying h]
 try rfl
def vals : (s : Sh) → s.T → List Value
 | .int k, (n : Int) => [.int k n]
 | .bool, (b : Bool) => [.bool b]
 | .str, (s : ByteArray) => [.string s]
 | .sl _ _, _ => []
 | .nil, _ => []
 | .pr a b, (x : a.T × b.T) => vals a x.1 ++ vals b x.2
def eqb : (s : Sh) → s.T → s.T → Bool
 | .int _, (n : Int), (m : Int) => n == m
 | .bool, (b : Bool), (c : Bool) => b == c
 | .str, (a : ByteArray), (b : ByteArray) => a == b
 | .sl _ _, _, _ => false
 | .nil, _, _ => true
 | .pr a b, (x : a.T × b.T), (y : a.T × b.T) => eqb a x.1 y.1 && eqb b x.2 y.2
mutual
def eqOK (P : Program) : Sh → TypeId → Bool
 | .int k, t => match P.underlying t with | some (.int k') => decide (k' = k) | _ => false
 | .bool, t => match P.underlying t with | some .bool => true | _ => false
 | .nil, t => match P.underlying t with | some (.struct fs) => fs.isEmpty && !P.stoodInHeld t | some (.array n e) => decide (n = 0) && (P.info? e).isSome | _ => false
 | .pr a b, t => match P.underlying t with
  | some (.struct fs) => !P.stoodInHeld t && (match fs.toList with
   | f :: fs => decide (f.offset = 0 ∧ f.name ≠ "_" ∧ P.cellsOf f.type = a.cells) && (P.info? f.type).isSome && eqOK P a f.type && eqFs P b fs a.cells
   | [] => false)
  | some (.array (n + 1) e) => (P.info? e).isSome && decide (P.cellsOf e = a.cells) && eqOK P a e && eqAr P b n e
  | _ => false
 | _, _ => false
def eqFs (P : Program) : Sh → List Field → Nat → Bool
 | .nil, fs, _ => fs.isEmpty
 | .pr a b, fs, off => match fs with
  | f :: fs => decide (f.offset = off ∧ f.name ≠ "_" ∧ P.cellsOf f.type = a.cells) && (P.info? f.type).isSome && eqOK P a f.type && eqFs P b fs (off + a.cells)
  | [] => false
 | _, _, _ => false
def eqAr (P : Program) : Sh → Nat → TypeId → Bool
 | .nil, n, _ => decide (n = 0)
 | .pr a b, n, e => match n with
  | n + 1 => decide (P.cellsOf e = a.cells) && eqOK P a e && eqAr P b n e
  | 0 => false
 | _, _, _ => false
end
theorem pv_ite {α : Type} (c : Prop) [Decidable c] (a b : Sem α) : pv P (if c then a else b) = if c then pv P a else pv P b := by split <;> rfl
theorem pv_eq_struct {d : Nat} {t : TypeId} {xs ys : Array Value} {fs : Array Field} (ht : P.underlying t = some (.struct fs)) (hp : P.stoodInHeld t = false) :
  pv P (Op.equalIn (d + 1) t (.agg xs) (.agg ys)) = pv P (Op.eqFields d xs ys fs.toList) := by
 simp only [Op.equalIn, pv_bind, pv_underlying ht, pv_program, kS, hp, Bool.false_eq_true, if_false, pv_ite]
 rw [← Array.forIn_toList]
 generalize fs.toList = l
 clear ht
 induction l with
 | nil => simp [Op.eqFields, pv_pure]
 | cons f l ih =>
  simp only [List.forIn_cons, Op.eqFields, pv_bind, pv_ite]
  split
  ·generalize pv P (part f.type xs f.offset) = r1
   cases r1 with
   | none => simp
   | some a =>
    simp only [kS]
    generalize pv P (part f.type ys f.offset) = r2
    cases r2 with
    | none => simp
    | some b =>
     simp only [kS]
     generalize pv P (Op.equalIn d f.type a b) = r3
     cases r3 with
     | none => simp
     | some r =>
      cases r
      ·simp [pv_pure]
      ·simpa [pv_pure, pv_bind] using ih
  ·simpa [pv_pure, pv_bind] using ih
def eqElems (d : Nat) (e : TypeId) (n : Nat) (xs ys : Array Value) : List Nat → Sem Bool
 | [] => pure true
 | i :: r => do
  let a ← part e xs (i * n)
  let b ← part e ys (i * n)
  let q ← Op.equalIn d e a b
  if (!q) = true then pure false else eqElems d e n xs ys r
theorem pv_eq_array {d len : Nat} {t e : TypeId} {i : TypeInfo} {xs ys : Array Value} (ht : P.underlying t = some (.array len e)) (he : P.info? e = some i) :
  pv P (Op.equalIn (d + 1) t (.agg xs) (.agg ys)) = pv P (eqElems d e i.size xs ys (List.range' 0 len)) := by
 simp only [Op.equalIn, pv_bind, pv_underlying ht, pv_sizeOf he, kS]
 rw [Std.Legacy.Range.forIn_eq_forIn_range']
 simp only [Std.Legacy.Range.size, Nat.sub_zero, Nat.add_one_sub_one, Nat.div_one]
 generalize List.range' 0 len 1 = l
 clear ht
 induction l with
 | nil => simp [eqElems, pv_pure]
 | cons f l ih =>
  simp only [List.forIn_cons, eqElems, pv_bind, pv_ite]
  generalize pv P (part e xs (f * i.size)) = r1
  cases r1 with
  | none => simp
  | some a =>
   simp only [kS]
   generalize pv P (part e ys (f * i.size)) = r2
   cases r2 with
   | none => simp
   | some b =>
    simp only [kS]
    generalize pv P (Op.equalIn d e a b) = r3
    cases r3 with
    | none => simp
    | some r =>
     cases r
     ·simp [pv_pure]
     ·simpa [pv_pure, pv_bind] using ih
def valT (P : Program) (t : TypeId) (vs : List Value) : Value := if isAggT P t then .agg vs.toArray else vs.headD undef
theorem pv_isAgg {t : TypeId} {d : TypeDesc} (h : P.underlying t = some d) : pv P (isAgg t) = some (isAggT P t) := by
 unfold isAgg isAggT
 simp only [pv_bind, pv_underlying h, kS, h]
 cases d <;> rfl
theorem pv_part {t : TypeId} {i : TypeInfo} {d : TypeDesc} (hi : P.info? t = some i) (hu : P.underlying t = some d) {pre mid post : List Value} (hm : mid.length = i.size) (h1 : isAggT P t = true ∨ mid.length = 1) :
  pv P (part t (pre ++ mid ++ post).toArray pre.length) = some (valT P t mid) := by
 unfold part
 simp only [pv_bind, pv_isAgg hu, kS, pv_ite]
 unfold valT
 cases ha : isAggT P t with
 | true =>
  simp only [if_true, pv_sizeOf hi, kS, pv_pure]
  rw [← hm]
  simp [List.extract_toArray, List.append_assoc]
 | false =>
  simp only [Bool.false_eq_true, if_false]
  rw [ha] at h1
  obtain ⟨v, hv⟩ := List.length_eq_one_iff.1 (h1.resolve_left (by simp))
  subst hv
  simp [pv_pure]
theorem vals_len {P : Program} : ∀ {s : Sh} {t : TypeId} (_ : eqOK P s t = true) (x : s.T), (vals s x).length = s.cells := by
 suffices h : ∀ s : Sh, (∀ t, eqOK P s t = true → ∀ x : s.T, (vals s x).length = s.cells) ∧ (∀ fs off, eqFs P s fs off = true → ∀ x : s.T, (vals s x).length = s.cells) ∧ (∀ n e, eqAr P s n e = true → ∀ x : s.T, (vals s x).length = s.cells) from
  fun {s t} h' x => (h s).1 t h' x
 intro s
 induction s with
 | int k => exact ⟨fun _ _ _ => rfl, fun _ _ _ _ => rfl, fun _ _ _ _ => rfl⟩
 | bool => exact ⟨fun _ _ _ => rfl, fun _ _ _ _ => rfl, fun _ _ _ _ => rfl⟩
 | str => exact ⟨fun _ _ _ => rfl, fun _ _ _ _ => rfl, fun _ _ _ _ => rfl⟩
 | nil => exact ⟨fun _ _ _ => rfl, fun _ _ _ _ => rfl, fun _ _ _ _ => rfl⟩
 | sl b e ih => exact ⟨fun t h => by simp [eqOK] at h, fun fs _ h => by simp [eqFs] at h, fun n e h => by simp [eqAr] at h⟩
 | pr a b iha ihb =>
  refine ⟨fun t h x => ?_, fun fs off h x => ?_, fun n e h x => ?_⟩
  ·simp only [eqOK] at h
   split at h
   ·simp only [kA] at h
    obtain ⟨_, h⟩ := h
    split at h
    ·simp only [kA] at h
     simp only [vals, List.length_append, Sh.cells, iha.1 _ h.1.2 x.1, ihb.2.1 _ _ h.2 x.2]
    ·cases h
   ·simp only [kA] at h
    simp only [vals, List.length_append, Sh.cells, iha.1 _ h.1.2 x.1, ihb.2.2 _ _ h.2 x.2]
   ·cases h
  ·cases fs with
   | nil => simp [eqFs] at h
   | cons f fs =>
    simp only [eqFs, kA] at h
    simp only [vals, List.length_append, Sh.cells, iha.1 _ h.1.2 x.1, ihb.2.1 _ _ h.2 x.2]
  ·cases n with
   | zero => simp [eqAr] at h
   | succ n =>
    simp only [eqAr, kA] at h
    simp only [vals, List.length_append, Sh.cells, iha.1 _ h.1.2 x.1, ihb.2.2 _ _ h.2 x.2]
def Sh.dep : Sh → Nat
 | .pr a b => max (a.dep + 1) b.dep
 | _ => 1
def EqS (P : Program) (s : Sh) : Prop := ∀ t d (x y : s.T), eqOK P s t = true → s.dep ≤ d → pv P (Op.equalIn d t (valT P t (vals s x)) (valT P t (vals s y))) = some (eqb s x y)
def EqF (P : Program) (s : Sh) : Prop := ∀ fs off d (x y : s.T) (pre pre' : List Value), eqFs P s fs off = true → s.dep ≤ d + 1 → pre.length = off → pre'.length = off →
 pv P (Op.eqFields d (pre ++ vals s x).toArray (pre' ++ vals s y).toArray fs) = some (eqb s x y)
def EqE (P : Program) (s : Sh) : Prop := ∀ n e k d (i : TypeInfo) (x y : s.T) (pre pre' : List Value), eqAr P s n e = true → P.info? e = some i → s.dep ≤ d + 1 → pre.length = k * i.size → pre'.length = k * i.size →
 pv P (eqElems d e i.size (pre ++ vals s x).toArray (pre' ++ vals s y).toArray (List.range' k n)) = some (eqb s x y)
theorem one_cell {s : Sh} {t : TypeId} (h : eqOK P s t = true) : isAggT P t = true ∨ s.cells = 1 := by
 cases s with
 | int k => exact .inr rfl
 | bool => exact .inr rfl
 | str => exact .inr rfl
 | sl _ _ => exact .inr rfl
 | nil =>
  left
  simp only [eqOK] at h
  unfold isAggT
  split at h
  ·rename_i hu; rw [hu]
  ·rename_i hu; rw [hu]
  ·cases h
 | pr a b =>
  left
  simp only [eqOK] at h
  unfold isAggT
  split at h
  ·rename_i hu; rw [hu]
  ·rename_i hu; rw [hu]
  ·cases h
theorem under_of_ok {s : Sh} {t : TypeId} (h : eqOK P s t = true) : ∃ d, P.underlying t = some d := by
 cases hu : P.underlying t with
 | some d => exact ⟨d, rfl⟩
 | none => cases s <;> simp [eqOK, hu] at h
theorem info_cells {t : TypeId} {i : TypeInfo} (h : P.info? t = some i) : P.cellsOf t = i.size := by simp [Program.cellsOf, h]
theorem pr_f {a b : Sh} (ha : EqS P a) (hb : EqF P b) : EqF P (.pr a b) := by
 intro fs off d x y pre pre' h hd hp hp'
 cases fs with
 | nil => simp [eqFs] at h
 | cons f fs =>
  simp only [eqFs, kA, decide_eq_true_eq] at h
  obtain ⟨⟨⟨⟨ho, hn, hc⟩, hi⟩, h1⟩, h2⟩ := h
  obtain ⟨i, hi⟩ := Option.isSome_iff_exists.1 hi
  obtain ⟨dd, hu⟩ := under_of_ok h1
  have hdep : a.dep ≤ d ∧ b.dep ≤ d + 1 := by simp only [Sh.dep] at hd; omega
  have hx := vals_len h1 x.1
  have hy := vals_len h1 y.1
  have hsz := info_cells hi
  simp only [Op.eqFields, vals]
  rw [if_pos hn, ← List.append_assoc, ← List.append_assoc]
  simp only [pv_bind, pv_ite]
  rw [show f.offset = pre.length by omega, pv_part hi hu (by omega) (by rw [hx]; exact one_cell h1)]
  simp only [kS]
  rw [show pre.length = pre'.length by omega, pv_part hi hu (by omega) (by rw [hy]; exact one_cell h1)]
  simp only [kS, ha _ d x.1 y.1 h1 hdep.1]
  have := hb fs (off + a.cells) d x.2 y.2 (pre ++ vals a x.1) (pre' ++ vals a y.1) h2 hdep.2 (by simp [hp, hx]) (by simp [hp', hy])
  rw [this]
  simp only [eqb]
  cases eqb a x.1 y.1 <;> simp [pv_pure]
theorem pr_e {a b : Sh} (ha : EqS P a) (hb : EqE P b) : EqE P (.pr a b) := by
 intro n e k d i x y pre pre' h hi hd hp hp'
 cases n with
 | zero => simp [eqAr] at h
 | succ n =>
  simp only [eqAr, kA, decide_eq_true_eq] at h
  obtain ⟨⟨hc, h1⟩, h2⟩ := h
  obtain ⟨dd, hu⟩ := under_of_ok h1
  have hdep : a.dep ≤ d ∧ b.dep ≤ d + 1 := by simp only [Sh.dep] at hd; omega
  have hx := vals_len h1 x.1
  have hy := vals_len h1 y.1
  have hsz := info_cells hi
  rw [List.range'_succ]
  simp only [eqElems, vals]
  rw [← List.append_assoc, ← List.append_assoc]
  simp only [pv_bind, pv_ite]
  rw [show k * i.size = pre.length by omega, pv_part hi hu (by omega) (by rw [hx]; exact one_cell h1)]
  simp only [kS]
  rw [show pre.length = pre'.length by omega, pv_part hi hu (by omega) (by rw [hy]; exact one_cell h1)]
  simp only [kS, ha _ d x.1 y.1 h1 hdep.1]
  have := hb n e (k + 1) d i x.2 y.2 (pre ++ vals a x.1) (pre' ++ vals a y.1) h2 hi hdep.2 (by rw [List.length_append, hp, hx, Nat.add_mul, Nat.one_mul]; omega) (by rw [List.length_append, hp', hy, Nat.add_mul, Nat.one_mul]; omega)
  rw [this]
  simp only [eqb]
  cases eqb a x.1 y.1 <;> simp [pv_pure]
theorem eq_all : ∀ s : Sh, EqS P s ∧ EqF P s ∧ EqE P s := by
 intro s
 induction s with
 | int k =>
  refine ⟨fun t d x y h hd => ?_, fun fs off d x y _ _ h => by cases fs <;> simp [eqFs] at h, fun n e k d i x y _ _ h => by cases n <;> simp [eqAr] at h⟩
  simp only [eqOK] at h
  split at h
  ·rename_i k' hu
   obtain ⟨d', rfl⟩ : ∃ d', d = d' + 1 := ⟨d - 1, by simp only [Sh.dep] at hd; omega⟩
   have hag : isAggT P t = false := by unfold isAggT; rw [hu]
   simp only [valT, hag, Bool.false_eq_true, if_false, vals, List.headD_cons]
   exact pv_equal_int hu
  ·cases h
 | bool =>
  refine ⟨fun t d x y h hd => ?_, fun fs off d x y _ _ h => by cases fs <;> simp [eqFs] at h, fun n e k d i x y _ _ h => by cases n <;> simp [eqAr] at h⟩
  simp only [eqOK] at h
  split at h
  ·rename_i hu
   obtain ⟨d', rfl⟩ : ∃ d', d = d' + 1 := ⟨d - 1, by simp only [Sh.dep] at hd; omega⟩
   have hag : isAggT P t = false := by unfold isAggT; rw [hu]
   simp only [valT, hag, Bool.false_eq_true, if_false, vals, List.headD_cons]
   exact pv_equal_bool hu
  ·cases h
 | str => exact ⟨fun t d x y h => by simp [eqOK] at h, fun fs off d x y _ _ h => by cases fs <;> simp [eqFs] at h, fun n e k d i x y _ _ h => by cases n <;> simp [eqAr] at h⟩
 | sl b e ih => exact ⟨fun t d x y h => by simp [eqOK] at h, fun fs off d x y _ _ h => by cases fs <;> simp [eqFs] at h, fun n e k d i x y _ _ h => by cases n <;> simp [eqAr] at h⟩
 | nil =>
  refine ⟨fun t d x y h hd => ?_, fun fs off d x y _ _ h _ _ _ => ?_, fun n e k d i x y _ _ h _ _ _ _ => ?_⟩
  ·obtain ⟨d', rfl⟩ : ∃ d', d = d' + 1 := ⟨d - 1, by simp only [Sh.dep] at hd; omega⟩
   have hag := (one_cell h).resolve_right (by simp [Sh.cells])
   simp only [valT, hag, if_true, vals]
   simp only [eqOK] at h
   split at h
   ·rename_i fs hu
    simp only [kA, Bool.not_eq_true'] at h
    rw [pv_eq_struct hu h.2]
    have : fs.toList = [] := by simpa using h.1
    rw [this]
    rfl
   ·rename_i n e hu
    simp only [kA, decide_eq_true_eq] at h
    obtain ⟨i, hi⟩ := Option.isSome_iff_exists.1 h.2
    rw [pv_eq_array hu hi, h.1]
    rfl
   ·cases h
  ·simp only [eqFs, List.isEmpty_iff] at h
   subst h
   rfl
  ·simp only [eqAr, decide_eq_true_eq] at h
   subst h
   rfl
 | pr a b iha ihb =>
  refine ⟨fun t d x y h hd => ?_, pr_f iha.1 ihb.2.1, pr_e iha.1 ihb.2.2⟩
  obtain ⟨d', rfl⟩ : ∃ d', d = d' + 1 := ⟨d - 1, by simp only [Sh.dep] at hd; omega⟩
  have hag : isAggT P t = true := by
   simp only [eqOK] at h
   unfold isAggT
   split at h
   ·rename_i hu; rw [hu]
   ·rename_i hu; rw [hu]
   ·cases h
  simp only [valT, hag, if_true]
  simp only [eqOK] at h
  split at h
  ·rename_i fs hu
   simp only [kA, Bool.not_eq_true'] at h
   obtain ⟨hh, h⟩ := h
   rw [pv_eq_struct hu hh]
   have := pr_f iha.1 ihb.2.1 fs.toList 0 d' x y [] [] (by
    simp only [eqFs]
    split at h
    ·simpa using h
    ·cases h) hd rfl rfl
   simpa using this
  ·rename_i n e hu
   simp only [kA, decide_eq_true_eq] at h
   obtain ⟨⟨⟨hi, hc⟩, h1⟩, h2⟩ := h
   obtain ⟨i, hi⟩ := Option.isSome_iff_exists.1 hi
   rw [pv_eq_array hu hi]
   have := pr_e iha.1 ihb.2.2 (n + 1) e 0 d' i x y [] [] (by simp only [eqAr, kA, decide_eq_true_eq]; exact ⟨⟨hc, h1⟩, h2⟩) hi hd (by simp) (by simp)
   simpa using this
  ·cases h
def flatS : Sh → Bool
 | .sl _ _ => false
 | .pr a b => flatS a && flatS b
 | _ => true
theorem enc_vals : ∀ {s : Sh} (_ : flatS s = true) (x : s.T), (enc s x).mapM C.toV = some (vals s x)
 | .int _, _, _ => rfl
 | .bool, _, _ => rfl
 | .str, _, _ => rfl
 | .nil, _, _ => rfl
 | .sl _ _, h, _ => by cases h
 | .pr a b, h, x => by
  simp only [flatS, kA] at h
  simp only [enc, vals, List.mapM_append, enc_vals h.1 x.1, enc_vals h.2 x.2]
  rfl
def eqAgg (P : Program) (s : Sh) (t : TypeId) : Bool := flatS s && eqOK P s t && isAggT P t && decide (s.dep ≤ Op.maxDepth) && !P.eqGuardType P.depth t
theorem ob_eq_agg {s : Sh} {t u ty : TypeId} {x y : s.T} {r : Bool} (hk : eqAgg P s t = true) (hr : eqb s x y = r) :
  Ob P A [.y (.agg (enc s x)), .y (.agg (enc s y))] H (.binOp .eql t (.tmp 0) (.tmp 1) u) ty (.y (.one (.sc (.bool r)))) H := by
 subst hr
 simp only [eqAgg, kA, decide_eq_true_eq, Bool.not_eq_true'] at hk
 obtain ⟨⟨⟨⟨h1, h2⟩, h3⟩, h4⟩, h5⟩ := hk
 have hx : ∀ x : s.T, (X.y (.agg (enc s x))).toV = some (.agg (vals s x).toArray) := by intro x; simp only [X.toV, Y.toV, enc_vals h1 x, kT]
 have he := (eq_all s).1 t Op.maxDepth x y h2 h4
 simp only [valT, h3, if_true] at he
 refine ⟨0, ?_⟩
 show (binX P .eql t (.tmp 0) (.tmp 1) (.y (.agg (enc s x))) (.y (.agg (enc s y)))).map (fun v => (v, H)) = _
 unfold binX
 simp only [hx]
 have hg : pv P (eqGuard .eql t (.tmp 0) (.tmp 1) (.agg (vals s x).toArray) (.agg (vals s y).toArray)) = some () := by
  simp [eqGuard, pv_bind, pv_program, h5, pv_pure, pv_ite]
 have hb : pv P (binOp .eql t (.agg (vals s x).toArray) (.agg (vals s y).toArray)) = some (Value.bool (eqb s x y)) := by
  show pv P (do pure (Value.bool (← Op.equal t (.agg (vals s x).toArray) (.agg (vals s y).toArray)))) = _
  simp only [pv_bind, Op.equal, he, kS, pv_pure]
 simp only [pv_bind, hg, hb, kS, kT]
 rfl
theorem ob_neq_agg {s : Sh} {t u ty : TypeId} {x y : s.T} {r : Bool} (hk : eqAgg P s t = true) (hr : eqb s x y = !r) :
  Ob P A [.y (.agg (enc s x)), .y (.agg (enc s y))] H (.binOp .neq t (.tmp 0) (.tmp 1) u) ty (.y (.one (.sc (.bool r)))) H := by
 simp only [eqAgg, kA, decide_eq_true_eq, Bool.not_eq_true'] at hk
 obtain ⟨⟨⟨⟨h1, h2⟩, h3⟩, h4⟩, h5⟩ := hk
 have hx : ∀ x : s.T, (X.y (.agg (enc s x))).toV = some (.agg (vals s x).toArray) := by intro x; simp only [X.toV, Y.toV, enc_vals h1 x, kT]
 have he := (eq_all s).1 t Op.maxDepth x y h2 h4
 simp only [valT, h3, if_true] at he
 refine ⟨0, ?_⟩
 show (binX P .neq t (.tmp 0) (.tmp 1) (.y (.agg (enc s x))) (.y (.agg (enc s y)))).map (fun v => (v, H)) = _
 unfold binX
 simp only [hx]
 have hg : pv P (eqGuard .neq t (.tmp 0) (.tmp 1) (.agg (vals s x).toArray) (.agg (vals s y).toArray)) = some () := by
  simp [eqGuard, pv_bind, pv_program, h5, pv_pure, pv_ite]
 have hb : pv P (binOp .neq t (.agg (vals s x).toArray) (.agg (vals s y).toArray)) = some (Value.bool (!(eqb s x y))) := by
  show pv P (do pure (Value.bool (!(← Op.equal t (.agg (vals s x).toArray) (.agg (vals s y).toArray))))) = _
  simp only [pv_bind, Op.equal, he, kS, pv_pure]
 simp only [pv_bind, hg, hb, kS, kT, hr, Bool.not_not]
 rfl
end
end Go.Lg
end
section
namespace Go.Lg
section
variable {P : Program} {A : Ann} {H : Heap} {f : FuncId} {Q : Ex → Env → Heap → Prop}
theorem back_cons {y y' : Y} {l l' : List Y} (h : backY H y = some y') (hl : l.mapM (backY H) = some l') : (y :: l).mapM (backY H) = some (y' :: l') := by
 rw [List.mapM_cons, h]; simp [hl]
end
end Go.Lg
end
section
namespace Go.Lg
section
variable {P : Program} {A : Ann} {H : Heap}
theorem dt0 {α : Type} {l : List α} {a n : Nat} (h1 : a = 0) (h2 : l.length ≤ n) : (l.drop a).take n = l := by
 subst h1; rw [List.drop_zero]; exact List.take_of_length_le h2
theorem slCells_sl {s : Sh} {b nil capd : Bool} {l : List s.T} : slCells H s.cells (.sl b nil capd (l.flatMap (enc s)) l.length) = some (l.flatMap (enc s), l.length, true) := by simp only [slCells, flat_len, if_true]
theorem ob_append_none {t u el ty : TypeId} {sz by_ : Nat} {z : List C} {cs : List C} {n : Nat} {pu : Bool} {c y : C} {cs' : List C} {puy : Bool} (hc : slCells H sz c = some (cs, n, pu)) (hy : slCells H sz y = some (cs', 0, puy))
  (he : elemT P t = some el) (hu : (elemT P u).isSome = true) (hs : szT P el = some sz) (h0 : Nat.ble 1 sz = true) (hb : byT P el = some by_) (hz : zeroC P el = some z) :
  Ob P A [.y (.one c), .y (.one y)] H (.call { callee := .builtin .append, args := #[.tmp 0, .tmp 1], argTypes := #[t, u] }) ty (.y (.one c)) H := by
 refine ⟨0, ?_⟩
 show (if (elemT P u).isSome then (some c).bind fun s' => (some y).bind fun z => (appendX P A H t s' z).map fun (c, H) => (X.y (.one c), H) else none) = _
 rw [if_pos hu]
 simp only [kS]
 unfold appendX
 simp only [he, hs, hb, hz, kS]
 rw [if_pos (show 0 < sz from Nat.le_of_ble_eq_true h0)]
 simp only [hc, hy, kS, if_true, kT]
theorem ob_ins {vals : List X} {Hm : Heap} {op : Op} {ty : TypeId} {v : X} (h : Ob P A vals Hm op ty v Hm) :
  ∃ k, (opX P A (runX P A k) (ev (vals.zipIdx.map fun p => (p.2, p.1))) Hm { dst := none, op := op, type := ty, pos := "", after := #[], guard := none }).map (fun r => (r.1, H)) = some (v, H) := by
 obtain ⟨k, h⟩ := h
 exact ⟨k, by rw [h]; rfl⟩
theorem ob_out {vals : List X} {M : List Nat} {Hm H' H2 : Heap} {op : Op} {ty : TypeId} {v : X} (hm : mayHide H M = true) (h : Ob P A vals Hm op ty v H') (hb : backH M H H' = H2) :
  ∃ k, (if mayHide H M then (opX P A (runX P A k) (ev (vals.zipIdx.map fun p => (p.2, p.1))) Hm { dst := none, op := op, type := ty, pos := "", after := #[], guard := none }).map (fun r => (r.1, backH M H r.2)) else none) = some (v, H2) := by
 obtain ⟨k, h⟩ := h
 exact ⟨k, by rw [if_pos hm, h]; simp only [kT, hb]⟩
theorem ob_callv {g : FuncId} {first cap : List C} {vals : List X} {xs0 res : List Y} {ats : Array TypeId} {ty : TypeId} {v : X} {H' : Heap} (args : List Operand) (hp : A.pureFn g = false)
  (ha : (args.map (ev ((X.y (.one (.fn (.func g) first cap)) :: vals).zipIdx.map fun p => (p.2, p.1)))).mapM X.y? = some xs0)
  (hc : Runs P A g (first.map .one ++ xs0 ++ cap.map .one) H res H') (hv : pack res = v) : Ob P A (X.y (.one (.fn (.func g) first cap)) :: vals) H (.call { callee := .value (.tmp 0), args := args.toArray, argTypes := ats }) ty v H' := by
 obtain ⟨k, hk⟩ := Runs.call hp hc
 refine ⟨k, ?_⟩
 subst hv
 show ((args.toArray.toList.map _).mapM X.y?).bind _ = _
 rw [show args.toArray.toList = args from rfl, ha]
 simp only [kS]
 exact hk
end
end Go.Lg
end
section
namespace Go.Lg
abbrev Frag := Nat → Option O
abbrev HP := Frag → Prop
def pts (id : Nat) (o : O) : HP := fun h => h id = some o
def emp : HP := fun _ => True
def star (A B : HP) : HP := fun h => ∃ h1 h2 : Frag, (∀ i, h1 i = none ∨ h2 i = none) ∧ (∀ i o, h1 i = some o → h i = some o) ∧ (∀ i o, h2 i = some o → h i = some o) ∧ A h1 ∧ B h2
def SL : List HP → HP
 | [] => emp
 | A :: r => star A (SL r)
def On (cs : List HP) (H : Heap) : Prop := SL cs (fun i => H[i]?)
def Up (A : HP) : Prop := ∀ h h' : Frag, (∀ i o, h i = some o → h' i = some o) → A h → A h'
theorem star_up (A B : HP) : Up (star A B) := by
 rintro h h' hh ⟨h1, h2, hd, s1, s2, a, b⟩
 exact ⟨h1, h2, hd, fun i o x => hh i o (s1 i o x), fun i o x => hh i o (s2 i o x), a, b⟩
theorem SL_up : ∀ cs : List HP, Up (SL cs)
 | [] => fun _ _ _ _ => trivial
 | A :: r => star_up A (SL r)
theorem star_mono {A A' B B' : HP} {h : Frag} (f : ∀ h, A h → A' h) (g : ∀ h, B h → B' h) : star A B h → star A' B' h := by
 rintro ⟨h1, h2, hd, s1, s2, a, b⟩
 exact ⟨h1, h2, hd, s1, s2, f _ a, g _ b⟩
theorem star_comm {A B : HP} {h : Frag} : star A B h → star B A h := by
 rintro ⟨h1, h2, hd, s1, s2, a, b⟩
 exact ⟨h2, h1, fun i => (hd i).symm, s2, s1, b, a⟩
def orF (h1 h2 : Frag) : Frag := fun i => (h1 i).or (h2 i)
theorem orF_l {h1 h2 : Frag} {i : Nat} {o : O} (h : h1 i = some o) : orF h1 h2 i = some o := by simp [orF, h]
theorem orF_r {h1 h2 : Frag} {i : Nat} {o : O} (hd : h1 i = none ∨ h2 i = none) (h : h2 i = some o) : orF h1 h2 i = some o := by
 rcases hd with hd | hd
 ·simp [orF, hd, h]
 ·rw [hd] at h; cases h
theorem orF_sub {h1 h2 h : Frag} (s1 : ∀ i o, h1 i = some o → h i = some o) (s2 : ∀ i o, h2 i = some o → h i = some o) : ∀ i o, orF h1 h2 i = some o → h i = some o := by
 intro i o hi
 unfold orF at hi
 cases h1i : h1 i with
 | some x => rw [h1i] at hi; simp only [Option.some_or, kI] at hi; subst hi; exact s1 _ _ h1i
 | none => rw [h1i, Option.none_or] at hi; exact s2 _ _ hi
theorem orF_none {h1 h2 : Frag} {i : Nat} (a : h1 i = none) (b : h2 i = none) : orF h1 h2 i = none := by simp [orF, a, b]
theorem not_none_of {h : Frag} {i : Nat} (hn : ¬ h i = none) : ∃ o, h i = some o := Option.ne_none_iff_exists'.1 hn
theorem star_assoc {A B C : HP} {h : Frag} : star (star A B) C h → star A (star B C) h := by
 rintro ⟨h12, h3, hd, s12, s3, ⟨h1, h2, hd', t1, t2, a, b⟩, c⟩
 refine ⟨h1, orF h2 h3, fun i => ?_, fun i o x => s12 i o (t1 i o x), orF_sub (fun i o x => s12 i o (t2 i o x)) s3, a, h2, h3, fun i => ?_, fun i o x => orF_l x, fun i o x => orF_r ?_ x, b, c⟩
 ·by_cases h1i : h1 i = none
  ·exact .inl h1i
  ·obtain ⟨o, ho⟩ := not_none_of h1i
   refine .inr (orF_none ((hd' i).resolve_left h1i) ((hd i).resolve_left ?_))
   rw [t1 i o ho]; simp
 ·by_cases h2i : h2 i = none
  ·exact .inl h2i
  ·obtain ⟨o, ho⟩ := not_none_of h2i
   refine .inr ((hd i).resolve_left ?_)
   rw [t2 i o ho]; simp
 ·by_cases h2i : h2 i = none
  ·exact .inl h2i
  ·obtain ⟨o, ho⟩ := not_none_of h2i
   refine .inr ((hd i).resolve_left ?_)
   rw [t2 i o ho]; simp
theorem star_assoc' {A B C : HP} {h : Frag} (x : star A (star B C) h) : star (star A B) C h :=
 star_comm (star_mono (fun _ y => y) (fun _ y => star_comm y) (star_assoc (star_comm (star_mono (fun _ y => y) (fun _ y => star_comm y) x))))
theorem star_swap {A B C : HP} {h : Frag} (x : star A (star B C) h) : star B (star A C) h :=
 star_assoc (star_mono (fun _ y => star_comm y) (fun _ y => y) (star_assoc' x))
theorem SL_perm {cs ds : List HP} (p : cs.Perm ds) : ∀ {h : Frag}, SL cs h → SL ds h := by
 induction p with
 | nil => exact fun x => x
 | cons _ _ ih => exact fun x => star_mono (fun _ y => y) (fun _ y => ih y) x
 | swap _ _ _ => exact fun x => star_swap x
 | trans _ _ i1 i2 => exact fun x => i2 (i1 x)
theorem SL_app {cs ds : List HP} : ∀ {h : Frag}, SL (cs ++ ds) h → star (SL cs) (SL ds) h := by
 induction cs with
 | nil => intro h x; exact ⟨fun _ => none, h, fun _ => .inl rfl, fun _ _ y => by simp at y, fun _ _ y => y, trivial, x⟩
 | cons A r ih => intro h x; exact star_assoc' (star_mono (fun _ y => y) (fun _ y => ih y) x)
theorem SL_app' {cs ds : List HP} : ∀ {h : Frag}, star (SL cs) (SL ds) h → SL (cs ++ ds) h := by
 induction cs with
 | nil => rintro h ⟨h1, h2, _, _, s2, _, b⟩; exact SL_up ds h2 h s2 b
 | cons A r ih => intro h x; exact star_mono (fun _ y => y) (fun _ y => ih y) (star_assoc x)
theorem perm_erase {cs : List HP} {A : HP} : ∀ {j : Nat}, cs[j]? = some A → cs.Perm (A :: cs.eraseIdx j) := by
 induction cs with
 | nil => intro j h; simp at h
 | cons B r ih =>
  intro j h
  cases j with
  | zero => simp only [List.getElem?_cons_zero, kI] at h; subst h; exact .refl _
  | succ j => exact (List.Perm.cons B (ih (by simpa using h))).trans (.swap _ _ _)
theorem erase_set {cs : List HP} {A : HP} : ∀ {j : Nat}, (cs.set j A).eraseIdx j = cs.eraseIdx j := by
 induction cs with
 | nil => intro j; rfl
 | cons B r ih => intro j; cases j with
  | zero => rfl
  | succ j => simp [ih]
theorem getD_range (cs : List HP) : cs = (List.range cs.length).map fun i => cs.getD i emp := by
 apply List.ext_getElem?
 intro i
 by_cases hi : i < cs.length
 ·simp [hi, List.getD]
 ·simp [hi]
theorem On.perm {cs : List HP} {H : Heap} (is : List Nat) (hp : is.isPerm (List.range cs.length) = true) (h : On cs H) : On (is.map fun i => cs.getD i emp) H := by
 have p : (List.range cs.length).Perm is := (List.isPerm_iff.1 hp).symm
 have := p.map fun i => cs.getD i emp
 rw [← getD_range] at this
 exact SL_perm this h
theorem On.pick {cs : List HP} {H : Heap} (is rest : List Nat) (hp : (is ++ rest).isPerm (List.range cs.length) = true) (h : On cs H) : On (is.map fun i => cs.getD i emp) H := by
 have := h.perm (is ++ rest) hp
 rw [List.map_append] at this
 obtain ⟨h1, _, _, s1, _, a, _⟩ := SL_app this
 exact SL_up _ h1 _ s1 a
theorem On.call {cs : List HP} {H : Heap} (is rest : List Nat) (hp : (rest ++ is).isPerm (List.range cs.length) = true) (h : On cs H) : On (SL (rest.map fun i => cs.getD i emp) :: is.map fun i => cs.getD i emp) H := by
 have := h.perm (rest ++ is) hp
 rw [List.map_append] at this
 exact SL_app this
theorem On.flat {cs ds : List HP} {H : Heap} (h : On (SL cs :: ds) H) : On (cs ++ ds) H := SL_app' h
theorem On.shut {cs : List HP} {H : Heap} {A : HP} (is rest : List Nat) (hp : (rest ++ is).isPerm (List.range cs.length) = true) (hA : ∀ h, SL (is.map fun i => cs.getD i emp) h → A h) (h : On cs H) : On (rest.map (fun i => cs.getD i emp) ++ [A]) H := by
 have := h.perm (rest ++ is) hp
 rw [List.map_append] at this
 exact SL_app' (star_mono (fun _ y => y) (fun _ y => ⟨_, fun _ => none, fun _ => .inr rfl, fun _ _ x => x, fun _ _ x => by simp at x, hA _ y, trivial⟩) (SL_app this))
theorem On.at {cs : List HP} {H : Heap} {id : Nat} {o : O} (h : On cs H) (j : Nat) (hj : cs[j]? = some (pts id o)) : H[id]? = some o := by
 have p : cs.Perm (pts id o :: cs.eraseIdx j) := by
  exact perm_erase hj
 obtain ⟨h1, h2, hd, s1, s2, a, b⟩ := SL_perm p h
 exact s1 id o a
theorem On.put {cs : List HP} {H : Heap} {id : Nat} {o : O} (o' : O) (h : On cs H) (j : Nat) (hj : cs[j]? = some (pts id o)) : On (cs.set j (pts id o')) (H.set id o') := by
 obtain ⟨hl, he⟩ := List.getElem?_eq_some_iff.1 hj
 have p : cs.Perm (pts id o :: cs.eraseIdx j) := by
  exact perm_erase hj
 have p' : (cs.set j (pts id o')).Perm (pts id o' :: cs.eraseIdx j) := by
  have := perm_erase (cs := cs.set j (pts id o')) (j := j) (A := (pts id o')) (by simp [hl])
  rwa [erase_set] at this
 obtain ⟨h1, h2, hd, s1, s2, a, b⟩ := SL_perm p h
 have hid : H[id]? = some o := s1 id o a
 have hlt := (List.getElem?_eq_some_iff.1 hid).1
 refine SL_perm p'.symm ⟨fun i => if i = id then some o' else none, h2, fun i => ?_, fun i x hx => ?_, fun i x hx => ?_, by simp [pts], b⟩
 ·by_cases hi : i = id
  ·subst hi
   right
   rcases hd i with hn | hn
   ·rw [show h1 i = some o from a] at hn; cases hn
   ·exact hn
  ·left; simp [hi]
 ·by_cases hi : i = id
  ·subst hi; simp only [if_true, kI] at hx; subst hx; simp [hlt]
  ·simp [hi] at hx
 ·by_cases hi : i = id
  ·subst hi
   rcases hd i with hn | hn
   ·rw [show h1 i = some o from a] at hn; cases hn
   ·rw [hn] at hx; cases hx
  ·show (H.set id o')[i]? = some x
   rw [List.getElem?_set_ne (fun e => hi e.symm)]
   exact s2 i x hx
theorem On.new {cs : List HP} {H : Heap} (o : O) (h : On cs H) : On (cs ++ [pts H.length o]) (H ++ [o]) := by
 refine SL_app' ⟨fun i => H[i]?, fun i => if i = H.length then some o else none, fun i => ?_, fun i x hx => ?_, fun i x hx => ?_, h, ?_⟩
 ·by_cases hi : i = H.length
  ·left; subst hi; simp
  ·right; simp [hi]
 ·show (H ++ [o])[i]? = some x
  rw [List.getElem?_append_left (List.getElem?_eq_some_iff.1 hx).1]
  exact hx
 ·by_cases hi : i = H.length
  ·subst hi; simpa using hx
  ·simp [hi] at hx
 ·exact ⟨_, fun _ => none, fun _ => .inr rfl, fun _ _ x => x, fun _ _ x => by simp at x, by simp [pts], trivial⟩
theorem On.nil (H : Heap) : On [] H := trivial
theorem On.mono {cs : List HP} {H : Heap} {A A' : HP} (j : Nat) (hj : cs[j]? = some A) (f : ∀ h, A h → A' h) (h : On cs H) : On (cs.set j A') H := by
 obtain ⟨hl, he⟩ := List.getElem?_eq_some_iff.1 hj
 have p : cs.Perm (A :: cs.eraseIdx j) := by
  exact perm_erase hj
 have p' : (cs.set j A').Perm (A' :: cs.eraseIdx j) := by
  have := perm_erase (cs := cs.set j A') (j := j) (A := A') (by simp [hl])
  rwa [erase_set] at this
 exact SL_perm p'.symm (star_mono f (fun _ y => y) (SL_perm p h))
section
variable {P : Program} {A : Ann} {H : Heap}
theorem ob_load_ptr {t ty : TypeId} {id off n : Nat} {cs cs' : List C} {v : Y} (hH : H[id]? = some (.obj cs)) (ht : szT P t = some n) (hn : (Nat.ble 1 n && Nat.ble (off + n) cs.length) = true) (hc : sub off n cs = cs')
  (hv : mkY (isAggT P t) cs' = some v) : Ob P A [.y (.one (.ptr id off))] H (.load t (.tmp 0)) ty (.y v) H := by
 simp only [kA, Nat.ble_eq] at hn
 refine ⟨0, ?_⟩
 show ((some (C.ptr id off)).bind fun c => (szT P t).bind fun n => if 0 < n then (ldCells H c n).bind fun cs => (mkY (isAggT P t) cs).map fun v => (X.y v, H) else none) = _
 simp only [kS, ht]
 rw [if_pos (show 0 < n by omega)]
 unfold ldCells
 simp only [hH]
 rw [if_pos hn.2]
 simp only [kS, hc, hv, kT]
theorem ob_store_ptr {t ty : TypeId} {id off : Nat} {cs cs' : List C} {v : Y} (hH : H[id]? = some (.obj cs)) (ht : szT P t = some v.cells.length) (hn : (v.cells.all C.live && Nat.ble (off + v.cells.length) cs.length) = true) (hc : splice off v.cells cs = cs') :
  Ob P A [.y (.one (.ptr id off)), .y v] H (.store t (.tmp 0) (.tmp 1)) ty .undef (H.set id (.obj cs')) := by
 simp only [kA, Nat.ble_eq] at hn
 refine ⟨0, ?_⟩
 show ((some (C.ptr id off)).bind fun c => (some v).bind fun v => if szT P t = some v.cells.length then (stCells H c v.cells).map fun H => (X.undef, H) else none) = _
 simp only [kS]
 rw [if_pos ht]
 unfold stCells
 rw [if_pos hn.1]
 simp only [hH]
 rw [if_pos hn.2, hc]
 rfl
theorem ob_alloc {t ty : TypeId} {n : Nat} {cs : List C} (hl : n = H.length) (hz : zeroC P t = some cs) :
  Ob P A [] H (.alloc t) ty (.y (.one (.ptr n 0))) (H ++ [.obj cs]) := by
 subst hl
 exact ⟨0, by show ((zeroC P t).map fun cs => (X.y (.one (.ptr H.length 0)), H ++ [.obj cs])) = _; rw [hz]; rfl⟩
theorem ob_box {t ty : TypeId} {n : Nat} {v : Y} {cs : List C} (hl : n = H.length) (hn : v.cells.all C.live = true) (ht : szT P t = some v.cells.length) (hc : v.cells = cs) :
  Ob P A [.y v] H (.box t (.tmp 0)) ty (.y (.one (.ptr n 0))) (H ++ [.obj cs]) := by
 subst hl; subst hc
 refine ⟨0, ?_⟩
 show ((some v).bind fun v => if v.cells.all C.live ∧ szT P t = some v.cells.length then some (X.y (.one (.ptr H.length 0)), H ++ [.obj v.cells]) else none) = _
 rw [kS, if_pos ⟨hn, ht⟩]
end
end Go.Lg
end
section
namespace Go.Lg
section
variable {P : Program} {A : Ann} {H : Heap}
abbrev rowO (s : Sh) (pu : Bool) (d : Nat) (l : List s.T) : O := .row pu true d (d + l.length) s.cells (l.flatMap (enc s))
abbrev rowC (id d len o n : Nat) (capd : Bool) : C := .row id (d + len) (d + o) n capd
abbrev raC (id d len sz j o : Nat) : C := .ra id (d + len) ((d + j) * sz + o)
theorem slCells_rowO {s : Sh} {pu capd : Bool} {id d o n : Nat} {l m : List s.T} (hH : H[id]? = some (rowO s pu d l)) (h : o + n ≤ l.length) (hm : (l.drop o).take n = m) :
  slCells H s.cells (rowC id d l.length o n capd) = some (m.flatMap (enc s), n, pu) := by
 subst hm
 simp only [slCells, hH]
 rw [if_pos ⟨trivial, trivial, by omega, by omega⟩]
 simp only [show d + o - d = o by omega, sub, flat_drop, flat_take]
theorem slCells_slO {s : Sh} {b nil capd : Bool} {l : List s.T} {n : Nat} (hn : n = l.length) : slCells H s.cells (.sl b nil capd (l.flatMap (enc s)) n) = some (l.flatMap (enc s), n, true) := by
 subst hn; exact slCells_sl
theorem or_len {t ty : TypeId} {s : Sh} {pu capd : Bool} {id d o n : Nat} {l : List s.T} {e : Int} (hH : H[id]? = some (rowO s pu d l)) (ht : (elemT P t).isSome = true) (hn : (n : Int) = e) :
  Ob P A [.y (.one (rowC id d l.length o n capd))] H (.call { callee := .builtin .len, args := #[.tmp 0], argTypes := #[t] }) ty (.y (.one (.sc (.int .i64 e)))) H := by
 refine ⟨0, ?_⟩
 subst hn
 show (match H[id]? with | some (.row _ _ _ st' _ _) => if d + l.length = st' ∧ ((#[t] : Array TypeId)[0]?.bind (elemT P)).isSome then some (X.y (.one (.sc (goInt n))), H) else none | _ => none) = _
 rw [hH]
 simp only
 rw [if_pos ⟨trivial, by simpa using ht⟩]
 rfl
theorem or_index {s : Sh} {t el ty : TypeId} {pu capd : Bool} {id d o n j : Nat} {l : List s.T} {i : Int} (hH : H[id]? = some (rowO s pu d l)) (hu : P.underlying t = some (.slice el)) (hs : szT P el = some s.cells)
  (h0 : 0 ≤ i) (h1 : i < n) (h2 : o + n ≤ l.length) (hj : ((o : Int) + i).toNat = j) :
  Ob P A [.y (.one (rowC id d l.length o n capd)), .y (.one (.sc (.int .i64 i)))] H (.indexAddr t (.tmp 0) (.tmp 1)) ty (.y (.one (raC id d l.length s.cells j 0))) H := by
 refine ⟨0, ?_⟩
 subst hj
 show ((indexAddrX P H t (rowC id d l.length o n capd) i).map fun c => (X.y (.one c), H)) = _
 unfold indexAddrX
 simp only [hu, hs, hH, kS]
 rw [if_pos ⟨h0, h1, trivial, trivial, by omega, by omega⟩]
 rw [show d + o + i.toNat = d + ((o : Int) + i).toNat by omega]
 rfl
theorem or_load {s : Sh} {t ty : TypeId} {pu : Bool} {id d j o n : Nat} {l : List s.T} {x : s.T} {v : Y} (hH : H[id]? = some (rowO s pu d l)) (ht : szT P t = some n) (hn : (Nat.ble 1 n && Nat.ble (o + n) s.cells) = true) (hx : l[j]? = some x)
  (hv : mkY (isAggT P t) (sub o n (enc s x)) = some v) : Ob P A [.y (.one (raC id d l.length s.cells j o))] H (.load t (.tmp 0)) ty (.y v) H := by
 simp only [kA, Nat.ble_eq] at hn
 have hlt : j < l.length := (List.getElem?_eq_some_iff.1 hx).1
 have hle : (j + 1) * s.cells ≤ l.length * s.cells := Nat.mul_le_mul_right _ hlt
 rw [Nat.add_mul, Nat.one_mul] at hle
 refine ⟨0, ?_⟩
 show ((some (raC id d l.length s.cells j o)).bind fun c => (szT P t).bind fun n => if 0 < n then (ldCells H c n).bind fun cs => (mkY (isAggT P t) cs).map fun v => (X.y v, H) else none) = _
 simp only [kS, ht]
 rw [if_pos (show 0 < n by omega)]
 unfold ldCells
 simp only [hH]
 have e : (d + j) * s.cells + o - d * s.cells = j * s.cells + o := by rw [Nat.add_mul]; omega
 rw [if_pos ⟨trivial, by rw [Nat.add_mul]; omega, by rw [flat_len, e]; omega⟩]
 simp only [kS, e]
 have : sub (j * s.cells + o) n (l.flatMap (enc s)) = sub o n (enc s x) := by
  unfold sub
  rw [← List.drop_drop, drop_enc hx, List.drop_append_of_le_length (by rw [enc_len]; omega), List.take_append_of_le_length (by rw [List.length_drop, enc_len]; omega)]
 rw [this, hv]
 rfl
theorem or_store {s : Sh} {t ty : TypeId} {id d j o : Nat} {l : List s.T} {x x' : s.T} {v : Y} {pu : Bool} (hH : H[id]? = some (rowO s pu d l)) (ht : szT P t = some v.cells.length) (hx : l[j]? = some x) (ho : Nat.ble (o + v.cells.length) s.cells = true)
  (hlv : v.cells.all C.live = true) (hv : splice o v.cells (enc s x) = enc s x') (himm : immL H v.cells = some (v.cells, H)) :
  Ob P A [.y (.one (raC id d l.length s.cells j o)), .y v] H (.store t (.tmp 0) (.tmp 1)) ty .undef (H.set id (.row pu true d (d + l.length) s.cells ((l.set j x').flatMap (enc s)))) := by
 rw [Nat.ble_eq] at ho
 have hj : j < l.length := (List.getElem?_eq_some_iff.1 hx).1
 have hle : (j + 1) * s.cells ≤ l.length * s.cells := Nat.mul_le_mul_right _ hj
 rw [Nat.add_mul, Nat.one_mul] at hle
 have hsp : splice (j * s.cells + o) v.cells (l.flatMap (enc s)) = (l.set j x').flatMap (enc s) := by
  rw [List.set_eq_take_append_cons_drop, if_pos hj, List.flatMap_append, List.flatMap_cons, ← hv]
  have hl : l.flatMap (enc s) = (l.take j).flatMap (enc s) ++ (enc s x ++ (l.drop (j + 1)).flatMap (enc s)) := by
   conv => lhs; rw [← List.take_append_drop j l, List.flatMap_append]
   rw [List.drop_eq_getElem_cons hj, List.flatMap_cons, (List.getElem?_eq_some_iff.1 hx).2]
  have hlt : ((l.take j).flatMap (enc s)).length = j * s.cells := by rw [flat_len, List.length_take, Nat.min_eq_left (by omega)]
  have hex := enc_len s x
  unfold splice
  rw [hl]
  rw [List.take_append, hlt, show j * s.cells + o - j * s.cells = o by omega, List.take_of_length_le (by omega), List.take_append_of_le_length (by omega),
   List.drop_append, hlt, List.drop_of_length_le (by omega), List.nil_append, show j * s.cells + o + v.cells.length - j * s.cells = o + v.cells.length by omega,
   List.drop_append_of_le_length (by omega)]
  simp only [List.append_assoc]
 refine ⟨0, ?_⟩
 show ((some (raC id d l.length s.cells j o)).bind fun c => (some v).bind fun v => if szT P t = some v.cells.length then (stCells H c v.cells).map fun H => (X.undef, H) else none) = _
 simp only [kS]
 rw [if_pos ht]
 unfold stCells
 rw [if_pos hlv]
 have e : (d + j) * s.cells + o - d * s.cells = j * s.cells + o := by rw [Nat.add_mul]; omega
 simp only [hH]
 cases pu with
 | false =>
  simp only
  rw [if_pos ⟨trivial, by rw [Nat.add_mul]; omega, by rw [flat_len, e]; omega⟩]
  simp only [e, kT, hsp]
 | true =>
  simp only [himm, kS, hH]
  rw [if_pos ⟨trivial, by rw [Nat.add_mul]; omega, by rw [flat_len, e]; omega⟩]
  simp only [e, kT, hsp]
theorem or_append {s : Sh} {t u el ty : TypeId} {by_ : Nat} {z : List C} {pu puy : Bool} {id d d' o n m n' : Nat} {l lm l' : List s.T} {y : C} (hH : H[id]? = some (rowO s pu d l)) (hy : slCells H s.cells y = some (lm.flatMap (enc s), m, puy)) (hp : (!pu || puy) = true)
  (he : elemT P t = some el) (hu : (elemT P u).isSome = true) (hs : szT P el = some s.cells) (h0 : Nat.ble 1 s.cells = true) (hb : byT P el = some by_) (hz : zeroC P el = some z) (hml : m = lm.length)
  (hm : m ≠ 0) (hoff : o + n = l.length) (h1 : (n : Int) + m ≤ 9223372036854775807) (h2 : ((n : Int) + m) * by_ ≤ 140737488355328) (hd : d + o = d') (hl : l.drop o ++ lm = l') (hn : n + m = n') :
  Ob P A [.y (.one (rowC id d l.length o n false)), .y (.one y)] H (.call { callee := .builtin .append, args := #[.tmp 0, .tmp 1], argTypes := #[t, u] }) ty
   (.y (.one (rowC id d' l'.length 0 n' false))) (H.set id (rowO s pu d' l')) := by
 subst hd; subst hl; subst hn
 refine ⟨0, ?_⟩
 show (if (elemT P u).isSome then (some (rowC id d l.length o n false)).bind fun s' => (some y).bind fun z => (appendX P A H t s' z).map fun (c, H) => (X.y (.one c), H) else none) = _
 rw [if_pos hu]
 simp only [kS]
 unfold appendX
 simp only [he, hs, hb, hz, kS]
 rw [if_pos (show 0 < s.cells from Nat.le_of_ble_eq_true h0)]
 have ht : (l.drop o).take n = l.drop o := List.take_of_length_le (by rw [List.length_drop]; omega)
 simp only [hy, slCells_rowO hH (show o + n ≤ l.length by omega) ht, kS]
 rw [if_neg hm, if_pos ⟨flat_live s lm, by unfold maxLen; omega, by unfold maxBytes; exact Int.ofNat_le.1 (by rw [Int.natCast_mul, Int.natCast_add]; exact h2)⟩]
 have hq : (pu && !puy) = false := by cases pu <;> cases puy <;> simp_all
 simp only [C.isRow, if_true, hq, Bool.false_eq_true, if_false, kS, hH]
 rw [if_pos ⟨trivial, by omega, trivial⟩]
 simp only [kT, kI, kP, X.y.injEq, Y.one.injEq, C.row.injEq, true_and, and_true]
 have hll : (l.drop o ++ lm).length = n + m := by rw [List.length_append, List.length_drop, hml]; omega
 refine ⟨⟨by omega, by omega⟩, ?_⟩
 rw [← List.flatMap_append, show d + l.length + m = d + o + (l.drop o ++ lm).length by rw [hll]; omega]
theorem or_append_new {s : Sh} {t u el ty : TypeId} {by_ : Nat} {z : List C} {b' nil' pu puy : Bool} {m n' k nl : Nat} {l lm l' : List s.T} {y : C} (hk : k = H.length) (hnl : nl = l.length) (hpu : A.pureSl t = pu) (hy : slCells H s.cells y = some (lm.flatMap (enc s), m, puy)) (hp : (!pu || puy) = true)
  (he : elemT P t = some el) (hu : (elemT P u).isSome = true) (hs : szT P el = some s.cells) (h0 : Nat.ble 1 s.cells = true) (hb : byT P el = some by_) (hz : zeroC P el = some z) (hml : m = lm.length)
  (hm : m ≠ 0) (h1 : (nl : Int) + m ≤ 9223372036854775807) (h2 : ((nl : Int) + m) * by_ ≤ 140737488355328) (hl : l ++ lm = l') (hn : nl + m = n') :
  Ob P A [.y (.one (.sl b' nil' true (l.flatMap (enc s)) nl)), .y (.one y)] H (.call { callee := .builtin .append, args := #[.tmp 0, .tmp 1], argTypes := #[t, u] }) ty
   (.y (.one (rowC k 0 l'.length 0 n' false))) (H ++ [rowO s pu 0 l']) := by
 subst hk; subst hl; subst hn; subst hpu; subst hnl
 refine ⟨0, ?_⟩
 show (if (elemT P u).isSome then (some (C.sl b' nil' true (l.flatMap (enc s)) l.length)).bind fun s' => (some y).bind fun z => (appendX P A H t s' z).map fun (c, H) => (X.y (.one c), H) else none) = _
 rw [if_pos hu]
 simp only [kS]
 unfold appendX
 simp only [he, hs, hb, hz, kS]
 rw [if_pos (show 0 < s.cells from Nat.le_of_ble_eq_true h0)]
 simp only [hy, slCells_sl, kS]
 rw [if_neg hm, if_pos ⟨flat_live s lm, by unfold maxLen; omega, by unfold maxBytes; exact Int.ofNat_le.1 (by rw [Int.natCast_mul, Int.natCast_add]; exact h2)⟩]
 have hq : (A.pureSl t && !puy) = false := by revert hp; cases A.pureSl t <;> cases puy <;> simp
 simp only [C.isRow, Bool.false_eq_true, if_false, hq, kS, if_true, kT, rowNew, rowC, rowO, Nat.zero_add, List.length_append, hml, List.flatMap_append]
theorem snap_rowO {s : Sh} {id d o n : Nat} {capd : Bool} {l m : List s.T} (hH : H[id]? = some (rowO s true d l)) (h : o + n ≤ l.length) (hm : (l.drop o).take n = m) :
  snapY H (.one (rowC id d l.length o n capd)) = some (.one (.sl true false capd (m.flatMap (enc s)) m.length)) := by
 subst hm
 unfold snapY snapC
 simp only [hH]
 rw [if_pos ⟨trivial, by omega, by omega⟩]
 simp only [kT, show d + o - d = o by omega, sub, flat_drop, flat_take]
 rw [List.length_take, List.length_drop, Nat.min_eq_left (by omega)]
theorem back_rowO {s : Sh} {id d o n : Nat} {capd : Bool} {l m : List s.T} (hH : H[id]? = some (rowO s true d l)) (h : o + n ≤ l.length) (hm : (l.drop o).take n = m) :
  backY H (.one (rowC id d l.length o n capd)) = some (.one (.sl false false capd (m.flatMap (enc s)) m.length)) := by
 subst hm
 unfold backY backC
 simp only [hH]
 rw [if_pos ⟨trivial, by omega, by omega⟩]
 simp only [kT, show d + o - d = o by omega, sub, flat_drop, flat_take]
 rw [List.length_take, List.length_drop, Nat.min_eq_left (by omega)]
theorem res_nil {e : Env} : ([] : List ResultVar).mapM (resX P e H) = some [] := rfl
theorem res_cons {e : Env} {r : ResultVar} {rs : List ResultVar} {y : Y} {ys : List Y} (h : resX P e H r = some y) (hr : rs.mapM (resX P e H) = some ys) : (r :: rs).mapM (resX P e H) = some (y :: ys) := by
 rw [List.mapM_cons, h]; simp [hr]
theorem res_cell {e : Env} {a : Nat} {t : TypeId} {id off n : Nat} {cs cs' : List C} {v : Y} (ha : (get e a).c? = some (.ptr id off)) (ht : szT P t = some n) (hH : H[id]? = some (.obj cs)) (hn : (Nat.ble 1 n && Nat.ble (off + n) cs.length) = true)
  (hc : sub off n cs = cs') (hv : mkY (isAggT P t) cs' = some v) : resX P e H (.cell a t) = some v := by
 simp only [kA, Nat.ble_eq] at hn
 unfold resX
 simp only [ha, ht, kS]
 rw [if_pos (show 0 < n by omega)]
 unfold ldCells
 simp only [hH]
 rw [if_pos hn.2]
 simp only [kS, hc, hv]
theorem wG {f : FuncId} {c : Code} {e : Env} {Q : Ex → Env → Heap → Prop} {cs : List HP} (hs : On cs H) (h : ∀ H, On cs H → Wp P A f c e H Q) : Wp P A f c e H Q := h H hs
theorem Wp.unskip {f : FuncId} {e : Env} {Q : Ex → Env → Heap → Prop} (h : Wp P A f .skip e H Q) : Q .normal e H := by
 obtain ⟨x, e', H', ⟨k, hk⟩, hq⟩ := h
 cases k with
 | zero => simp [codeX] at hk
 | succ k =>
  simp only [codeX, kI, kP] at hk
  obtain ⟨rfl, rfl, rfl⟩ := hk
  exact hq
theorem rKq {f : FuncId} {e : Env} {Q : Ex → Env → Heap → Prop} {id : Nat} {ops : Array Oper} {d : Bool} (ans : List (Nat × X × Heap)) (e1 : Env) (H1 : Heap) (ho : obO P A (mkM (A.mask f id) (A.late f id) H.length) ops ans (List.range ops.size) e (holesX (A.late f id) H))
  (hr : (runO P A (mkM (A.mask f id) (A.late f id) H.length) ops ans (List.range ops.size) e (holesX (A.late f id) H)).map (fun x => (liveX A f id x.1, x.2)) = some (e1, H1)) (h : Wp P A f .skip e1 H1 Q) : Wp P A f (.region id ops d) e H Q :=
 wR ans e1 H1 ho hr h.unskip
theorem On.new' {cs : List HP} {n : Nat} (hn : n = H.length) (o : O) (h : On cs H) : On (cs ++ [pts n o]) (H ++ [o]) := by subst hn; exact On.new o h
theorem of_content {T : Type} {L l : List T} {o n i j : Nat} {x : T} (h : (L.drop o).take n = l) (hx : l[i]? = some x) (hj : j = o + i) : L[j]? = some x := by
 subst h; subst hj
 rw [List.getElem?_take] at hx
 split at hx
 ·rwa [List.getElem?_drop] at hx
 ·cases hx
end
end Go.Lg
end
