/-
 X, part 19: A RUN, STEPPED THROUGH with values that stand for any: regions with answers, loops by invariants.
-/
import Derived.Test.YtoieblpjklbmoaaX18
import Derived.Test.YtoieblpjklbmoaaX16
namespace Go.Lg
section
variable {P : Program} {A : Ann} {f : FuncId} {e e1 e2 : Env} {H H1 H2 : Heap} {Q : Ex → Env → Heap → Prop}
def Wp (P : Program) (A : Ann) (f : FuncId) (c : Code) (e : Env) (H : Heap) (Q : Ex → Env → Heap → Prop) : Prop := ∃ x e' H', Does P A f c e H x e' H' ∧ Q x e' H'
/-- What each answer owes. -/
abbrev Ob (P : Program) (A : Ann) (vals : List X) (H : Heap) (op : Op) (ty : TypeId) (v : X) (H' : Heap) : Prop :=
 ∃ k, opX P A (runX P A k) (ev (vals.zipIdx.map fun p => (p.2, p.1))) H { dst := none, op := op, type := ty, pos := "", after := #[], guard := none } = some (v, H')
def ansOf (ans : List (Nat × X × Heap)) (i : Nat) : Option (X × Heap) :=
 match ans with
 | [] => none
 | (j, v) :: r => if i = j then some v else ansOf r i
def runO (P : Program) (A : Ann) (mk : Nat → Msk) (ops : Array Oper) (ans : List (Nat × X × Heap)) : List Nat → Env → Heap → Option (Env × Heap)
 | [], e, H => some (e, H)
 | i :: r, e, H => match ops[i]? with
  | none => runO P A mk ops ans r e H
  | some o => (wantX ops (get e) o).bind fun b =>
   if b then ((ansOf ans i).or (opD P A (runX P A 0) (mk i) e H o)).bind fun (v, H) => runO P A mk ops ans r (putD o.dst v e) H
   else runO P A mk ops ans r (putD o.dst .undef e) H
def obO (P : Program) (A : Ann) (mk : Nat → Msk) (ops : Array Oper) (ans : List (Nat × X × Heap)) : List Nat → Env → Heap → Prop
 | [], _, _ => True
 | i :: r, e, H => match ops[i]? with
  | none => obO P A mk ops ans r e H
  | some o => match wantX ops (get e) o with
   | some true => match ansOf ans i with
    | some (v, H') => (∃ k, opD P A (runX P A k) (mk i) e H o = some (v, H')) ∧ obO P A mk ops ans r (putD o.dst v e) H'
    | none => match opD P A (runX P A 0) (mk i) e H o with
     | some (v, H') => obO P A mk ops ans r (putD o.dst v e) H'
     | none => False
   | some false => obO P A mk ops ans r (putD o.dst .undef e) H
   | none => False
theorem ops_of {mk : Nat → Msk} {ops : Array Oper} {ans : List (Nat × X × Heap)} : ∀ {is : List Nat} {e : Env} {H : Heap}, obO P A mk ops ans is e H → runO P A mk ops ans is e H = some (e1, H1) → Ops P A mk ops is e H e1 H1 := by
 intro is
 induction is with
 | nil => intro e H _ h; simp only [runO, kI, kP] at h; obtain ⟨rfl, rfl⟩ := h; exact Ops.nil
 | cons i is ih =>
  intro e H ho h
  cases hop : ops[i]? with
  | none =>
   simp only [runO, obO, hop] at h ho
   obtain ⟨k, hk⟩ := ih ho h
   exact ⟨k, by simp only [opsX, hop]; exact hk⟩
  | some o =>
   simp only [runO, obO, hop] at h ho
   cases hw : wantX ops (get e) o with
   | none => simp only [hw] at ho
   | some b =>
    simp only [hw, kS] at h ho
    cases b with
    | false =>
     simp only [Bool.false_eq_true, if_false] at h ho
     exact Ops.skip hop hw (ih ho h)
    | true =>
     simp only [if_true] at h
     cases ha : ansOf ans i with
     | some v =>
      obtain ⟨v, H'⟩ := v
      simp only [ha, Option.some_or, kS] at h ho
      exact Ops.cons hop hw ho.1 (ih ho.2 h)
     | none =>
      simp only [ha, Option.none_or] at h ho
      cases hx : opD P A (runX P A 0) (mk i) e H o with
      | none => simp only [hx] at ho
      | some v =>
       obtain ⟨v, H'⟩ := v
       simp only [hx, kS] at h ho
       exact Ops.cons hop hw ⟨0, hx⟩ (ih ho h)
def liveX (A : Ann) (f id : Nat) (e : Env) : Env := match A.live f id with | some l => restrict l e | none => e
theorem cast {T U : Prop} (h : T) (e : T = U) : U := e ▸ h
theorem Wp.seq {a b : Code} (h : Wp P A f a e H fun x e1 H1 => match x with | .normal => Wp P A f b e1 H1 Q | x => Q x e1 H1) : Wp P A f (.seq a b) e H Q := by
 obtain ⟨x, e1, H1, h1, h2⟩ := h
 cases x with
 | normal => obtain ⟨x, e2, H2, h3, h4⟩ := h2; exact ⟨x, e2, H2, h1.seq h3, h4⟩
 | _ => exact ⟨_, e1, H1, h1.seqX (by simp), h2⟩
/-- A region: the answers, what they owe, what lives behind it. -/
theorem Wp.region {id : Nat} {ops : Array Oper} {d : Bool} (ans : List (Nat × X × Heap)) (e1 : Env) (H1 : Heap) (ho : obO P A (mkM (A.mask f id) (A.late f id) H.length) ops ans (List.range ops.size) e (holesX (A.late f id) H))
  (hr : (runO P A (mkM (A.mask f id) (A.late f id) H.length) ops ans (List.range ops.size) e (holesX (A.late f id) H)).map (fun x => (liveX A f id x.1, x.2)) = some (e1, H1)) (h : Q .normal e1 H1) : Wp P A f (.region id ops d) e H Q := by
 obtain ⟨⟨e0, H0⟩, h0, h1⟩ := kM.1 hr
 simp only [kP] at h1
 obtain ⟨rfl, rfl⟩ := h1
 exact ⟨.normal, _, _, Does.region (ops_of ho h0), h⟩
theorem Wp.regionSeq {id : Nat} {ops : Array Oper} {d : Bool} {b : Code} (ans : List (Nat × X × Heap)) (e1 : Env) (H1 : Heap) (ho : obO P A (mkM (A.mask f id) (A.late f id) H.length) ops ans (List.range ops.size) e (holesX (A.late f id) H))
  (hr : (runO P A (mkM (A.mask f id) (A.late f id) H.length) ops ans (List.range ops.size) e (holesX (A.late f id) H)).map (fun x => (liveX A f id x.1, x.2)) = some (e1, H1)) (h : Wp P A f b e1 H1 Q) : Wp P A f (.seq (.region id ops d) b) e H Q :=
 Wp.seq (Wp.region ans e1 H1 ho hr h)
theorem Wp.condT {c : Operand} {a b : Code} (hc : ev e c = .y (.one (.sc (.bool true)))) (h : Wp P A f a e H Q) : Wp P A f (.cond c a b) e H Q := by
 obtain ⟨x, e1, H1, h1, h2⟩ := h
 exact ⟨x, e1, H1, h1.condT hc, h2⟩
theorem Wp.condF {c : Operand} {a b : Code} (hc : ev e c = .y (.one (.sc (.bool false)))) (h : Wp P A f b e H Q) : Wp P A f (.cond c a b) e H Q := by
 obtain ⟨x, e1, H1, h1, h2⟩ := h
 exact ⟨x, e1, H1, h1.condF hc, h2⟩
theorem Wp.block {id : Nat} {c : Code} (h : Wp P A f c e H fun x e1 H1 => match x with | .exit id' => (if id' = id then Q .normal e1 H1 else Q (.exit id') e1 H1) | x => Q x e1 H1) : Wp P A f (.block id c) e H Q := by
 obtain ⟨x, e1, H1, h1, h2⟩ := h
 refine ⟨_, e1, H1, h1.block, ?_⟩
 cases x with
 | exit id' => simp only [leave]; simp only at h2; split at h2 <;> rename_i hh <;> simp only [hh, if_true, if_false] <;> exact h2
 | _ => exact h2
theorem Wp.skip (h : Q .normal e H) : Wp P A f .skip e H Q := ⟨_, _, _, Does.skip, h⟩
theorem Wp.label {l : Nat} (h : Q .normal e H) : Wp P A f (.label l) e H Q := ⟨_, _, _, Does.label, h⟩
theorem Wp.exit {id : Nat} (h : Q (.exit id) e H) : Wp P A f (.exit id) e H Q := ⟨_, _, _, Does.exit, h⟩
theorem Wp.ret (h : Q .ret e H) : Wp P A f .ret e H Q := ⟨_, _, _, Does.ret, h⟩
def endX (an : Option (List Nat × Bool)) (n : Nat) (e : Env) (H : Heap) : Option (Env × Heap) :=
 (match an with | some (_, true) => truncX n (headX an e) H | _ => some H).map fun H => (headX an e, H)
/-- A loop: what holds at its head of the values that stand there; a number that falls. -/
theorem Wp.loop {c : Code} {T : Type} (m : T → Nat) (envT : T → Env) (heapT : T → Heap) (I : T → Prop) (t0 : T)
  (h0 : (headX ((firstRegion c).bind (A.loop f)) e, H) = (envT t0, heapT t0)) (hI : I t0)
  (hb : ∀ t, I t → Wp P A f c (envT t) (heapT t) fun x e' H' => match x with
   | .normal => ∃ t', endX ((firstRegion c).bind (A.loop f)) H.length e' H' = some (envT t', heapT t') ∧ I t' ∧ m t' < m t
   | x => Q x e' H') : Wp P A f (.loop c) e H Q := by
 suffices key : ∀ n t, I t → m t < n → ∃ x e1 H1, Loops P A f c ((firstRegion c).bind (A.loop f)) H.length (envT t) (heapT t) x e1 H1 ∧ Q x e1 H1 by
  obtain ⟨x, e1, H1, h1, h2⟩ := key _ t0 hI (Nat.lt_succ_self _)
  rw [← (Prod.mk.inj h0).1, ← (Prod.mk.inj h0).2] at h1
  exact ⟨x, e1, H1, Does.loop h1, h2⟩
 intro n
 induction n with
 | zero => intro t _ h; omega
 | succ n ih =>
  intro t hI hn
  obtain ⟨x, e1, H1, h1, h2⟩ := hb t hI
  cases x with
  | normal =>
   obtain ⟨t', h3, h4, h5⟩ := h2
   obtain ⟨x, e2, H2, h6, h7⟩ := ih t' h4 (by omega)
   obtain ⟨H3, h8, h9⟩ := kM.1 h3
   simp only [kP] at h9
   obtain ⟨h9, rfl⟩ := h9
   rw [← h9] at h6
   exact ⟨x, e2, H2, Loops.round h1 h8 h6, h7⟩
  | _ => exact ⟨_, e1, H1, Loops.last h1 (by simp), h2⟩
theorem Wp.mono {c : Code} {Q' : Ex → Env → Heap → Prop} (h : Wp P A f c e H Q) (g : ∀ x e H, Q x e H → Q' x e H) : Wp P A f c e H Q' := by
 obtain ⟨x, e1, H1, h1, h2⟩ := h
 exact ⟨x, e1, H1, h1, g _ _ _ h2⟩
/-- A call, from its body. -/
theorem Runs.of {fn : Func} {c : Code} {args : List Y} {R : List Y → Heap → Prop} (hf : P.funcs[f]? = some fn) (hb : fn.body = some c) (hm : (A.may f && (decide (args.length ≤ fn.ntmps) && !A.gc f)) = true)
  (e0 : Env) (he : (args.zipIdx.map fun p => (p.2, X.y p.1)) = e0)
  (h : Wp P A f c e0 H fun x e H => (x = .normal ∨ x = .ret) ∧ ∃ rs, fn.results.toList.mapM (resX P e H) = some rs ∧ R rs H) : ∃ rs H', Runs P A f args H rs H' ∧ R rs H' := by
 subst he
 obtain ⟨x, e1, H1, h1, h2, rs, h3, h4⟩ := h
 simp only [kA, decide_eq_true_eq, Bool.not_eq_true'] at hm
 exact ⟨rs, H1, Runs.mk hm.1 hm.2.2 hf hb hm.2.1 h1 h2 h3, h4⟩
abbrev vi (n : Int) : C := .sc (.int .i64 n)
abbrev vb (b : Bool) : C := .sc (.bool b)
abbrev xi (n : Int) : X := .y (.one (.sc (.int .i64 n)))
abbrev xb (b : Bool) : X := .y (.one (.sc (.bool b)))
abbrev sv (s : Sh) (b nil capd : Bool) (l : List s.T) : C := .sl b nil capd (l.flatMap (enc s)) l.length
abbrev xs (s : Sh) (b nil capd : Bool) (l : List s.T) : X := .y (.one (sv s b nil capd l))
abbrev lo : Int := -9223372036854775808
abbrev hi : Int := 9223372036854775807
theorem wrap64 {n : Int} (h : -9223372036854775808 ≤ n ∧ n ≤ 9223372036854775807) : IntKind.wrap .i64 n = n := by
 simp only [IntKind.wrap, IntKind.signed, IntKind.bits, Bool.true_and]
 split <;> rename_i hh <;> simp only [decide_eq_true_eq, ge_iff_le] at hh <;> omega
/-! ### What answers owe -/
theorem ob_raw {vals : List X} {op : Op} {ty : TypeId} {r v : X} (h : opX P A (runX P A 0) (ev (vals.zipIdx.map fun p => (p.2, p.1))) H { dst := none, op := op, type := ty, pos := "", after := #[], guard := none } = some (r, H)) (hv : r = v) : Ob P A vals H op ty v H :=
 ⟨0, hv ▸ h⟩
theorem drop_enc {s : Sh} {l : List s.T} : ∀ {i : Nat} {x : s.T}, l[i]? = some x → (l.flatMap (enc s)).drop (i * s.cells) = enc s x ++ (l.drop (i + 1)).flatMap (enc s) := by
 induction l with
 | nil => intro i x h; simp at h
 | cons y l ih =>
  intro i x h
  cases i with
  | zero => simp only [List.getElem?_cons_zero, kI] at h; subst h; simp
  | succ i =>
   rw [List.flatMap_cons, Nat.add_mul, Nat.one_mul, Nat.add_comm (i * _), ← List.drop_drop]
   rw [List.drop_append_of_le_length (by rw [enc_len]; exact Nat.le_refl _)]
   rw [show (enc s y).drop s.cells = [] by apply List.drop_eq_nil_of_le; rw [enc_len]; exact Nat.le_refl _, List.nil_append, ih (by simpa using h)]
   rfl
/-- An element of a list that came in. -/
theorem ob_index {s : Sh} {b nil capd : Bool} {l : List s.T} {t el : TypeId} {i : Int} {x : s.T} (hu : P.underlying t = some (.slice el)) (hs : szT P el = some s.cells) (h0 : Nat.ble 1 s.cells = true) (hi : 0 ≤ i) (hx : l[i.toNat]? = some x) :
  Ob P A [.y (.one (.sl b nil capd (l.flatMap (enc s)) l.length)), .y (.one (.sc (.int .i64 i)))] H (.indexAddr t (.tmp 0) (.tmp 1)) 0 (.y (.one (.rd (enc s x ++ (l.drop (i.toNat + 1)).flatMap (enc s))))) H := by
 refine ⟨0, ?_⟩
 have hlt : i.toNat < l.length := by rw [List.getElem?_eq_some_iff] at hx; exact hx.1
 show ((indexAddrX P H t (.sl b nil capd (l.flatMap (enc s)) l.length) i).map fun c => (X.y (.one c), H)) = _
 unfold indexAddrX
 simp only [hu, hs, kS]
 rw [if_pos ⟨hi, by omega, Nat.le_of_ble_eq_true h0, flat_len s l⟩]
 simp only [kT, drop_enc hx]
/-! ### A loop, round by round -/
def WpL (P : Program) (A : Ann) (f : FuncId) (c : Code) (an : Option (List Nat × Bool)) (n : Nat) (e : Env) (H : Heap) (Q : Ex → Env → Heap → Prop) : Prop := ∃ x e' H', Loops P A f c an n e H x e' H' ∧ Q x e' H'
theorem Wp.loopU {c : Code} (e1 : Env) (an : Option (List Nat × Bool)) (n : Nat) (h0 : ((firstRegion c).bind (A.loop f), headX ((firstRegion c).bind (A.loop f)) e, H.length) = (an, e1, n)) (h : WpL P A f c an n e1 H Q) : Wp P A f (.loop c) e H Q := by
 simp only [kP] at h0
 obtain ⟨rfl, rfl, rfl⟩ := h0
 obtain ⟨x, e1, H1, h1, h2⟩ := h
 exact ⟨x, e1, H1, Does.loop h1, h2⟩
theorem WpL.step {c : Code} {an : Option (List Nat × Bool)} {n : Nat} (h : Wp P A f c e H fun x e' H' => match x with
  | .normal => ∃ e1 H1, endX an n e' H' = some (e1, H1) ∧ WpL P A f c an n e1 H1 Q
  | x => Q x e' H') : WpL P A f c an n e H Q := by
 obtain ⟨x, e1, H1, h1, h2⟩ := h
 cases x with
 | normal =>
  obtain ⟨e2, H2, h3, x, e3, H3, h4, h5⟩ := h2
  obtain ⟨H4, h8, h9⟩ := kM.1 h3
  simp only [kP] at h9
  obtain ⟨rfl, rfl⟩ := h9
  exact ⟨x, e3, H3, Loops.round h1 h8 h4, h5⟩
 | _ => exact ⟨_, e1, H1, Loops.last h1 (by simp), h2⟩
/-! ### A function that gets nothing of the heap -/
def PureC (P : Program) (A : Ann) (g : FuncId) (args res : List Y) : Prop := ∃ rs H', Runs P A g args [] rs H' ∧ rs.mapM (backY H') = some res
theorem pure_of {g : FuncId} {args res : List Y} (k : Nat) (h : ((runX P A k g args []).bind fun x => x.1.mapM (backY x.2)) = some res) : PureC P A g args res := by
 obtain ⟨⟨rs, H'⟩, h1, h2⟩ := kB.1 h
 exact ⟨rs, H', ⟨k, h1⟩, h2⟩
theorem ob_pure {g : FuncId} {vals : List X} {xs0 xs1 res : List Y} {ats : Array TypeId} {ty : TypeId} {v : X} (args : List Operand) (hp : A.pureFn g = true) (ha : (args.map (ev (vals.zipIdx.map fun p => (p.2, p.1)))).mapM X.y? = some xs0) (hs : xs0.mapM (snapY H) = some xs1)
  (hc : PureC P A g xs1 res) (hv : pack res = v) : Ob P A vals H (.call { callee := .value (.func g), args := args.toArray, argTypes := ats }) ty v H := by
 obtain ⟨rs, H', h1, h2⟩ := hc
 obtain ⟨k, hk⟩ := Runs.pure hp hs h1 h2
 refine ⟨k, ?_⟩
 subst hv
 show ((args.toArray.toList.map _).mapM X.y?).bind _ = _
 rw [show args.toArray.toList = args from rfl, ha]
 simp only [kS, List.map_nil, List.nil_append, List.append_nil]
 exact hk
theorem bne_f {a b : Int} (h : a = b) : (a != b) = false := by simp [h]
theorem get_of {α : Type} {l : List α} {i : Nat} (h : i < l.length) : ∃ x, l[i]? = some x := ⟨l[i], List.getElem?_eq_getElem h⟩
end
end Go.Lg
