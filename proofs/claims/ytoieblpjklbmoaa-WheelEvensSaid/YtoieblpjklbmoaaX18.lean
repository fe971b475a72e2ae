/-
 X, part 18: MORE FUEL, THE SAME ANSWER; and the rules by which a run is put together.
-/
import Derived.Test.YtoieblpjklbmoaaX1
namespace Go.Lg
def LeK (K K' : Callee) : Prop := ∀ f as H r, K f as H = some r → K' f as H = some r
section
variable {P : Program} {A : Ann} {K K' : Callee}
theorem callX_le (h : LeK K K') {f : FuncId} {as : List Y} {H : Heap} {r : X × Heap} (hc : callX A K f as H = some r) : callX A K' f as H = some r := by
 unfold callX at hc ⊢
 split at hc
 ·rename_i hp
  rw [if_pos hp]
  simp only [kB] at hc ⊢
  obtain ⟨as', h1, ⟨rs, H'⟩, h2, h3⟩ := hc
  exact ⟨as', h1, (rs, H'), h _ _ _ _ h2, h3⟩
 ·rename_i hp
  rw [if_neg hp]
  simp only [kM] at hc ⊢
  obtain ⟨⟨rs, H'⟩, h2, h3⟩ := hc
  exact ⟨(rs, H'), h _ _ _ _ h2, h3⟩
theorem opX_le (h : LeK K K') {ρ : Operand → X} {H : Heap} {o : Oper} {r : X × Heap} (hc : opX P A K ρ H o = some r) : opX P A K' ρ H o = some r := by
 obtain ⟨dst, op, ty, pos, after, guard⟩ := o
 cases op with
 | call c =>
  simp only [opX] at hc ⊢
  split at hc
  ·exact hc
  ·rename_i f hf
   split at hc
   ·rename_i g first cap hg
    simp only [kB] at hc ⊢
    obtain ⟨as, h1, h2⟩ := hc
    exact ⟨as, h1, callX_le h h2⟩
   ·cases hc
  ·cases hc
 | _ => exact hc
theorem opD_le (h : LeK K K') {mk : Msk} {e : Env} {H : Heap} {o : Oper} {r : X × Heap} (hc : opD P A K mk e H o = some r) : opD P A K' mk e H o = some r := by
 unfold opD at hc ⊢
 split at hc
 ·exact opX_le h hc
 ·simp only [kM] at hc ⊢
  obtain ⟨x, h1, h2⟩ := hc
  exact ⟨x, opX_le h h1, h2⟩
 ·split at hc
  ·rename_i hM
   rw [if_pos hM]
   simp only [kM] at hc ⊢
   obtain ⟨x, h1, h2⟩ := hc
   exact ⟨x, opX_le h h1, h2⟩
  ·cases hc
 ·exact hc
theorem opsX_le (h : LeK K K') {mk : Nat → Msk} {ops : Array Oper} : ∀ {is : List Nat} {e : Env} {H : Heap} {r : Env × Heap}, opsX P A K mk ops is e H = some r → opsX P A K' mk ops is e H = some r := by
 intro is
 induction is with
 | nil => intro e H r hc; exact hc
 | cons i is ih =>
  intro e H r hc
  cases ho : ops[i]? with
  | none => simp only [opsX, ho] at hc ⊢; exact ih hc
  | some o =>
   simp only [opsX, ho, kB] at hc ⊢
   obtain ⟨b, hb, hc⟩ := hc
   refine ⟨b, hb, ?_⟩
   cases b with
   | true =>
    simp only [if_true, kB] at hc ⊢
    obtain ⟨⟨v, H1⟩, h1, h2⟩ := hc
    exact ⟨(v, H1), opD_le h h1, ih h2⟩
   | false =>
    simp only [Bool.false_eq_true, if_false] at hc ⊢
    exact ih hc
theorem code_le (h : LeK K K') {f : FuncId} : ∀ (k k' : Nat), k ≤ k' →
  (∀ c e H r, codeX P A K f k c e H = some r → codeX P A K' f k' c e H = some r) ∧
  (∀ c an n e H r, loopX P A K f k c an n e H = some r → loopX P A K' f k' c an n e H = some r) ∧
  (∀ c s e H r, scopeX P A K f k c s e H = some r → scopeX P A K' f k' c s e H = some r) := by
 intro k
 induction k with
 | zero => intro k' _; refine ⟨fun c e H r hc => ?_, fun c an n e H r hc => ?_, fun c s e H r hc => ?_⟩ <;> simp [codeX, loopX, scopeX] at hc
 | succ k ih =>
  intro k' hk
  obtain ⟨m, rfl⟩ : ∃ m, k' = m + 1 := ⟨k' - 1, by omega⟩
  obtain ⟨i1, i2, i3⟩ := ih m (by omega)
  refine ⟨fun c e H r hc => ?_, fun c an n e H r hc => ?_, fun c s e H r hc => ?_⟩
  ·cases c with
   | region id ops draw =>
    simp only [codeX, kM] at hc ⊢
    obtain ⟨x, h1, h2⟩ := hc
    exact ⟨x, opsX_le h h1, h2⟩
   | seq a b =>
    simp only [codeX, kB] at hc ⊢
    obtain ⟨⟨x, e1, H1⟩, h1, h2⟩ := hc
    refine ⟨(x, e1, H1), i1 _ _ _ _ h1, ?_⟩
    cases x with
    | normal => exact i1 _ _ _ _ h2
    | _ => exact h2
   | cond c a b =>
    simp only [codeX] at hc ⊢
    split at hc
    ·rename_i t ht
     cases t with
     | true => exact i1 _ _ _ _ hc
     | false => exact i1 _ _ _ _ hc
    ·cases hc
   | block id c =>
    simp only [codeX, kM] at hc ⊢
    obtain ⟨x, h1, h2⟩ := hc
    exact ⟨x, i1 _ _ _ _ h1, h2⟩
   | loop c => simp only [codeX] at hc ⊢; exact i2 _ _ _ _ _ _ hc
   | scope c => simp only [codeX] at hc ⊢; exact i3 _ _ _ _ _ hc
   | _ => first | (simp only [codeX] at hc ⊢; exact hc) | (simp [codeX] at hc)
  ·simp only [loopX, kB] at hc ⊢
   obtain ⟨⟨x, e1, H1⟩, h1, h2⟩ := hc
   refine ⟨(x, e1, H1), i1 _ _ _ _ h1, ?_⟩
   cases x with
   | normal =>
    simp only [kB] at h2 ⊢
    obtain ⟨H2, h3, h4⟩ := h2
    exact ⟨H2, h3, i2 _ _ _ _ _ _ h4⟩
   | _ => exact h2
  ·simp only [scopeX, kB] at hc ⊢
   obtain ⟨⟨x, e1, H1⟩, h1, h2⟩ := hc
   refine ⟨(x, e1, H1), i1 _ _ _ _ h1, ?_⟩
   cases x with
   | goto l =>
    simp only at h2 ⊢
    split at h2
    ·rename_i rest hr; exact i3 _ _ _ _ _ h2
    ·exact h2
   | _ => exact h2
theorem run_le : ∀ (k k' : Nat), k ≤ k' → LeK (runX P A k) (runX P A k') := by
 intro k
 induction k with
 | zero => intro k' _ f as H r hc; simp [runX] at hc
 | succ k ih =>
  intro k' hk f as H r hc
  obtain ⟨m, rfl⟩ : ∃ m, k' = m + 1 := ⟨k' - 1, by omega⟩
  unfold runX at hc ⊢
  split at hc
  ·rename_i hm
   rw [if_pos hm]
   simp only [kB] at hc ⊢
   obtain ⟨fn, h1, c, h2, hc⟩ := hc
   refine ⟨fn, h1, c, h2, ?_⟩
   split at hc
   ·rename_i hl
    rw [if_pos hl]
    simp only [kB] at hc ⊢
    obtain ⟨x, h3, h4⟩ := hc
    exact ⟨x, (code_le (ih m (by omega)) k m (by omega)).1 _ _ _ _ h3, h4⟩
   ·cases hc
  ·rename_i hm
   rw [if_neg hm]
   exact hc
/-! ### A run, whatever the fuel -/
def Runs (P : Program) (A : Ann) (f : FuncId) (args : List Y) (H : Heap) (rs : List Y) (H' : Heap) : Prop := ∃ k, runX P A k f args H = some (rs, H')
def Does (P : Program) (A : Ann) (f : FuncId) (c : Code) (e : Env) (H : Heap) (x : Ex) (e' : Env) (H' : Heap) : Prop := ∃ k, codeX P A (runX P A k) f k c e H = some (x, e', H')
def Ops (P : Program) (A : Ann) (mk : Nat → Msk) (ops : Array Oper) (is : List Nat) (e : Env) (H : Heap) (e' : Env) (H' : Heap) : Prop := ∃ k, opsX P A (runX P A k) mk ops is e H = some (e', H')
def Loops (P : Program) (A : Ann) (f : FuncId) (c : Code) (an : Option (List Nat × Bool)) (n : Nat) (e : Env) (H : Heap) (x : Ex) (e' : Env) (H' : Heap) : Prop := ∃ k, loopX P A (runX P A k) f k c an n e H = some (x, e', H')
variable {f : FuncId} {e e1 e2 : Env} {H H1 H2 : Heap} {x : Ex}
theorem Does.seq {a b : Code} (h1 : Does P A f a e H .normal e1 H1) (h2 : Does P A f b e1 H1 x e2 H2) : Does P A f (.seq a b) e H x e2 H2 := by
 obtain ⟨k1, h1⟩ := h1
 obtain ⟨k2, h2⟩ := h2
 refine ⟨max k1 k2 + 1, ?_⟩
 have g1 := (code_le (run_le k1 (max k1 k2 + 1) (by omega)) k1 (max k1 k2) (by omega)).1 _ _ _ _ h1
 have g2 := (code_le (run_le k2 (max k1 k2 + 1) (by omega)) k2 (max k1 k2) (by omega)).1 _ _ _ _ h2
 simp only [codeX, g1, kS]
 exact g2
theorem Does.seqX {a b : Code} (h1 : Does P A f a e H x e1 H1) (hx : x ≠ .normal) : Does P A f (.seq a b) e H x e1 H1 := by
 obtain ⟨k1, h1⟩ := h1
 refine ⟨k1 + 1, ?_⟩
 have g1 := (code_le (run_le k1 (k1 + 1) (by omega)) k1 k1 (by omega)).1 _ _ _ _ h1
 simp only [codeX, g1, kS]
theorem Does.region {id : Nat} {ops : Array Oper} {d : Bool} (h : Ops P A (mkM (A.mask f id) (A.late f id) H.length) ops (List.range ops.size) e (holesX (A.late f id) H) e1 H1) : Does P A f (.region id ops d) e H .normal (match A.live f id with | some l => restrict l e1 | none => e1) H1 := by
 obtain ⟨k, h⟩ := h
 exact ⟨k + 1, by simp only [codeX, opsX_le (run_le k (k + 1) (by omega)) h, kT]; rfl⟩
theorem Does.condT {c : Operand} {a b : Code} (hc : ev e c = .y (.one (.sc (.bool true)))) (h : Does P A f a e H x e1 H1) : Does P A f (.cond c a b) e H x e1 H1 := by
 obtain ⟨k, h⟩ := h
 refine ⟨k + 1, ?_⟩
 have g1 := (code_le (run_le k (k + 1) (by omega)) k k (by omega)).1 _ _ _ _ h
 simp only [codeX, hc, if_true, g1]
theorem Does.condF {c : Operand} {a b : Code} (hc : ev e c = .y (.one (.sc (.bool false)))) (h : Does P A f b e H x e1 H1) : Does P A f (.cond c a b) e H x e1 H1 := by
 obtain ⟨k, h⟩ := h
 refine ⟨k + 1, ?_⟩
 have g1 := (code_le (run_le k (k + 1) (by omega)) k k (by omega)).1 _ _ _ _ h
 simp only [codeX, hc, Bool.false_eq_true, if_false, g1]
def leave (id : Nat) : Ex → Ex
 | .exit id' => if id' = id then .normal else .exit id'
 | x => x
theorem Does.block {id : Nat} {c : Code} (h : Does P A f c e H x e1 H1) : Does P A f (.block id c) e H (leave id x) e1 H1 := by
 obtain ⟨k, h⟩ := h
 refine ⟨k + 1, ?_⟩
 have g1 := (code_le (run_le k (k + 1) (by omega)) k k (by omega)).1 _ _ _ _ h
 simp only [codeX, g1, kT]
 cases x <;> rfl
theorem Does.loop {c : Code} (h : Loops P A f c ((firstRegion c).bind (A.loop f)) H.length (headX ((firstRegion c).bind (A.loop f)) e) H x e1 H1) : Does P A f (.loop c) e H x e1 H1 := by
 obtain ⟨k, h⟩ := h
 refine ⟨k + 1, ?_⟩
 have g1 := (code_le (run_le k (k + 1) (by omega)) k k (by omega)).2.1 _ _ _ _ _ _ h
 simp only [codeX, g1]
theorem Does.skip : Does P A f .skip e H .normal e H := ⟨1, rfl⟩
theorem Does.label {l : Nat} : Does P A f (.label l) e H .normal e H := ⟨1, rfl⟩
theorem Does.exit {id : Nat} : Does P A f (.exit id) e H (.exit id) e H := ⟨1, rfl⟩
theorem Does.goto {l : Nat} : Does P A f (.goto l) e H (.goto l) e H := ⟨1, rfl⟩
theorem Does.ret : Does P A f .ret e H .ret e H := ⟨1, rfl⟩
/-- A round that goes on. -/
theorem Loops.round {c : Code} {an : Option (List Nat × Bool)} {n : Nat} {H1' : Heap} (h1 : Does P A f c e H .normal e1 H1) (ht : (match an with | some (_, true) => truncX n (headX an e1) H1 | _ => some H1) = some H1')
  (h2 : Loops P A f c an n (headX an e1) H1' x e2 H2) : Loops P A f c an n e H x e2 H2 := by
 obtain ⟨k1, h1⟩ := h1
 obtain ⟨k2, h2⟩ := h2
 refine ⟨max k1 k2 + 1, ?_⟩
 have g1 := (code_le (run_le k1 (max k1 k2 + 1) (by omega)) k1 (max k1 k2) (by omega)).1 _ _ _ _ h1
 have g2 := (code_le (run_le k2 (max k1 k2 + 1) (by omega)) k2 (max k1 k2) (by omega)).2.1 _ _ _ _ _ _ h2
 unfold loopX
 rw [g1]
 simp only [kS]
 exact (congrArg (fun o => Option.bind o _) ht).trans g2
/-- A round that leaves the loop. -/
theorem Loops.last {c : Code} {an : Option (List Nat × Bool)} {n : Nat} (h1 : Does P A f c e H x e1 H1) (hx : x ≠ .normal) : Loops P A f c an n e H x e1 H1 := by
 obtain ⟨k1, h1⟩ := h1
 refine ⟨k1 + 1, ?_⟩
 have g1 := (code_le (run_le k1 (k1 + 1) (by omega)) k1 k1 (by omega)).1 _ _ _ _ h1
 unfold loopX
 rw [g1]
 simp only [kS]
/-! ### A region's operations, one by one -/
theorem Ops.nil {mk : Nat → Msk} {ops : Array Oper} : Ops P A mk ops [] e H e H := ⟨0, rfl⟩
theorem Ops.cons {mk : Nat → Msk} {ops : Array Oper} {i : Nat} {is : List Nat} {o : Oper} {v : X} (ho : ops[i]? = some o) (hw : wantX ops (get e) o = some true) (hv : ∃ k, opD P A (runX P A k) (mk i) e H o = some (v, H1))
  (h : Ops P A mk ops is (putD o.dst v e) H1 e2 H2) : Ops P A mk ops (i :: is) e H e2 H2 := by
 obtain ⟨k1, h1⟩ := hv
 obtain ⟨k2, h2⟩ := h
 refine ⟨max k1 k2, ?_⟩
 unfold opsX
 simp only [ho, hw, kS, if_true]
 rw [opD_le (run_le k1 (max k1 k2) (by omega)) h1]
 exact opsX_le (run_le k2 (max k1 k2) (by omega)) h2
theorem Ops.skip {mk : Nat → Msk} {ops : Array Oper} {i : Nat} {is : List Nat} {o : Oper} (ho : ops[i]? = some o) (hw : wantX ops (get e) o = some false)
  (h : Ops P A mk ops is (putD o.dst .undef e) H e2 H2) : Ops P A mk ops (i :: is) e H e2 H2 := by
 obtain ⟨k2, h2⟩ := h
 refine ⟨k2, ?_⟩
 unfold opsX
 simp only [ho, hw, kS, Bool.false_eq_true, if_false]
 exact h2
/-! ### A call -/
theorem Runs.mk {g : FuncId} {fn : Func} {c : Code} {args rs : List Y} (hm : A.may g = true) (hgc : A.gc g = false) (hf : P.funcs[g]? = some fn) (hb : fn.body = some c) (hl : args.length ≤ fn.ntmps)
  (h : Does P A g c (args.zipIdx.map fun p => (p.2, .y p.1)) H x e1 H1) (hx : x = .normal ∨ x = .ret) (hr : fn.results.toList.mapM (resX P e1 H1) = some rs) : Runs P A g args H rs H1 := by
 obtain ⟨k, h⟩ := h
 refine ⟨k + 1, ?_⟩
 unfold runX
 rw [if_pos hm, hf]
 simp only [kS, hb, if_pos hl, h]
 rcases hx with rfl | rfl <;> simp only [hr, kT, gcX, hgc, Bool.false_and, Bool.false_eq_true, if_false]
theorem Runs.call {g : FuncId} {as rs : List Y} (hp : A.pureFn g = false) (h : Runs P A g as H rs H1) : ∃ k, callX A (runX P A k) g as H = some (pack rs, H1) := by
 obtain ⟨k, h⟩ := h
 exact ⟨k, by unfold callX; rw [if_neg (by simp [hp]), h]; rfl⟩
theorem Runs.pure {g : FuncId} {as as' rs rs' : List Y} {H' : Heap} (hp : A.pureFn g = true) (ha : as.mapM (snapY H) = some as') (h : Runs P A g as' [] rs H') (hr : rs.mapM (backY H') = some rs') : ∃ k, callX A (runX P A k) g as H = some (pack rs', H) := by
 obtain ⟨k, h⟩ := h
 exact ⟨k, by unfold callX; rw [if_pos hp, ha]; simp only [kS, h, hr, kT]⟩
end
end Go.Lg
