/-
 X, part 8: comparisons; calls; each operation.
-/
import Derived.Test.YtoieblpjklbmoaaX7
namespace Go.Lg
def RepRes (B : Nat → Prop) (β : Nat → Nat × Nat) (H : Heap) (w : World) (rs : List Y) (v : Value) : Prop := RepX B β H w (pack rs) v
/-- What is asked of the meaning that the calls are given. -/
def CallOK (P : Program) (K : Callee) : Prop := ∀ f args H rs H', K f args H = some (rs, H') →
 (∃ fn, P.funcs[f]? = some fn ∧ fn.body.isSome = true) ∧
 ∀ B β w vs, StR B β H w → All2 (RepY B β H w) args vs →
  Calls P f vs.toArray w fun e w' => ∃ v β', e = .returned v ∧ StR B β' H' w' ∧ Stp β H w β' H' w' ∧ RepRes B β' H' w' rs v
section
variable {P : Program} {B : Nat → Prop} {β : Nat → Nat × Nat} {H : Heap} {w : World}
/-! ### == -/
def EqRun (P : Program) (w : World) (t : TypeId) (a b : Value) (r : Bool) : Prop := ∀ ox oy : Operand,
 ((do eqGuard .eql t ox oy a b; binOp .eql t a b) : Sem Value).run P w = .ok (.bool r) w ∧ ((do eqGuard .neq t ox oy a b; binOp .neq t a b) : Sem Value).run P w = .ok (.bool (!r)) w
theorem eqRun_mk {t : TypeId} {a b : Value} {r : Bool} (hb1 : binOp .eql t a b = (do pure (.bool (← Op.equal t a b)))) (hb2 : binOp .neq t a b = (do pure (.bool (!(← Op.equal t a b)))))
  (hg : ∀ op ox oy, eqGuard op t ox oy a b = pure ()) (h : ∀ d, (Op.equalIn (d + 1) t a b).run P w = .ok r w) : EqRun P w t a b r := by
 intro ox oy
 have he : (Op.equal t a b).run P w = .ok r w := h 9999
 constructor
 ·rw [hg, hb1]; simp [he]
 ·rw [hg, hb2]; simp [he]
theorem eqRun_slice {t e : TypeId} (ht : P.underlying t = some (.slice e)) {a b : Option Addr} {l k m n : Nat} (h : (a.isNone || b.isNone) = true) : EqRun P w t (.slice a l k) (.slice b m n) (a.isNone && b.isNone) := by
 refine eqRun_mk rfl rfl (fun op ox oy => by cases op <;> rfl) fun d => ?_
 cases a <;> cases b <;> first | (cases h; done) | simp [Op.equalIn, run_underlying ht]
theorem eqRun_func {t : TypeId} {x y : Array TypeId} {v : Bool} (ht : P.underlying t = some (.func x y v)) {a b : Value} {p q : Bool} (ha : (p = true ∧ a = .nilFunc) ∨ (p = false ∧ ∃ f x y, a = .func f x y)) (hb : (q = true ∧ b = .nilFunc) ∨ (q = false ∧ ∃ f x y, b = .func f x y))
  (h : (p || q) = true) : EqRun P w t a b (p && q) := by
 rcases ha with ⟨rfl, rfl⟩ | ⟨rfl, f, x, y, rfl⟩ <;> rcases hb with ⟨rfl, rfl⟩ | ⟨rfl, g, x', y', rfl⟩
 all_goals first | (cases h; done) | refine eqRun_mk rfl rfl (fun op ox oy => by cases op <;> rfl) fun d => ?_
 all_goals simp [Op.equalIn, run_underlying ht]
theorem eqRun_map {t x y : TypeId} (ht : P.underlying t = some (.map x y)) {a b : Option Nat} (h : (a.isNone || b.isNone) = true) : EqRun P w t (.map a) (.map b) (a.isNone && b.isNone) := by
 refine eqRun_mk rfl rfl (fun op ox oy => by cases op <;> rfl) fun d => ?_
 cases a <;> cases b <;> first | (cases h; done) | simp [Op.equalIn, run_underlying ht]
theorem eqRun_ptr_nil {t e : TypeId} (ht : P.underlying t = some (.pointer e)) {a b : Option Addr} (h : (a.isNone || b.isNone) = true) : EqRun P w t (.pointer a) (.pointer b) (a.isNone && b.isNone) := by
 refine eqRun_mk rfl rfl (fun op ox oy => by cases op <;> rfl) fun d => ?_
 cases a <;> cases b <;> first | (cases h; done) | simp [Op.equalIn, run_underlying ht]
theorem run_sameAddr_cells {a b : Addr} {c1 c2 : Array Value} {e1 e2 : TypeId} (ha : w.heap[a.block]? = some (.cells c1 e1 (0, 0))) (hb : w.heap[b.block]? = some (.cells c2 e2 (0, 0))) :
  (sameAddr a b).run P w = .ok (if a.block = b.block then a == b else false) w := by
 unfold sameAddr
 by_cases h : a.block = b.block
 ·simp [h]
 ·have f1 : w.frozen? a = false := by simp [World.frozen?, ha]
  have f2 : w.frozen? b = false := by simp [World.frozen?, hb]
  have s1 : w.shape? a.block = some (e1, c1.size) := by simp [World.shape?, ha]
  have s2 : w.shape? b.block = some (e2, c2.size) := by simp [World.shape?, hb]
  have g1 : w.frozen? { block := a.block, off := c1.size } = false := by simp [World.frozen?, ha]
  have g2 : w.frozen? { block := b.block, off := c2.size } = false := by simp [World.frozen?, hb]
  simp [h, f1, f2, s1, s2, g1, g2, noView, viewAt, mayBeOne, stringish]
theorem eqRun_ptr {t e : TypeId} {sz : Nat} (ht : P.underlying t = some (.pointer e)) (hsz : szT P e = some sz) (h0 : 0 < sz) {a b : Addr} {c1 c2 : Array Value} {e1 e2 : TypeId}
  (ha : w.heap[a.block]? = some (.cells c1 e1 (0, 0))) (hb : w.heap[b.block]? = some (.cells c2 e2 (0, 0))) : EqRun P w t (.pointer (some a)) (.pointer (some b)) (if a.block = b.block then a == b else false) := by
 have := run_sameAddr_cells (P := P) ha hb
 have h0' : sz ≠ 0 := by omega
 refine eqRun_mk rfl rfl (fun op ox oy => by cases op <;> rfl) fun d => ?_
 simp [Op.equalIn, run_underlying ht, run_szT hsz, h0', this]
theorem eq_sound (hst : StR B β H w) {t : TypeId} {c d : C} {a b : Value} (hc : Rep B β H w c a) (hd : Rep B β H w d b) {r : Bool} (h : eqX P t c d = some r) : EqRun P w t a b r := by
 unfold eqX at h
 split at h
 ·rename_i e ht
  simp only [kB, kR, kI] at h
  obtain ⟨p, hp, q, hq, hpq, rfl⟩ := h
  have key : ∀ {c : C} {a : Value} {p : Bool}, Rep B β H w c a → nilS c = some p → ∃ x l k, a = .slice x l k ∧ x.isNone = p := by
   intro c a p hr h
   cases c with
   | sl bb nil capd cs n =>
    simp only [nilS, kI] at h; subst h
    obtain ⟨x, cap, xs, rfl, ho, _⟩ := hr
    refine ⟨x, _, _, rfl, ?_⟩
    cases nil with
    | true => rw [(ho.nil1 rfl).1]; rfl
    | false => have := ho.nil0 rfl; cases x <;> simp_all
   | row id st off len capd =>
    simp only [nilS, kI] at h; subst h
    obtain ⟨pu, mu, dd, st', sz, cells, ho, hle, ⟨x, l, k, rfl⟩, hh⟩ := hr
    exact ⟨_, _, _, rfl, rfl⟩
   | _ => cases h
  obtain ⟨x, l, k, rfl, hx⟩ := key hc hp
  obtain ⟨y, m, n, rfl, hy⟩ := key hd hq
  rw [← hx, ← hy] at hpq ⊢
  exact eqRun_slice ht hpq
 ·rename_i e ht
  simp only [kB] at h
  obtain ⟨p, hp, q, hq, h⟩ := h
  have key : ∀ {c : C} {a : Value} {p : Option (Nat × Nat)}, Rep B β H w c a → ptrS c = some p → (p = none ∧ a = .pointer none) ∨ ∃ i o cs, p = some (i, o) ∧ H[i]? = some (.obj cs) ∧ a = .pointer (some ⟨(β i).1, o, none⟩) := by
   intro c a p hr h
   cases c with
   | sc v =>
    obtain ⟨_, rfl⟩ := hr
    cases a with
    | pointer x => cases x with
     | none => simp only [ptrS, kI] at h; exact .inl ⟨h.symm, rfl⟩
     | some x => cases h
    | _ => cases h
   | ptr id off =>
    simp only [ptrS, kI] at h
    obtain ⟨cs, ho, rfl⟩ := hr
    exact .inr ⟨id, off, cs, h.symm, ho, rfl⟩
   | _ => cases h
  rcases key hc hp with ⟨rfl, rfl⟩ | ⟨i, o, cs, rfl, ho, rfl⟩ <;> rcases key hd hq with ⟨rfl, rfl⟩ | ⟨j, o', cs', rfl, ho', rfl⟩
  ·simp only [kI] at h; subst h; exact eqRun_ptr_nil ht rfl
  ·simp only [kI] at h; subst h; exact eqRun_ptr_nil ht rfl
  ·simp only [kI] at h; subst h; exact eqRun_ptr_nil ht rfl
  ·simp only [kR, kI] at h
   obtain ⟨hs, rfl⟩ := h
   simp only [Option.any_eq_true, decide_eq_true_eq] at hs
   obtain ⟨sz, hsz, h0⟩ := hs
   obtain ⟨_, arr, e1, hb1, _⟩ := hst.live i _ ho
   obtain ⟨_, arr', e2, hb2, _⟩ := hst.live j _ ho'
   have := eqRun_ptr (P := P) (w := w) ht hsz h0 (a := ⟨(β i).1, o, none⟩) (b := ⟨(β j).1, o', none⟩) hb1 hb2
   have e : (if (⟨(β i).1, o, none⟩ : Addr).block = (⟨(β j).1, o', none⟩ : Addr).block then (⟨(β i).1, o, none⟩ : Addr) == ⟨(β j).1, o', none⟩ else false) = decide ((i, o) = (j, o')) := by
    by_cases hij : i = j
    ·subst hij
     by_cases hoo : o = o'
     ·subst hoo; simp
     ·simp [hoo]
    ·have hne : (β i).1 ≠ (β j).1 := fun x => hij (hst.inj i j _ _ ho rfl ho' rfl x)
     simp [hne, hij]
   rw [e] at this
   exact this
 ·rename_i x y v ht
  simp only [kB, kR, kI] at h
  obtain ⟨p, hp, q, hq, hpq, rfl⟩ := h
  have key : ∀ {c : C} {a : Value} {p : Bool}, Rep B β H w c a → fnS c = some p → (p = true ∧ a = .nilFunc) ∨ (p = false ∧ ∃ f x y, a = .func f x y) := by
   intro c a p hr h
   cases c with
   | sc v =>
    obtain ⟨_, rfl⟩ := hr
    cases a with
    | nilFunc => simp only [fnS, kI] at h; exact .inl ⟨h.symm, rfl⟩
    | _ => cases h
   | fn f x y =>
    simp only [fnS, kI] at h
    obtain ⟨us, vs, rfl, _⟩ := hr
    exact .inr ⟨h.symm, _, _, _, rfl⟩
   | _ => cases h
  exact eqRun_func ht (key hc hp) (key hd hq) hpq
 ·rename_i x y ht
  simp only [kB, kR, kI] at h
  obtain ⟨p, hp, q, hq, hpq, rfl⟩ := h
  have key : ∀ {c : C} {a : Value} {p : Bool}, Rep B β H w c a → mpS c = some p → ∃ x, a = .map x ∧ x.isNone = p := by
   intro c a p hr h
   cases c with
   | sc v =>
    obtain ⟨_, rfl⟩ := hr
    cases a with
    | map x => cases x with
     | none => simp only [mpS, kI] at h; exact ⟨none, rfl, h⟩
     | some x => cases h
    | _ => cases h
   | mp id =>
    simp only [mpS, kI] at h; subst h
    obtain ⟨es, _, _, rfl⟩ := hr
    exact ⟨_, rfl, rfl⟩
   | _ => cases h
  obtain ⟨x, rfl, hx⟩ := key hc hp
  obtain ⟨y, rfl, hy⟩ := key hd hq
  rw [← hx, ← hy] at hpq ⊢
  exact eqRun_map ht hpq
 ·cases h
end
end Go.Lg
