/-
  X, part 2: how X's values and heaps stand to the model's values and memory; what a step leaves as it was.
-/
import Derived.Test.YtoieblpjklbmoaaX1
import Derived.ProofKit
namespace Go.Lg
/-! ### Two lists, element by element -/
inductive All2 {α β : Type} (R : α → β → Prop) : List α → List β → Prop where
  | nil : All2 R [] []
  | cons {a : α} {b : β} {l : List α} {m : List β} : R a b → All2 R l m → All2 R (a :: l) (b :: m)
namespace All2
variable {α β : Type} {R : α → β → Prop}
theorem length {l : List α} {m : List β} (h : All2 R l m) : m.length = l.length := by
  induction h with
  | nil => rfl
  | cons _ _ ih => simp [ih]
theorem mono {R' : α → β → Prop} {l : List α} {m : List β} (h : All2 R l m) (f : ∀ a b, R a b → R' a b) : All2 R' l m := by
  induction h with
  | nil => exact .nil
  | cons a _ ih => exact .cons (f _ _ a) ih
theorem mono_mem {R' : α → β → Prop} {l : List α} {m : List β} (h : All2 R l m) (f : ∀ a b, a ∈ l → R a b → R' a b) : All2 R' l m := by
  induction h with
  | nil => exact .nil
  | cons a _ ih => exact .cons (f _ _ (by simp) a) (ih fun a b hm => f a b (by simp [hm]))
theorem append {l l' : List α} {m m' : List β} (h : All2 R l m) (h' : All2 R l' m') : All2 R (l ++ l') (m ++ m') := by
  induction h with
  | nil => exact h'
  | cons a _ ih => exact .cons a ih
theorem take {l : List α} {m : List β} (h : All2 R l m) : ∀ n, All2 R (l.take n) (m.take n) := by
  induction h with
  | nil => intro n; cases n <;> exact .nil
  | cons a _ ih => intro n; cases n with
    | zero => exact .nil
    | succ n => exact .cons a (ih n)
theorem drop {l : List α} {m : List β} (h : All2 R l m) : ∀ n, All2 R (l.drop n) (m.drop n) := by
  induction h with
  | nil => intro n; cases n <;> exact .nil
  | cons a t ih => intro n; cases n with
    | zero => exact .cons a t
    | succ n => exact ih n
theorem get {l : List α} {m : List β} (h : All2 R l m) : ∀ {j : Nat} {a : α}, l[j]? = some a → ∃ b, m[j]? = some b ∧ R a b := by
  induction h with
  | nil => intro j a ha; simp at ha
  | cons r _ ih => intro j a ha; cases j with
    | zero => simp at ha; subst ha; exact ⟨_, rfl, r⟩
    | succ j => simpa using ih (by simpa using ha)
theorem get' {l : List α} {m : List β} (h : All2 R l m) : ∀ {j : Nat} {b : β}, m[j]? = some b → ∃ a, l[j]? = some a ∧ R a b := by
  induction h with
  | nil => intro j a ha; simp at ha
  | cons r _ ih => intro j a ha; cases j with
    | zero => simp at ha; subst ha; exact ⟨_, rfl, r⟩
    | succ j => simpa using ih (by simpa using ha)
theorem mem {l : List α} {m : List β} (h : All2 R l m) {b : β} (hb : b ∈ m) : ∃ a, a ∈ l ∧ R a b := by
  induction h with
  | nil => cases hb
  | cons r _ ih =>
    cases hb with
    | head => exact ⟨_, by simp, r⟩
    | tail _ hb => obtain ⟨a, ha, hr⟩ := ih hb; exact ⟨a, by simp [ha], hr⟩
theorem of_get {l : List α} : ∀ {m : List β}, m.length = l.length → (∀ (j : Nat) (a : α) (b : β), l[j]? = some a → m[j]? = some b → R a b) → All2 R l m := by
  induction l with
  | nil => intro m hl _; cases m with
    | nil => exact .nil
    | cons _ _ => simp at hl
  | cons a l ih => intro m hl h; cases m with
    | nil => simp at hl
    | cons b m => exact .cons (h 0 a b rfl rfl) (ih (by simpa using hl) fun j a b ha hb => h (j + 1) a b (by simpa using ha) (by simpa using hb))
theorem split {l l' : List α} : ∀ {m : List β}, All2 R (l ++ l') m → ∃ m1 m2, m = m1 ++ m2 ∧ All2 R l m1 ∧ All2 R l' m2 := by
  induction l with
  | nil => intro m h; exact ⟨[], m, rfl, .nil, h⟩
  | cons a l ih => intro m h; cases h with
    | cons r t => obtain ⟨m1, m2, rfl, h1, h2⟩ := ih t; exact ⟨_ :: m1, m2, rfl, .cons r h1, h2⟩
end All2
theorem All2.splice {α β : Type} {R : α → β → Prop} {l n : List α} {m k : List β} (h : All2 R l m) (hn : All2 R n k) (off : Nat) : All2 R (splice off n l) (splice off k m) := by
  unfold Lg.splice
  rw [← hn.length]
  exact ((h.take off).append hn).append (h.drop _)
theorem length_splice {α : Type} {off : Nat} {n l : List α} (h : off + n.length ≤ l.length) : (splice off n l).length = l.length := by
  simp [splice]; omega
theorem getElem?_splice {α : Type} {off : Nat} {n l : List α} (h : off + n.length ≤ l.length) (j : Nat) :
    (splice off n l)[j]? = if j < off then l[j]? else if j < off + n.length then n[j - off]? else l[j]? := by
  unfold splice
  rw [List.append_assoc, List.getElem?_append]
  have h1 : (l.take off).length = off := by simp; omega
  rw [h1]
  by_cases hj : j < off
  · simp [hj]
  · rw [if_neg hj, if_neg hj, List.getElem?_append]
    by_cases hk : j < off + n.length
    · rw [if_pos (by omega), if_pos hk]
    · rw [if_neg (by omega), if_neg hk, List.getElem?_drop]
      congr 1; omega
theorem sub_splice {α : Type} {o q k : Nat} {n l : List α} (h : q + n.length ≤ k) (h2 : o + k ≤ l.length) :
    ((splice (o + q) n l).drop o).take k = splice q n ((l.drop o).take k) := by
  apply List.ext_getElem?
  intro j
  rw [List.getElem?_take, List.getElem?_drop, getElem?_splice (by omega), getElem?_splice (by simp; omega), List.getElem?_take, List.getElem?_drop]
  by_cases h1 : j < k <;> by_cases h3 : j < q <;> by_cases h4 : j < q + n.length
  all_goals first | omega | skip
  · rw [if_pos h1, if_pos (by omega), if_pos h3, if_pos h1]
  · rw [if_pos h1, if_neg (by omega), if_pos (by omega), if_neg h3, if_pos h4]; congr 1; omega
  · rw [if_pos h1, if_neg (by omega), if_neg (by omega), if_neg h3, if_neg h4, if_pos h1]
  · rw [if_neg h1, if_neg h3, if_neg h4, if_neg h1]
/-! ### Values -/
def O.mut : O → Bool
  | .row _ mu _ _ _ _ => mu
  | .map .hole => false
  | _ => true
/-- Is it more than a place that was laid? -/
def O.there : O → Bool
  | .map .hole => false
  | _ => true
theorem O.hole_of {o : O} (h : o.there = false) : o = .map .hole := by
  cases o with
  | map v => cases v <;> first | rfl | (cases h; done)
  | _ => cases h
/-- A block that is never written again while the call runs. -/
def Free (β : Nat → Nat × Nat) (H : Heap) (w : World) (b : Nat) : Prop :=
  b < w.heap.size ∧ ∀ id o, H[id]? = some o → o.mut = true → (β id).1 ≠ b
/-- A slice's value, the cells that it leads to. -/
structure SlOk (S : Nat → Prop) (w : World) (nil capd : Bool) (n : Nat) (a : Option Addr) (cap : Nat) (xs : List Value) : Prop where
  nil1 : nil = true → a = none ∧ n = 0 ∧ cap = 0
  nil0 : nil = false → a.isSome = true
  capd : capd = true → cap = n
  le : n ≤ cap
  cells : xs ≠ [] → ∃ ad, a = some ad ∧ ad.spot = none ∧ S ad.block ∧ ∀ j x, xs[j]? = some x → w.cell? ⟨ad.block, ad.off + j, none⟩ = some x
mutual
def RepI (S : Nat → Prop) (w : World) : C → Value → Prop
  | .sc v, u => plain v = true ∧ u = v
  | .sl b nil capd cells n, u => b = false ∧ ∃ a cap xs, u = .slice a n cap ∧ SlOk S w nil capd n a cap xs ∧ RepIL S w cells xs
  | _, _ => False
def RepIL (S : Nat → Prop) (w : World) : List C → List Value → Prop
  | [], xs => xs = []
  | c :: cs, xs => ∃ x r, xs = x :: r ∧ RepI S w c x ∧ RepIL S w cs r
end
theorem repIL_iff {S : Nat → Prop} {w : World} : ∀ {cs : List C} {xs : List Value}, RepIL S w cs xs ↔ All2 (RepI S w) cs xs := by
  intro cs
  induction cs with
  | nil => intro xs; simp only [RepIL]; constructor
           · rintro rfl; exact .nil
           · intro h; cases h; rfl
  | cons c cs ih =>
    intro xs
    simp only [RepIL]
    constructor
    · rintro ⟨x, r, rfl, h, t⟩; exact .cons h (ih.1 t)
    · intro h; cases h with
      | cons r t => exact ⟨_, _, rfl, r, ih.2 t⟩
theorem SlOk.mono {S S' : Nat → Prop} {w w' : World} {nil capd : Bool} {n : Nat} {a : Option Addr} {cap : Nat} {xs : List Value}
    (h : SlOk S w nil capd n a cap xs) (f : ∀ b, S b → S' b ∧ w'.heap[b]? = w.heap[b]?) : SlOk S' w' nil capd n a cap xs := by
  refine ⟨h.nil1, h.nil0, h.capd, h.le, fun hx => ?_⟩
  obtain ⟨ad, ha, hs, hS, hc⟩ := h.cells hx
  exact ⟨ad, ha, hs, (f _ hS).1, fun j x hj => by rw [← hc j x hj]; exact World.cell?_of_block (w := w) (w' := w') (a := ⟨ad.block, ad.off + j, none⟩) (f _ hS).2⟩
mutual
theorem RepI.mono {S S' : Nat → Prop} {w w' : World} (f : ∀ b, S b → S' b ∧ w'.heap[b]? = w.heap[b]?) : ∀ (c : C) (u : Value), RepI S w c u → RepI S' w' c u
  | .sc v, u, h => by simpa only [RepI] using h
  | .sl b nil capd cells n, u, h => by
    simp only [RepI] at h ⊢
    obtain ⟨hb, a, cap, xs, hu, ho, hl⟩ := h
    exact ⟨hb, a, cap, xs, hu, ho.mono f, RepIL.mono f cells xs hl⟩
  | .row .., _, h | .ptr .., _, h | .rd .., _, h | .ra .., _, h | .mp .., _, h | .it .., _, h | .fn .., _, h | .dead, _, h => by simp only [RepI] at h
theorem RepIL.mono {S S' : Nat → Prop} {w w' : World} (f : ∀ b, S b → S' b ∧ w'.heap[b]? = w.heap[b]?) : ∀ (cs : List C) (xs : List Value), RepIL S w cs xs → RepIL S' w' cs xs
  | [], xs, h => by simpa only [RepIL] using h
  | c :: cs, xs, h => by
    simp only [RepIL] at h ⊢
    obtain ⟨x, r, hx, h1, h2⟩ := h
    exact ⟨x, r, hx, RepI.mono f c x h1, RepIL.mono f cs r h2⟩
end
/-- A slice over a row of the heap: its value. -/
def HdrOk (b o : Nat) (w : World) (d st sz off len : Nat) (capd : Bool) (u : Value) : Prop :=
  d ≤ off ∧ off + len ≤ st ∧ ∃ a cap, u = .slice (some a) len cap ∧ len ≤ cap ∧ (capd = true → cap = len) ∧ (0 < cap → a = ⟨b, o + (off - d) * sz, none⟩) ∧
    (capd = false → ∃ arr e fr, w.heap[b]? = some (.cells arr e fr) ∧ arr.size = o + (off - d + cap) * sz)
/-- A cell's value that leads nowhere but into immutable memory or the heap's objects (no function value). -/
def RepA (B : Nat → Prop) (β : Nat → Nat × Nat) (H : Heap) (w : World) : C → Value → Prop
  | .sc v, u => plain v = true ∧ u = v
  | .sl b nil capd cells n, u => ∃ a cap xs, u = .slice a n cap ∧ SlOk (fun x => Free β H w x ∧ (b = false → ¬ B x)) w nil capd n a cap xs ∧ RepIL (fun x => Free β H w x ∧ ¬ B x) w cells xs
  | .row id st off len capd, u => ∃ pu mu d st' sz cells, H[id]? = some (.row pu mu d st' sz cells) ∧ st ≤ st' ∧ (∃ a l c, u = .slice (some a) l c) ∧ (st = st' → HdrOk (β id).1 (β id).2 w d st sz off len capd u)
  | .ptr id off, u => ∃ cells, H[id]? = some (.obj cells) ∧ u = .pointer (some ⟨(β id).1, off, none⟩)
  | .rd cells, u => ∃ ad xs, u = .pointer (some ad) ∧ RepIL (fun x => Free β H w x ∧ ¬ B x) w cells xs ∧
      (xs ≠ [] → ad.spot = none ∧ Free β H w ad.block ∧ ∀ j x, xs[j]? = some x → w.cell? ⟨ad.block, ad.off + j, none⟩ = some x)
  | .ra id st pos, u => ∃ pu mu d st' sz cells, H[id]? = some (.row pu mu d st' sz cells) ∧ st ≤ st' ∧ (∃ a, u = .pointer (some a)) ∧ (st = st' → d * sz ≤ pos ∧ u = .pointer (some ⟨(β id).1, (β id).2 + (pos - d * sz), none⟩))
  | .mp id, u => ∃ v, H[id]? = some (.map v) ∧ v.isMap = true ∧ u = .map (some (β id).1)
  | .it id, u => ∃ v, H[id]? = some (.map v) ∧ v.isIter = true ∧ u = .pointer (some ⟨(β id).1, 0, none⟩)
  | .fn _ _ _, _ => False
  | .dead, _ => False
def Rep (B : Nat → Prop) (β : Nat → Nat × Nat) (H : Heap) (w : World) : C → Value → Prop
  | .fn f first cap, u => ∃ us vs : List Value, u = .func f us.toArray vs.toArray ∧ All2 (RepA B β H w) first us ∧ All2 (RepA B β H w) cap vs
  | .dead, _ => True
  | c, u => RepA B β H w c u
def RepY (B : Nat → Prop) (β : Nat → Nat × Nat) (H : Heap) (w : World) : Y → Value → Prop
  | .one c, u => Rep B β H w c u
  | .agg cs, u => ∃ xs : List Value, u = .agg xs.toArray ∧ All2 (Rep B β H w) cs xs
def RepX (B : Nat → Prop) (β : Nat → Nat × Nat) (H : Heap) (w : World) : X → Value → Prop
  | .y v, u => RepY B β H w v u
  | .tup vs, u => ∃ xs : List Value, u = .tuple xs.toArray ∧ All2 (RepY B β H w) vs xs
def EnvR (B : Nat → Prop) (β : Nat → Nat × Nat) (H : Heap) (w : World) (e : Env) (tmps : Array Value) : Prop :=
  ∀ t, RepX B β H w (get e t) (tmps.getD t undef)
/-! ### The heap -/
/-- A map that holds just that, in some order. -/
def BagOk (es : List (Value × Value)) (es' : Array MapEntry) (clock : Nat) : Prop :=
  (es'.toList.map fun e => (e.key, e.val)).Perm es ∧ (es'.toList.map fun e => e.born).Nodup ∧ ∀ e ∈ es'.toList, e.born < clock
def ObjOk (B : Nat → Prop) (β : Nat → Nat × Nat) (H : Heap) (w : World) (id : Nat) : O → Prop
  | .row pu _ d st sz cells => 0 < sz ∧ d ≤ st ∧ cells.length = (st - d) * sz ∧ (pu = true → cells.all C.imm = true) ∧
      ∃ arr e, w.heap[(β id).1]? = some (.cells arr e (0, 0)) ∧ (β id).2 + cells.length ≤ arr.size ∧ All2 (Rep B β H w) cells ((arr.toList.drop (β id).2).take cells.length)
  | .obj cells => (β id).2 = 0 ∧ ∃ arr e, w.heap[(β id).1]? = some (.cells arr e (0, 0)) ∧ All2 (Rep B β H w) cells arr.toList
  | .map (.map es clock) => w.heap[(β id).1]? = some (.map es clock)
  | .map (.iter m since seen last) => w.heap[(β id).1]? = some (.mapIter (m.map fun j => (β j).1) since seen last) ∧ ∀ j, m = some j → ∃ v, H[j]? = some (.map v) ∧ v.isMap = true
  | .map .hole => True
  | .map (.fro _) => False
  | .map (.bag es) => ∃ es' clock, w.heap[(β id).1]? = some (.map es' clock) ∧ BagOk es es' clock
structure StR (B : Nat → Prop) (β : Nat → Nat × Nat) (H : Heap) (w : World) : Prop where
  inb : ∀ id o, H[id]? = some o → o.there = true → (β id).1 < w.heap.size
  inj : ∀ i j oi oj, H[i]? = some oi → oi.there = true → H[j]? = some oj → oj.there = true → (β i).1 = (β j).1 → i = j
  bor : ∀ id o, H[id]? = some o → o.there = true → ¬ B (β id).1
  blt : ∀ b, B b → b < w.heap.size
  live : ∀ id o, H[id]? = some o → ObjOk B β H w id o
/-- What becomes of one thing in the heap. -/
def Kept (w w' : World) (p p' : Nat × Nat) : O → O → Prop
  | .obj cs, .obj cs' => cs'.length = cs.length ∧ p' = p
  | .row pu _ d st sz _, .row pu' _ d' st' sz' _ => pu' = pu ∧ sz' = sz ∧ st ≤ st' ∧
      (st' = st → p' = p ∧ d' = d ∧ ∀ arr e fr, w.heap[p.1]? = some (.cells arr e fr) → ∃ arr' e' fr', w'.heap[p.1]? = some (.cells arr' e' fr') ∧ arr'.size = arr.size)
  | .map .hole, _ => True
  | .map v, .map v' => p' = p ∧ v'.isIter = v.isIter ∧ v'.isMap = v.isMap ∧ v' ≠ .hole
  | _, _ => False
structure Stp (β : Nat → Nat × Nat) (H : Heap) (w : World) (β' : Nat → Nat × Nat) (H' : Heap) (w' : World) : Prop where
  os : w'.os = w.os
  tape : w'.tape = w.tape
  output : w'.output = w.output
  size : w.heap.size ≤ w'.heap.size
  free : ∀ b, Free β H w b → w'.heap[b]? = w.heap[b]? ∧ Free β' H' w' b
  ids : ∀ id o, H[id]? = some o → ∃ o', H'[id]? = some o' ∧ Kept w w' (β id) (β' id) o o'
theorem Kept.refl (w : World) (p : Nat × Nat) : ∀ o, Kept w w p p o o
  | .obj _ => ⟨rfl, rfl⟩
  | .row .. => ⟨rfl, rfl, Nat.le_refl _, fun _ => ⟨rfl, rfl, fun arr e fr h => ⟨arr, e, fr, h, rfl⟩⟩⟩
  | .map .hole => trivial
  | .map (.fro _) => ⟨rfl, rfl, rfl, by simp⟩
  | .map (.map _ _) => ⟨rfl, rfl, rfl, by simp⟩
  | .map (.bag _) => ⟨rfl, rfl, rfl, by simp⟩
  | .map (.iter _ _ _ _) => ⟨rfl, rfl, rfl, by simp⟩
theorem Kept.hole (w w' : World) (p p' : Nat × Nat) (o : O) : Kept w w' p p' (.map .hole) o := by cases o <;> trivial
theorem Kept.mapSame (w w' : World) (p : Nat × Nat) (v : MapV) : Kept w w' p p (.map v) (.map v) := by
  cases v with
  | hole => trivial
  | _ => exact ⟨rfl, rfl, rfl, by simp⟩
theorem Kept.map_iff {w w' : World} {p p' : Nat × Nat} {v : MapV} {o : O} (hv : v ≠ .hole) : Kept w w' p p' (.map v) o ↔ ∃ v', o = .map v' ∧ p' = p ∧ v'.isIter = v.isIter ∧ v'.isMap = v.isMap ∧ v' ≠ .hole := by
  cases v with
  | hole => exact absurd rfl hv
  | _ =>
    cases o with
    | map v' => constructor
                · intro h; exact ⟨v', rfl, h⟩
                · rintro ⟨_, e, h⟩; cases e; exact h
    | row _ _ _ _ _ _ => constructor
                         · intro h; exact h.elim
                         · rintro ⟨_, e, _⟩; cases e
    | obj _ => constructor
               · intro h; exact h.elim
               · rintro ⟨_, e, _⟩; cases e
theorem Stp.refl (β : Nat → Nat × Nat) (H : Heap) (w : World) : Stp β H w β H w :=
  ⟨rfl, rfl, rfl, Nat.le_refl _, fun _ h => ⟨rfl, h⟩, fun _ o h => ⟨o, h, Kept.refl w _ o⟩⟩
theorem Kept.trans {w w' w'' : World} {p p' p'' : Nat × Nat} : ∀ {o o' o'' : O}, Kept w w' p p' o o' → Kept w' w'' p' p'' o' o'' → Kept w w'' p p'' o o''
  | .obj _, .obj _, .obj _, h, k => ⟨k.1.trans h.1, k.2.trans h.2⟩
  | .row .., .row .., .row .., ⟨a1, a2, a3, a4⟩, ⟨b1, b2, b3, b4⟩ => by
    refine ⟨b1.trans a1, b2.trans a2, Nat.le_trans a3 b3, fun e => ?_⟩
    obtain ⟨p1, d1, h1⟩ := a4 (by omega)
    obtain ⟨p2, d2, h2⟩ := b4 (by omega)
    refine ⟨p2.trans p1, d2.trans d1, fun arr e fr h => ?_⟩
    obtain ⟨arr', e', fr', h', hs⟩ := h1 arr e fr h
    obtain ⟨arr'', e'', fr'', h'', hs'⟩ := h2 arr' e' fr' (by rw [p1]; exact h')
    exact ⟨arr'', e'', fr'', by rw [p1] at h''; exact h'', hs'.trans hs⟩
  | .map v, o', o'', h, k => by
    by_cases hv : v = .hole
    · subst hv; exact Kept.hole _ _ _ _ _
    · obtain ⟨v', rfl, h1, h2, h3, h4⟩ := (Kept.map_iff hv).1 h
      obtain ⟨v'', rfl, k1, k2, k3, k4⟩ := (Kept.map_iff h4).1 k
      exact (Kept.map_iff hv).2 ⟨v'', rfl, k1.trans h1, k2.trans h2, k3.trans h3, k4⟩
  | .obj _, .row .., _, h, _ | .obj _, .map _, _, h, _ | .row .., .obj _, _, h, _ | .row .., .map _, _, h, _ => by simp only [Kept] at h
  | .obj _, .obj _, .row .., _, k | .obj _, .obj _, .map _, _, k | .row .., .row .., .obj _, _, k | .row .., .row .., .map _, _, k => by simp only [Kept] at k
theorem Stp.trans {β β' β'' : Nat → Nat × Nat} {H H' H'' : Heap} {w w' w'' : World} (h : Stp β H w β' H' w') (k : Stp β' H' w' β'' H'' w'') : Stp β H w β'' H'' w'' :=
  ⟨k.os.trans h.os, k.tape.trans h.tape, k.output.trans h.output, Nat.le_trans h.size k.size,
   fun b hb => let ⟨e1, f1⟩ := h.free b hb; let ⟨e2, f2⟩ := k.free b f1; ⟨e2.trans e1, f2⟩,
   fun id o ho => let ⟨o', h', k'⟩ := h.ids id o ho; let ⟨o'', h'', k''⟩ := k.ids id o' h'; ⟨o'', h'', k'.trans k''⟩⟩
section mono
variable {B : Nat → Prop} {β β' : Nat → Nat × Nat} {H H' : Heap} {w w' : World}
theorem Stp.freeB (h : Stp β H w β' H' w') (p : Prop) : ∀ b, (Free β H w b ∧ (p → ¬ B b)) → (Free β' H' w' b ∧ (p → ¬ B b)) ∧ w'.heap[b]? = w.heap[b]? :=
  fun b hb => ⟨⟨(h.free b hb.1).2, hb.2⟩, (h.free b hb.1).1⟩
theorem Stp.freeN (h : Stp β H w β' H' w') : ∀ b, (Free β H w b ∧ ¬ B b) → (Free β' H' w' b ∧ ¬ B b) ∧ w'.heap[b]? = w.heap[b]? :=
  fun b hb => ⟨⟨(h.free b hb.1).2, hb.2⟩, (h.free b hb.1).1⟩
theorem Stp.row (h : Stp β H w β' H' w') {id : Nat} {pu mu : Bool} {d st sz : Nat} {cs : List C} (ho : H[id]? = some (.row pu mu d st sz cs)) :
    ∃ mu' d' st' cs', H'[id]? = some (.row pu mu' d' st' sz cs') ∧ st ≤ st' ∧
      (st' = st → β' id = β id ∧ d' = d ∧ ∀ arr e fr, w.heap[(β id).1]? = some (.cells arr e fr) → ∃ arr' e' fr', w'.heap[(β id).1]? = some (.cells arr' e' fr') ∧ arr'.size = arr.size) := by
  obtain ⟨o', h', k⟩ := h.ids id _ ho
  cases o' with
  | row pu' mu' d' st' sz' cs' =>
    obtain ⟨rfl, rfl, hle, hk⟩ := k
    exact ⟨mu', d', st', cs', h', hle, hk⟩
  | obj _ => simp only [Kept] at k
  | map _ => simp only [Kept] at k
theorem RepA.mono (h : Stp β H w β' H' w') : ∀ {c : C} {u : Value}, RepA B β H w c u → RepA B β' H' w' c u
  | .sc v, u, hr => hr
  | .sl b nil capd cells n, u, hr => by
    obtain ⟨a, cap, xs, hu, ho, hl⟩ := hr
    exact ⟨a, cap, xs, hu, ho.mono (h.freeB _), RepIL.mono h.freeN _ _ hl⟩
  | .row id st off len capd, u, hr => by
    obtain ⟨pu, mu, d, st', sz, cells, ho, hle, hu0, hh⟩ := hr
    obtain ⟨mu', d', st'', cs', ho', hle', hk⟩ := h.row ho
    refine ⟨pu, mu', d', st'', sz, cs', ho', Nat.le_trans hle hle', hu0, fun e => ?_⟩
    subst e
    have e' : st = st' := by omega
    subst e'
    obtain ⟨hβ, hd, hblk⟩ := hk rfl
    obtain ⟨h1, h2, a, cap, hu, h3, h4, h5, h6⟩ := hh rfl
    rw [hβ, hd]
    refine ⟨h1, h2, a, cap, hu, h3, h4, h5, fun hc => ?_⟩
    obtain ⟨arr, e, fr, hb, hs⟩ := h6 hc
    obtain ⟨arr', e', fr', hb', hs'⟩ := hblk arr e fr hb
    exact ⟨arr', e', fr', hb', hs'.trans hs⟩
  | .ptr id off, u, hr => by
    obtain ⟨cells, ho, hu⟩ := hr
    obtain ⟨o', h', k⟩ := h.ids id _ ho
    cases o' with
    | obj cs' => exact ⟨cs', h', by rw [k.2]; exact hu⟩
    | row _ _ _ _ _ _ => simp only [Kept] at k
    | map _ => simp only [Kept] at k
  | .rd cells, u, hr => by
    obtain ⟨ad, xs, hu, hl, hc⟩ := hr
    refine ⟨ad, xs, hu, RepIL.mono h.freeN _ _ hl, fun hx => ?_⟩
    obtain ⟨h1, h2, h3⟩ := hc hx
    exact ⟨h1, (h.free _ h2).2, fun j x hj => by rw [← h3 j x hj]; exact World.cell?_of_block (w := w) (w' := w') (a := ⟨ad.block, ad.off + j, none⟩) (h.free _ h2).1⟩
  | .ra id st pos, u, hr => by
    obtain ⟨pu, mu, d, st', sz, cells, ho, hle, hu0, hh⟩ := hr
    obtain ⟨mu', d', st'', cs', ho', hle', hk⟩ := h.row ho
    refine ⟨pu, mu', d', st'', sz, cs', ho', Nat.le_trans hle hle', hu0, fun e => ?_⟩
    subst e
    have e' : st = st' := by omega
    subst e'
    obtain ⟨hβ, hd, _⟩ := hk rfl
    rw [hβ, hd]
    exact hh rfl
  | .mp id, u, hr => by
    obtain ⟨v, ho, hv, hu⟩ := hr
    obtain ⟨o', h', k⟩ := h.ids id _ ho
    obtain ⟨v', rfl, k1, k2, k3, _⟩ := (Kept.map_iff (by rintro rfl; cases hv)).1 k
    exact ⟨v', h', by rw [k3]; exact hv, by rw [k1]; exact hu⟩
  | .it id, u, hr => by
    obtain ⟨v, ho, hv, hu⟩ := hr
    obtain ⟨o', h', k⟩ := h.ids id _ ho
    obtain ⟨v', rfl, k1, k2, _⟩ := (Kept.map_iff (by rintro rfl; cases hv)).1 k
    exact ⟨v', h', by rw [k2]; exact hv, by rw [k1]; exact hu⟩
  | .fn _ _ _, _, hr => hr
  | .dead, _, hr => hr
theorem Rep.mono (h : Stp β H w β' H' w') {c : C} {u : Value} (hr : Rep B β H w c u) : Rep B β' H' w' c u := by
  cases c with
  | fn f first cap =>
    obtain ⟨us, vs, hu, h1, h2⟩ := hr
    exact ⟨us, vs, hu, h1.mono fun _ _ => RepA.mono h, h2.mono fun _ _ => RepA.mono h⟩
  | dead => trivial
  | sc v => exact RepA.mono (B := B) (c := .sc v) h hr
  | sl b nil capd cells n => exact RepA.mono (B := B) (c := .sl b nil capd cells n) h hr
  | row id st off len capd => exact RepA.mono (B := B) (c := .row id st off len capd) h hr
  | ptr id off => exact RepA.mono (B := B) (c := .ptr id off) h hr
  | rd cells => exact RepA.mono (B := B) (c := .rd cells) h hr
  | ra id st pos => exact RepA.mono (B := B) (c := .ra id st pos) h hr
  | mp id => exact RepA.mono (B := B) (c := .mp id) h hr
  | it id => exact RepA.mono (B := B) (c := .it id) h hr
theorem RepY.mono (h : Stp β H w β' H' w') : ∀ {c : Y} {u : Value}, RepY B β H w c u → RepY B β' H' w' c u
  | .one _, _, hr => Rep.mono h hr
  | .agg _, _, hr => let ⟨xs, hu, ha⟩ := hr; ⟨xs, hu, ha.mono fun _ _ => Rep.mono h⟩
theorem RepX.mono (h : Stp β H w β' H' w') : ∀ {c : X} {u : Value}, RepX B β H w c u → RepX B β' H' w' c u
  | .y _, _, hr => RepY.mono h hr
  | .tup _, _, hr => let ⟨xs, hu, ha⟩ := hr; ⟨xs, hu, ha.mono fun _ _ => RepY.mono h⟩
theorem EnvR.mono (h : Stp β H w β' H' w') {e : Env} {tmps : Array Value} (hr : EnvR B β H w e tmps) : EnvR B β' H' w' e tmps :=
  fun t => RepX.mono h (hr t)
end mono
end Go.Lg
