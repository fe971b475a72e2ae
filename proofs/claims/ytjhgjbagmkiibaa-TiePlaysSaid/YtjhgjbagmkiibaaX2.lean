/- Lemmas. -/
import Derived.Test.YtjhgjbagmkiibaaX1
import Derived.ProofKit
section
namespace Go.Lg
inductive All2 {α β : Type} (R : α → β → Prop) : List α → List β → Prop where
  | nil : All2 R [] []
  | cons {a : α} {b : β} {l : List α} {m : List β} : R a b → All2 R l m → All2 R (a :: l) (b :: m)
namespace All2
variable {α β : Type} {R : α → β → Prop}
theorem length {l : List α} {m : List β} (h : All2 R l m) : m.length = l.length := by
  induction h with
  | nil => rfl
  | cons _ _ ih => simp [ih]
theorem mono {R' : α → β → Prop} {l : List α} {m : List β} (h : All2 R l m) (f : ∀ a b, R a b → R' a b) : All2 R' l m := by
  induction h with
  | nil => exact .nil
  | cons a _ ih => exact .cons (f _ _ a) ih
theorem mono_mem {R' : α → β → Prop} {l : List α} {m : List β} (h : All2 R l m) (f : ∀ a b, a ∈ l → R a b → R' a b) : All2 R' l m := by
  induction h with
  | nil => exact .nil
  | cons a _ ih => exact .cons (f _ _ (by simp) a) (ih fun a b hm => f a b (by simp [hm]))
theorem append {l l' : List α} {m m' : List β} (h : All2 R l m) (h' : All2 R l' m') : All2 R (l ++ l') (m ++ m') := by
  induction h with
  | nil => exact h'
  | cons a _ ih => exact .cons a ih
theorem take {l : List α} {m : List β} (h : All2 R l m) : ∀ n, All2 R (l.take n) (m.take n) := by
  induction h with
  | nil => intro n; cases n <;> exact .nil
  | cons a _ ih => intro n; cases n with
    | zero => exact .nil
    | succ n => exact .cons a (ih n)
theorem drop {l : List α} {m : List β} (h : All2 R l m) : ∀ n, All2 R (l.drop n) (m.drop n) := by
  induction h with
  | nil => intro n; cases n <;> exact .nil
  | cons a t ih => intro n; cases n with
    | zero => exact .cons a t
    | succ n => exact ih n
theorem get {l : List α} {m : List β} (h : All2 R l m) : ∀ {j : Nat} {a : α}, l[j]? = some a → ∃ b, m[j]? = some b ∧ R a b := by
  induction h with
  | nil => intro j a ha; simp at ha
  | cons r _ ih => intro j a ha; cases j with
    | zero => simp at ha; subst ha; exact ⟨_, rfl, r⟩
    | succ j => simpa using ih (by simpa using ha)
theorem get' {l : List α} {m : List β} (h : All2 R l m) : ∀ {j : Nat} {b : β}, m[j]? = some b → ∃ a, l[j]? = some a ∧ R a b := by
  induction h with
  | nil => intro j a ha; simp at ha
  | cons r _ ih => intro j a ha; cases j with
    | zero => simp at ha; subst ha; exact ⟨_, rfl, r⟩
    | succ j => simpa using ih (by simpa using ha)
theorem mem {l : List α} {m : List β} (h : All2 R l m) {b : β} (hb : b ∈ m) : ∃ a, a ∈ l ∧ R a b := by
  induction h with
  | nil => cases hb
  | cons r _ ih =>
    cases hb with
    | head => exact ⟨_, by simp, r⟩
    | tail _ hb => obtain ⟨a, ha, hr⟩ := ih hb; exact ⟨a, by simp [ha], hr⟩
theorem of_get {l : List α} : ∀ {m : List β}, m.length = l.length → (∀ (j : Nat) (a : α) (b : β), l[j]? = some a → m[j]? = some b → R a b) → All2 R l m := by
  induction l with
  | nil => intro m hl _; cases m with
    | nil => exact .nil
    | cons _ _ => simp at hl
  | cons a l ih => intro m hl h; cases m with
    | nil => simp at hl
    | cons b m => exact .cons (h 0 a b rfl rfl) (ih (by simpa using hl) fun j a b ha hb => h (j + 1) a b (by simpa using ha) (by simpa using hb))
theorem split {l l' : List α} : ∀ {m : List β}, All2 R (l ++ l') m → ∃ m1 m2, m = m1 ++ m2 ∧ All2 R l m1 ∧ All2 R l' m2 := by
  induction l with
  | nil => intro m h; exact ⟨[], m, rfl, .nil, h⟩
  | cons a l ih => intro m h; cases h with
    | cons r t => obtain ⟨m1, m2, rfl, h1, h2⟩ := ih t; exact ⟨_ :: m1, m2, rfl, .cons r h1, h2⟩
end All2
theorem All2.splice {α β : Type} {R : α → β → Prop} {l n : List α} {m k : List β} (h : All2 R l m) (hn : All2 R n k) (off : Nat) : All2 R (splice off n l) (splice off k m) := by
  unfold Lg.splice
  rw [← hn.length]
  exact ((h.take off).append hn).append (h.drop _)
theorem length_splice {α : Type} {off : Nat} {n l : List α} (h : off + n.length ≤ l.length) : (splice off n l).length = l.length := by
  simp [splice]; omega
theorem getElem?_splice {α : Type} {off : Nat} {n l : List α} (h : off + n.length ≤ l.length) (j : Nat) :
    (splice off n l)[j]? = if j < off then l[j]? else if j < off + n.length then n[j - off]? else l[j]? := by
  unfold splice
  rw [List.append_assoc, List.getElem?_append]
  have h1 : (l.take off).length = off := by simp; omega
  rw [h1]
  by_cases hj : j < off
  · simp [hj]
  · rw [if_neg hj, if_neg hj, List.getElem?_append]
    by_cases hk : j < off + n.length
    · rw [if_pos (by omega), if_pos hk]
    · rw [if_neg (by omega), if_neg hk, List.getElem?_drop]
      congr 1; omega
theorem sub_splice {α : Type} {o q k : Nat} {n l : List α} (h : q + n.length ≤ k) (h2 : o + k ≤ l.length) :
    ((splice (o + q) n l).drop o).take k = splice q n ((l.drop o).take k) := by
  apply List.ext_getElem?
  intro j
  rw [List.getElem?_take, List.getElem?_drop, getElem?_splice (by omega), getElem?_splice (by simp; omega), List.getElem?_take, List.getElem?_drop]
  by_cases h1 : j < k <;> by_cases h3 : j < q <;> by_cases h4 : j < q + n.length
  all_goals first | omega | skip
  · rw [if_pos h1, if_pos (by omega), if_pos h3, if_pos h1]
  · rw [if_pos h1, if_neg (by omega), if_pos (by omega), if_neg h3, if_pos h4]; congr 1; omega
  · rw [if_pos h1, if_neg (by omega), if_neg (by omega), if_neg h3, if_neg h4, if_pos h1]
  · rw [if_neg h1, if_neg h3, if_neg h4, if_neg h1]
def O.mut : O → Bool
  | .row _ mu _ _ _ _ => mu
  | .map .hole => false
  | _ => true
def O.there : O → Bool
  | .map .hole => false
  | _ => true
theorem O.hole_of {o : O} (h : o.there = false) : o = .map .hole := by
  cases o with
  | map v => cases v <;> first | rfl | (cases h; done)
  | _ => cases h
def Free (β : Nat → Nat × Nat) (H : Heap) (w : World) (b : Nat) : Prop :=
  b < w.heap.size ∧ ∀ id o, H[id]? = some o → o.mut = true → (β id).1 ≠ b
structure SlOk (S : Nat → Prop) (w : World) (nil capd : Bool) (n : Nat) (a : Option Addr) (cap : Nat) (xs : List Value) : Prop where
  nil1 : nil = true → a = none ∧ n = 0 ∧ cap = 0
  nil0 : nil = false → a.isSome = true
  capd : capd = true → cap = n
  le : n ≤ cap
  cells : xs ≠ [] → ∃ ad, a = some ad ∧ ad.spot = none ∧ S ad.block ∧ ∀ j x, xs[j]? = some x → w.cell? ⟨ad.block, ad.off + j, none⟩ = some x
mutual
def RepI (S : Nat → Prop) (w : World) : C → Value → Prop
  | .sc v, u => plain v = true ∧ u = v
  | .sl b nil capd cells n, u => b = false ∧ ∃ a cap xs, u = .slice a n cap ∧ SlOk S w nil capd n a cap xs ∧ RepIL S w cells xs
  | _, _ => False
def RepIL (S : Nat → Prop) (w : World) : List C → List Value → Prop
  | [], xs => xs = []
  | c :: cs, xs => ∃ x r, xs = x :: r ∧ RepI S w c x ∧ RepIL S w cs r
end
theorem repIL_iff {S : Nat → Prop} {w : World} : ∀ {cs : List C} {xs : List Value}, RepIL S w cs xs ↔ All2 (RepI S w) cs xs := by
  intro cs
  induction cs with
  | nil => intro xs; simp only [RepIL]; constructor
           · rintro rfl; exact .nil
           · intro h; cases h; rfl
  | cons c cs ih =>
    intro xs
    simp only [RepIL]
    constructor
    · rintro ⟨x, r, rfl, h, t⟩; exact .cons h (ih.1 t)
    · intro h; cases h with
      | cons r t => exact ⟨_, _, rfl, r, ih.2 t⟩
theorem SlOk.mono {S S' : Nat → Prop} {w w' : World} {nil capd : Bool} {n : Nat} {a : Option Addr} {cap : Nat} {xs : List Value}
    (h : SlOk S w nil capd n a cap xs) (f : ∀ b, S b → S' b ∧ w'.heap[b]? = w.heap[b]?) : SlOk S' w' nil capd n a cap xs := by
  refine ⟨h.nil1, h.nil0, h.capd, h.le, fun hx => ?_⟩
  obtain ⟨ad, ha, hs, hS, hc⟩ := h.cells hx
  exact ⟨ad, ha, hs, (f _ hS).1, fun j x hj => by rw [← hc j x hj]; exact World.cell?_of_block (w := w) (w' := w') (a := ⟨ad.block, ad.off + j, none⟩) (f _ hS).2⟩
mutual
theorem RepI.mono {S S' : Nat → Prop} {w w' : World} (f : ∀ b, S b → S' b ∧ w'.heap[b]? = w.heap[b]?) : ∀ (c : C) (u : Value), RepI S w c u → RepI S' w' c u
  | .sc v, u, h => by simpa only [RepI] using h
  | .sl b nil capd cells n, u, h => by
    simp only [RepI] at h ⊢
    obtain ⟨hb, a, cap, xs, hu, ho, hl⟩ := h
    exact ⟨hb, a, cap, xs, hu, ho.mono f, RepIL.mono f cells xs hl⟩
  | .row .., _, h | .ptr .., _, h | .rd .., _, h | .ra .., _, h | .mp .., _, h | .it .., _, h | .fn .., _, h | .dead, _, h => by simp only [RepI] at h
theorem RepIL.mono {S S' : Nat → Prop} {w w' : World} (f : ∀ b, S b → S' b ∧ w'.heap[b]? = w.heap[b]?) : ∀ (cs : List C) (xs : List Value), RepIL S w cs xs → RepIL S' w' cs xs
  | [], xs, h => by simpa only [RepIL] using h
  | c :: cs, xs, h => by
    simp only [RepIL] at h ⊢
    obtain ⟨x, r, hx, h1, h2⟩ := h
    exact ⟨x, r, hx, RepI.mono f c x h1, RepIL.mono f cs r h2⟩
end
def HdrOk (b o : Nat) (w : World) (d st sz off len : Nat) (capd : Bool) (u : Value) : Prop :=
  d ≤ off ∧ off + len ≤ st ∧ ∃ a cap, u = .slice (some a) len cap ∧ len ≤ cap ∧ (capd = true → cap = len) ∧ (0 < cap → a = ⟨b, o + (off - d) * sz, none⟩) ∧
    (capd = false → ∃ arr e fr, w.heap[b]? = some (.cells arr e fr) ∧ arr.size = o + (off - d + cap) * sz)
def RepA (B : Nat → Prop) (β : Nat → Nat × Nat) (H : Heap) (w : World) : C → Value → Prop
  | .sc v, u => plain v = true ∧ u = v
  | .sl b nil capd cells n, u => ∃ a cap xs, u = .slice a n cap ∧ SlOk (fun x => Free β H w x ∧ (b = false → ¬ B x)) w nil capd n a cap xs ∧ RepIL (fun x => Free β H w x ∧ ¬ B x) w cells xs
  | .row id st off len capd, u => ∃ pu mu d st' sz cells, H[id]? = some (.row pu mu d st' sz cells) ∧ st ≤ st' ∧ (∃ a l c, u = .slice (some a) l c) ∧ (st = st' → HdrOk (β id).1 (β id).2 w d st sz off len capd u)
  | .ptr id off, u => ∃ cells, H[id]? = some (.obj cells) ∧ u = .pointer (some ⟨(β id).1, off, none⟩)
  | .rd cells, u => ∃ ad xs, u = .pointer (some ad) ∧ RepIL (fun x => Free β H w x ∧ ¬ B x) w cells xs ∧
      (xs ≠ [] → ad.spot = none ∧ Free β H w ad.block ∧ ∀ j x, xs[j]? = some x → w.cell? ⟨ad.block, ad.off + j, none⟩ = some x)
  | .ra id st pos, u => ∃ pu mu d st' sz cells, H[id]? = some (.row pu mu d st' sz cells) ∧ st ≤ st' ∧ (∃ a, u = .pointer (some a)) ∧ (st = st' → d * sz ≤ pos ∧ u = .pointer (some ⟨(β id).1, (β id).2 + (pos - d * sz), none⟩))
  | .mp id, u => ∃ v, H[id]? = some (.map v) ∧ v.isMap = true ∧ u = .map (some (β id).1)
  | .it id, u => ∃ v, H[id]? = some (.map v) ∧ v.isIter = true ∧ u = .pointer (some ⟨(β id).1, 0, none⟩)
  | .fn _ _ _, _ => False
  | .dead, _ => False
def Rep (B : Nat → Prop) (β : Nat → Nat × Nat) (H : Heap) (w : World) : C → Value → Prop
  | .fn f first cap, u => ∃ us vs : List Value, u = .func f us.toArray vs.toArray ∧ All2 (RepA B β H w) first us ∧ All2 (RepA B β H w) cap vs
  | .dead, _ => True
  | c, u => RepA B β H w c u
def RepY (B : Nat → Prop) (β : Nat → Nat × Nat) (H : Heap) (w : World) : Y → Value → Prop
  | .one c, u => Rep B β H w c u
  | .agg cs, u => ∃ xs : List Value, u = .agg xs.toArray ∧ All2 (Rep B β H w) cs xs
def RepX (B : Nat → Prop) (β : Nat → Nat × Nat) (H : Heap) (w : World) : X → Value → Prop
  | .y v, u => RepY B β H w v u
  | .tup vs, u => ∃ xs : List Value, u = .tuple xs.toArray ∧ All2 (RepY B β H w) vs xs
def EnvR (B : Nat → Prop) (β : Nat → Nat × Nat) (H : Heap) (w : World) (e : Env) (tmps : Array Value) : Prop :=
  ∀ t, RepX B β H w (get e t) (tmps.getD t undef)
def BagOk (es : List (Value × Value)) (es' : Array MapEntry) (clock : Nat) : Prop :=
  (es'.toList.map fun e => (e.key, e.val)).Perm es ∧ (es'.toList.map fun e => e.born).Nodup ∧ ∀ e ∈ es'.toList, e.born < clock
def ObjOk (B : Nat → Prop) (β : Nat → Nat × Nat) (H : Heap) (w : World) (id : Nat) : O → Prop
  | .row pu _ d st sz cells => 0 < sz ∧ d ≤ st ∧ cells.length = (st - d) * sz ∧ (pu = true → cells.all C.imm = true) ∧
      ∃ arr e, w.heap[(β id).1]? = some (.cells arr e (0, 0)) ∧ (β id).2 + cells.length ≤ arr.size ∧ All2 (Rep B β H w) cells ((arr.toList.drop (β id).2).take cells.length)
  | .obj cells => (β id).2 = 0 ∧ ∃ arr e, w.heap[(β id).1]? = some (.cells arr e (0, 0)) ∧ All2 (Rep B β H w) cells arr.toList
  | .map (.map es clock) => w.heap[(β id).1]? = some (.map es clock)
  | .map (.iter m since seen last) => w.heap[(β id).1]? = some (.mapIter (m.map fun j => (β j).1) since seen last) ∧ ∀ j, m = some j → ∃ v, H[j]? = some (.map v) ∧ v.isMap = true
  | .map .hole => True
  | .map (.fro _) => False
  | .map (.bag es) => ∃ es' clock, w.heap[(β id).1]? = some (.map es' clock) ∧ BagOk es es' clock
structure StR (B : Nat → Prop) (β : Nat → Nat × Nat) (H : Heap) (w : World) : Prop where
  inb : ∀ id o, H[id]? = some o → o.there = true → (β id).1 < w.heap.size
  inj : ∀ i j oi oj, H[i]? = some oi → oi.there = true → H[j]? = some oj → oj.there = true → (β i).1 = (β j).1 → i = j
  bor : ∀ id o, H[id]? = some o → o.there = true → ¬ B (β id).1
  blt : ∀ b, B b → b < w.heap.size
  live : ∀ id o, H[id]? = some o → ObjOk B β H w id o
def Kept (w w' : World) (p p' : Nat × Nat) : O → O → Prop
  | .obj cs, .obj cs' => cs'.length = cs.length ∧ p' = p
  | .row pu _ d st sz _, .row pu' _ d' st' sz' _ => pu' = pu ∧ sz' = sz ∧ st ≤ st' ∧
      (st' = st → p' = p ∧ d' = d ∧ ∀ arr e fr, w.heap[p.1]? = some (.cells arr e fr) → ∃ arr' e' fr', w'.heap[p.1]? = some (.cells arr' e' fr') ∧ arr'.size = arr.size)
  | .map .hole, _ => True
  | .map v, .map v' => p' = p ∧ v'.isIter = v.isIter ∧ v'.isMap = v.isMap ∧ v' ≠ .hole
  | _, _ => False
structure Stp (β : Nat → Nat × Nat) (H : Heap) (w : World) (β' : Nat → Nat × Nat) (H' : Heap) (w' : World) : Prop where
  os : w'.os = w.os
  tape : w'.tape = w.tape
  output : w'.output = w.output
  size : w.heap.size ≤ w'.heap.size
  free : ∀ b, Free β H w b → w'.heap[b]? = w.heap[b]? ∧ Free β' H' w' b
  ids : ∀ id o, H[id]? = some o → ∃ o', H'[id]? = some o' ∧ Kept w w' (β id) (β' id) o o'
theorem Kept.refl (w : World) (p : Nat × Nat) : ∀ o, Kept w w p p o o
  | .obj _ => ⟨rfl, rfl⟩
  | .row .. => ⟨rfl, rfl, Nat.le_refl _, fun _ => ⟨rfl, rfl, fun arr e fr h => ⟨arr, e, fr, h, rfl⟩⟩⟩
  | .map .hole => trivial
  | .map (.fro _) => ⟨rfl, rfl, rfl, by simp⟩
  | .map (.map _ _) => ⟨rfl, rfl, rfl, by simp⟩
  | .map (.bag _) => ⟨rfl, rfl, rfl, by simp⟩
  | .map (.iter _ _ _ _) => ⟨rfl, rfl, rfl, by simp⟩
theorem Kept.hole (w w' : World) (p p' : Nat × Nat) (o : O) : Kept w w' p p' (.map .hole) o := by cases o <;> trivial
theorem Kept.mapSame (w w' : World) (p : Nat × Nat) (v : MapV) : Kept w w' p p (.map v) (.map v) := by
  cases v with
  | hole => trivial
  | _ => exact ⟨rfl, rfl, rfl, by simp⟩
theorem Kept.map_iff {w w' : World} {p p' : Nat × Nat} {v : MapV} {o : O} (hv : v ≠ .hole) : Kept w w' p p' (.map v) o ↔ ∃ v', o = .map v' ∧ p' = p ∧ v'.isIter = v.isIter ∧ v'.isMap = v.isMap ∧ v' ≠ .hole := by
  cases v with
  | hole => exact absurd rfl hv
  | _ =>
    cases o with
    | map v' => constructor
                · intro h; exact ⟨v', rfl, h⟩
                · rintro ⟨_, e, h⟩; cases e; exact h
    | row _ _ _ _ _ _ => constructor
                         · intro h; exact h.elim
                         · rintro ⟨_, e, _⟩; cases e
    | obj _ => constructor
               · intro h; exact h.elim
               · rintro ⟨_, e, _⟩; cases e
theorem Stp.refl (β : Nat → Nat × Nat) (H : Heap) (w : World) : Stp β H w β H w :=
  ⟨rfl, rfl, rfl, Nat.le_refl _, fun _ h => ⟨rfl, h⟩, fun _ o h => ⟨o, h, Kept.refl w _ o⟩⟩
theorem Kept.trans {w w' w'' : World} {p p' p'' : Nat × Nat} : ∀ {o o' o'' : O}, Kept w w' p p' o o' → Kept w' w'' p' p'' o' o'' → Kept w w'' p p'' o o''
  | .obj _, .obj _, .obj _, h, k => ⟨k.1.trans h.1, k.2.trans h.2⟩
  | .row .., .row .., .row .., ⟨a1, a2, a3, a4⟩, ⟨b1, b2, b3, b4⟩ => by
    refine ⟨b1.trans a1, b2.trans a2, Nat.le_trans a3 b3, fun e => ?_⟩
    obtain ⟨p1, d1, h1⟩ := a4 (by omega)
    obtain ⟨p2, d2, h2⟩ := b4 (by omega)
    refine ⟨p2.trans p1, d2.trans d1, fun arr e fr h => ?_⟩
    obtain ⟨arr', e', fr', h', hs⟩ := h1 arr e fr h
    obtain ⟨arr'', e'', fr'', h'', hs'⟩ := h2 arr' e' fr' (by rw [p1]; exact h')
    exact ⟨arr'', e'', fr'', by rw [p1] at h''; exact h'', hs'.trans hs⟩
  | .map v, o', o'', h, k => by
    by_cases hv : v = .hole
    · subst hv; exact Kept.hole _ _ _ _ _
    · obtain ⟨v', rfl, h1, h2, h3, h4⟩ := (Kept.map_iff hv).1 h
      obtain ⟨v'', rfl, k1, k2, k3, k4⟩ := (Kept.map_iff h4).1 k
      exact (Kept.map_iff hv).2 ⟨v'', rfl, k1.trans h1, k2.trans h2, k3.trans h3, k4⟩
  | .obj _, .row .., _, h, _ | .obj _, .map _, _, h, _ | .row .., .obj _, _, h, _ | .row .., .map _, _, h, _ => by simp only [Kept] at h
  | .obj _, .obj _, .row .., _, k | .obj _, .obj _, .map _, _, k | .row .., .row .., .obj _, _, k | .row .., .row .., .map _, _, k => by simp only [Kept] at k
theorem Stp.trans {β β' β'' : Nat → Nat × Nat} {H H' H'' : Heap} {w w' w'' : World} (h : Stp β H w β' H' w') (k : Stp β' H' w' β'' H'' w'') : Stp β H w β'' H'' w'' :=
  ⟨k.os.trans h.os, k.tape.trans h.tape, k.output.trans h.output, Nat.le_trans h.size k.size,
   fun b hb => let ⟨e1, f1⟩ := h.free b hb; let ⟨e2, f2⟩ := k.free b f1; ⟨e2.trans e1, f2⟩,
   fun id o ho => let ⟨o', h', k'⟩ := h.ids id o ho; let ⟨o'', h'', k''⟩ := k.ids id o' h'; ⟨o'', h'', k'.trans k''⟩⟩
section mono
variable {B : Nat → Prop} {β β' : Nat → Nat × Nat} {H H' : Heap} {w w' : World}
theorem Stp.freeB (h : Stp β H w β' H' w') (p : Prop) : ∀ b, (Free β H w b ∧ (p → ¬ B b)) → (Free β' H' w' b ∧ (p → ¬ B b)) ∧ w'.heap[b]? = w.heap[b]? :=
  fun b hb => ⟨⟨(h.free b hb.1).2, hb.2⟩, (h.free b hb.1).1⟩
theorem Stp.freeN (h : Stp β H w β' H' w') : ∀ b, (Free β H w b ∧ ¬ B b) → (Free β' H' w' b ∧ ¬ B b) ∧ w'.heap[b]? = w.heap[b]? :=
  fun b hb => ⟨⟨(h.free b hb.1).2, hb.2⟩, (h.free b hb.1).1⟩
theorem Stp.row (h : Stp β H w β' H' w') {id : Nat} {pu mu : Bool} {d st sz : Nat} {cs : List C} (ho : H[id]? = some (.row pu mu d st sz cs)) :
    ∃ mu' d' st' cs', H'[id]? = some (.row pu mu' d' st' sz cs') ∧ st ≤ st' ∧
      (st' = st → β' id = β id ∧ d' = d ∧ ∀ arr e fr, w.heap[(β id).1]? = some (.cells arr e fr) → ∃ arr' e' fr', w'.heap[(β id).1]? = some (.cells arr' e' fr') ∧ arr'.size = arr.size) := by
  obtain ⟨o', h', k⟩ := h.ids id _ ho
  cases o' with
  | row pu' mu' d' st' sz' cs' =>
    obtain ⟨rfl, rfl, hle, hk⟩ := k
    exact ⟨mu', d', st', cs', h', hle, hk⟩
  | obj _ => simp only [Kept] at k
  | map _ => simp only [Kept] at k
theorem RepA.mono (h : Stp β H w β' H' w') : ∀ {c : C} {u : Value}, RepA B β H w c u → RepA B β' H' w' c u
  | .sc v, u, hr => hr
  | .sl b nil capd cells n, u, hr => by
    obtain ⟨a, cap, xs, hu, ho, hl⟩ := hr
    exact ⟨a, cap, xs, hu, ho.mono (h.freeB _), RepIL.mono h.freeN _ _ hl⟩
  | .row id st off len capd, u, hr => by
    obtain ⟨pu, mu, d, st', sz, cells, ho, hle, hu0, hh⟩ := hr
    obtain ⟨mu', d', st'', cs', ho', hle', hk⟩ := h.row ho
    refine ⟨pu, mu', d', st'', sz, cs', ho', Nat.le_trans hle hle', hu0, fun e => ?_⟩
    subst e
    have e' : st = st' := by omega
    subst e'
    obtain ⟨hβ, hd, hblk⟩ := hk rfl
    obtain ⟨h1, h2, a, cap, hu, h3, h4, h5, h6⟩ := hh rfl
    rw [hβ, hd]
    refine ⟨h1, h2, a, cap, hu, h3, h4, h5, fun hc => ?_⟩
    obtain ⟨arr, e, fr, hb, hs⟩ := h6 hc
    obtain ⟨arr', e', fr', hb', hs'⟩ := hblk arr e fr hb
    exact ⟨arr', e', fr', hb', hs'.trans hs⟩
  | .ptr id off, u, hr => by
    obtain ⟨cells, ho, hu⟩ := hr
    obtain ⟨o', h', k⟩ := h.ids id _ ho
    cases o' with
    | obj cs' => exact ⟨cs', h', by rw [k.2]; exact hu⟩
    | row _ _ _ _ _ _ => simp only [Kept] at k
    | map _ => simp only [Kept] at k
  | .rd cells, u, hr => by
    obtain ⟨ad, xs, hu, hl, hc⟩ := hr
    refine ⟨ad, xs, hu, RepIL.mono h.freeN _ _ hl, fun hx => ?_⟩
    obtain ⟨h1, h2, h3⟩ := hc hx
    exact ⟨h1, (h.free _ h2).2, fun j x hj => by rw [← h3 j x hj]; exact World.cell?_of_block (w := w) (w' := w') (a := ⟨ad.block, ad.off + j, none⟩) (h.free _ h2).1⟩
  | .ra id st pos, u, hr => by
    obtain ⟨pu, mu, d, st', sz, cells, ho, hle, hu0, hh⟩ := hr
    obtain ⟨mu', d', st'', cs', ho', hle', hk⟩ := h.row ho
    refine ⟨pu, mu', d', st'', sz, cs', ho', Nat.le_trans hle hle', hu0, fun e => ?_⟩
    subst e
    have e' : st = st' := by omega
    subst e'
    obtain ⟨hβ, hd, _⟩ := hk rfl
    rw [hβ, hd]
    exact hh rfl
  | .mp id, u, hr => by
    obtain ⟨v, ho, hv, hu⟩ := hr
    obtain ⟨o', h', k⟩ := h.ids id _ ho
    obtain ⟨v', rfl, k1, k2, k3, _⟩ := (Kept.map_iff (by rintro rfl; cases hv)).1 k
    exact ⟨v', h', by rw [k3]; exact hv, by rw [k1]; exact hu⟩
  | .it id, u, hr => by
    obtain ⟨v, ho, hv, hu⟩ := hr
    obtain ⟨o', h', k⟩ := h.ids id _ ho
    obtain ⟨v', rfl, k1, k2, _⟩ := (Kept.map_iff (by rintro rfl; cases hv)).1 k
    exact ⟨v', h', by rw [k2]; exact hv, by rw [k1]; exact hu⟩
  | .fn _ _ _, _, hr => hr
  | .dead, _, hr => hr
theorem Rep.mono (h : Stp β H w β' H' w') {c : C} {u : Value} (hr : Rep B β H w c u) : Rep B β' H' w' c u := by
  cases c with
  | fn f first cap =>
    obtain ⟨us, vs, hu, h1, h2⟩ := hr
    exact ⟨us, vs, hu, h1.mono fun _ _ => RepA.mono h, h2.mono fun _ _ => RepA.mono h⟩
  | dead => trivial
  | sc v => exact RepA.mono (B := B) (c := .sc v) h hr
  | sl b nil capd cells n => exact RepA.mono (B := B) (c := .sl b nil capd cells n) h hr
  | row id st off len capd => exact RepA.mono (B := B) (c := .row id st off len capd) h hr
  | ptr id off => exact RepA.mono (B := B) (c := .ptr id off) h hr
  | rd cells => exact RepA.mono (B := B) (c := .rd cells) h hr
  | ra id st pos => exact RepA.mono (B := B) (c := .ra id st pos) h hr
  | mp id => exact RepA.mono (B := B) (c := .mp id) h hr
  | it id => exact RepA.mono (B := B) (c := .it id) h hr
theorem RepY.mono (h : Stp β H w β' H' w') : ∀ {c : Y} {u : Value}, RepY B β H w c u → RepY B β' H' w' c u
  | .one _, _, hr => Rep.mono h hr
  | .agg _, _, hr => let ⟨xs, hu, ha⟩ := hr; ⟨xs, hu, ha.mono fun _ _ => Rep.mono h⟩
theorem RepX.mono (h : Stp β H w β' H' w') : ∀ {c : X} {u : Value}, RepX B β H w c u → RepX B β' H' w' c u
  | .y _, _, hr => RepY.mono h hr
  | .tup _, _, hr => let ⟨xs, hu, ha⟩ := hr; ⟨xs, hu, ha.mono fun _ _ => RepY.mono h⟩
theorem EnvR.mono (h : Stp β H w β' H' w') {e : Env} {tmps : Array Value} (hr : EnvR B β H w e tmps) : EnvR B β' H' w' e tmps :=
  fun t => RepX.mono h (hr t)
end mono
end Go.Lg
end
section
namespace Go.Lg
def upd (β : Nat → Nat × Nat) (id : Nat) (p : Nat × Nat) : Nat → Nat × Nat := fun i => if i = id then p else β i
theorem upd_same (β : Nat → Nat × Nat) (id : Nat) (p : Nat × Nat) : upd β id p id = p := by simp [upd]
theorem upd_other (β : Nat → Nat × Nat) {id i : Nat} (p : Nat × Nat) (h : i ≠ id) : upd β id p i = β i := by simp [upd, h]
theorem upd_self (β : Nat → Nat × Nat) (id : Nat) : upd β id (β id) = β := by funext i; unfold upd; split <;> simp_all
section
variable {B : Nat → Prop} {β β' : Nat → Nat × Nat} {H H' : Heap} {w w' : World}
theorem lt_of_get {α : Type} {l : List α} {i : Nat} {a : α} (h : l[i]? = some a) : i < l.length := (List.getElem?_eq_some_iff.1 h).1
theorem ObjOk.mono (h : Stp β H w β' H' w') {id : Nat} {o : O} (hβ : β' id = β id) (hb : o.there = true → w'.heap[(β id).1]? = w.heap[(β id).1]?) (ho : ObjOk B β H w id o) : ObjOk B β' H' w' id o := by
  by_cases ht : o.there = true
  case neg => obtain rfl := O.hole_of (by simpa using ht); exact trivial
  replace hb := hb ht
  cases o with
  | row pu mu d st sz cells =>
    obtain ⟨h1, h2, h3, h4, arr, e, h5, h6, h7⟩ := ho
    exact ⟨h1, h2, h3, h4, arr, e, by rw [hβ, hb]; exact h5, by rw [hβ]; exact h6, by rw [hβ]; exact h7.mono fun _ _ => Rep.mono h⟩
  | obj cells =>
    obtain ⟨h1, arr, e, h5, h7⟩ := ho
    exact ⟨by rw [hβ]; exact h1, arr, e, by rw [hβ, hb]; exact h5, h7.mono fun _ _ => Rep.mono h⟩
  | map v =>
    cases v with
    | hole => exact ho
    | fro cs => exact ho
    | map es clock =>
      simp only [ObjOk] at ho ⊢
      rw [hβ, hb]; exact ho
    | bag es =>
      simp only [ObjOk] at ho ⊢
      rw [hβ, hb]; exact ho
    | iter m since seen last =>
      obtain ⟨h1, h2⟩ := ho
      have hm : ∀ j, m = some j → β' j = β j ∧ ∃ v, H'[j]? = some (.map v) ∧ v.isMap = true := by
        intro j hj
        obtain ⟨v, hv, hv2⟩ := h2 j hj
        obtain ⟨o', g1, g2⟩ := h.ids j _ hv
        obtain ⟨v', rfl, k1, _, k3, _⟩ := (Kept.map_iff (by rintro rfl; cases hv2)).1 g2
        exact ⟨k1, v', g1, by rw [k3]; exact hv2⟩
      refine ⟨?_, fun j hj => (hm j hj).2⟩
      rw [hβ, hb, h1]
      cases m with
      | none => rfl
      | some j => simp only [kT, (hm j rfl).1]
theorem O.there_mut {o : O} (h : o.mut = true) : o.there = true := by
  cases o with
  | map v => cases v <;> first | rfl | (cases h; done)
  | _ => rfl
theorem Stp.same (os : w'.os = w.os) (tape : w'.tape = w.tape) (output : w'.output = w.output) (heap : w'.heap = w.heap) : Stp β H w β H w' := by
  refine ⟨os, tape, output, by rw [heap]; exact Nat.le_refl _, fun b hb => ⟨by rw [heap], by rw [heap]; exact hb.1, hb.2⟩, fun id o ho => ⟨o, ho, ?_⟩⟩
  cases o with
  | row => exact ⟨rfl, rfl, Nat.le_refl _, fun _ => ⟨rfl, rfl, fun arr e fr h => ⟨arr, e, fr, by rw [heap]; exact h, rfl⟩⟩⟩
  | obj => exact ⟨rfl, rfl⟩
  | map v => exact Kept.mapSame _ _ _ _
theorem StR.same (hst : StR B β H w) (os : w'.os = w.os) (tape : w'.tape = w.tape) (output : w'.output = w.output) (heap : w'.heap = w.heap) : StR B β H w' :=
  ⟨fun id o h => by rw [heap]; exact hst.inb id o h, hst.inj, hst.bor, fun b h => by rw [heap]; exact hst.blt b h,
   fun id o h => (hst.live id o h).mono (Stp.same os tape output heap) rfl fun _ => by rw [heap]⟩
theorem Kept.same {p : Nat × Nat} {o : O} (hb : o.there = true → w'.heap[p.1]? = w.heap[p.1]?) : Kept w w' p p o o := by
  by_cases ht : o.there = true
  case neg => obtain rfl := O.hole_of (by simpa using ht); exact Kept.hole _ _ _ _ _
  cases o with
  | row => exact ⟨rfl, rfl, Nat.le_refl _, fun _ => ⟨rfl, rfl, fun arr e fr h => ⟨arr, e, fr, by rw [hb ht]; exact h, rfl⟩⟩⟩
  | obj => exact ⟨rfl, rfl⟩
  | map v => exact Kept.mapSame _ _ _ _
structure Turn (β : Nat → Nat × Nat) (w : World) (id : Nat) (o : O) (p' : Nat × Nat) (o' : O) (w' : World) : Prop where
  os : w'.os = w.os
  tape : w'.tape = w.tape
  output : w'.output = w.output
  size : w.heap.size ≤ w'.heap.size
  blk : ∀ b, b < w.heap.size → (b ≠ (β id).1 ∨ o.mut = false) → w'.heap[b]? = w.heap[b]?
  at_ : p'.1 = (β id).1 ∨ w.heap.size ≤ p'.1
  mutb : o'.mut = true → o.mut = true
  kept : Kept w w' (β id) p' o o'
  th : o.there = true
theorem Turn.stp (hst : StR B β H w) {id : Nat} {o o' : O} {p' : Nat × Nat} (ho : H[id]? = some o) (t : Turn β w id o p' o' w') :
    Stp β H w (upd β id p') (H.set id o') w' := by
  have hlt := lt_of_get ho
  refine ⟨t.os, t.tape, t.output, t.size, fun b hb => ⟨t.blk b hb.1 ?_, Nat.lt_of_lt_of_le hb.1 t.size, fun j oj hj hm => ?_⟩, fun j oj hj => ?_⟩
  · by_cases e : b = (β id).1
    · right
      cases hm : o.mut with
      | false => rfl
      | true => exact absurd e.symm (hb.2 id o ho hm)
    · exact .inl e
  · by_cases e : j = id
    · subst e
      rw [upd_same]
      have : o' = oj := by simpa [hlt] using hj
      subst this
      rcases t.at_ with h | h
      · rw [h]; exact hb.2 j o ho (t.mutb hm)
      · have := hb.1; omega
    · rw [upd_other _ _ e]
      rw [List.getElem?_set_ne (fun x => e x.symm)] at hj
      exact hb.2 j oj hj hm
  · by_cases e : j = id
    · subst e
      have : o = oj := by rw [ho] at hj; simpa using hj
      subst this
      exact ⟨o', by simp [hlt], by rw [upd_same]; exact t.kept⟩
    · refine ⟨oj, by rw [List.getElem?_set_ne (fun x => e x.symm)]; exact hj, ?_⟩
      rw [upd_other _ _ e]
      exact Kept.same fun ht => t.blk _ (hst.inb j oj hj ht) (.inl fun x => e (hst.inj j id oj o hj ht ho t.th x))
theorem Turn.str (hst : StR B β H w) {id : Nat} {o o' : O} {p' : Nat × Nat} (ho : H[id]? = some o) (t : Turn β w id o p' o' w') (hlt' : p'.1 < w'.heap.size)
    (hobj : ObjOk B (upd β id p') (H.set id o') w' id o') : StR B (upd β id p') (H.set id o') w' := by
  have hlt := lt_of_get ho
  have hs := t.stp hst ho
  have hget : ∀ j oj, (H.set id o')[j]? = some oj → (j = id ∧ oj = o') ∨ (j ≠ id ∧ H[j]? = some oj) := by
    intro j oj hj
    by_cases e : j = id
    · subst e; left; exact ⟨rfl, by simpa [hlt] using hj.symm⟩
    · right; rw [List.getElem?_set_ne (fun x => e x.symm)] at hj; exact ⟨e, hj⟩
  have hfresh : ∀ j oj, j ≠ id → H[j]? = some oj → oj.there = true → (β j).1 ≠ p'.1 := by
    intro j oj e hj ht
    rcases t.at_ with h | h
    · rw [h]; exact fun x => e (hst.inj j id oj o hj ht ho t.th x)
    · have := hst.inb j oj hj ht; omega
  refine ⟨fun j oj hj ht => ?_, fun i j oi oj hi hti hj htj hij => ?_, fun j oj hj ht => ?_, fun b hb => Nat.lt_of_lt_of_le (hst.blt b hb) t.size, fun j oj hj => ?_⟩
  · rcases hget j oj hj with ⟨rfl, rfl⟩ | ⟨e, hj⟩
    · rw [upd_same]; exact hlt'
    · rw [upd_other _ _ e]; exact Nat.lt_of_lt_of_le (hst.inb j oj hj ht) t.size
  · rcases hget i oi hi with ⟨rfl, rfl⟩ | ⟨ei, hi'⟩ <;> rcases hget j oj hj with ⟨rfl, rfl⟩ | ⟨ej, hj'⟩
    · rfl
    · rw [upd_same, upd_other _ _ ej] at hij; exact absurd hij.symm (hfresh j oj ej hj' htj)
    · rw [upd_same, upd_other _ _ ei] at hij; exact absurd hij (hfresh i oi ei hi' hti)
    · rw [upd_other _ _ ei, upd_other _ _ ej] at hij; exact hst.inj i j oi oj hi' hti hj' htj hij
  · rcases hget j oj hj with ⟨rfl, rfl⟩ | ⟨e, hj⟩
    · rw [upd_same]
      rcases t.at_ with h | h
      · rw [h]; exact hst.bor j o ho t.th
      · intro hb; have := hst.blt _ hb; omega
    · rw [upd_other _ _ e]; exact hst.bor j oj hj ht
  · rcases hget j oj hj with ⟨rfl, rfl⟩ | ⟨e, hj⟩
    · exact hobj
    · exact (hst.live j oj hj).mono hs (upd_other _ _ e) fun ht => t.blk _ (hst.inb j oj hj ht) (.inl fun x => e (hst.inj j id oj o hj ht ho t.th x))
structure New (w : World) (b : Obj) (w' : World) : Prop where
  os : w'.os = w.os
  tape : w'.tape = w.tape
  output : w'.output = w.output
  heap : w'.heap = w.heap.push b
theorem New.size {b : Obj} (n : New w b w') : w'.heap.size = w.heap.size + 1 := by rw [n.heap]; simp
theorem New.old {b : Obj} (n : New w b w') {k : Nat} (h : k < w.heap.size) : w'.heap[k]? = w.heap[k]? := by
  rw [n.heap, Array.getElem?_push, if_neg (by omega)]
theorem New.new {b : Obj} (n : New w b w') : w'.heap[w.heap.size]? = some b := by rw [n.heap]; simp
theorem New.stp0 {b : Obj} (n : New w b w') (hst : StR B β H w) : Stp β H w β H w' := by
  exact ⟨n.os, n.tape, n.output, by rw [n.size]; omega, fun k hk => ⟨n.old hk.1, by have := hk.1; rw [n.size]; omega, hk.2⟩, fun j oj hj => ⟨oj, hj, Kept.same fun ht => n.old (hst.inb j oj hj ht)⟩⟩
theorem New.str0 {b : Obj} (n : New w b w') (hst : StR B β H w) : StR B β H w' :=
  ⟨fun j oj hj ht => by have := hst.inb j oj hj ht; rw [n.size]; omega, hst.inj, hst.bor, fun b hb => by have := hst.blt b hb; rw [n.size]; omega,
   fun j oj hj => (hst.live j oj hj).mono (n.stp0 hst) rfl fun ht => n.old (hst.inb j oj hj ht)⟩
theorem New.free {b : Obj} (n : New w b w') (hst : StR B β H w) : Free β H w' w.heap.size ∧ ¬ B w.heap.size :=
  ⟨⟨by rw [n.size]; omega, fun j oj hj hm e => by have := hst.inb j oj hj (O.there_mut hm); omega⟩, fun hb => by have := hst.blt _ hb; omega⟩
theorem New.stp {b : Obj} (n : New w b w') (hst : StR B β H w) (o : O) (q : Nat) : Stp β H w (upd β H.length (w.heap.size, q)) (H ++ [o]) w' := by
  have hget : ∀ j oj, H[j]? = some oj → (H ++ [o])[j]? = some oj ∧ j ≠ H.length := fun j oj hj => by
    have := lt_of_get hj
    exact ⟨by rw [List.getElem?_append_left this]; exact hj, by omega⟩
  refine ⟨n.os, n.tape, n.output, by rw [n.size]; omega, fun k hk => ⟨n.old hk.1, by have := hk.1; rw [n.size]; omega, fun j oj hj hm => ?_⟩, fun j oj hj => ⟨oj, (hget j oj hj).1, ?_⟩⟩
  · by_cases e : j = H.length
    · subst e; rw [upd_same]; have := hk.1; simp only; omega
    · rw [upd_other _ _ e]
      by_cases hl : j < H.length
      · rw [List.getElem?_append_left hl] at hj; exact hk.2 j oj hj hm
      · rw [List.getElem?_eq_none (by simp; omega)] at hj; cases hj
  · rw [upd_other _ _ (hget j oj hj).2]
    exact Kept.same fun ht => n.old (hst.inb j oj hj ht)
theorem New.str {b : Obj} (n : New w b w') (hst : StR B β H w) (o : O) (q : Nat) (hobj : ObjOk B (upd β H.length (w.heap.size, q)) (H ++ [o]) w' H.length o) :
    StR B (upd β H.length (w.heap.size, q)) (H ++ [o]) w' := by
  have hget : ∀ j oj, (H ++ [o])[j]? = some oj → (j = H.length ∧ oj = o) ∨ (j ≠ H.length ∧ H[j]? = some oj) := by
    intro j oj hj
    by_cases hl : j < H.length
    · rw [List.getElem?_append_left hl] at hj; exact .inr ⟨by omega, hj⟩
    · have hlt := lt_of_get hj
      have : j = H.length := by simp at hlt; omega
      subst this
      exact .inl ⟨rfl, by simpa using hj.symm⟩
  refine ⟨fun j oj hj ht => ?_, fun i j oi oj hi hti hj htj hij => ?_, fun j oj hj ht => ?_, fun b hb => by have := hst.blt b hb; rw [n.size]; omega, fun j oj hj => ?_⟩
  · rcases hget j oj hj with ⟨rfl, rfl⟩ | ⟨e, hj⟩
    · rw [upd_same, n.size]; simp
    · rw [upd_other _ _ e, n.size]; have := hst.inb j oj hj ht; omega
  · rcases hget i oi hi with ⟨rfl, rfl⟩ | ⟨ei, hi'⟩ <;> rcases hget j oj hj with ⟨rfl, rfl⟩ | ⟨ej, hj'⟩
    · rfl
    · rw [upd_same, upd_other _ _ ej] at hij; have := hst.inb j oj hj' htj; simp only at hij; omega
    · rw [upd_same, upd_other _ _ ei] at hij; have := hst.inb i oi hi' hti; simp only at hij; omega
    · rw [upd_other _ _ ei, upd_other _ _ ej] at hij; exact hst.inj i j oi oj hi' hti hj' htj hij
  · rcases hget j oj hj with ⟨rfl, rfl⟩ | ⟨e, hj⟩
    · rw [upd_same]; exact (n.free hst).2
    · rw [upd_other _ _ e]; exact hst.bor j oj hj ht
  · rcases hget j oj hj with ⟨rfl, rfl⟩ | ⟨e, hj⟩
    · exact hobj
    · exact (hst.live j oj hj).mono (n.stp hst o q) (upd_other _ _ e) fun ht => n.old (hst.inb j oj hj ht)
theorem holes_get {l : List Nat} {H : Heap} {i : Nat} {o : O} (h : (holesX l H)[i]? = some o) : H[i]? = some o ∨ (H.length ≤ i ∧ o = .map .hole) := by
  unfold holesX at h
  split at h
  · exact .inl h
  · rw [List.getElem?_append] at h
    split at h
    · exact .inl h
    · rename_i hlt
      right
      rw [List.getElem?_map] at h
      simp only [kM] at h
      obtain ⟨_, _, rfl⟩ := h
      exact ⟨by omega, rfl⟩
theorem holes_old {l : List Nat} {H : Heap} {i : Nat} {o : O} (h : H[i]? = some o) : (holesX l H)[i]? = some o := by
  unfold holesX
  split
  · exact h
  · rw [List.getElem?_append_left (lt_of_get h)]; exact h
theorem holes_at {l : List Nat} {H : Heap} {i : Nat} (h : l.contains i = true) : (holesX l H)[H.length + l.idxOf i]? = some (.map .hole) := by
  have hm : i ∈ l := by simpa using h
  have hlt := List.idxOf_lt_length_iff.2 hm
  unfold holesX
  split
  · cases hm
  · rw [List.getElem?_append_right (by omega), show H.length + List.idxOf i l - H.length = List.idxOf i l by omega, List.getElem?_map, List.getElem?_eq_getElem hlt]
    rfl
theorem holes_stp (l : List Nat) : Stp β H w β (holesX l H) w :=
  ⟨rfl, rfl, rfl, Nat.le_refl _, fun b hb => ⟨rfl, hb.1, fun id o ho hm => by
    rcases holes_get ho with ho | ⟨_, rfl⟩
    · exact hb.2 id o ho hm
    · cases hm⟩, fun id o ho => ⟨o, holes_old ho, Kept.same fun _ => rfl⟩⟩
theorem holes_str (hst : StR B β H w) (l : List Nat) : StR B β (holesX l H) w := by
  have old : ∀ {i : Nat} {o : O}, (holesX l H)[i]? = some o → o.there = true → H[i]? = some o := by
    intro i o h ht
    rcases holes_get h with h | ⟨_, rfl⟩
    · exact h
    · cases ht
  refine ⟨fun id o ho ht => hst.inb id o (old ho ht) ht, fun i j oi oj hi hti hj htj => hst.inj i j oi oj (old hi hti) hti (old hj htj) htj, fun id o ho ht => hst.bor id o (old ho ht) ht, hst.blt, fun id o ho => ?_⟩
  rcases holes_get ho with ho | ⟨_, rfl⟩
  · exact (hst.live id o ho).mono (holes_stp l) rfl fun _ => rfl
  · trivial
theorem New.fill_stp {b : Obj} (n : New w b w') (hst : StR B β H w) {id : Nat} (hh : H[id]? = some (.map .hole)) (o : O) (q : Nat) : Stp β H w (upd β id (w.heap.size, q)) (H.set id o) w' := by
  have hlt := lt_of_get hh
  refine ⟨n.os, n.tape, n.output, by rw [n.size]; omega, fun k hk => ⟨n.old hk.1, by have := hk.1; rw [n.size]; omega, fun j oj hj hm => ?_⟩, fun j oj hj => ?_⟩
  · by_cases e : j = id
    · subst e; rw [upd_same]; have := hk.1; simp only; omega
    · rw [upd_other _ _ e]
      rw [List.getElem?_set_ne (fun x => e x.symm)] at hj
      exact hk.2 j oj hj hm
  · by_cases e : j = id
    · subst e
      rw [hh] at hj
      cases hj
      exact ⟨o, by simp [hlt], Kept.hole _ _ _ _ _⟩
    · exact ⟨oj, by rw [List.getElem?_set_ne (fun x => e x.symm)]; exact hj, by rw [upd_other _ _ e]; exact Kept.same fun ht => n.old (hst.inb j oj hj ht)⟩
theorem New.fill_str {b : Obj} (n : New w b w') (hst : StR B β H w) {id : Nat} (hh : H[id]? = some (.map .hole)) (o : O) (q : Nat) (hobj : ObjOk B (upd β id (w.heap.size, q)) (H.set id o) w' id o) :
    StR B (upd β id (w.heap.size, q)) (H.set id o) w' := by
  have hlt := lt_of_get hh
  have hget : ∀ j oj, (H.set id o)[j]? = some oj → (j = id ∧ oj = o) ∨ (j ≠ id ∧ H[j]? = some oj) := by
    intro j oj hj
    by_cases e : j = id
    · subst e; left; exact ⟨rfl, by simpa [hlt] using hj.symm⟩
    · right; rw [List.getElem?_set_ne (fun x => e x.symm)] at hj; exact ⟨e, hj⟩
  refine ⟨fun j oj hj ht => ?_, fun i j oi oj hi hti hj htj hij => ?_, fun j oj hj ht => ?_, fun b hb => by have := hst.blt b hb; rw [n.size]; omega, fun j oj hj => ?_⟩
  · rcases hget j oj hj with ⟨rfl, rfl⟩ | ⟨e, hj⟩
    · rw [upd_same, n.size]; simp
    · rw [upd_other _ _ e, n.size]; have := hst.inb j oj hj ht; omega
  · rcases hget i oi hi with ⟨rfl, rfl⟩ | ⟨ei, hi'⟩ <;> rcases hget j oj hj with ⟨rfl, rfl⟩ | ⟨ej, hj'⟩
    · rfl
    · rw [upd_same, upd_other _ _ ej] at hij; have := hst.inb j oj hj' htj; simp only at hij; omega
    · rw [upd_same, upd_other _ _ ei] at hij; have := hst.inb i oi hi' hti; simp only at hij; omega
    · rw [upd_other _ _ ei, upd_other _ _ ej] at hij; exact hst.inj i j oi oj hi' hti hj' htj hij
  · rcases hget j oj hj with ⟨rfl, rfl⟩ | ⟨e, hj⟩
    · rw [upd_same]; intro hb; have := hst.blt _ hb; simp only at this; omega
    · rw [upd_other _ _ e]; exact hst.bor j oj hj ht
  · rcases hget j oj hj with ⟨rfl, rfl⟩ | ⟨e, hj⟩
    · exact hobj
    · exact (hst.live j oj hj).mono (n.fill_stp hst hh o q) (upd_other _ _ e) fun ht => n.old (hst.inb j oj hj ht)
end
end Go.Lg
end
section
namespace Go.Lg
structure POk (P : Program) : Prop where
 names : ∀ (f : Nat) (fn : Func), P.funcs[f]? = some fn → (fn.name == "runtime.NumGoroutine") = false
 under : ∀ t i, P.info? t = some i → ∃ d, P.underlying t = some d
 mixed : P.follows .mixedOrders = true
 elems : ∀ t n e, t < P.types.size → P.underlying t = some (.array n e) → ∃ i, P.info? e = some i
 fields : ∀ t fs, t < P.types.size → P.underlying t = some (.struct fs) → ∀ f ∈ fs.toList, ∃ i, P.info? f.type = some i
theorem pv_run {α : Type} {P : Program} (w : World) : ∀ {s : Sem α} {a : α}, pv P s = some a → s.run P w = .ok a w := by
 intro s
 induction s with
 | pure a => intro b h; simp only [pv, kI] at h; subst h; rfl
 | program k ih => intro b h; simp only [pv] at h; simpa only [Sem.run] using ih P h
 | _ => intro b h; simp only [pv] at h; cases h
theorem szT_info {P : Program} {t : TypeId} {n : Nat} (h : szT P t = some n) : ∃ i, P.info? t = some i ∧ i.size = n := by
 unfold szT at h
 exact kM.1 h
theorem run_szT {P : Program} {t : TypeId} {n : Nat} (h : szT P t = some n) (w : World) : (sizeOf t).run P w = .ok n w := by
 obtain ⟨i, hi, rfl⟩ := szT_info h
 simp [sizeOf, typeInfo, hi]
theorem run_isAggT {P : Program} {t : TypeId} {d : TypeDesc} (h : P.underlying t = some d) (w : World) : (isAgg t).run P w = .ok (isAggT P t) w := by
 unfold isAgg isAggT
 simp only [Sem.run_bind, run_underlying h, Result.andThen_ok, h]
 cases d <;> rfl
section
variable {P : Program} {B : Nat → Prop} {β : Nat → Nat × Nat} {H : Heap} {w : World}
theorem rep_ofV (v : Value) : Rep B β H w (C.ofV v) v := by
 cases v with
 | slice a n c =>
  by_cases h : (a.isNone && n == 0 && c == 0) = true
  ·simp only [C.ofV, h, if_true]
   simp only [kA, Option.isNone_iff_eq_none, beq_iff_eq] at h
   obtain ⟨⟨rfl, rfl⟩, rfl⟩ := h
   exact ⟨none, 0, [], rfl, ⟨fun _ => ⟨rfl, rfl, rfl⟩, fun h => (by cases h), fun _ => rfl, Nat.le_refl _, fun h => absurd rfl h⟩, rfl⟩
  ·simp only [C.ofV, h, Bool.false_eq_true, if_false]; trivial
 | func f a b =>
  by_cases h : (a.isEmpty && b.isEmpty) = true
  ·simp only [C.ofV, h, if_true]
   simp only [kA, Array.isEmpty_iff] at h
   obtain ⟨rfl, rfl⟩ := h
   exact ⟨[], [], rfl, .nil, .nil⟩
  ·simp only [C.ofV, h, Bool.false_eq_true, if_false]; trivial
 | pointer a => cases a <;> first | exact ⟨rfl, rfl⟩ | trivial
 | map a => cases a <;> first | exact ⟨rfl, rfl⟩ | trivial
 | bool _ | int _ _ | float _ _ | complex _ _ _ | string _ | nilFunc | nilIface => exact ⟨rfl, rfl⟩
 | chan _ | iface _ _ | agg _ | tuple _ => trivial
theorem repY_ofV (v : Value) : RepY B β H w (Y.ofV v) v := by
 unfold Y.ofV
 split
 ·rename_i cs
  refine ⟨cs.toList, by simp, ?_⟩
  induction cs.toList with
  | nil => exact .nil
  | cons a l ih => exact .cons (rep_ofV a) ih
 ·exact rep_ofV v
theorem rep_toV {c : C} {u a : Value} (h : Rep B β H w c u) (ha : c.toV = some a) : u = a := by
 cases c <;> simp only [C.toV] at ha <;> first | cases ha | skip
 exact h.2
theorem rep_toVs : ∀ {cs : List C} {us : List Value} {vs : List Value}, All2 (Rep B β H w) cs us → cs.mapM C.toV = some vs → us = vs := by
 intro cs
 induction cs with
 | nil => intro us vs h hv; cases h; simp at hv; exact hv.symm
 | cons c cs ih =>
  intro us vs h hv
  cases h with
  | cons r t =>
   simp only [List.mapM_cons, Option.bind_eq_bind, kB] at hv
   obtain ⟨a, ha, vs', hvs, e⟩ := hv
   simp only [Option.pure_def, kI] at e
   rw [← e, rep_toV r ha, ih t hvs]
theorem repY_toV {v : Y} {u a : Value} (h : RepY B β H w v u) (ha : v.toV = some a) : u = a := by
 cases v with
 | one c => exact rep_toV h ha
 | agg cs =>
  obtain ⟨xs, rfl, hx⟩ := h
  simp only [Y.toV, kM] at ha
  obtain ⟨vs, hvs, rfl⟩ := ha
  rw [rep_toVs hx hvs]
theorem repX_toV {v : X} {u a : Value} (h : RepX B β H w v u) (ha : v.toV = some a) : u = a := by
 cases v with
 | y v => exact repY_toV h ha
 | tup vs => cases ha
theorem repX_c {v : X} {u : Value} {c : C} (h : RepX B β H w v u) (hc : v.c? = some c) : Rep B β H w c u := by
 cases v with
 | tup _ => cases hc
 | y v => cases v with
  | agg _ => cases hc
  | one d => simp only [X.c?, kI] at hc; subst hc; exact h
theorem repX_y {v : X} {u : Value} {y : Y} (h : RepX B β H w v u) (hc : v.y? = some y) : RepY B β H w y u := by
 cases v with
 | tup _ => cases hc
 | y v => simp only [X.y?, kI] at hc; subst hc; exact h
theorem repX_int {v : X} {u : Value} {n : Int} (h : RepX B β H w v u) (hc : v.int? = some n) : ∃ k, u = .int k n := by
 unfold X.int? at hc
 split at hc
 ·rename_i k m
  simp only [kI] at hc
  subst hc
  exact ⟨k, h.2⟩
 ·cases hc
theorem rep_one {c : C} {u : Value} (h : Rep B β H w c u) (hl : c.live = true) : u.oneCell' = true := by
 cases c with
 | sc v => obtain ⟨hp, rfl⟩ := h; cases u <;> simp_all [plain, Value.oneCell']
 | sl b nil capd cells n => obtain ⟨a, cap, xs, rfl, _⟩ := h; rfl
 | row id st off len capd =>
  obtain ⟨pu, mu, d, st', sz, cells, ho, hle, ⟨a, l, c, rfl⟩, hh⟩ := h
  rfl
 | ptr id off => obtain ⟨cells, ho, rfl⟩ := h; rfl
 | rd cells => obtain ⟨ad, xs, rfl, _⟩ := h; rfl
 | ra id st pos =>
  obtain ⟨pu, mu, d, st', sz, cells, ho, hle, ⟨a, rfl⟩, hh⟩ := h
  rfl
 | mp id => obtain ⟨es, ho, _, rfl⟩ := h; rfl
 | it id => obtain ⟨es, ho, _, rfl⟩ := h; rfl
 | fn f a b => obtain ⟨us, vs, rfl, _⟩ := h; rfl
 | dead => cases hl
theorem rep_oneCells {c : C} {u : Value} (h : Rep B β H w c u) (hl : c.live = true) : u.cells = #[u] := by
 have := rep_one h hl
 cases u <;> simp_all [Value.oneCell', Value.cells]
theorem repY_cells {v : Y} {u : Value} (h : RepY B β H w v u) (hl : v.cells.all C.live = true) :
  All2 (Rep B β H w) v.cells u.cells.toList ∧ ∀ x ∈ u.cells.toList, x.oneCell' = true := by
 cases v with
 | one c =>
  simp only [Y.cells, List.all_cons, List.all_nil, Bool.and_true] at hl
  rw [rep_oneCells h hl]
  exact ⟨.cons h .nil, by simp [rep_one h hl]⟩
 | agg cs =>
  obtain ⟨xs, rfl, hx⟩ := h
  simp only [Y.cells, Value.cells] at hl ⊢
  refine ⟨hx, fun x hm => ?_⟩
  obtain ⟨c, hc, hr⟩ := hx.mem hm
  exact rep_one hr (by simpa using List.all_eq_true.1 hl c hc)
theorem repY_mk {t : TypeId} {cs : List C} {xs : List Value} {v : Y} (hx : All2 (Rep B β H w) cs xs) (h : mkY (isAggT P t) cs = some v) :
  RepY B β H w v (if isAggT P t then .agg xs.toArray else xs.headD undef) := by
 unfold mkY at h
 split at h
 ·rename_i ha
  simp only [kI] at h
  subst h
  rw [ha]; exact ⟨xs, rfl, hx⟩
 ·rename_i ha
  split at h
  ·simp only [kI] at h
   subst h
   cases hx with
   | cons r t => cases t; simp only [ha, Bool.false_eq_true, if_false]; exact r
  ·cases h
theorem rep_of_repI {c : C} {u : Value} (h : RepI (fun x => Free β H w x ∧ ¬ B x) w c u) : Rep B β H w c u := by
 cases c with
 | sc v => simp only [RepI] at h; exact h
 | sl b nil capd cells n =>
  simp only [RepI] at h
  obtain ⟨rfl, a, cap, xs, hu, ho, hl⟩ := h
  exact ⟨a, cap, xs, hu, ho.mono fun b hb => ⟨⟨hb.1, fun _ => hb.2⟩, rfl⟩, hl⟩
 | _ => simp only [RepI] at h
theorem repI_of_rep {c : C} {u : Value} (h : Rep B β H w c u) (hi : c.imm = true) : RepI (fun x => Free β H w x ∧ ¬ B x) w c u := by
 cases c with
 | sc v => simp only [RepI]; exact h
 | sl b nil capd cells n =>
  cases b with
  | true => cases hi
  | false =>
   obtain ⟨a, cap, xs, hu, ho, hl⟩ := h
   simp only [RepI]
   exact ⟨trivial, a, cap, xs, hu, ho.mono fun b hb => ⟨⟨hb.1, hb.2 rfl⟩, rfl⟩, hl⟩
 | _ => cases hi
theorem rep_of_repIL {cs : List C} {us : List Value} (h : RepIL (fun x => Free β H w x ∧ ¬ B x) w cs us) : All2 (Rep B β H w) cs us :=
 (repIL_iff.1 h).mono fun _ _ => rep_of_repI
theorem repIL_of_rep {cs : List C} {us : List Value} (h : All2 (Rep B β H w) cs us) (hi : cs.all C.imm = true) : RepIL (fun x => Free β H w x ∧ ¬ B x) w cs us :=
 repIL_iff.2 (h.mono_mem fun a _ hm hr => repI_of_rep hr (by simpa using List.all_eq_true.1 hi a hm))
theorem all_sub {p : C → Bool} {cs : List C} {o n : Nat} (h : cs.all p = true) : (sub o n cs).all p = true := by
 rw [List.all_eq_true] at h ⊢
 intro x hx
 exact h x (List.mem_of_mem_drop (List.mem_of_mem_take hx))
theorem cell_at {b o : Nat} {arr : Array Value} {e : TypeId} {fr : Nat × Nat} (hb : w.heap[b]? = some (.cells arr e fr)) (j : Nat) : w.cell? ⟨b, o + j, none⟩ = arr[o + j]? := cell_of_row w b (o + j) arr e fr hb
theorem cell_list {b o : Nat} {arr : Array Value} {e : TypeId} {fr : Nat × Nat} (hb : w.heap[b]? = some (.cells arr e fr)) {n j : Nat} {x : Value} (hj : ((arr.toList.drop o).take n)[j]? = some x) :
  w.cell? ⟨b, o + j, none⟩ = some x := by
 rw [cell_at hb, ← Array.getElem?_toList]
 rw [List.getElem?_take] at hj
 split at hj
 ·simpa using hj
 ·cases hj
theorem ld_sound (hst : StR B β H w) {c : C} {u : Value} (hr : Rep B β H w c u) {n : Nat} (hn : 0 < n) {cs : List C} (h : ldCells H c n = some cs) :
  ∃ ad xs, u = .pointer (some ad) ∧ All2 (Rep B β H w) cs xs ∧ cs.length = n ∧ ∀ j x, xs[j]? = some x → w.cell? (ad.add j) = some x := by
 cases c with
 | ptr id off =>
  simp only [ldCells] at h
  obtain ⟨cells, ho, rfl⟩ := hr
  rw [ho] at h
  simp only [kR, kI] at h
  obtain ⟨hl, rfl⟩ := h
  obtain ⟨h0, arr, e, hb, ha⟩ := hst.live id _ ho
  refine ⟨_, (arr.toList.drop off).take n, rfl, (ha.drop off).take n, by simp [sub]; omega, fun j x hj => ?_⟩
  rw [Addr.add_lit]
  exact cell_list hb hj
 | rd cells =>
  simp only [ldCells, kR, kI] at h
  obtain ⟨hl, rfl⟩ := h
  obtain ⟨ad, xs, rfl, hx, hc⟩ := hr
  have ha := rep_of_repIL hx
  have hlen := ha.length
  have hne : xs ≠ [] := fun e => by subst e; simp at hlen; omega
  obtain ⟨hs, _, hcell⟩ := hc hne
  obtain ⟨b, o, s⟩ := ad
  simp only at hs; subst hs
  refine ⟨_, xs.take n, rfl, ha.take n, by simp; omega, fun j x hj => ?_⟩
  rw [Addr.add_lit]
  refine hcell j x ?_
  rw [List.getElem?_take] at hj
  split at hj
  ·exact hj
  ·cases hj
 | ra id st pos =>
  simp only [ldCells] at h
  obtain ⟨pu, mu, d, st', sz, cells, ho, hle, _, hh⟩ := hr
  rw [ho] at h
  simp only [kR, kI] at h
  obtain ⟨⟨rfl, hd, hl⟩, rfl⟩ := h
  obtain ⟨_, rfl⟩ := hh rfl
  obtain ⟨h1, h2, h3, h4, arr, e, hb, hsz, ha⟩ := hst.live id _ ho
  refine ⟨_, (((arr.toList.drop (β id).2).take cells.length).drop (pos - d * sz)).take n, rfl, (ha.drop _).take n, by simp [sub]; omega, fun j x hj => ?_⟩
  rw [Addr.add_lit]
  rw [List.getElem?_take] at hj
  split at hj
  ·rw [List.getElem?_drop] at hj
   have := cell_list hb hj
   rw [Nat.add_assoc]
   exact this
  ·cases hj
 | _ => simp only [ldCells] at h; cases h
theorem loadVar_run (hP : POk P) {t : TypeId} {n : Nat} (hsz : szT P t = some n) {ad : Addr} {xs : List Value} (hl : xs.length = n) (hn : 0 < n) (h1 : isAggT P t = false → n = 1)
  (hc : ∀ j x, xs[j]? = some x → w.cell? (ad.add j) = some x) : (loadVar t ad).run P w = .ok (if isAggT P t then .agg xs.toArray else xs.headD undef) w := by
 obtain ⟨i, hi, _⟩ := szT_info hsz
 obtain ⟨d, hd⟩ := hP.under t i hi
 unfold loadVar
 simp only [Sem.run_bind, run_isAggT hd, Result.andThen_ok]
 cases hag : isAggT P t with
 | true =>
  have := run_loadCells_list (P := P) w ad xs hc
  simp only [if_true, Sem.run_bind, run_szT hsz, Result.andThen_ok]
  rw [hl] at this
  simp [this]
 | false =>
  have := h1 hag
  subst this
  match xs, hl with
  | [x], _ =>
   have := hc 0 x rfl
   rw [Addr.add_zero'] at this
   simp [run_load, this]
theorem mkY_one {cs : List C} {v : Y} {t : TypeId} (h : mkY (isAggT P t) cs = some v) : isAggT P t = false → cs.length = 1 := by
 intro ha
 rw [ha] at h
 unfold mkY at h
 simp only [Bool.false_eq_true, if_false] at h
 split at h
 ·rfl
 ·cases h
theorem load_sound (hP : POk P) (hst : StR B β H w) {t : TypeId} {c : C} {u : Value} (hr : Rep B β H w c u) {n : Nat} (hsz : szT P t = some n) (hn : 0 < n) {cs : List C} (h : ldCells H c n = some cs)
  {v : Y} (hv : mkY (isAggT P t) cs = some v) : ∃ ad x, u = .pointer (some ad) ∧ (loadVar t ad).run P w = .ok x w ∧ RepY B β H w v x := by
 obtain ⟨ad, xs, rfl, ha, hl, hc⟩ := ld_sound hst hr hn h
 refine ⟨ad, _, rfl, loadVar_run hP hsz (by rw [ha.length, hl]) hn (fun e => by rw [← hl]; exact mkY_one hv e) hc, repY_mk ha hv⟩
theorem imm_sound (hst : StR B β H w) {c : C} {u : Value} (hr : Rep B β H w c u) {c' : C} {H' : Heap} (h : immC H c = some (c', H')) :
  StR B β H' w ∧ Stp β H w β H' w ∧ Rep B β H' w c' u ∧ c'.imm = true ∧ c'.live = true := by
 have other : c.imm = true → c' = c ∧ H' = H → StR B β H' w ∧ Stp β H w β H' w ∧ Rep B β H' w c' u ∧ c'.imm = true ∧ c'.live = true := by
  rintro hi ⟨rfl, rfl⟩
  exact ⟨hst, Stp.refl _ _ _, hr, hi, by cases c' <;> simp_all [C.imm, C.live]⟩
 cases c with
 | row id st off len capd =>
  obtain ⟨pu, mu, d, st', sz, cells, ho, hle, _, hh⟩ := hr
  simp only [immC, ho] at h
  cases pu with
  | false => cases h
  | true =>
   simp only [kR, kI, kP] at h
   obtain ⟨⟨rfl, hd, hl⟩, rfl, rfl⟩ := h
   obtain ⟨_, _, a, cap, rfl, h1, h2, h3, h4⟩ := hh rfl
   obtain ⟨g1, g2, g3, g4, arr, e, hb, hsz, ha⟩ := hst.live id _ ho
   have turn : Turn β w id (.row true mu d st sz cells) (β id) (.row true false d st sz cells) w :=
    ⟨rfl, rfl, rfl, Nat.le_refl _, fun _ _ _ => rfl, .inl rfl, (fun h => by cases h), ⟨rfl, rfl, Nat.le_refl _, fun _ => ⟨rfl, rfl, fun arr e fr h => ⟨arr, e, fr, h, rfl⟩⟩⟩, rfl⟩
   have stp := turn.stp hst ho
   rw [upd_self] at stp
   have str := turn.str hst ho (hst.inb id _ ho rfl) (by rw [upd_self]; exact ⟨g1, g2, g3, g4, arr, e, hb, hsz, ha.mono fun _ _ => Rep.mono stp⟩)
   rw [upd_self] at str
   refine ⟨str, stp, ?_, rfl, rfl⟩
   have hin := lt_of_get ho
   have hfree : Free β (H.set id (.row true false d st sz cells)) w (β id).1 := by
    refine ⟨hst.inb id _ ho rfl, fun j oj hj hm e => ?_⟩
    by_cases ej : j = id
    ·subst ej
     have : O.row true false d st sz cells = oj := by simpa [hin] using hj
     subst this
     cases hm
    ·rw [List.getElem?_set_ne (fun x => ej x.symm)] at hj
     exact ej (hst.inj j id oj _ hj (O.there_mut hm) ho rfl e)
   have hx := ((ha.drop ((off - d) * sz)).take (len * sz)).mono fun _ _ => Rep.mono stp
   refine ⟨some a, cap, _, rfl, ⟨(fun h => by cases h), fun _ => rfl, h2, h1, fun hne => ?_⟩, repIL_of_rep hx (all_sub (g4 rfl))⟩
   have hcap : 0 < cap := by
    rcases Nat.eq_zero_or_pos cap with h | h
    ·exfalso; apply hne
     have : len = 0 := by omega
     simp [this]
    ·exact h
   refine ⟨a, rfl, by rw [h3 hcap], ⟨by rw [h3 hcap]; exact hfree, fun _ => by rw [h3 hcap]; exact hst.bor id _ ho rfl⟩, fun j x hj => ?_⟩
   rw [h3 hcap]
   rw [List.getElem?_take] at hj
   split at hj
   ·rw [List.getElem?_drop] at hj
    have := cell_list hb hj
    simpa only [Nat.add_assoc] using this
   ·cases hj
 | sc v => simp only [immC, C.imm, if_true, kI, kP] at h; exact other rfl ⟨h.1.symm, h.2.symm⟩
 | sl b nil capd cells n =>
  cases b with
  | true => simp [immC, C.imm] at h
  | false => simp only [immC, C.imm, if_true, kI, kP] at h; exact other rfl ⟨h.1.symm, h.2.symm⟩
 | _ => simp [immC, C.imm] at h
theorem immL_sound : ∀ {cs : List C} {us : List Value} {H : Heap} (_ : StR B β H w) (_ : All2 (Rep B β H w) cs us) {cs' : List C} {H' : Heap}, immL H cs = some (cs', H') →
  StR B β H' w ∧ Stp β H w β H' w ∧ All2 (Rep B β H' w) cs' us ∧ cs'.all C.imm = true ∧ cs'.length = cs.length ∧ cs'.all C.live = true := by
 intro cs
 induction cs with
 | nil =>
  intro us H hst hr cs' H' h
  simp only [immL, kI, kP] at h
  obtain ⟨rfl, rfl⟩ := h
  exact ⟨hst, Stp.refl _ _ _, by cases hr; exact .nil, rfl, rfl, rfl⟩
 | cons c cs ih =>
  intro us H hst hr cs' H' h
  cases hr with
  | cons r t =>
   simp only [immL, kB, kM] at h
   obtain ⟨⟨c1, H1⟩, h1, ⟨cs1, H2⟩, h2, h3⟩ := h
   simp only [kP] at h3
   obtain ⟨rfl, rfl⟩ := h3
   obtain ⟨s1, p1, r1, i1, l1⟩ := imm_sound hst r h1
   obtain ⟨s2, p2, r2, i2, e2, l2⟩ := ih s1 (t.mono fun _ _ => Rep.mono p1) h2
   exact ⟨s2, p1.trans p2, .cons (Rep.mono p2 r1) r2, by simp [i1]; simpa using i2, by simp [e2], by simp [l1]; simpa using l2⟩
end
end Go.Lg
end
