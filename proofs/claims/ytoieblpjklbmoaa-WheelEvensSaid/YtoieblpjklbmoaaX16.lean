/-
 X, part 16: FROM THE CLAIM's READING OF AN ARGUMENT TO X's: shapes of data, their values, their cells.
-/
import Derived.Test.YtoieblpjklbmoaaX15
import Derived.OpenShut
import GoSem.ClaimJoined
namespace Go.Lg
inductive Sh where
 | int (k : IntKind)
 | bool
 | str
 | sl (by_ : Nat) (e : Sh)
 | nil
 | pr (a b : Sh)
 deriving DecidableEq
abbrev Sh.T : Sh → Type
 | .int _ => Int
 | .bool => Bool
 | .str => ByteArray
 | .sl _ e => Bool × List e.T
 | .nil => Unit
 | .pr a b => a.T × b.T
def Sh.cells : Sh → Nat
 | .nil => 0
 | .pr a b => a.cells + b.cells
 | _ => 1
def enc : (s : Sh) → s.T → List C
 | .int k, (n : Int) => [.sc (.int k n)]
 | .bool, (b : Bool) => [.sc (.bool b)]
 | .str, (s : ByteArray) => [.sc (.string s)]
 | .sl _ e, (x : Bool × List e.T) => [.sl false x.1 x.1 (x.2.flatMap (enc e)) x.2.length]
 | .nil, _ => []
 | .pr a b, (x : a.T × b.T) => enc a x.1 ++ enc b x.2
def Val : (s : Sh) → s.T → Prop
 | .int k, (n : Int) => (Lit.int k n).wf = true
 | .bool, _ => True
 | .str, (s : ByteArray) => s.size ≤ reachBytes
 | .sl by_ e, (x : Bool × List e.T) => (x.1 = true → x.2 = []) ∧ x.2.length ≤ maxLen ∧ x.2.length * by_ ≤ reachBytes ∧ ∀ y ∈ x.2, Val e y
 | .nil, _ => True
 | .pr a b, (x : a.T × b.T) => Val a x.1 ∧ Val b x.2
/-- How much a value holds. -/
def szS : (s : Sh) → s.T → Nat
 | .int _, _ | .bool, _ => 1
 | .str, (s : ByteArray) => s.size
 | .sl _ e, (x : Bool × List e.T) => (x.2.map fun y => max 1 (szS e y)).sum
 | .nil, _ => 0
 | .pr a b, (x : a.T × b.T) => szS a x.1 + szS b x.2
/-- A way to count what a reading holds. -/
structure Bulk (H : Type) where
 one : DataW H → Nat
 all : List (DataW H) → Nat
 pos : ∀ d, 1 ≤ one d
 nil : all [] = 0
 cons : ∀ d r, all (d :: r) = one d + all r
 slice : ∀ a b, all a ≤ one (.slice a b)
 agg : ∀ l, all l ≤ one (.agg l)
 str : ∀ b : List UInt8, b.length ≤ one (.lit (.string b))
theorem Bulk.app {H : Type} (k : Bulk H) (a b : List (DataW H)) : k.all (a ++ b) = k.all a + k.all b := by
 induction a with
 | nil => simp [k.nil]
 | cons d r ih => simp only [List.cons_append, k.cons, ih, Nat.add_assoc]
mutual
def fits (P : Program) : Sh → TypeId → Bool
 | .int k, t => match P.underlying t with | some (.int k') => decide (k' = k) | _ => false
 | .bool, t => match P.underlying t with | some .bool => true | _ => false
 | .str, t => match P.underlying t with | some .string => true | _ => false
 | .sl by_ e, t => match P.underlying t with | some (.slice el) => fits P e el && decide (P.cellsOf el = e.cells ∧ 0 < e.cells ∧ P.bytesOf el = by_) | _ => false
 | .nil, t => match P.underlying t with | some (.struct fs) => fs.isEmpty && decide (P.cellsOf t = 0) | some (.array n _) => decide (n = 0 ∧ P.cellsOf t = 0) | _ => false
 | .pr a b, t => match P.underlying t with
  | some (.struct fs) => (match fs.toList with
   | f :: fs => decide (f.offset = 0 ∧ P.cellsOf f.type = a.cells) && fits P a f.type && fitsFs P b fs a.cells
   | [] => false) && decide (P.cellsOf t = a.cells + b.cells)
  | some (.array (n + 1) el) => fits P a el && decide (P.cellsOf el = a.cells) && fitsArr P b n el && decide (P.cellsOf t = a.cells + b.cells)
  | _ => false
def fitsFs (P : Program) : Sh → List Field → Nat → Bool
 | .nil, fs, _ => fs.isEmpty
 | .pr a b, fs, off => match fs with
  | f :: fs => decide (f.offset = off ∧ P.cellsOf f.type = a.cells) && fits P a f.type && fitsFs P b fs (off + a.cells)
  | [] => false
 | _, _, _ => false
def fitsArr (P : Program) : Sh → Nat → TypeId → Bool
 | .nil, n, _ => decide (n = 0)
 | .pr a b, n, el => match n with
  | n + 1 => fits P a el && decide (P.cellsOf el = a.cells) && fitsArr P b n el
  | 0 => false
 | _, _, _ => false
end
section
variable {P : Program} {w : World} {H : Type} {en : TypeId × Value → H}
def Here (w : World) (b : Nat) : Prop := b < w.heap.size
theorem cells_get {a : Addr} {n : Nat} {us : List Value} (h : w.cells? 0 a n = some us) : us.length = n ∧ ∀ j u, us[j]? = some u → w.cell? (a.add j) = some u := by
 unfold World.cells? at h
 simp only [Nat.zero_le, if_true] at h
 have h1 : us.length = n := by simpa using mapM_some_length h
 refine ⟨h1, fun j u hj => ?_⟩
 have hlt : j < n := by rw [List.getElem?_eq_some_iff] at hj; obtain ⟨hj, _⟩ := hj; omega
 have := mapM_some_get h j j (List.getElem?_range hlt)
 rw [hj] at this
 exact this
theorem addr_add_add (a : Addr) (i j : Nat) (h : a.spot = none) : (a.add i).add j = ⟨a.block, a.off + i + j, none⟩ := by
 obtain ⟨b, o, s⟩ := a
 simp only at h; subst h
 rw [Addr.add_lit, Addr.add_lit]
theorem enc_len : ∀ (s : Sh) (x : s.T), (enc s x).length = s.cells
 | .int _, _ => rfl
 | .bool, _ => rfl
 | .str, _ => rfl
 | .sl _ _, _ => rfl
 | .nil, _ => rfl
 | .pr a b, x => by simp only [enc, List.length_append, enc_len a x.1, enc_len b x.2, Sh.cells]
theorem flat_len (e : Sh) (l : List e.T) : (l.flatMap (enc e)).length = l.length * e.cells := by
 induction l with
 | nil => simp
 | cons x l ih => rw [List.flatMap_cons, List.length_append, ih, enc_len, List.length_cons, Nat.add_mul, Nat.one_mul, Nat.add_comm]
theorem all_append {l m : List Nat} {q : Nat → Bool} (h : (l ++ m).all q = true) : l.all q = true ∧ m.all q = true := by
 rw [List.all_append, kA] at h; exact h
theorem weights_mem {e : TypeId} : ∀ {ds : List (DataW H)} {q : Nat → Bool}, (DataW.weightsAll P e ds).all q = true → ∀ d ∈ ds, (d.weights P e).all q = true := by
 intro ds
 induction ds with
 | nil => intro q _ d hd; cases hd
 | cons x ds ih =>
  intro q h d hd
  simp only [DataW.weightsAll] at h
  obtain ⟨h1, h2⟩ := all_append h
  cases hd with
  | head => exact h1
  | tail _ hd => exact ih h2 d hd
abbrev Small (n : Nat) : Bool := decide (n ≤ reachBytes)
def ReadS (P : Program) (w : World) (s : Sh) : Prop := ∀ (H : Type) (en : TypeId × Value → H) (t : TypeId), fits P s t = true → ∀ (fuel : Nat) (cs : List Value) (d : DataW H) (ps : List MemPlace), DataW.trod en P w 0 (fun _ => true) true fuel t cs = some (d, ps) →
 (d.weights P t).all Small = true → ∃ x : s.T, (Val s x ∧ ∀ bk : Bulk H, szS s x ≤ bk.one d) ∧ All2 (RepI (Here w) w) (enc s x) cs
theorem read_elems {e : Sh} (he : ReadS P w e) {el : TypeId} (hf : fits P e el = true) (hc : P.cellsOf el = e.cells) (h0 : 0 < e.cells) {fuel : Nat} {a : Addr} {len : Nat} {xs : List (DataW H × List MemPlace)}
  (hxl : xs.length = len) (hget : ∀ i, i < len → (w.cells? 0 (a.add (i * P.cellsOf el)) (P.cellsOf el)).bind (DataW.trod en P w 0 (fun _ => true) true fuel el) = xs[i]?)
  (hw : (DataW.weightsAll P el (xs.map (·.1))).all Small = true) :
  ∃ l : List e.T, l.length = len ∧ ((∀ x ∈ l, Val e x) ∧ ∀ bk : Bulk H, (l.map fun y => max 1 (szS e y)).sum ≤ bk.all (xs.map (·.1))) ∧ ∃ us : List Value, All2 (RepI (Here w) w) (l.flatMap (enc e)) us ∧ (0 < len → a.spot = none) ∧ ∀ j u, us[j]? = some u → w.cell? ⟨a.block, a.off + j, none⟩ = some u := by
 have hg' : ∀ i, i < len → ∃ us d ps, w.cells? 0 (a.add (i * P.cellsOf el)) (P.cellsOf el) = some us ∧ DataW.trod en P w 0 (fun _ => true) true fuel el us = some (d, ps) ∧ d ∈ xs.map (·.1) ∧ (xs.map (·.1))[i]? = some d := by
  intro i hi
  have hx : xs[i]? = some (xs[i]'(by omega)) := List.getElem?_eq_getElem _
  have := hget i hi
  rw [hx, kB] at this
  obtain ⟨us, h1, h2⟩ := this
  exact ⟨us, (xs[i]'(by omega)).1, (xs[i]'(by omega)).2, h1, h2, List.mem_map.2 ⟨_, List.mem_of_getElem? hx, rfl⟩, by rw [List.getElem?_map, hx]; rfl⟩
 have hspot : 0 < len → a.spot = none := by
  intro hl
  obtain ⟨us, _, _, hus, _, _, _⟩ := hg' 0 hl
  obtain ⟨hul, hu⟩ := cells_get hus
  rw [hc] at hul
  have : us[0]? = some (us[0]'(by omega)) := List.getElem?_eq_getElem _
  have := hu 0 _ this
  rw [Nat.zero_mul, Addr.add_zero', Addr.add_zero'] at this
  unfold World.cell? at this
  split at this
  ·split at this
   ·cases this
   ·rename_i hs; simpa using hs
  ·cases this
 suffices hk : ∀ k, k ≤ len → ∃ l : List e.T, l.length = k ∧ ((∀ x ∈ l, Val e x) ∧ ∀ bk : Bulk H, (l.map fun y => max 1 (szS e y)).sum ≤ bk.all ((xs.map (·.1)).take k)) ∧ ∃ us : List Value, us.length = k * e.cells ∧ All2 (RepI (Here w) w) (l.flatMap (enc e)) us ∧ ∀ j u, us[j]? = some u → w.cell? ⟨a.block, a.off + j, none⟩ = some u by
  obtain ⟨l, h1, h2, us, _, h3, h4⟩ := hk len (Nat.le_refl _)
  exact ⟨l, h1, ⟨h2.1, fun bk => by have := h2.2 bk; rwa [List.take_of_length_le (by simp [hxl])] at this⟩, us, h3, hspot, h4⟩
 intro k
 induction k with
 | zero => intro _; exact ⟨[], rfl, ⟨(fun x hx => by cases hx), fun bk => by simp⟩, [], by simp, .nil, fun j u hj => by simp at hj⟩
 | succ k ih =>
  intro hk
  obtain ⟨l, h1, h2, us, h3, h4, h5⟩ := ih (by omega)
  obtain ⟨vs, d, ps, hvs, htr, hdm, hdk⟩ := hg' k (by omega)
  obtain ⟨hvl, hv⟩ := cells_get hvs
  obtain ⟨x, hx1, hx2⟩ := he H en el hf fuel vs d ps htr (weights_mem hw d hdm)
  refine ⟨l ++ [x], by simp [h1], ⟨fun y hy => ?_, fun bk => ?_⟩, us ++ vs, by rw [List.length_append, h3, hvl, hc, Nat.add_mul, Nat.one_mul], ?_, fun j u hj => ?_⟩
  ·rcases List.mem_append.1 hy with hy | hy
   ·exact h2.1 y hy
   ·simp only [List.mem_singleton] at hy; subst hy; exact hx1.1
  ·have g1 := h2.2 bk
   have g2 := hx1.2 bk
   have g3 := bk.pos d
   rw [List.map_append, List.sum_append, List.take_add_one, hdk, bk.app]
   simp only [List.map_cons, List.map_nil, List.sum_cons, List.sum_nil, Option.toList, bk.cons, bk.nil]
   omega
  ·rw [List.flatMap_append]; simp only [List.flatMap_cons, List.flatMap_nil, List.append_nil]; exact h4.append hx2
  ·by_cases hj' : j < us.length
   ·rw [List.getElem?_append_left hj'] at hj; exact h5 j u hj
   ·rw [List.getElem?_append_right (by omega)] at hj
    have := hv _ u hj
    rw [addr_add_add a _ _ (hspot (by omega)), hc] at this
    rw [show a.off + j = a.off + k * e.cells + (j - us.length) by omega]
    exact this
def ReadFs (P : Program) (w : World) (s : Sh) : Prop := ∀ (H : Type) (en : TypeId × Value → H) (fs : List Field) (off n : Nat) (cs : List Value) (ys : List (DataW H × List MemPlace)), fitsFs P s fs off = true →
 off + s.cells ≤ cs.length → ys.length = fs.length → (∀ (i : Nat) (f : Field), fs[i]? = some f → DataW.trod en P w 0 (fun _ => true) true n f.type ((cs.drop f.offset).take (P.cellsOf f.type)) = ys[i]?) →
 (DataW.weightsEach P (fs.map (·.type)) (ys.map (·.1))).all Small = true → ∃ x : s.T, (Val s x ∧ ∀ bk : Bulk H, szS s x ≤ bk.all (ys.map (·.1))) ∧ All2 (RepI (Here w) w) (enc s x) ((cs.drop off).take s.cells)
def ReadAr (P : Program) (w : World) (s : Sh) : Prop := ∀ (H : Type) (en : TypeId × Value → H) (el : TypeId) (m off n : Nat) (cs : List Value) (ys : List (DataW H × List MemPlace)), fitsArr P s m el = true →
 off + s.cells ≤ cs.length → ys.length = m → (∀ (i : Nat), i < m → DataW.trod en P w 0 (fun _ => true) true n el ((cs.drop (off + i * P.cellsOf el)).take (P.cellsOf el)) = ys[i]?) →
 (DataW.weightsAll P el (ys.map (·.1))).all Small = true → ∃ x : s.T, (Val s x ∧ ∀ bk : Bulk H, szS s x ≤ bk.all (ys.map (·.1))) ∧ All2 (RepI (Here w) w) (enc s x) ((cs.drop off).take s.cells)
theorem take_two {α : Type} (cs : List α) (off a b : Nat) : (cs.drop off).take (a + b) = (cs.drop off).take a ++ (cs.drop (off + a)).take b := by
 rw [List.take_add, List.drop_drop]
theorem pr_fs {a b : Sh} (ha : ReadS P w a) (hb : ReadFs P w b) : ReadFs P w (.pr a b) := by
 intro H en fs off n cs ys hf hl hy hg hw
 cases fs with
 | nil => simp [fitsFs] at hf
 | cons f fs =>
  simp only [fitsFs, kA, decide_eq_true_eq] at hf
  obtain ⟨⟨⟨ho, hc⟩, hfa⟩, hfb⟩ := hf
  simp only [Sh.cells] at hl
  cases ys with
  | nil => simp at hy
  | cons y ys =>
   simp only [List.map_cons, DataW.weightsEach] at hw
   obtain ⟨hw1, hw2⟩ := all_append hw
   have h0 := hg 0 f rfl
   rw [ho, hc] at h0
   obtain ⟨x1, hx1, hr1⟩ := ha H en f.type hfa n _ y.1 y.2 h0 hw1
   obtain ⟨x2, hx2, hr2⟩ := hb H en fs (off + a.cells) n cs ys hfb (by omega) (by simpa using hy) (fun i g hi => hg (i + 1) g (by simpa using hi)) hw2
   refine ⟨(x1, x2), ⟨⟨hx1.1, hx2.1⟩, fun bk => by have g1 := hx1.2 bk; have g2 := hx2.2 bk; simp only [szS, List.map_cons, bk.cons]; omega⟩, ?_⟩
   simp only [enc, Sh.cells]
   rw [take_two]
   exact hr1.append hr2
theorem pr_ar {a b : Sh} (ha : ReadS P w a) (hb : ReadAr P w b) : ReadAr P w (.pr a b) := by
 intro H en el m off n cs ys hf hl hy hg hw
 cases m with
 | zero => simp [fitsArr] at hf
 | succ m =>
  simp only [fitsArr, kA, decide_eq_true_eq] at hf
  obtain ⟨⟨hfa, hc⟩, hfb⟩ := hf
  simp only [Sh.cells] at hl
  cases ys with
  | nil => simp at hy
  | cons y ys =>
   simp only [List.map_cons, DataW.weightsAll] at hw
   obtain ⟨hw1, hw2⟩ := all_append hw
   have h0 := hg 0 (by omega)
   rw [Nat.zero_mul, Nat.add_zero] at h0
   simp only [hc] at h0
   obtain ⟨x1, hx1, hr1⟩ := ha H en el hfa n _ y.1 y.2 h0 hw1
   obtain ⟨x2, hx2, hr2⟩ := hb H en el m (off + a.cells) n cs ys hfb (by omega) (by simpa using hy) (fun i hi => by
    have := hg (i + 1) (by omega)
    rw [Nat.add_mul, Nat.one_mul] at this
    rw [show off + a.cells + i * P.cellsOf el = off + (i * P.cellsOf el + P.cellsOf el) by omega]
    simpa using this) hw2
   refine ⟨(x1, x2), ⟨⟨hx1.1, hx2.1⟩, fun bk => by have g1 := hx1.2 bk; have g2 := hx2.2 bk; simp only [szS, List.map_cons, bk.cons]; omega⟩, ?_⟩
   simp only [enc, Sh.cells]
   rw [take_two]
   exact hr1.append hr2
theorem nil_fs : ReadFs P w .nil := by
 intro H en fs off n cs ys _ _ _ _ _
 exact ⟨(), ⟨trivial, fun bk => Nat.zero_le _⟩, by simp only [enc, Sh.cells, List.take_zero]; exact .nil⟩
theorem nil_ar : ReadAr P w .nil := by
 intro H en el m off n cs ys _ _ _ _ _
 exact ⟨(), ⟨trivial, fun bk => Nat.zero_le _⟩, by simp only [enc, Sh.cells, List.take_zero]; exact .nil⟩
theorem weights_of {H : Type} {t : TypeId} {parts : List (DataW H)} : DataW.weights P t (.agg parts) = match P.underlying t with
  | some (.struct fs) => DataW.weightsEach P (fs.toList.map (·.type)) parts
  | some (.array _ e) => DataW.weightsAll P e parts
  | _ => [] := by rw [DataW.weights]; rfl
theorem read_all : ∀ s : Sh, ReadS P w s ∧ ReadFs P w s ∧ ReadAr P w s := by
 intro s
 induction s with
 | int k =>
  refine ⟨?_, fun H en fs off n cs ys h => by cases fs <;> simp [fitsFs] at h, fun H en el m off n cs ys h => by cases m <;> simp [fitsArr] at h⟩
  intro H en t hf fuel cs d ps h hw
  simp only [fits] at hf
  split at hf
  ·rename_i k' hk
   simp only [decide_eq_true_eq] at hf; subst hf
   obtain ⟨n, rfl, _, hwf⟩ := DataW.trod_int hk h
   exact ⟨n, ⟨hwf, fun bk => bk.pos d⟩, .cons (by rw [RepI]; exact ⟨by rfl, rfl⟩) .nil⟩
  ·cases hf
 | bool =>
  refine ⟨?_, fun H en fs off n cs ys h => by cases fs <;> simp [fitsFs] at h, fun H en el m off n cs ys h => by cases m <;> simp [fitsArr] at h⟩
  intro H en t hf fuel cs d ps h hw
  simp only [fits] at hf
  split at hf
  ·rename_i hk
   obtain ⟨b, rfl, _⟩ := DataW.trod_bool hk h
   exact ⟨b, ⟨trivial, fun bk => bk.pos d⟩, .cons (by rw [RepI]; exact ⟨by rfl, rfl⟩) .nil⟩
  ·cases hf
 | str =>
  refine ⟨?_, fun H en fs off n cs ys h => by cases fs <;> simp [fitsFs] at h, fun H en el m off n cs ys h => by cases m <;> simp [fitsArr] at h⟩
  intro H en t hf fuel cs d ps h hw
  simp only [fits] at hf
  split at hf
  ·rename_i hk
   obtain ⟨s, rfl, hd, _⟩ := DataW.trod_string hk h
   cases hd
   refine ⟨s, ⟨?_, fun bk => by have := bk.str s.data.toList; rw [Array.length_toList] at this; exact this⟩, .cons (by rw [RepI]; exact ⟨by rfl, rfl⟩) .nil⟩
   rw [DataW.weights] at hw
   simp only [List.all_cons, List.all_nil, Bool.and_true, decide_eq_true_eq, Array.length_toList] at hw
   exact hw
  ·cases hf
 | nil =>
  refine ⟨?_, nil_fs, nil_ar⟩
  intro H en t hf fuel cs d ps h hw
  have hl : cs.length = 0 := by
   simp only [fits] at hf
   split at hf
   ·rename_i fs hk
    simp only [kA, decide_eq_true_eq] at hf
    obtain ⟨_, _, _, _, hl, _⟩ := DataW.trod_struct hk h
    rw [hl, hf.2]
   ·rename_i n e hk
    simp only [decide_eq_true_eq] at hf
    obtain ⟨_, _, _, _, hl, _⟩ := DataW.trod_array hk h
    rw [hl, hf.2]
   ·cases hf
  have : cs = [] := by simpa using hl
  subst this
  exact ⟨(), ⟨trivial, fun bk => Nat.zero_le _⟩, .nil⟩
 | sl by_ e ih =>
  refine ⟨?_, fun H en fs off n cs ys h => by cases fs <;> simp [fitsFs] at h, fun H en el m off n cs ys h => by cases m <;> simp [fitsArr] at h⟩
  intro H en t hf fuel cs d ps h hw
  simp only [fits] at hf
  split at hf
  ·rename_i el hk
   simp only [kA, decide_eq_true_eq] at hf
   obtain ⟨hfe, hc, h0, hby⟩ := hf
   rcases DataW.trod_slice hk h with ⟨rfl, hd⟩ | ⟨a, len, cap, elems, rest, n, rfl, rfl, hd, _, hle, hcap, hel, hget, _⟩
   ·refine ⟨(true, []), ⟨⟨fun _ => rfl, Nat.zero_le _, by simp, (fun y hy => by cases hy)⟩, fun bk => by simp [szS]⟩, .cons ?_ .nil⟩
    simp only [RepI]
    refine ⟨trivial, none, 0, [], rfl, ⟨fun _ => ⟨rfl, rfl, rfl⟩, (fun h => by cases h), fun _ => rfl, Nat.le_refl _, fun h => absurd rfl h⟩, ?_⟩
    simp only [List.flatMap_nil, RepIL]
   ·cases hd
    rw [DataW.weights, hk] at hw
    simp only [List.all_cons, kA, decide_eq_true_eq] at hw
    obtain ⟨hw0, hw1⟩ := hw
    obtain ⟨hw1, _⟩ := all_append hw1
    obtain ⟨l, hl, hv, us, hr, hspot, hcell⟩ := read_elems ih.1 hfe hc h0 hel hget hw1
    have hlen : len * by_ ≤ reachBytes := by
     simp only [List.length_map] at hw0
     rw [hel, hby] at hw0
     exact Nat.le_trans (Nat.mul_le_mul_right _ (Nat.le_add_right _ _)) hw0
    refine ⟨(false, l), ⟨⟨fun h => (by cases h), by rw [hl]; omega, by rw [hl]; exact hlen, hv.1⟩, fun bk => Nat.le_trans (hv.2 bk) (bk.slice _ _)⟩, .cons ?_ .nil⟩
    simp only [RepI]
    refine ⟨trivial, some a, cap, us, by rw [hl], ⟨fun h => (by cases h), fun _ => rfl, fun h => (by cases h), by omega, fun hx => ?_⟩, repIL_iff.2 hr⟩
    have hpos : 0 < len := by
     rcases Nat.eq_zero_or_pos len with hz | hz
     ·exfalso
      have : l = [] := List.eq_nil_of_length_eq_zero (by omega)
      subst this
      cases hr
      exact hx rfl
     ·exact hz
    refine ⟨a, rfl, hspot hpos, ?_, hcell⟩
    cases us with
    | nil => exact absurd rfl hx
    | cons u us =>
     have := hcell 0 u rfl
     unfold Here
     unfold World.cell? at this
     split at this
     ·rename_i hb
      exact (Array.getElem?_eq_some_iff.1 hb).1
     ·cases this
  ·cases hf
 | pr a b iha ihb =>
  refine ⟨?_, pr_fs iha.1 ihb.2.1, pr_ar iha.1 ihb.2.2⟩
  intro H en t hf fuel cs d ps h hw
  simp only [fits] at hf
  split at hf
  ·rename_i fs hk
   simp only [kA, decide_eq_true_eq] at hf
   obtain ⟨hf, hct⟩ := hf
   obtain ⟨xs, n, rfl, hd, hl, hxl, hg⟩ := DataW.trod_struct hk h
   cases hd
   rw [weights_of, hk] at hw
   have hfs : fitsFs P (.pr a b) fs.toList 0 = true := by
    simp only [fitsFs]
    split at hf
    ·rename_i f r hr
     simpa [hr] using hf
    ·cases hf
   obtain ⟨x, hx, hr⟩ := pr_fs iha.1 ihb.2.1 H en fs.toList 0 n cs xs hfs (by simp only [Sh.cells]; omega) (by simpa using hxl) (fun i f hi => hg i f (by simpa using hi)) hw
   refine ⟨x, ⟨hx.1, fun bk => Nat.le_trans (hx.2 bk) (bk.agg _)⟩, ?_⟩
   rw [List.drop_zero, List.take_of_length_le (by simp only [Sh.cells]; omega)] at hr
   exact hr
  ·rename_i m el hk
   simp only [kA, decide_eq_true_eq] at hf
   obtain ⟨⟨⟨hfa, hce⟩, hfb⟩, hct⟩ := hf
   obtain ⟨xs, n, rfl, hd, hl, hxl, hg⟩ := DataW.trod_array hk h
   cases hd
   rw [weights_of, hk] at hw
   have hfs : fitsArr P (.pr a b) (m + 1) el = true := by
    simp only [fitsArr, kA, decide_eq_true_eq]
    exact ⟨⟨hfa, hce⟩, hfb⟩
   obtain ⟨x, hx, hr⟩ := pr_ar iha.1 ihb.2.2 H en el (m + 1) 0 n cs xs hfs (by simp only [Sh.cells]; omega) (by simpa using hxl) (fun i hi => by simpa using hg i hi) hw
   refine ⟨x, ⟨hx.1, fun bk => Nat.le_trans (hx.2 bk) (bk.agg _)⟩, ?_⟩
   rw [List.drop_zero, List.take_of_length_le (by simp only [Sh.cells]; omega)] at hr
   exact hr
  ·cases hf
theorem repA_of_here {c : C} {u : Value} (h : RepI (Here w) w c u) : RepA (fun _ => False) (fun _ => (0, 0)) [] w c u := by
 cases c with
 | sc v => simpa only [RepI, RepA] using h
 | sl b nil capd cells n =>
  simp only [RepI] at h
  obtain ⟨rfl, a, cap, xs, rfl, ho, hl⟩ := h
  simp only [RepA]
  have key : ∀ b, Here w b → Free (fun _ => (0, 0)) [] w b := fun b h => ⟨h, fun _ _ h => by simp at h⟩
  exact ⟨a, cap, xs, rfl, ho.mono (fun b h => ⟨⟨key b h, fun _ h => h⟩, rfl⟩), RepIL.mono (fun b h => ⟨⟨key b h, fun h => h⟩, rfl⟩) cells xs hl⟩
 | _ => simp only [RepI] at h
theorem rep_of_here {c : C} {u : Value} (h : RepI (Here w) w c u) : Rep (fun _ => False) (fun _ => (0, 0)) [] w c u := by
 have := repA_of_here h
 cases c <;> first | exact this | (simp only [RepI] at h)
end
end Go.Lg
