/-
 X, part 22: '==' of structs and arrays whose cells stand for any.
-/
import Derived.Test.YtoieblpjklbmoaaX21
import Derived.Laws.StructEq
namespace Go.Lg
section
variable {P : Program} {A : Ann} {H : Heap}
theorem pv_bind {α β : Type} (s : Sem α) (f : α → Sem β) : pv P (s >>= f) = (pv P s).bind fun a => pv P (f a) := by
 show pv P (Sem.bind s f) = _
 induction s with
 | pure a => rfl
 | program k ih => exact ih P
 | _ => rfl
theorem pv_pure {α : Type} (a : α) : pv P (pure a : Sem α) = some a := rfl
theorem pv_program : pv P program = some P := rfl
theorem pv_underlying {t : TypeId} {d : TypeDesc} (h : P.underlying t = some d) : pv P (underlying t) = some d := by
 simp [underlying, pv_bind, pv_program, h]
 try rfl
theorem pv_sizeOf {t : TypeId} {i : TypeInfo} (h : P.info? t = some i) : pv P (sizeOf t) = some i.size := by
 simp [sizeOf, typeInfo, pv_bind, pv_program, h]
 try rfl
theorem pv_equal_int {d : Nat} {t : TypeId} {k k' : IntKind} {a b : Int} (h : P.underlying t = some (.int k')) : pv P (Op.equalIn (d + 1) t (.int k a) (.int k b)) = some (a == b) := by
 simp [Op.equalIn, pv_bind, pv_underlying h]
 try rfl
theorem pv_equal_bool {d : Nat} {t : TypeId} {a b : Bool} (h : P.underlying t = some .bool) : pv P (Op.equalIn (d + 1) t (.bool a) (.bool b)) = some (a == b) := by
 simp [Op.equalIn, pv_bind, pv_underlying h]
 try rfl
def vals : (s : Sh) → s.T → List Value
 | .int k, (n : Int) => [.int k n]
 | .bool, (b : Bool) => [.bool b]
 | .str, (s : ByteArray) => [.string s]
 | .sl _ _, _ => []
 | .nil, _ => []
 | .pr a b, (x : a.T × b.T) => vals a x.1 ++ vals b x.2
def eqb : (s : Sh) → s.T → s.T → Bool
 | .int _, (n : Int), (m : Int) => n == m
 | .bool, (b : Bool), (c : Bool) => b == c
 | .str, (a : ByteArray), (b : ByteArray) => a == b
 | .sl _ _, _, _ => false
 | .nil, _, _ => true
 | .pr a b, (x : a.T × b.T), (y : a.T × b.T) => eqb a x.1 y.1 && eqb b x.2 y.2
mutual
/-- '==' over this type looks at these cells. -/
def eqOK (P : Program) : Sh → TypeId → Bool
 | .int k, t => match P.underlying t with | some (.int k') => decide (k' = k) | _ => false
 | .bool, t => match P.underlying t with | some .bool => true | _ => false
 | .nil, t => match P.underlying t with | some (.struct fs) => fs.isEmpty && !P.stoodInHeld t | some (.array n e) => decide (n = 0) && (P.info? e).isSome | _ => false
 | .pr a b, t => match P.underlying t with
  | some (.struct fs) => !P.stoodInHeld t && (match fs.toList with
   | f :: fs => decide (f.offset = 0 ∧ f.name ≠ "_" ∧ P.cellsOf f.type = a.cells) && (P.info? f.type).isSome && eqOK P a f.type && eqFs P b fs a.cells
   | [] => false)
  | some (.array (n + 1) e) => (P.info? e).isSome && decide (P.cellsOf e = a.cells) && eqOK P a e && eqAr P b n e
  | _ => false
 | _, _ => false
def eqFs (P : Program) : Sh → List Field → Nat → Bool
 | .nil, fs, _ => fs.isEmpty
 | .pr a b, fs, off => match fs with
  | f :: fs => decide (f.offset = off ∧ f.name ≠ "_" ∧ P.cellsOf f.type = a.cells) && (P.info? f.type).isSome && eqOK P a f.type && eqFs P b fs (off + a.cells)
  | [] => false
 | _, _, _ => false
def eqAr (P : Program) : Sh → Nat → TypeId → Bool
 | .nil, n, _ => decide (n = 0)
 | .pr a b, n, e => match n with
  | n + 1 => decide (P.cellsOf e = a.cells) && eqOK P a e && eqAr P b n e
  | 0 => false
 | _, _, _ => false
end
theorem pv_ite {α : Type} (c : Prop) [Decidable c] (a b : Sem α) : pv P (if c then a else b) = if c then pv P a else pv P b := by split <;> rfl
theorem pv_eq_struct {d : Nat} {t : TypeId} {xs ys : Array Value} {fs : Array Field} (ht : P.underlying t = some (.struct fs)) (hp : P.stoodInHeld t = false) :
  pv P (Op.equalIn (d + 1) t (.agg xs) (.agg ys)) = pv P (Op.eqFields d xs ys fs.toList) := by
 simp only [Op.equalIn, pv_bind, pv_underlying ht, pv_program, kS, hp, Bool.false_eq_true, if_false, pv_ite]
 rw [← Array.forIn_toList]
 generalize fs.toList = l
 clear ht
 induction l with
 | nil => simp [Op.eqFields, pv_pure]
 | cons f l ih =>
  simp only [List.forIn_cons, Op.eqFields, pv_bind, pv_ite]
  split
  ·generalize pv P (part f.type xs f.offset) = r1
   cases r1 with
   | none => simp
   | some a =>
    simp only [kS]
    generalize pv P (part f.type ys f.offset) = r2
    cases r2 with
    | none => simp
    | some b =>
     simp only [kS]
     generalize pv P (Op.equalIn d f.type a b) = r3
     cases r3 with
     | none => simp
     | some r =>
      cases r
      ·simp [pv_pure]
      ·simpa [pv_pure, pv_bind] using ih
  ·simpa [pv_pure, pv_bind] using ih
def eqElems (d : Nat) (e : TypeId) (n : Nat) (xs ys : Array Value) : List Nat → Sem Bool
 | [] => pure true
 | i :: r => do
  let a ← part e xs (i * n)
  let b ← part e ys (i * n)
  let q ← Op.equalIn d e a b
  if (!q) = true then pure false else eqElems d e n xs ys r
theorem pv_eq_array {d len : Nat} {t e : TypeId} {i : TypeInfo} {xs ys : Array Value} (ht : P.underlying t = some (.array len e)) (he : P.info? e = some i) :
  pv P (Op.equalIn (d + 1) t (.agg xs) (.agg ys)) = pv P (eqElems d e i.size xs ys (List.range' 0 len)) := by
 simp only [Op.equalIn, pv_bind, pv_underlying ht, pv_sizeOf he, kS]
 rw [Std.Legacy.Range.forIn_eq_forIn_range']
 simp only [Std.Legacy.Range.size, Nat.sub_zero, Nat.add_one_sub_one, Nat.div_one]
 generalize List.range' 0 len 1 = l
 clear ht
 induction l with
 | nil => simp [eqElems, pv_pure]
 | cons f l ih =>
  simp only [List.forIn_cons, eqElems, pv_bind, pv_ite]
  generalize pv P (part e xs (f * i.size)) = r1
  cases r1 with
  | none => simp
  | some a =>
   simp only [kS]
   generalize pv P (part e ys (f * i.size)) = r2
   cases r2 with
   | none => simp
   | some b =>
    simp only [kS]
    generalize pv P (Op.equalIn d e a b) = r3
    cases r3 with
    | none => simp
    | some r =>
     cases r
     ·simp [pv_pure]
     ·simpa [pv_pure, pv_bind] using ih
def valT (P : Program) (t : TypeId) (vs : List Value) : Value := if isAggT P t then .agg vs.toArray else vs.headD undef
theorem pv_isAgg {t : TypeId} {d : TypeDesc} (h : P.underlying t = some d) : pv P (isAgg t) = some (isAggT P t) := by
 unfold isAgg isAggT
 simp only [pv_bind, pv_underlying h, kS, h]
 cases d <;> rfl
theorem pv_part {t : TypeId} {i : TypeInfo} {d : TypeDesc} (hi : P.info? t = some i) (hu : P.underlying t = some d) {pre mid post : List Value} (hm : mid.length = i.size) (h1 : isAggT P t = true ∨ mid.length = 1) :
  pv P (part t (pre ++ mid ++ post).toArray pre.length) = some (valT P t mid) := by
 unfold part
 simp only [pv_bind, pv_isAgg hu, kS, pv_ite]
 unfold valT
 cases ha : isAggT P t with
 | true =>
  simp only [if_true, pv_sizeOf hi, kS, pv_pure]
  rw [← hm]
  simp [List.extract_toArray, List.append_assoc]
 | false =>
  simp only [Bool.false_eq_true, if_false]
  rw [ha] at h1
  obtain ⟨v, hv⟩ := List.length_eq_one_iff.1 (h1.resolve_left (by simp))
  subst hv
  simp [pv_pure]
theorem vals_len {P : Program} : ∀ {s : Sh} {t : TypeId} (_ : eqOK P s t = true) (x : s.T), (vals s x).length = s.cells := by
 suffices h : ∀ s : Sh, (∀ t, eqOK P s t = true → ∀ x : s.T, (vals s x).length = s.cells) ∧ (∀ fs off, eqFs P s fs off = true → ∀ x : s.T, (vals s x).length = s.cells) ∧ (∀ n e, eqAr P s n e = true → ∀ x : s.T, (vals s x).length = s.cells) from
  fun {s t} h' x => (h s).1 t h' x
 intro s
 induction s with
 | int k => exact ⟨fun _ _ _ => rfl, fun _ _ _ _ => rfl, fun _ _ _ _ => rfl⟩
 | bool => exact ⟨fun _ _ _ => rfl, fun _ _ _ _ => rfl, fun _ _ _ _ => rfl⟩
 | str => exact ⟨fun _ _ _ => rfl, fun _ _ _ _ => rfl, fun _ _ _ _ => rfl⟩
 | nil => exact ⟨fun _ _ _ => rfl, fun _ _ _ _ => rfl, fun _ _ _ _ => rfl⟩
 | sl b e ih => exact ⟨fun t h => by simp [eqOK] at h, fun fs _ h => by simp [eqFs] at h, fun n e h => by simp [eqAr] at h⟩
 | pr a b iha ihb =>
  refine ⟨fun t h x => ?_, fun fs off h x => ?_, fun n e h x => ?_⟩
  ·simp only [eqOK] at h
   split at h
   ·simp only [kA] at h
    obtain ⟨_, h⟩ := h
    split at h
    ·simp only [kA] at h
     simp only [vals, List.length_append, Sh.cells, iha.1 _ h.1.2 x.1, ihb.2.1 _ _ h.2 x.2]
    ·cases h
   ·simp only [kA] at h
    simp only [vals, List.length_append, Sh.cells, iha.1 _ h.1.2 x.1, ihb.2.2 _ _ h.2 x.2]
   ·cases h
  ·cases fs with
   | nil => simp [eqFs] at h
   | cons f fs =>
    simp only [eqFs, kA] at h
    simp only [vals, List.length_append, Sh.cells, iha.1 _ h.1.2 x.1, ihb.2.1 _ _ h.2 x.2]
  ·cases n with
   | zero => simp [eqAr] at h
   | succ n =>
    simp only [eqAr, kA] at h
    simp only [vals, List.length_append, Sh.cells, iha.1 _ h.1.2 x.1, ihb.2.2 _ _ h.2 x.2]
def Sh.dep : Sh → Nat
 | .pr a b => max (a.dep + 1) b.dep
 | _ => 1
def EqS (P : Program) (s : Sh) : Prop := ∀ t d (x y : s.T), eqOK P s t = true → s.dep ≤ d → pv P (Op.equalIn d t (valT P t (vals s x)) (valT P t (vals s y))) = some (eqb s x y)
def EqF (P : Program) (s : Sh) : Prop := ∀ fs off d (x y : s.T) (pre pre' : List Value), eqFs P s fs off = true → s.dep ≤ d + 1 → pre.length = off → pre'.length = off →
 pv P (Op.eqFields d (pre ++ vals s x).toArray (pre' ++ vals s y).toArray fs) = some (eqb s x y)
def EqE (P : Program) (s : Sh) : Prop := ∀ n e k d (i : TypeInfo) (x y : s.T) (pre pre' : List Value), eqAr P s n e = true → P.info? e = some i → s.dep ≤ d + 1 → pre.length = k * i.size → pre'.length = k * i.size →
 pv P (eqElems d e i.size (pre ++ vals s x).toArray (pre' ++ vals s y).toArray (List.range' k n)) = some (eqb s x y)
theorem one_cell {s : Sh} {t : TypeId} (h : eqOK P s t = true) : isAggT P t = true ∨ s.cells = 1 := by
 cases s with
 | int k => exact .inr rfl
 | bool => exact .inr rfl
 | str => exact .inr rfl
 | sl _ _ => exact .inr rfl
 | nil =>
  left
  simp only [eqOK] at h
  unfold isAggT
  split at h
  ·rename_i hu; rw [hu]
  ·rename_i hu; rw [hu]
  ·cases h
 | pr a b =>
  left
  simp only [eqOK] at h
  unfold isAggT
  split at h
  ·rename_i hu; rw [hu]
  ·rename_i hu; rw [hu]
  ·cases h
theorem under_of_ok {s : Sh} {t : TypeId} (h : eqOK P s t = true) : ∃ d, P.underlying t = some d := by
 cases hu : P.underlying t with
 | some d => exact ⟨d, rfl⟩
 | none => cases s <;> simp [eqOK, hu] at h
theorem info_cells {t : TypeId} {i : TypeInfo} (h : P.info? t = some i) : P.cellsOf t = i.size := by simp [Program.cellsOf, h]
theorem pr_f {a b : Sh} (ha : EqS P a) (hb : EqF P b) : EqF P (.pr a b) := by
 intro fs off d x y pre pre' h hd hp hp'
 cases fs with
 | nil => simp [eqFs] at h
 | cons f fs =>
  simp only [eqFs, kA, decide_eq_true_eq] at h
  obtain ⟨⟨⟨⟨ho, hn, hc⟩, hi⟩, h1⟩, h2⟩ := h
  obtain ⟨i, hi⟩ := Option.isSome_iff_exists.1 hi
  obtain ⟨dd, hu⟩ := under_of_ok h1
  have hdep : a.dep ≤ d ∧ b.dep ≤ d + 1 := by simp only [Sh.dep] at hd; omega
  have hx := vals_len h1 x.1
  have hy := vals_len h1 y.1
  have hsz := info_cells hi
  simp only [Op.eqFields, vals]
  rw [if_pos hn, ← List.append_assoc, ← List.append_assoc]
  simp only [pv_bind, pv_ite]
  rw [show f.offset = pre.length by omega, pv_part hi hu (by omega) (by rw [hx]; exact one_cell h1)]
  simp only [kS]
  rw [show pre.length = pre'.length by omega, pv_part hi hu (by omega) (by rw [hy]; exact one_cell h1)]
  simp only [kS, ha _ d x.1 y.1 h1 hdep.1]
  have := hb fs (off + a.cells) d x.2 y.2 (pre ++ vals a x.1) (pre' ++ vals a y.1) h2 hdep.2 (by simp [hp, hx]) (by simp [hp', hy])
  rw [this]
  simp only [eqb]
  cases eqb a x.1 y.1 <;> simp [pv_pure]
theorem pr_e {a b : Sh} (ha : EqS P a) (hb : EqE P b) : EqE P (.pr a b) := by
 intro n e k d i x y pre pre' h hi hd hp hp'
 cases n with
 | zero => simp [eqAr] at h
 | succ n =>
  simp only [eqAr, kA, decide_eq_true_eq] at h
  obtain ⟨⟨hc, h1⟩, h2⟩ := h
  obtain ⟨dd, hu⟩ := under_of_ok h1
  have hdep : a.dep ≤ d ∧ b.dep ≤ d + 1 := by simp only [Sh.dep] at hd; omega
  have hx := vals_len h1 x.1
  have hy := vals_len h1 y.1
  have hsz := info_cells hi
  rw [List.range'_succ]
  simp only [eqElems, vals]
  rw [← List.append_assoc, ← List.append_assoc]
  simp only [pv_bind, pv_ite]
  rw [show k * i.size = pre.length by omega, pv_part hi hu (by omega) (by rw [hx]; exact one_cell h1)]
  simp only [kS]
  rw [show pre.length = pre'.length by omega, pv_part hi hu (by omega) (by rw [hy]; exact one_cell h1)]
  simp only [kS, ha _ d x.1 y.1 h1 hdep.1]
  have := hb n e (k + 1) d i x.2 y.2 (pre ++ vals a x.1) (pre' ++ vals a y.1) h2 hi hdep.2 (by rw [List.length_append, hp, hx, Nat.add_mul, Nat.one_mul]; omega) (by rw [List.length_append, hp', hy, Nat.add_mul, Nat.one_mul]; omega)
  rw [this]
  simp only [eqb]
  cases eqb a x.1 y.1 <;> simp [pv_pure]
theorem eq_all : ∀ s : Sh, EqS P s ∧ EqF P s ∧ EqE P s := by
 intro s
 induction s with
 | int k =>
  refine ⟨fun t d x y h hd => ?_, fun fs off d x y _ _ h => by cases fs <;> simp [eqFs] at h, fun n e k d i x y _ _ h => by cases n <;> simp [eqAr] at h⟩
  simp only [eqOK] at h
  split at h
  ·rename_i k' hu
   obtain ⟨d', rfl⟩ : ∃ d', d = d' + 1 := ⟨d - 1, by simp only [Sh.dep] at hd; omega⟩
   have hag : isAggT P t = false := by unfold isAggT; rw [hu]
   simp only [valT, hag, Bool.false_eq_true, if_false, vals, List.headD_cons]
   exact pv_equal_int hu
  ·cases h
 | bool =>
  refine ⟨fun t d x y h hd => ?_, fun fs off d x y _ _ h => by cases fs <;> simp [eqFs] at h, fun n e k d i x y _ _ h => by cases n <;> simp [eqAr] at h⟩
  simp only [eqOK] at h
  split at h
  ·rename_i hu
   obtain ⟨d', rfl⟩ : ∃ d', d = d' + 1 := ⟨d - 1, by simp only [Sh.dep] at hd; omega⟩
   have hag : isAggT P t = false := by unfold isAggT; rw [hu]
   simp only [valT, hag, Bool.false_eq_true, if_false, vals, List.headD_cons]
   exact pv_equal_bool hu
  ·cases h
 | str => exact ⟨fun t d x y h => by simp [eqOK] at h, fun fs off d x y _ _ h => by cases fs <;> simp [eqFs] at h, fun n e k d i x y _ _ h => by cases n <;> simp [eqAr] at h⟩
 | sl b e ih => exact ⟨fun t d x y h => by simp [eqOK] at h, fun fs off d x y _ _ h => by cases fs <;> simp [eqFs] at h, fun n e k d i x y _ _ h => by cases n <;> simp [eqAr] at h⟩
 | nil =>
  refine ⟨fun t d x y h hd => ?_, fun fs off d x y _ _ h _ _ _ => ?_, fun n e k d i x y _ _ h _ _ _ _ => ?_⟩
  ·obtain ⟨d', rfl⟩ : ∃ d', d = d' + 1 := ⟨d - 1, by simp only [Sh.dep] at hd; omega⟩
   have hag := (one_cell h).resolve_right (by simp [Sh.cells])
   simp only [valT, hag, if_true, vals]
   simp only [eqOK] at h
   split at h
   ·rename_i fs hu
    simp only [kA, Bool.not_eq_true'] at h
    rw [pv_eq_struct hu h.2]
    have : fs.toList = [] := by simpa using h.1
    rw [this]
    rfl
   ·rename_i n e hu
    simp only [kA, decide_eq_true_eq] at h
    obtain ⟨i, hi⟩ := Option.isSome_iff_exists.1 h.2
    rw [pv_eq_array hu hi, h.1]
    rfl
   ·cases h
  ·simp only [eqFs, List.isEmpty_iff] at h
   subst h
   rfl
  ·simp only [eqAr, decide_eq_true_eq] at h
   subst h
   rfl
 | pr a b iha ihb =>
  refine ⟨fun t d x y h hd => ?_, pr_f iha.1 ihb.2.1, pr_e iha.1 ihb.2.2⟩
  obtain ⟨d', rfl⟩ : ∃ d', d = d' + 1 := ⟨d - 1, by simp only [Sh.dep] at hd; omega⟩
  have hag : isAggT P t = true := by
   simp only [eqOK] at h
   unfold isAggT
   split at h
   ·rename_i hu; rw [hu]
   ·rename_i hu; rw [hu]
   ·cases h
  simp only [valT, hag, if_true]
  simp only [eqOK] at h
  split at h
  ·rename_i fs hu
   simp only [kA, Bool.not_eq_true'] at h
   obtain ⟨hh, h⟩ := h
   rw [pv_eq_struct hu hh]
   have := pr_f iha.1 ihb.2.1 fs.toList 0 d' x y [] [] (by
    simp only [eqFs]
    split at h
    ·simpa using h
    ·cases h) hd rfl rfl
   simpa using this
  ·rename_i n e hu
   simp only [kA, decide_eq_true_eq] at h
   obtain ⟨⟨⟨hi, hc⟩, h1⟩, h2⟩ := h
   obtain ⟨i, hi⟩ := Option.isSome_iff_exists.1 hi
   rw [pv_eq_array hu hi]
   have := pr_e iha.1 ihb.2.2 (n + 1) e 0 d' i x y [] [] (by simp only [eqAr, kA, decide_eq_true_eq]; exact ⟨⟨hc, h1⟩, h2⟩) hi hd (by simp) (by simp)
   simpa using this
  ·cases h
def flatS : Sh → Bool
 | .sl _ _ => false
 | .pr a b => flatS a && flatS b
 | _ => true
def eqAgg (P : Program) (s : Sh) (t : TypeId) : Bool := flatS s && eqOK P s t && isAggT P t && decide (s.dep ≤ Op.maxDepth) && !P.eqGuardType P.depth t
end
end Go.Lg
