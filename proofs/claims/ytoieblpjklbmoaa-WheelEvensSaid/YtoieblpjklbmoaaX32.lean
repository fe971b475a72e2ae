/-
 X, part 32: maps that count: keys are structs of plain cells, what stands there is a number.
-/
import Derived.Test.YtoieblpjklbmoaaX31
namespace Go.Lg
section
variable {P : Program} {A : Ann} {H : Heap}
def entsF (s : Sh) : Nat → List (s.T × Int) → List MapEntry
 | _, [] => []
 | n, (x, v) :: r => { key := .agg (vals s x).toArray, val := .int .i64 v, born := n } :: entsF s (n + 1) r
abbrev cntO (s : Sh) (l : List (s.T × Int)) : O := .map (.map (entsF s 0 l).toArray l.length)
def seek (s : Sh) (x : s.T) : List (s.T × Int) → Nat → Option (Nat × Int)
 | [], _ => none
 | (y, v) :: r, i => if eqb s x y then some (i, v) else seek s x r (i + 1)
def ones {α : Type} (l : List α) : List (α × Int) := l.map fun x => (x, 1)
/-- Numbers and truth values. -/
def plainS : Sh → Bool
 | .sl _ _ | .str => false
 | .pr a b => plainS a && plainS b
 | _ => true
def isStruct (P : Program) (t : TypeId) : Bool :=
 match P.underlying t with
 | some (.struct _) => true
 | _ => false
theorem isStruct_iff {P : Program} {t : TypeId} (h : isStruct P t = true) : ∃ fs, P.underlying t = some (.struct fs) := by
 unfold isStruct at h
 split at h
 ·rename_i fs e; exact ⟨fs, e⟩
 ·cases h
/-- What the type of a map that counts must be. -/
structure CntOK (P : Program) (s : Sh) (t kt el : TypeId) : Prop where
 map : P.underlying t = some (.map kt el)
 key : isStruct P kt = true
 eq : eqAgg P s kt = true
 flat : plainS s = true
 chk : ∀ (x : s.T) (e : Bool), pv P (Instr.checkKey e 10000 kt (.agg (vals s x).toArray)) = some ()
 zero : pv P (zeroValue el) = some (.int .i64 0)
variable {s : Sh} {t kt el : TypeId}
theorem CntOK.same (h : CntOK P s t kt el) (x y : s.T) : pv P (Op.equal kt (.agg (vals s x).toArray) (.agg (vals s y).toArray)) = some (eqb s x y) := by
 have hk := h.eq
 simp only [eqAgg, kA, decide_eq_true_eq, Bool.not_eq_true'] at hk
 obtain ⟨⟨⟨⟨h1, h2⟩, h3⟩, h4⟩, h5⟩ := hk
 have he := (eq_all s).1 kt Op.maxDepth x y h2 h4
 simp only [valT, h3, if_true] at he
 exact he
theorem CntOK.asking (h : CntOK P s t kt el) (x : s.T) : ∀ (l : List (s.T × Int)) (n i : Nat), pv P (Instr.findAsking kt (.agg (vals s x).toArray) (entsF s n l) i) = some ((seek s x l i).map fun p => (p.1, .int .i64 p.2))
 | [], _, _ => rfl
 | (y, v) :: r, n, i => by
  simp only [entsF, Instr.findAsking, pv_bind, h.same, kS, seek]
  cases eqb s x y with
  | true => rfl
  | false => simp only [Bool.false_eq_true, if_false]; exact h.asking x r (n + 1) (i + 1)
theorem CntOK.find (h : CntOK P s t kt el) (x : s.T) (l : List (s.T × Int)) (n : Nat) : pv P (Instr.findKey kt (.agg (vals s x).toArray) (entsF s n l)) = some ((seek s x l 0).map fun p => (p.1, .int .i64 p.2)) := by
 obtain ⟨fs, hs⟩ := isStruct_iff h.key
 unfold Instr.findKey
 rw [pv_bind, pv_underlying hs, kS]
 cases l with
 | nil => rfl
 | cons p r => exact h.asking x (p :: r) n 0
theorem CntOK.place (h : CntOK P s t kt el) (x : s.T) (l : List (s.T × Int)) : pv P (placeV t (entsF s 0 l) (.agg (vals s x).toArray)) = some ((seek s x l 0).map (·.1)) := by
 unfold placeV
 rw [pv_bind, pv_underlying h.map, kS]
 simp only [pv_bind, h.find, kS, pv_pure]
 cases seek s x l 0 <;> rfl
/-- Is a key among those counted? -/
def memB (s : Sh) (x : s.T) (l : List s.T) : Bool := l.any fun y => eqb s x y
/-! Structs with slices of rows, handed out and in -/
end
def Code.dropS : Nat → Code → Code
 | n + 1, .seq _ b => Code.dropS n b
 | _, c => c
/-! ### items that stay shut -/
section
variable {P : Program} {A : Ann} {H : Heap}
end
end Go.Lg
