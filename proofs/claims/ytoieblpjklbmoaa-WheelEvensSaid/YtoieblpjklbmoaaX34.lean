/-
 X, part 34: the same operations, told shortly.
-/
import Derived.Test.YtoieblpjklbmoaaX33
namespace Go.Lg
section
variable {P : Program} {A : Ann} {H : Heap}
def ldC (P : Program) (t : TypeId) (off : Nat) (cs : List C) : Option Y := (szT P t).bind fun n => if (Nat.ble 1 n && Nat.ble (off + n) cs.length) = true then mkY (isAggT P t) (sub off n cs) else none
theorem oL {t : TypeId} {id off : Nat} {cs : List C} {v : Y} (hH : H[id]? = some (.obj cs)) (hk : ldC P t off cs = some v) : Ob P A [.y (.one (.ptr id off))] H (.load t (.tmp 0)) 0 (.y v) H := by
 unfold ldC at hk
 cases h : szT P t with
 | none => rw [h] at hk; cases hk
 | some n =>
  rw [h] at hk
  simp only [kS] at hk
  split at hk
  ·rename_i hn; exact ob_load_ptr hH h hn rfl hk
  ·cases hk
def stC (P : Program) (t : TypeId) (off : Nat) (cs : List C) (v : Y) : Bool := (szT P t == some v.cells.length) && (v.cells.all C.live && Nat.ble (off + v.cells.length) cs.length)
theorem oS {t : TypeId} {id off : Nat} {cs : List C} {v : Y} (hH : H[id]? = some (.obj cs)) (hk : stC P t off cs v = true) : Ob P A [.y (.one (.ptr id off)), .y v] H (.store t (.tmp 0) (.tmp 1)) 0 .undef (H.set id (.obj (splice off v.cells cs))) := by
 unfold stC at hk
 rw [kA, beq_iff_eq] at hk
 exact ob_store_ptr hH hk.1 hk.2 rfl
theorem oC1 {g : FuncId} {x : Y} {res : List Y} {H' : Heap} (hr : Runs P A g [x] H res H') (hp : A.pureFn g = false) : Ob P A [.y x] H (.call { callee := .value (.func g), args := #[.tmp 0], argTypes := #[] }) 0 (pack res) H' := ob_call [.tmp 0] hp rfl hr rfl
theorem oC2 {g : FuncId} {x y : Y} {res : List Y} {H' : Heap} (hr : Runs P A g [x, y] H res H') (hp : A.pureFn g = false) : Ob P A [.y x, .y y] H (.call { callee := .value (.func g), args := #[.tmp 0, .tmp 1], argTypes := #[] }) 0 (pack res) H' := ob_call [.tmp 0, .tmp 1] hp rfl hr rfl
theorem oC3 {g : FuncId} {x y z : Y} {res : List Y} {H' : Heap} (hr : Runs P A g [x, y, z] H res H') (hp : A.pureFn g = false) : Ob P A [.y x, .y y, .y z] H (.call { callee := .value (.func g), args := #[.tmp 0, .tmp 1, .tmp 2], argTypes := #[] }) 0 (pack res) H' := ob_call [.tmp 0, .tmp 1, .tmp 2] hp rfl hr rfl
theorem oP1 {g : FuncId} {x : Y} {res : List Y} (hc : PureC P A g [x] res) (hs : [x].mapM (snapY H) = some [x]) (hp : A.pureFn g = true) : Ob P A [.y x] H (.call { callee := .value (.func g), args := #[.tmp 0], argTypes := #[] }) 0 (pack res) H := ob_pure [.tmp 0] hp rfl hs hc rfl
theorem oP2 {g : FuncId} {x y : Y} {res : List Y} (hc : PureC P A g [x, y] res) (hs : [x, y].mapM (snapY H) = some [x, y]) (hp : A.pureFn g = true) : Ob P A [.y x, .y y] H (.call { callee := .value (.func g), args := #[.tmp 0, .tmp 1], argTypes := #[] }) 0 (pack res) H := ob_pure [.tmp 0, .tmp 1] hp rfl hs hc rfl
theorem oP3 {g : FuncId} {x y z : Y} {res : List Y} (hc : PureC P A g [x, y, z] res) (hs : [x, y, z].mapM (snapY H) = some [x, y, z]) (hp : A.pureFn g = true) : Ob P A [.y x, .y y, .y z] H (.call { callee := .value (.func g), args := #[.tmp 0, .tmp 1, .tmp 2], argTypes := #[] }) 0 (pack res) H := ob_pure [.tmp 0, .tmp 1, .tmp 2] hp rfl hs hc rfl
section
variable {a b c : Int} {t u : TypeId}
theorem lssT (h : a < b) : Ob P A [xi a, xi b] H (.binOp .lss t (.tmp 0) (.tmp 1) u) 0 (xb true) H := ob_raw (r := xb (decide (a < b))) rfl (congrArg (fun z => xb z) (decide_eq_true h))
theorem lssF (h : ¬ a < b) : Ob P A [xi a, xi b] H (.binOp .lss t (.tmp 0) (.tmp 1) u) 0 (xb false) H := ob_raw (r := xb (decide (a < b))) rfl (congrArg (fun z => xb z) (decide_eq_false h))
theorem gtrT (h : a > b) : Ob P A [xi a, xi b] H (.binOp .gtr t (.tmp 0) (.tmp 1) u) 0 (xb true) H := ob_raw (r := xb (decide (a > b))) rfl (congrArg (fun z => xb z) (decide_eq_true h))
theorem gtrF (h : ¬ a > b) : Ob P A [xi a, xi b] H (.binOp .gtr t (.tmp 0) (.tmp 1) u) 0 (xb false) H := ob_raw (r := xb (decide (a > b))) rfl (congrArg (fun z => xb z) (decide_eq_false h))
theorem leqT (h : a ≤ b) : Ob P A [xi a, xi b] H (.binOp .leq t (.tmp 0) (.tmp 1) u) 0 (xb true) H := ob_raw (r := xb (decide (a ≤ b))) rfl (congrArg (fun z => xb z) (decide_eq_true h))
theorem leqF (h : ¬ a ≤ b) : Ob P A [xi a, xi b] H (.binOp .leq t (.tmp 0) (.tmp 1) u) 0 (xb false) H := ob_raw (r := xb (decide (a ≤ b))) rfl (congrArg (fun z => xb z) (decide_eq_false h))
theorem geqT (h : a ≥ b) : Ob P A [xi a, xi b] H (.binOp .geq t (.tmp 0) (.tmp 1) u) 0 (xb true) H := ob_raw (r := xb (decide (a ≥ b))) rfl (congrArg (fun z => xb z) (decide_eq_true h))
theorem geqF (h : ¬ a ≥ b) : Ob P A [xi a, xi b] H (.binOp .geq t (.tmp 0) (.tmp 1) u) 0 (xb false) H := ob_raw (r := xb (decide (a ≥ b))) rfl (congrArg (fun z => xb z) (decide_eq_false h))
theorem oAdd (h : -9223372036854775808 ≤ a + b ∧ a + b ≤ 9223372036854775807 ∧ a + b = c) : Ob P A [xi a, xi b] H (.binOp .add t (.tmp 0) (.tmp 1) u) 0 (xi c) H := ob_raw (r := xi (IntKind.wrap .i64 (a + b))) rfl (congrArg (fun z => xi z) ((wrap64 ⟨h.1, h.2.1⟩).trans h.2.2))
theorem oSub (h : -9223372036854775808 ≤ a - b ∧ a - b ≤ 9223372036854775807 ∧ a - b = c) : Ob P A [xi a, xi b] H (.binOp .sub t (.tmp 0) (.tmp 1) u) 0 (xi c) H := ob_raw (r := xi (IntKind.wrap .i64 (a - b))) rfl (congrArg (fun z => xi z) ((wrap64 ⟨h.1, h.2.1⟩).trans h.2.2))
end
end
end Go.Lg
