/-
  Code: the contracts. (Printed by sx/r06.py.)
-/
import Derived.Test.YtgbhmenlbhmafaaR06A
namespace Go.Proofs.Ytgbhmenlbhmafaa
open Go.Lg
set_option linter.unusedVariables false
set_option maxRecDepth 100000
set_option maxHeartbeats 8000000
set_option linter.unusedSimpArgs false
def opL : List ByteArray := [⟨#[112, 117, 115, 104]⟩, ⟨#[112, 111, 112]⟩, ⟨#[100, 117, 112]⟩, ⟨#[108, 111, 97, 100]⟩, ⟨#[115, 116, 111, 114, 101]⟩, ⟨#[97, 100, 100]⟩, ⟨#[115, 117, 98]⟩, ⟨#[109, 117, 108]⟩, ⟨#[100, 105, 118]⟩, ⟨#[114, 101, 109]⟩, ⟨#[110, 101, 103]⟩, ⟨#[99, 111, 110, 106]⟩, ⟨#[116, 117, 114, 110]⟩, ⟨#[101, 113]⟩, ⟨#[108, 101, 115, 115]⟩, ⟨#[110, 111, 116]⟩, ⟨#[107, 105, 110, 100]⟩, ⟨#[116, 117, 112, 108, 101]⟩, ⟨#[108, 105, 115, 116]⟩, ⟨#[101, 108, 101, 109]⟩, ⟨#[115, 105, 122, 101]⟩, ⟨#[99, 111, 110, 115]⟩, ⟨#[104, 101, 97, 100]⟩, ⟨#[116, 97, 105, 108]⟩, ⟨#[106, 117, 109, 112]⟩, ⟨#[105, 102]⟩, ⟨#[109, 97, 116, 99, 104]⟩, ⟨#[99, 97, 108, 108]⟩, ⟨#[114, 101, 116]⟩, ⟨#[115, 101, 108, 102]⟩, ⟨#[110, 111, 119]⟩, ⟨#[115, 101, 110, 100]⟩, ⟨#[114, 101, 99, 118]⟩, ⟨#[115, 112, 97, 119, 110]⟩, ⟨#[116, 105, 109, 101, 114]⟩, ⟨#[99, 97, 110, 99, 101, 108]⟩, ⟨#[108, 105, 110, 107]⟩, ⟨#[117, 110, 108, 105, 110, 107]⟩, ⟨#[109, 111, 110, 105, 116, 111, 114]⟩, ⟨#[100, 101, 109, 111, 110]⟩, ⟨#[116, 114, 97, 112]⟩, ⟨#[110, 97, 109, 101]⟩, ⟨#[119, 104, 101, 114, 101]⟩, ⟨#[111, 117, 116]⟩, ⟨#[101, 120, 105, 116]⟩, ⟨#[121, 105, 101, 108, 100]⟩]
def opNm (n : Int) : ByteArray := opL.getD (n - 1).toNat ⟨#[]⟩
def opR (n : Int) : List Y := if 1 ≤ n ∧ n ≤ 46 then [.one (.sc (.string (opNm n))), .one (vi 0)] else [.one (.sc (.string ⟨#[]⟩)), .one (vi 3)]
theorem in46 {n : Int} (h : 1 ≤ n ∧ n ≤ 46) : n = 1 ∨ n = 2 ∨ n = 3 ∨ n = 4 ∨ n = 5 ∨ n = 6 ∨ n = 7 ∨ n = 8 ∨ n = 9 ∨ n = 10 ∨ n = 11 ∨ n = 12 ∨ n = 13 ∨ n = 14 ∨ n = 15 ∨ n = 16 ∨ n = 17 ∨ n = 18 ∨ n = 19 ∨ n = 20 ∨ n = 21 ∨ n = 22 ∨ n = 23 ∨ n = 24 ∨ n = 25 ∨ n = 26 ∨ n = 27 ∨ n = 28 ∨ n = 29 ∨ n = 30 ∨ n = 31 ∨ n = 32 ∨ n = 33 ∨ n = 34 ∨ n = 35 ∨ n = 36 ∨ n = 37 ∨ n = 38 ∨ n = 39 ∨ n = 40 ∨ n = 41 ∨ n = 42 ∨ n = 43 ∨ n = 44 ∨ n = 45 ∨ n = 46 := by omega
theorem fn4i {n : Int} (h : 1 ≤ n ∧ n ≤ 46) : PureC pg an 4 [.one (vi n)] [.one (.sc (.string (opNm n))), .one (vi 0)] := by
  rcases in46 h with rfl | rfl | rfl | rfl | rfl | rfl | rfl | rfl | rfl | rfl | rfl | rfl | rfl | rfl | rfl | rfl | rfl | rfl | rfl | rfl | rfl | rfl | rfl | rfl | rfl | rfl | rfl | rfl | rfl | rfl | rfl | rfl | rfl | rfl | rfl | rfl | rfl | rfl | rfl | rfl | rfl | rfl | rfl | rfl | rfl | rfl
  · exact pure_of 80 (by kernel_rfl)
  · exact pure_of 80 (by kernel_rfl)
  · exact pure_of 80 (by kernel_rfl)
  · exact pure_of 80 (by kernel_rfl)
  · exact pure_of 80 (by kernel_rfl)
  · exact pure_of 80 (by kernel_rfl)
  · exact pure_of 80 (by kernel_rfl)
  · exact pure_of 80 (by kernel_rfl)
  · exact pure_of 80 (by kernel_rfl)
  · exact pure_of 80 (by kernel_rfl)
  · exact pure_of 80 (by kernel_rfl)
  · exact pure_of 80 (by kernel_rfl)
  · exact pure_of 80 (by kernel_rfl)
  · exact pure_of 80 (by kernel_rfl)
  · exact pure_of 80 (by kernel_rfl)
  · exact pure_of 80 (by kernel_rfl)
  · exact pure_of 80 (by kernel_rfl)
  · exact pure_of 80 (by kernel_rfl)
  · exact pure_of 80 (by kernel_rfl)
  · exact pure_of 80 (by kernel_rfl)
  · exact pure_of 80 (by kernel_rfl)
  · exact pure_of 80 (by kernel_rfl)
  · exact pure_of 80 (by kernel_rfl)
  · exact pure_of 80 (by kernel_rfl)
  · exact pure_of 80 (by kernel_rfl)
  · exact pure_of 80 (by kernel_rfl)
  · exact pure_of 80 (by kernel_rfl)
  · exact pure_of 80 (by kernel_rfl)
  · exact pure_of 80 (by kernel_rfl)
  · exact pure_of 80 (by kernel_rfl)
  · exact pure_of 80 (by kernel_rfl)
  · exact pure_of 80 (by kernel_rfl)
  · exact pure_of 80 (by kernel_rfl)
  · exact pure_of 80 (by kernel_rfl)
  · exact pure_of 80 (by kernel_rfl)
  · exact pure_of 80 (by kernel_rfl)
  · exact pure_of 80 (by kernel_rfl)
  · exact pure_of 80 (by kernel_rfl)
  · exact pure_of 80 (by kernel_rfl)
  · exact pure_of 80 (by kernel_rfl)
  · exact pure_of 80 (by kernel_rfl)
  · exact pure_of 80 (by kernel_rfl)
  · exact pure_of 80 (by kernel_rfl)
  · exact pure_of 80 (by kernel_rfl)
  · exact pure_of 80 (by kernel_rfl)
  · exact pure_of 80 (by kernel_rfl)
theorem fn7i {n : Int} (h : 1 ≤ n ∧ n ≤ 46) : PureC pg an 7 [.one (.sc (.string (opNm n)))] [.one (vi n), .one (vi 0)] := by
  rcases in46 h with rfl | rfl | rfl | rfl | rfl | rfl | rfl | rfl | rfl | rfl | rfl | rfl | rfl | rfl | rfl | rfl | rfl | rfl | rfl | rfl | rfl | rfl | rfl | rfl | rfl | rfl | rfl | rfl | rfl | rfl | rfl | rfl | rfl | rfl | rfl | rfl | rfl | rfl | rfl | rfl | rfl | rfl | rfl | rfl | rfl | rfl
  · exact pure_of 200 (by kernel_rfl)
  · exact pure_of 200 (by kernel_rfl)
  · exact pure_of 200 (by kernel_rfl)
  · exact pure_of 200 (by kernel_rfl)
  · exact pure_of 200 (by kernel_rfl)
  · exact pure_of 200 (by kernel_rfl)
  · exact pure_of 200 (by kernel_rfl)
  · exact pure_of 200 (by kernel_rfl)
  · exact pure_of 200 (by kernel_rfl)
  · exact pure_of 200 (by kernel_rfl)
  · exact pure_of 200 (by kernel_rfl)
  · exact pure_of 200 (by kernel_rfl)
  · exact pure_of 200 (by kernel_rfl)
  · exact pure_of 200 (by kernel_rfl)
  · exact pure_of 200 (by kernel_rfl)
  · exact pure_of 200 (by kernel_rfl)
  · exact pure_of 200 (by kernel_rfl)
  · exact pure_of 200 (by kernel_rfl)
  · exact pure_of 200 (by kernel_rfl)
  · exact pure_of 200 (by kernel_rfl)
  · exact pure_of 200 (by kernel_rfl)
  · exact pure_of 200 (by kernel_rfl)
  · exact pure_of 200 (by kernel_rfl)
  · exact pure_of 200 (by kernel_rfl)
  · exact pure_of 200 (by kernel_rfl)
  · exact pure_of 200 (by kernel_rfl)
  · exact pure_of 200 (by kernel_rfl)
  · exact pure_of 200 (by kernel_rfl)
  · exact pure_of 200 (by kernel_rfl)
  · exact pure_of 200 (by kernel_rfl)
  · exact pure_of 200 (by kernel_rfl)
  · exact pure_of 200 (by kernel_rfl)
  · exact pure_of 200 (by kernel_rfl)
  · exact pure_of 200 (by kernel_rfl)
  · exact pure_of 200 (by kernel_rfl)
  · exact pure_of 200 (by kernel_rfl)
  · exact pure_of 200 (by kernel_rfl)
  · exact pure_of 200 (by kernel_rfl)
  · exact pure_of 200 (by kernel_rfl)
  · exact pure_of 200 (by kernel_rfl)
  · exact pure_of 200 (by kernel_rfl)
  · exact pure_of 200 (by kernel_rfl)
  · exact pure_of 200 (by kernel_rfl)
  · exact pure_of 200 (by kernel_rfl)
  · exact pure_of 200 (by kernel_rfl)
  · exact pure_of 200 (by kernel_rfl)
def costL : List Int := [1, 1, 1, 1, 1, 1, 1, 1, 1, 1, 1, 1, 1, 1, 1, 1, 1, 2, 2, 1, 1, 1, 1, 1, 1, 1, 2, 2, 1, 1, 1, 4, 2, 8, 2, 2, 2, 2, 2, 2, 1, 2, 2, 2, 1, 1]
def costW (n : Int) : Int := costL.getD (n - 1).toNat 0
theorem cost_is {n : Int} (h : 1 ≤ n ∧ n ≤ 46) : 1 ≤ costW n ∧ costW n ≤ 8 := by
  rcases in46 h with rfl | rfl | rfl | rfl | rfl | rfl | rfl | rfl | rfl | rfl | rfl | rfl | rfl | rfl | rfl | rfl | rfl | rfl | rfl | rfl | rfl | rfl | rfl | rfl | rfl | rfl | rfl | rfl | rfl | rfl | rfl | rfl | rfl | rfl | rfl | rfl | rfl | rfl | rfl | rfl | rfl | rfl | rfl | rfl | rfl | rfl <;> decide
theorem fn5i {n : Int} (h : 1 ≤ n ∧ n ≤ 46) : PureC pg an 5 [.agg (vi n :: [vi 0, vi 0, vi 0, vi 0, .sc (.complex .f64 0 0), .sc (.string ⟨#[]⟩), vi 0, vi 0, .sl false true true [] 0, .sl false true true [] 0])] [.one (vi (costW n)), .one (vi 0)] := by
  rcases in46 h with rfl | rfl | rfl | rfl | rfl | rfl | rfl | rfl | rfl | rfl | rfl | rfl | rfl | rfl | rfl | rfl | rfl | rfl | rfl | rfl | rfl | rfl | rfl | rfl | rfl | rfl | rfl | rfl | rfl | rfl | rfl | rfl | rfl | rfl | rfl | rfl | rfl | rfl | rfl | rfl | rfl | rfl | rfl | rfl | rfl | rfl
  · exact pure_of 80 (by kernel_rfl)
  · exact pure_of 80 (by kernel_rfl)
  · exact pure_of 80 (by kernel_rfl)
  · exact pure_of 80 (by kernel_rfl)
  · exact pure_of 80 (by kernel_rfl)
  · exact pure_of 80 (by kernel_rfl)
  · exact pure_of 80 (by kernel_rfl)
  · exact pure_of 80 (by kernel_rfl)
  · exact pure_of 80 (by kernel_rfl)
  · exact pure_of 80 (by kernel_rfl)
  · exact pure_of 80 (by kernel_rfl)
  · exact pure_of 80 (by kernel_rfl)
  · exact pure_of 80 (by kernel_rfl)
  · exact pure_of 80 (by kernel_rfl)
  · exact pure_of 80 (by kernel_rfl)
  · exact pure_of 80 (by kernel_rfl)
  · exact pure_of 80 (by kernel_rfl)
  · exact pure_of 80 (by kernel_rfl)
  · exact pure_of 80 (by kernel_rfl)
  · exact pure_of 80 (by kernel_rfl)
  · exact pure_of 80 (by kernel_rfl)
  · exact pure_of 80 (by kernel_rfl)
  · exact pure_of 80 (by kernel_rfl)
  · exact pure_of 80 (by kernel_rfl)
  · exact pure_of 80 (by kernel_rfl)
  · exact pure_of 80 (by kernel_rfl)
  · exact pure_of 80 (by kernel_rfl)
  · exact pure_of 80 (by kernel_rfl)
  · exact pure_of 80 (by kernel_rfl)
  · exact pure_of 80 (by kernel_rfl)
  · exact pure_of 80 (by kernel_rfl)
  · exact pure_of 80 (by kernel_rfl)
  · exact pure_of 80 (by kernel_rfl)
  · exact pure_of 80 (by kernel_rfl)
  · exact pure_of 80 (by kernel_rfl)
  · exact pure_of 80 (by kernel_rfl)
  · exact pure_of 80 (by kernel_rfl)
  · exact pure_of 80 (by kernel_rfl)
  · exact pure_of 80 (by kernel_rfl)
  · exact pure_of 80 (by kernel_rfl)
  · exact pure_of 80 (by kernel_rfl)
  · exact pure_of 80 (by kernel_rfl)
  · exact pure_of 80 (by kernel_rfl)
  · exact pure_of 80 (by kernel_rfl)
  · exact pure_of 80 (by kernel_rfl)
  · exact pure_of 80 (by kernel_rfl)
theorem opL_ne : ∀ i < 46, ∀ j < 46, ((opL.getD i ⟨#[]⟩).toList == (opL.getD j ⟨#[]⟩).toList) = decide (i = j) := by decide +kernel
theorem op_eq {a b : Int} (ha : 1 ≤ a ∧ a ≤ 46) (hb : 1 ≤ b ∧ b ≤ 46) : ((opNm a).toList == (opNm b).toList) = decide (a = b) := by
  unfold opNm
  rw [opL_ne _ (by omega) _ (by omega)]
  congr 1
  exact propext (by constructor <;> intro h <;> omega)
theorem op_t {a b : Int} (ha : 1 ≤ a ∧ a ≤ 46) (hb : 1 ≤ b ∧ b ≤ 46) (h : a = b) : ((opNm a).toList == (opNm b).toList) = true := by rw [op_eq ha hb]; exact decide_eq_true h
theorem op_f {a b : Int} (ha : 1 ≤ a ∧ a ≤ 46) (hb : 1 ≤ b ∧ b ≤ 46) (h : a ≠ b) : ((opNm a).toList == (opNm b).toList) = false := by rw [op_eq ha hb]; exact decide_eq_false h
theorem fn9o1 (n : Int) (h : n < 1) : PureC pg an 9 [.one (vi n)] [.one (vb false)] := by
 refine Runs.of (fn := Try.f9) Try.func9 rfl (by kernel_rfl) [(0, xi n)] (by kernel_rfl) ?_
 refine Wp.regionSeq [] [(0, xi n)] []
   (cast trivial (by kernel_rfl)) (by kernel_rfl) ?_
 refine Wp.regionSeq [(1, xb false, [])] [(2, xb false)] []
   (cast (And.intro (ob_raw (P := pg) (A := an) (vals := [xi n, xi 1]) (H := []) (op := .binOp .geq 3 (.tmp 0) (.tmp 1) 3) (ty := 0) (r := xb (decide ((n : Int) ≥ 1))) (v := xb false) (by kernel_rfl) (congrArg (fun z => xb z) (decide_eq_false (by omega)))) trivial) (by kernel_rfl)) (by kernel_rfl) ?_
 refine Wp.ret ?_
 exact ⟨Or.inr rfl, [.one (vb false)], by kernel_rfl, rfl⟩
theorem fn9o2 (n : Int) (h : n > 46) : PureC pg an 9 [.one (vi n)] [.one (vb false)] := by
 refine Runs.of (fn := Try.f9) Try.func9 rfl (by kernel_rfl) [(0, xi n)] (by kernel_rfl) ?_
 refine Wp.regionSeq [] [(0, xi n)] []
   (cast trivial (by kernel_rfl)) (by kernel_rfl) ?_
 refine Wp.regionSeq [(1, xb true, []), (4, xb false, [])] [(2, xb false)] []
   (cast (And.intro (ob_raw (P := pg) (A := an) (vals := [xi n, xi 1]) (H := []) (op := .binOp .geq 3 (.tmp 0) (.tmp 1) 3) (ty := 0) (r := xb (decide ((n : Int) ≥ 1))) (v := xb true) (by kernel_rfl) (congrArg (fun z => xb z) (decide_eq_true (by omega)))) (And.intro (ob_raw (P := pg) (A := an) (vals := [xi n, xi 46]) (H := []) (op := .binOp .leq 3 (.tmp 0) (.tmp 1) 3) (ty := 0) (r := xb (decide ((n : Int) ≤ 46))) (v := xb false) (by kernel_rfl) (congrArg (fun z => xb z) (decide_eq_false (by omega)))) trivial)) (by kernel_rfl)) (by kernel_rfl) ?_
 refine Wp.ret ?_
 exact ⟨Or.inr rfl, [.one (vb false)], by kernel_rfl, rfl⟩
theorem fn9o (n : Int) (h : n < 1 ∨ n > 46) : PureC pg an 9 [.one (vi n)] [.one (vb false)] := h.elim (fn9o1 n) (fn9o2 n)
theorem fn4o1 (n : Int) (h : n < 1) : PureC pg an 4 [.one (vi n)] [.one (.sc (.string ⟨#[]⟩)), .one (vi 3)] := by
 refine Runs.of (fn := Try.f4) Try.func4 rfl (by kernel_rfl) [(0, xi n)] (by kernel_rfl) ?_
 refine Wp.regionSeq [] [(0, xi n)] []
   (cast trivial (by kernel_rfl)) (by kernel_rfl) ?_
 refine Wp.seq ?_
 refine Wp.regionSeq [(1, xb true, [])] [(0, xi n), (9, xb true)] []
   (cast (And.intro (ob_raw (P := pg) (A := an) (vals := [xi n, xi 1]) (H := []) (op := .binOp .lss 3 (.tmp 0) (.tmp 1) 3) (ty := 0) (r := xb (decide ((n : Int) < 1))) (v := xb true) (by kernel_rfl) (congrArg (fun z => xb z) (decide_eq_true (by omega)))) trivial) (by kernel_rfl)) (by kernel_rfl) ?_
 refine Wp.condT (by kernel_rfl) ?_
 refine Wp.regionSeq [] [(2, .y (.one (.sc (.string ⟨#[]⟩)))), (3, xi 3)] []
   (cast trivial (by kernel_rfl)) (by kernel_rfl) ?_
 refine Wp.ret ?_
 exact ⟨Or.inr rfl, [.one (.sc (.string ⟨#[]⟩)), .one (vi 3)], by kernel_rfl, rfl⟩
theorem fn4o2 (n : Int) (h : n > 46) : PureC pg an 4 [.one (vi n)] [.one (.sc (.string ⟨#[]⟩)), .one (vi 3)] := by
 refine Runs.of (fn := Try.f4) Try.func4 rfl (by kernel_rfl) [(0, xi n)] (by kernel_rfl) ?_
 refine Wp.regionSeq [] [(0, xi n)] []
   (cast trivial (by kernel_rfl)) (by kernel_rfl) ?_
 refine Wp.seq ?_
 refine Wp.regionSeq [(1, xb false, []), (4, xb true, [])] [(0, xi n), (9, xb true)] []
   (cast (And.intro (ob_raw (P := pg) (A := an) (vals := [xi n, xi 1]) (H := []) (op := .binOp .lss 3 (.tmp 0) (.tmp 1) 3) (ty := 0) (r := xb (decide ((n : Int) < 1))) (v := xb false) (by kernel_rfl) (congrArg (fun z => xb z) (decide_eq_false (by omega)))) (And.intro (ob_raw (P := pg) (A := an) (vals := [xi n, xi 46]) (H := []) (op := .binOp .gtr 3 (.tmp 0) (.tmp 1) 3) (ty := 0) (r := xb (decide ((n : Int) > 46))) (v := xb true) (by kernel_rfl) (congrArg (fun z => xb z) (decide_eq_true (by omega)))) trivial)) (by kernel_rfl)) (by kernel_rfl) ?_
 refine Wp.condT (by kernel_rfl) ?_
 refine Wp.regionSeq [] [(2, .y (.one (.sc (.string ⟨#[]⟩)))), (3, xi 3)] []
   (cast trivial (by kernel_rfl)) (by kernel_rfl) ?_
 refine Wp.ret ?_
 exact ⟨Or.inr rfl, [.one (.sc (.string ⟨#[]⟩)), .one (vi 3)], by kernel_rfl, rfl⟩
theorem fn4o (n : Int) (h : n < 1 ∨ n > 46) : PureC pg an 4 [.one (vi n)] [.one (.sc (.string ⟨#[]⟩)), .one (vi 3)] := h.elim (fn4o1 n) (fn4o2 n)
theorem fn5o1 (n : Int) (h : n < 1) : PureC pg an 5 [.agg [vi n, vi 0, vi 0, vi 0, vi 0, .sc (.complex .f64 0 0), .sc (.string ⟨#[]⟩), vi 0, vi 0, .sl false true true [] 0, .sl false true true [] 0]] [.one (vi 0), .one (vi 61)] := by
 refine Runs.of (fn := Try.f5) Try.func5 rfl (by kernel_rfl) [(0, .y (.agg [vi n, vi 0, vi 0, vi 0, vi 0, .sc (.complex .f64 0 0), .sc (.string ⟨#[]⟩), vi 0, vi 0, .sl false true true [] 0, .sl false true true [] 0]))] (by kernel_rfl) ?_
 refine Wp.regionSeq [] [(1, .y (.one (.ptr 0 0)))] [.obj [vi n, vi 0, vi 0, vi 0, vi 0, .sc (.complex .f64 0 0), .sc (.string ⟨#[]⟩), vi 0, vi 0, .sl false true true [] 0, .sl false true true [] 0]]
   (cast trivial (by kernel_rfl)) (by kernel_rfl) ?_
 refine Wp.seq ?_
 refine Wp.regionSeq [(2, xb false, [.obj [vi n, vi 0, vi 0, vi 0, vi 0, .sc (.complex .f64 0 0), .sc (.string ⟨#[]⟩), vi 0, vi 0, .sl false true true [] 0, .sl false true true [] 0]])] [(1, .y (.one (.ptr 0 0))), (7, xb true)] [.obj [vi n, vi 0, vi 0, vi 0, vi 0, .sc (.complex .f64 0 0), .sc (.string ⟨#[]⟩), vi 0, vi 0, .sl false true true [] 0, .sl false true true [] 0]]
   (cast (And.intro (ob_pure (P := pg) (A := an) (H := [.obj [vi n, vi 0, vi 0, vi 0, vi 0, .sc (.complex .f64 0 0), .sc (.string ⟨#[]⟩), vi 0, vi 0, .sl false true true [] 0, .sl false true true [] 0]]) (g := 9) (vals := [xi n]) (xs0 := [.one (vi n)]) (xs1 := [.one (vi n)]) (res := [.one (vb false)]) (ats := #[]) (ty := 0) (v := xb false) [.tmp 0] (by kernel_rfl) (by kernel_rfl) (by kernel_rfl) (fn9o n (by omega)) (by kernel_rfl)) trivial) (by kernel_rfl)) (by kernel_rfl) ?_
 refine Wp.condT (by kernel_rfl) ?_
 refine Wp.regionSeq [] [(2, xi 0), (3, xi 61)] [.obj [vi n, vi 0, vi 0, vi 0, vi 0, .sc (.complex .f64 0 0), .sc (.string ⟨#[]⟩), vi 0, vi 0, .sl false true true [] 0, .sl false true true [] 0]]
   (cast trivial (by kernel_rfl)) (by kernel_rfl) ?_
 refine Wp.ret ?_
 exact ⟨Or.inr rfl, [.one (vi 0), .one (vi 61)], by kernel_rfl, rfl⟩
theorem fn5o2 (n : Int) (h : n > 46) : PureC pg an 5 [.agg [vi n, vi 0, vi 0, vi 0, vi 0, .sc (.complex .f64 0 0), .sc (.string ⟨#[]⟩), vi 0, vi 0, .sl false true true [] 0, .sl false true true [] 0]] [.one (vi 0), .one (vi 61)] := by
 refine Runs.of (fn := Try.f5) Try.func5 rfl (by kernel_rfl) [(0, .y (.agg [vi n, vi 0, vi 0, vi 0, vi 0, .sc (.complex .f64 0 0), .sc (.string ⟨#[]⟩), vi 0, vi 0, .sl false true true [] 0, .sl false true true [] 0]))] (by kernel_rfl) ?_
 refine Wp.regionSeq [] [(1, .y (.one (.ptr 0 0)))] [.obj [vi n, vi 0, vi 0, vi 0, vi 0, .sc (.complex .f64 0 0), .sc (.string ⟨#[]⟩), vi 0, vi 0, .sl false true true [] 0, .sl false true true [] 0]]
   (cast trivial (by kernel_rfl)) (by kernel_rfl) ?_
 refine Wp.seq ?_
 refine Wp.regionSeq [(2, xb false, [.obj [vi n, vi 0, vi 0, vi 0, vi 0, .sc (.complex .f64 0 0), .sc (.string ⟨#[]⟩), vi 0, vi 0, .sl false true true [] 0, .sl false true true [] 0]])] [(1, .y (.one (.ptr 0 0))), (7, xb true)] [.obj [vi n, vi 0, vi 0, vi 0, vi 0, .sc (.complex .f64 0 0), .sc (.string ⟨#[]⟩), vi 0, vi 0, .sl false true true [] 0, .sl false true true [] 0]]
   (cast (And.intro (ob_pure (P := pg) (A := an) (H := [.obj [vi n, vi 0, vi 0, vi 0, vi 0, .sc (.complex .f64 0 0), .sc (.string ⟨#[]⟩), vi 0, vi 0, .sl false true true [] 0, .sl false true true [] 0]]) (g := 9) (vals := [xi n]) (xs0 := [.one (vi n)]) (xs1 := [.one (vi n)]) (res := [.one (vb false)]) (ats := #[]) (ty := 0) (v := xb false) [.tmp 0] (by kernel_rfl) (by kernel_rfl) (by kernel_rfl) (fn9o n (by omega)) (by kernel_rfl)) trivial) (by kernel_rfl)) (by kernel_rfl) ?_
 refine Wp.condT (by kernel_rfl) ?_
 refine Wp.regionSeq [] [(2, xi 0), (3, xi 61)] [.obj [vi n, vi 0, vi 0, vi 0, vi 0, .sc (.complex .f64 0 0), .sc (.string ⟨#[]⟩), vi 0, vi 0, .sl false true true [] 0, .sl false true true [] 0]]
   (cast trivial (by kernel_rfl)) (by kernel_rfl) ?_
 refine Wp.ret ?_
 exact ⟨Or.inr rfl, [.one (vi 0), .one (vi 61)], by kernel_rfl, rfl⟩
theorem fn5o (n : Int) (h : n < 1 ∨ n > 46) : PureC pg an 5 [.agg [vi n, vi 0, vi 0, vi 0, vi 0, .sc (.complex .f64 0 0), .sc (.string ⟨#[]⟩), vi 0, vi 0, .sl false true true [] 0, .sl false true true [] 0]] [.one (vi 0), .one (vi 61)] := h.elim (fn5o1 n) (fn5o2 n)
end Go.Proofs.Ytgbhmenlbhmafaa
