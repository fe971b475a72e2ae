/-
  Code: costs. (Printed by sx/r06.py.)
-/
import Derived.Test.YtgbhmenlbhmafaaR06B
import Derived.Test.YtgbhmenlbhmafaaR06C
namespace Go.Proofs.Ytgbhmenlbhmafaa
open Go.Lg
set_option linter.unusedVariables false
set_option maxRecDepth 100000
set_option maxHeartbeats 8000000
set_option linter.unusedSimpArgs false
theorem fn3 (av bv : Int) : PureC pg an 3 [.one (vi av), .one (vi bv)] [.one (vb true)] := by
 refine Runs.of (fn := Try.f3) Try.func3 rfl (by kernel_rfl) [(0, xi av), (1, xi bv)] (by kernel_rfl) ?_
 refine Wp.regionSeq [] [(0, xi av), (1, xi bv)] []
   (cast trivial (by kernel_rfl)) (by kernel_rfl) ?_
 by_cases c1 : (av : Int) < 1
 ·
  refine Wp.regionSeq [(1, .tup [.one (.sc (.string ⟨#[]⟩)), .one (vi 3)], [])] [(0, xi av), (1, xi bv), (5, .y (.one (.sc (.string ⟨#[]⟩)))), (6, xi 3)] []
    (cast (And.intro (ob_pure (P := pg) (A := an) (H := []) (g := 4) (vals := [xi av]) (xs0 := [.one (vi av)]) (xs1 := [.one (vi av)]) (res := [.one (.sc (.string ⟨#[]⟩)), .one (vi 3)]) (ats := #[]) (ty := 0) (v := .tup [.one (.sc (.string ⟨#[]⟩)), .one (vi 3)]) [.tmp 0] (by kernel_rfl) (by kernel_rfl) (by kernel_rfl) (fn4o av (by omega)) (by kernel_rfl)) trivial) (by kernel_rfl)) (by kernel_rfl) ?_
  by_cases c2 : (bv : Int) < 1
  ·
   refine Wp.regionSeq [(1, .tup [.one (.sc (.string ⟨#[]⟩)), .one (vi 3)], [])] [(0, xi av), (1, xi bv), (5, .y (.one (.sc (.string ⟨#[]⟩)))), (6, xi 3), (7, .y (.one (.sc (.string ⟨#[]⟩)))), (8, xi 3)] []
     (cast (And.intro (ob_pure (P := pg) (A := an) (H := []) (g := 4) (vals := [xi bv]) (xs0 := [.one (vi bv)]) (xs1 := [.one (vi bv)]) (res := [.one (.sc (.string ⟨#[]⟩)), .one (vi 3)]) (ats := #[]) (ty := 0) (v := .tup [.one (.sc (.string ⟨#[]⟩)), .one (vi 3)]) [.tmp 0] (by kernel_rfl) (by kernel_rfl) (by kernel_rfl) (fn4o bv (by omega)) (by kernel_rfl)) trivial) (by kernel_rfl)) (by kernel_rfl) ?_
   refine Wp.regionSeq [(2, .tup [.one (vi 0), .one (vi 61)], [])] [(0, xi av), (1, xi bv), (5, .y (.one (.sc (.string ⟨#[]⟩)))), (6, xi 3), (7, .y (.one (.sc (.string ⟨#[]⟩)))), (8, xi 3), (9, xi 0), (10, xi 61)] []
     (cast (And.intro (ob_pure (P := pg) (A := an) (H := []) (g := 5) (vals := [.y (.agg [vi av, vi 0, vi 0, vi 0, vi 0, .sc (.complex .f64 0 0), .sc (.string ⟨#[]⟩), vi 0, vi 0, .sl false true true [] 0, .sl false true true [] 0])]) (xs0 := [.agg [vi av, vi 0, vi 0, vi 0, vi 0, .sc (.complex .f64 0 0), .sc (.string ⟨#[]⟩), vi 0, vi 0, .sl false true true [] 0, .sl false true true [] 0]]) (xs1 := [.agg [vi av, vi 0, vi 0, vi 0, vi 0, .sc (.complex .f64 0 0), .sc (.string ⟨#[]⟩), vi 0, vi 0, .sl false true true [] 0, .sl false true true [] 0]]) (res := [.one (vi 0), .one (vi 61)]) (ats := #[]) (ty := 0) (v := .tup [.one (vi 0), .one (vi 61)]) [.tmp 0] (by kernel_rfl) (by kernel_rfl) (by kernel_rfl) (fn5o av (by omega)) (by kernel_rfl)) trivial) (by kernel_rfl)) (by kernel_rfl) ?_
   refine Wp.seq ?_
   refine Wp.regionSeq [] [(0, xi av), (1, xi bv), (5, .y (.one (.sc (.string ⟨#[]⟩)))), (6, xi 3), (7, .y (.one (.sc (.string ⟨#[]⟩)))), (8, xi 3), (9, xi 0), (10, xi 61), (30, xb true)] []
     (cast trivial (by kernel_rfl)) (by kernel_rfl) ?_
   refine Wp.condT (by kernel_rfl) ?_
   refine Wp.regionSeq [(1, xb true, []), (23, xb true, [])] [(4, xb true)] []
     (cast (And.intro (ob_raw (P := pg) (A := an) (vals := [xi av, xi 1]) (H := []) (op := .binOp .lss 3 (.tmp 0) (.tmp 1) 3) (ty := 0) (r := xb (decide ((av : Int) < 1))) (v := xb true) (by kernel_rfl) (congrArg (fun z => xb z) (decide_eq_true (by omega)))) (And.intro (ob_pure (P := pg) (A := an) (H := []) (g := 6) (vals := []) (xs0 := []) (xs1 := []) (res := [.one (vb true)]) (ats := #[]) (ty := 0) (v := xb true) [] (by kernel_rfl) (by kernel_rfl) (by kernel_rfl) fn6 (by kernel_rfl)) trivial)) (by kernel_rfl)) (by kernel_rfl) ?_
   refine Wp.ret ?_
   exact ⟨Or.inr rfl, [.one (vb true)], by kernel_rfl, rfl⟩
  ·
   by_cases c3 : (46 : Int) < bv
   ·
    refine Wp.regionSeq [(1, .tup [.one (.sc (.string ⟨#[]⟩)), .one (vi 3)], [])] [(0, xi av), (1, xi bv), (5, .y (.one (.sc (.string ⟨#[]⟩)))), (6, xi 3), (7, .y (.one (.sc (.string ⟨#[]⟩)))), (8, xi 3)] []
      (cast (And.intro (ob_pure (P := pg) (A := an) (H := []) (g := 4) (vals := [xi bv]) (xs0 := [.one (vi bv)]) (xs1 := [.one (vi bv)]) (res := [.one (.sc (.string ⟨#[]⟩)), .one (vi 3)]) (ats := #[]) (ty := 0) (v := .tup [.one (.sc (.string ⟨#[]⟩)), .one (vi 3)]) [.tmp 0] (by kernel_rfl) (by kernel_rfl) (by kernel_rfl) (fn4o bv (by omega)) (by kernel_rfl)) trivial) (by kernel_rfl)) (by kernel_rfl) ?_
    refine Wp.regionSeq [(2, .tup [.one (vi 0), .one (vi 61)], [])] [(0, xi av), (1, xi bv), (5, .y (.one (.sc (.string ⟨#[]⟩)))), (6, xi 3), (7, .y (.one (.sc (.string ⟨#[]⟩)))), (8, xi 3), (9, xi 0), (10, xi 61)] []
      (cast (And.intro (ob_pure (P := pg) (A := an) (H := []) (g := 5) (vals := [.y (.agg [vi av, vi 0, vi 0, vi 0, vi 0, .sc (.complex .f64 0 0), .sc (.string ⟨#[]⟩), vi 0, vi 0, .sl false true true [] 0, .sl false true true [] 0])]) (xs0 := [.agg [vi av, vi 0, vi 0, vi 0, vi 0, .sc (.complex .f64 0 0), .sc (.string ⟨#[]⟩), vi 0, vi 0, .sl false true true [] 0, .sl false true true [] 0]]) (xs1 := [.agg [vi av, vi 0, vi 0, vi 0, vi 0, .sc (.complex .f64 0 0), .sc (.string ⟨#[]⟩), vi 0, vi 0, .sl false true true [] 0, .sl false true true [] 0]]) (res := [.one (vi 0), .one (vi 61)]) (ats := #[]) (ty := 0) (v := .tup [.one (vi 0), .one (vi 61)]) [.tmp 0] (by kernel_rfl) (by kernel_rfl) (by kernel_rfl) (fn5o av (by omega)) (by kernel_rfl)) trivial) (by kernel_rfl)) (by kernel_rfl) ?_
    refine Wp.seq ?_
    refine Wp.regionSeq [] [(0, xi av), (1, xi bv), (5, .y (.one (.sc (.string ⟨#[]⟩)))), (6, xi 3), (7, .y (.one (.sc (.string ⟨#[]⟩)))), (8, xi 3), (9, xi 0), (10, xi 61), (30, xb true)] []
      (cast trivial (by kernel_rfl)) (by kernel_rfl) ?_
    refine Wp.condT (by kernel_rfl) ?_
    refine Wp.regionSeq [(1, xb true, []), (23, xb true, [])] [(4, xb true)] []
      (cast (And.intro (ob_raw (P := pg) (A := an) (vals := [xi av, xi 1]) (H := []) (op := .binOp .lss 3 (.tmp 0) (.tmp 1) 3) (ty := 0) (r := xb (decide ((av : Int) < 1))) (v := xb true) (by kernel_rfl) (congrArg (fun z => xb z) (decide_eq_true (by omega)))) (And.intro (ob_pure (P := pg) (A := an) (H := []) (g := 6) (vals := []) (xs0 := []) (xs1 := []) (res := [.one (vb true)]) (ats := #[]) (ty := 0) (v := xb true) [] (by kernel_rfl) (by kernel_rfl) (by kernel_rfl) fn6 (by kernel_rfl)) trivial)) (by kernel_rfl)) (by kernel_rfl) ?_
    refine Wp.ret ?_
    exact ⟨Or.inr rfl, [.one (vb true)], by kernel_rfl, rfl⟩
   ·
    refine Wp.regionSeq [(1, .tup [.one (.sc (.string (opNm bv))), .one (vi 0)], [])] [(0, xi av), (1, xi bv), (5, .y (.one (.sc (.string ⟨#[]⟩)))), (6, xi 3), (7, .y (.one (.sc (.string (opNm bv))))), (8, xi 0)] []
      (cast (And.intro (ob_pure (P := pg) (A := an) (H := []) (g := 4) (vals := [xi bv]) (xs0 := [.one (vi bv)]) (xs1 := [.one (vi bv)]) (res := [.one (.sc (.string (opNm bv))), .one (vi 0)]) (ats := #[]) (ty := 0) (v := .tup [.one (.sc (.string (opNm bv))), .one (vi 0)]) [.tmp 0] (by kernel_rfl) (by kernel_rfl) (by kernel_rfl) (fn4i (n := bv) (by omega)) (by kernel_rfl)) trivial) (by kernel_rfl)) (by kernel_rfl) ?_
    refine Wp.regionSeq [(2, .tup [.one (vi 0), .one (vi 61)], [])] [(0, xi av), (1, xi bv), (5, .y (.one (.sc (.string ⟨#[]⟩)))), (6, xi 3), (7, .y (.one (.sc (.string (opNm bv))))), (8, xi 0), (9, xi 0), (10, xi 61)] []
      (cast (And.intro (ob_pure (P := pg) (A := an) (H := []) (g := 5) (vals := [.y (.agg [vi av, vi 0, vi 0, vi 0, vi 0, .sc (.complex .f64 0 0), .sc (.string ⟨#[]⟩), vi 0, vi 0, .sl false true true [] 0, .sl false true true [] 0])]) (xs0 := [.agg [vi av, vi 0, vi 0, vi 0, vi 0, .sc (.complex .f64 0 0), .sc (.string ⟨#[]⟩), vi 0, vi 0, .sl false true true [] 0, .sl false true true [] 0]]) (xs1 := [.agg [vi av, vi 0, vi 0, vi 0, vi 0, .sc (.complex .f64 0 0), .sc (.string ⟨#[]⟩), vi 0, vi 0, .sl false true true [] 0, .sl false true true [] 0]]) (res := [.one (vi 0), .one (vi 61)]) (ats := #[]) (ty := 0) (v := .tup [.one (vi 0), .one (vi 61)]) [.tmp 0] (by kernel_rfl) (by kernel_rfl) (by kernel_rfl) (fn5o av (by omega)) (by kernel_rfl)) trivial) (by kernel_rfl)) (by kernel_rfl) ?_
    refine Wp.seq ?_
    refine Wp.regionSeq [] [(0, xi av), (1, xi bv), (5, .y (.one (.sc (.string ⟨#[]⟩)))), (6, xi 3), (7, .y (.one (.sc (.string (opNm bv))))), (8, xi 0), (9, xi 0), (10, xi 61), (30, xb true)] []
      (cast trivial (by kernel_rfl)) (by kernel_rfl) ?_
    refine Wp.condT (by kernel_rfl) ?_
    refine Wp.regionSeq [(1, xb true, []), (23, xb true, [])] [(4, xb true)] []
      (cast (And.intro (ob_raw (P := pg) (A := an) (vals := [xi av, xi 1]) (H := []) (op := .binOp .lss 3 (.tmp 0) (.tmp 1) 3) (ty := 0) (r := xb (decide ((av : Int) < 1))) (v := xb true) (by kernel_rfl) (congrArg (fun z => xb z) (decide_eq_true (by omega)))) (And.intro (ob_pure (P := pg) (A := an) (H := []) (g := 6) (vals := []) (xs0 := []) (xs1 := []) (res := [.one (vb true)]) (ats := #[]) (ty := 0) (v := xb true) [] (by kernel_rfl) (by kernel_rfl) (by kernel_rfl) fn6 (by kernel_rfl)) trivial)) (by kernel_rfl)) (by kernel_rfl) ?_
    refine Wp.ret ?_
    exact ⟨Or.inr rfl, [.one (vb true)], by kernel_rfl, rfl⟩
 ·
  by_cases c4 : (46 : Int) < av
  ·
   refine Wp.regionSeq [(1, .tup [.one (.sc (.string ⟨#[]⟩)), .one (vi 3)], [])] [(0, xi av), (1, xi bv), (5, .y (.one (.sc (.string ⟨#[]⟩)))), (6, xi 3)] []
     (cast (And.intro (ob_pure (P := pg) (A := an) (H := []) (g := 4) (vals := [xi av]) (xs0 := [.one (vi av)]) (xs1 := [.one (vi av)]) (res := [.one (.sc (.string ⟨#[]⟩)), .one (vi 3)]) (ats := #[]) (ty := 0) (v := .tup [.one (.sc (.string ⟨#[]⟩)), .one (vi 3)]) [.tmp 0] (by kernel_rfl) (by kernel_rfl) (by kernel_rfl) (fn4o av (by omega)) (by kernel_rfl)) trivial) (by kernel_rfl)) (by kernel_rfl) ?_
   by_cases c5 : (bv : Int) < 1
   ·
    refine Wp.regionSeq [(1, .tup [.one (.sc (.string ⟨#[]⟩)), .one (vi 3)], [])] [(0, xi av), (1, xi bv), (5, .y (.one (.sc (.string ⟨#[]⟩)))), (6, xi 3), (7, .y (.one (.sc (.string ⟨#[]⟩)))), (8, xi 3)] []
      (cast (And.intro (ob_pure (P := pg) (A := an) (H := []) (g := 4) (vals := [xi bv]) (xs0 := [.one (vi bv)]) (xs1 := [.one (vi bv)]) (res := [.one (.sc (.string ⟨#[]⟩)), .one (vi 3)]) (ats := #[]) (ty := 0) (v := .tup [.one (.sc (.string ⟨#[]⟩)), .one (vi 3)]) [.tmp 0] (by kernel_rfl) (by kernel_rfl) (by kernel_rfl) (fn4o bv (by omega)) (by kernel_rfl)) trivial) (by kernel_rfl)) (by kernel_rfl) ?_
    refine Wp.regionSeq [(2, .tup [.one (vi 0), .one (vi 61)], [])] [(0, xi av), (1, xi bv), (5, .y (.one (.sc (.string ⟨#[]⟩)))), (6, xi 3), (7, .y (.one (.sc (.string ⟨#[]⟩)))), (8, xi 3), (9, xi 0), (10, xi 61)] []
      (cast (And.intro (ob_pure (P := pg) (A := an) (H := []) (g := 5) (vals := [.y (.agg [vi av, vi 0, vi 0, vi 0, vi 0, .sc (.complex .f64 0 0), .sc (.string ⟨#[]⟩), vi 0, vi 0, .sl false true true [] 0, .sl false true true [] 0])]) (xs0 := [.agg [vi av, vi 0, vi 0, vi 0, vi 0, .sc (.complex .f64 0 0), .sc (.string ⟨#[]⟩), vi 0, vi 0, .sl false true true [] 0, .sl false true true [] 0]]) (xs1 := [.agg [vi av, vi 0, vi 0, vi 0, vi 0, .sc (.complex .f64 0 0), .sc (.string ⟨#[]⟩), vi 0, vi 0, .sl false true true [] 0, .sl false true true [] 0]]) (res := [.one (vi 0), .one (vi 61)]) (ats := #[]) (ty := 0) (v := .tup [.one (vi 0), .one (vi 61)]) [.tmp 0] (by kernel_rfl) (by kernel_rfl) (by kernel_rfl) (fn5o av (by omega)) (by kernel_rfl)) trivial) (by kernel_rfl)) (by kernel_rfl) ?_
    refine Wp.seq ?_
    refine Wp.regionSeq [] [(0, xi av), (1, xi bv), (5, .y (.one (.sc (.string ⟨#[]⟩)))), (6, xi 3), (7, .y (.one (.sc (.string ⟨#[]⟩)))), (8, xi 3), (9, xi 0), (10, xi 61), (30, xb true)] []
      (cast trivial (by kernel_rfl)) (by kernel_rfl) ?_
    refine Wp.condT (by kernel_rfl) ?_
    refine Wp.regionSeq [(1, xb false, []), (4, xb true, []), (23, xb true, [])] [(4, xb true)] []
      (cast (And.intro (ob_raw (P := pg) (A := an) (vals := [xi av, xi 1]) (H := []) (op := .binOp .lss 3 (.tmp 0) (.tmp 1) 3) (ty := 0) (r := xb (decide ((av : Int) < 1))) (v := xb false) (by kernel_rfl) (congrArg (fun z => xb z) (decide_eq_false (by omega)))) (And.intro (ob_raw (P := pg) (A := an) (vals := [xi av, xi 46]) (H := []) (op := .binOp .gtr 3 (.tmp 0) (.tmp 1) 3) (ty := 0) (r := xb (decide ((av : Int) > 46))) (v := xb true) (by kernel_rfl) (congrArg (fun z => xb z) (decide_eq_true (by omega)))) (And.intro (ob_pure (P := pg) (A := an) (H := []) (g := 6) (vals := []) (xs0 := []) (xs1 := []) (res := [.one (vb true)]) (ats := #[]) (ty := 0) (v := xb true) [] (by kernel_rfl) (by kernel_rfl) (by kernel_rfl) fn6 (by kernel_rfl)) trivial))) (by kernel_rfl)) (by kernel_rfl) ?_
    refine Wp.ret ?_
    exact ⟨Or.inr rfl, [.one (vb true)], by kernel_rfl, rfl⟩
   ·
    by_cases c6 : (46 : Int) < bv
    ·
     refine Wp.regionSeq [(1, .tup [.one (.sc (.string ⟨#[]⟩)), .one (vi 3)], [])] [(0, xi av), (1, xi bv), (5, .y (.one (.sc (.string ⟨#[]⟩)))), (6, xi 3), (7, .y (.one (.sc (.string ⟨#[]⟩)))), (8, xi 3)] []
       (cast (And.intro (ob_pure (P := pg) (A := an) (H := []) (g := 4) (vals := [xi bv]) (xs0 := [.one (vi bv)]) (xs1 := [.one (vi bv)]) (res := [.one (.sc (.string ⟨#[]⟩)), .one (vi 3)]) (ats := #[]) (ty := 0) (v := .tup [.one (.sc (.string ⟨#[]⟩)), .one (vi 3)]) [.tmp 0] (by kernel_rfl) (by kernel_rfl) (by kernel_rfl) (fn4o bv (by omega)) (by kernel_rfl)) trivial) (by kernel_rfl)) (by kernel_rfl) ?_
     refine Wp.regionSeq [(2, .tup [.one (vi 0), .one (vi 61)], [])] [(0, xi av), (1, xi bv), (5, .y (.one (.sc (.string ⟨#[]⟩)))), (6, xi 3), (7, .y (.one (.sc (.string ⟨#[]⟩)))), (8, xi 3), (9, xi 0), (10, xi 61)] []
       (cast (And.intro (ob_pure (P := pg) (A := an) (H := []) (g := 5) (vals := [.y (.agg [vi av, vi 0, vi 0, vi 0, vi 0, .sc (.complex .f64 0 0), .sc (.string ⟨#[]⟩), vi 0, vi 0, .sl false true true [] 0, .sl false true true [] 0])]) (xs0 := [.agg [vi av, vi 0, vi 0, vi 0, vi 0, .sc (.complex .f64 0 0), .sc (.string ⟨#[]⟩), vi 0, vi 0, .sl false true true [] 0, .sl false true true [] 0]]) (xs1 := [.agg [vi av, vi 0, vi 0, vi 0, vi 0, .sc (.complex .f64 0 0), .sc (.string ⟨#[]⟩), vi 0, vi 0, .sl false true true [] 0, .sl false true true [] 0]]) (res := [.one (vi 0), .one (vi 61)]) (ats := #[]) (ty := 0) (v := .tup [.one (vi 0), .one (vi 61)]) [.tmp 0] (by kernel_rfl) (by kernel_rfl) (by kernel_rfl) (fn5o av (by omega)) (by kernel_rfl)) trivial) (by kernel_rfl)) (by kernel_rfl) ?_
     refine Wp.seq ?_
     refine Wp.regionSeq [] [(0, xi av), (1, xi bv), (5, .y (.one (.sc (.string ⟨#[]⟩)))), (6, xi 3), (7, .y (.one (.sc (.string ⟨#[]⟩)))), (8, xi 3), (9, xi 0), (10, xi 61), (30, xb true)] []
       (cast trivial (by kernel_rfl)) (by kernel_rfl) ?_
     refine Wp.condT (by kernel_rfl) ?_
     refine Wp.regionSeq [(1, xb false, []), (4, xb true, []), (23, xb true, [])] [(4, xb true)] []
       (cast (And.intro (ob_raw (P := pg) (A := an) (vals := [xi av, xi 1]) (H := []) (op := .binOp .lss 3 (.tmp 0) (.tmp 1) 3) (ty := 0) (r := xb (decide ((av : Int) < 1))) (v := xb false) (by kernel_rfl) (congrArg (fun z => xb z) (decide_eq_false (by omega)))) (And.intro (ob_raw (P := pg) (A := an) (vals := [xi av, xi 46]) (H := []) (op := .binOp .gtr 3 (.tmp 0) (.tmp 1) 3) (ty := 0) (r := xb (decide ((av : Int) > 46))) (v := xb true) (by kernel_rfl) (congrArg (fun z => xb z) (decide_eq_true (by omega)))) (And.intro (ob_pure (P := pg) (A := an) (H := []) (g := 6) (vals := []) (xs0 := []) (xs1 := []) (res := [.one (vb true)]) (ats := #[]) (ty := 0) (v := xb true) [] (by kernel_rfl) (by kernel_rfl) (by kernel_rfl) fn6 (by kernel_rfl)) trivial))) (by kernel_rfl)) (by kernel_rfl) ?_
     refine Wp.ret ?_
     exact ⟨Or.inr rfl, [.one (vb true)], by kernel_rfl, rfl⟩
    ·
     refine Wp.regionSeq [(1, .tup [.one (.sc (.string (opNm bv))), .one (vi 0)], [])] [(0, xi av), (1, xi bv), (5, .y (.one (.sc (.string ⟨#[]⟩)))), (6, xi 3), (7, .y (.one (.sc (.string (opNm bv))))), (8, xi 0)] []
       (cast (And.intro (ob_pure (P := pg) (A := an) (H := []) (g := 4) (vals := [xi bv]) (xs0 := [.one (vi bv)]) (xs1 := [.one (vi bv)]) (res := [.one (.sc (.string (opNm bv))), .one (vi 0)]) (ats := #[]) (ty := 0) (v := .tup [.one (.sc (.string (opNm bv))), .one (vi 0)]) [.tmp 0] (by kernel_rfl) (by kernel_rfl) (by kernel_rfl) (fn4i (n := bv) (by omega)) (by kernel_rfl)) trivial) (by kernel_rfl)) (by kernel_rfl) ?_
     refine Wp.regionSeq [(2, .tup [.one (vi 0), .one (vi 61)], [])] [(0, xi av), (1, xi bv), (5, .y (.one (.sc (.string ⟨#[]⟩)))), (6, xi 3), (7, .y (.one (.sc (.string (opNm bv))))), (8, xi 0), (9, xi 0), (10, xi 61)] []
       (cast (And.intro (ob_pure (P := pg) (A := an) (H := []) (g := 5) (vals := [.y (.agg [vi av, vi 0, vi 0, vi 0, vi 0, .sc (.complex .f64 0 0), .sc (.string ⟨#[]⟩), vi 0, vi 0, .sl false true true [] 0, .sl false true true [] 0])]) (xs0 := [.agg [vi av, vi 0, vi 0, vi 0, vi 0, .sc (.complex .f64 0 0), .sc (.string ⟨#[]⟩), vi 0, vi 0, .sl false true true [] 0, .sl false true true [] 0]]) (xs1 := [.agg [vi av, vi 0, vi 0, vi 0, vi 0, .sc (.complex .f64 0 0), .sc (.string ⟨#[]⟩), vi 0, vi 0, .sl false true true [] 0, .sl false true true [] 0]]) (res := [.one (vi 0), .one (vi 61)]) (ats := #[]) (ty := 0) (v := .tup [.one (vi 0), .one (vi 61)]) [.tmp 0] (by kernel_rfl) (by kernel_rfl) (by kernel_rfl) (fn5o av (by omega)) (by kernel_rfl)) trivial) (by kernel_rfl)) (by kernel_rfl) ?_
     refine Wp.seq ?_
     refine Wp.regionSeq [] [(0, xi av), (1, xi bv), (5, .y (.one (.sc (.string ⟨#[]⟩)))), (6, xi 3), (7, .y (.one (.sc (.string (opNm bv))))), (8, xi 0), (9, xi 0), (10, xi 61), (30, xb true)] []
       (cast trivial (by kernel_rfl)) (by kernel_rfl) ?_
     refine Wp.condT (by kernel_rfl) ?_
     refine Wp.regionSeq [(1, xb false, []), (4, xb true, []), (23, xb true, [])] [(4, xb true)] []
       (cast (And.intro (ob_raw (P := pg) (A := an) (vals := [xi av, xi 1]) (H := []) (op := .binOp .lss 3 (.tmp 0) (.tmp 1) 3) (ty := 0) (r := xb (decide ((av : Int) < 1))) (v := xb false) (by kernel_rfl) (congrArg (fun z => xb z) (decide_eq_false (by omega)))) (And.intro (ob_raw (P := pg) (A := an) (vals := [xi av, xi 46]) (H := []) (op := .binOp .gtr 3 (.tmp 0) (.tmp 1) 3) (ty := 0) (r := xb (decide ((av : Int) > 46))) (v := xb true) (by kernel_rfl) (congrArg (fun z => xb z) (decide_eq_true (by omega)))) (And.intro (ob_pure (P := pg) (A := an) (H := []) (g := 6) (vals := []) (xs0 := []) (xs1 := []) (res := [.one (vb true)]) (ats := #[]) (ty := 0) (v := xb true) [] (by kernel_rfl) (by kernel_rfl) (by kernel_rfl) fn6 (by kernel_rfl)) trivial))) (by kernel_rfl)) (by kernel_rfl) ?_
     refine Wp.ret ?_
     exact ⟨Or.inr rfl, [.one (vb true)], by kernel_rfl, rfl⟩
  ·
   refine Wp.regionSeq [(1, .tup [.one (.sc (.string (opNm av))), .one (vi 0)], [])] [(0, xi av), (1, xi bv), (5, .y (.one (.sc (.string (opNm av))))), (6, xi 0)] []
     (cast (And.intro (ob_pure (P := pg) (A := an) (H := []) (g := 4) (vals := [xi av]) (xs0 := [.one (vi av)]) (xs1 := [.one (vi av)]) (res := [.one (.sc (.string (opNm av))), .one (vi 0)]) (ats := #[]) (ty := 0) (v := .tup [.one (.sc (.string (opNm av))), .one (vi 0)]) [.tmp 0] (by kernel_rfl) (by kernel_rfl) (by kernel_rfl) (fn4i (n := av) (by omega)) (by kernel_rfl)) trivial) (by kernel_rfl)) (by kernel_rfl) ?_
   by_cases c7 : (bv : Int) < 1
   ·
    refine Wp.regionSeq [(1, .tup [.one (.sc (.string ⟨#[]⟩)), .one (vi 3)], [])] [(0, xi av), (1, xi bv), (5, .y (.one (.sc (.string (opNm av))))), (6, xi 0), (7, .y (.one (.sc (.string ⟨#[]⟩)))), (8, xi 3)] []
      (cast (And.intro (ob_pure (P := pg) (A := an) (H := []) (g := 4) (vals := [xi bv]) (xs0 := [.one (vi bv)]) (xs1 := [.one (vi bv)]) (res := [.one (.sc (.string ⟨#[]⟩)), .one (vi 3)]) (ats := #[]) (ty := 0) (v := .tup [.one (.sc (.string ⟨#[]⟩)), .one (vi 3)]) [.tmp 0] (by kernel_rfl) (by kernel_rfl) (by kernel_rfl) (fn4o bv (by omega)) (by kernel_rfl)) trivial) (by kernel_rfl)) (by kernel_rfl) ?_
    have hcz8 := cost_is (n := av) (by omega)
    refine Wp.regionSeq [(2, .tup [.one (vi (costW av)), .one (vi 0)], [])] [(0, xi av), (1, xi bv), (5, .y (.one (.sc (.string (opNm av))))), (6, xi 0), (7, .y (.one (.sc (.string ⟨#[]⟩)))), (8, xi 3), (9, xi (costW av)), (10, xi 0)] []
      (cast (And.intro (ob_pure (P := pg) (A := an) (H := []) (g := 5) (vals := [.y (.agg [vi av, vi 0, vi 0, vi 0, vi 0, .sc (.complex .f64 0 0), .sc (.string ⟨#[]⟩), vi 0, vi 0, .sl false true true [] 0, .sl false true true [] 0])]) (xs0 := [.agg [vi av, vi 0, vi 0, vi 0, vi 0, .sc (.complex .f64 0 0), .sc (.string ⟨#[]⟩), vi 0, vi 0, .sl false true true [] 0, .sl false true true [] 0]]) (xs1 := [.agg [vi av, vi 0, vi 0, vi 0, vi 0, .sc (.complex .f64 0 0), .sc (.string ⟨#[]⟩), vi 0, vi 0, .sl false true true [] 0, .sl false true true [] 0]]) (res := [.one (vi (costW av)), .one (vi 0)]) (ats := #[]) (ty := 0) (v := .tup [.one (vi (costW av)), .one (vi 0)]) [.tmp 0] (by kernel_rfl) (by kernel_rfl) (by kernel_rfl) (fn5i (n := av) (by omega)) (by kernel_rfl)) trivial) (by kernel_rfl)) (by kernel_rfl) ?_
    refine Wp.seq ?_
    refine Wp.regionSeq [] [(0, xi av), (1, xi bv), (5, .y (.one (.sc (.string (opNm av))))), (6, xi 0), (7, .y (.one (.sc (.string ⟨#[]⟩)))), (8, xi 3), (9, xi (costW av)), (10, xi 0), (30, xb false)] []
      (cast trivial (by kernel_rfl)) (by kernel_rfl) ?_
    refine Wp.condF (by kernel_rfl) ?_
    refine Wp.skip ?_
    refine Wp.regionSeq [(1, .tup [.one (vi av), .one (vi 0)], [])] [(0, xi av), (1, xi bv), (5, .y (.one (.sc (.string (opNm av))))), (7, .y (.one (.sc (.string ⟨#[]⟩)))), (8, xi 3), (9, xi (costW av)), (10, xi 0), (11, xi av), (12, xi 0)] []
      (cast (And.intro (ob_pure (P := pg) (A := an) (H := []) (g := 7) (vals := [.y (.one (.sc (.string (opNm av))))]) (xs0 := [.one (.sc (.string (opNm av)))]) (xs1 := [.one (.sc (.string (opNm av)))]) (res := [.one (vi av), .one (vi 0)]) (ats := #[]) (ty := 0) (v := .tup [.one (vi av), .one (vi 0)]) [.tmp 0] (by kernel_rfl) (by kernel_rfl) (by kernel_rfl) (fn7i (n := av) (by omega)) (by kernel_rfl)) trivial) (by kernel_rfl)) (by kernel_rfl) ?_
    refine Wp.seq ?_
    refine Wp.regionSeq [(5, xb false, []), (13, xb false, []), (17, xb false, []), (23, xb false, []), (27, xb false, [])] [(0, xi av), (1, xi bv), (5, .y (.one (.sc (.string (opNm av))))), (7, .y (.one (.sc (.string ⟨#[]⟩)))), (8, xi 3), (89, xb false)] []
      (cast (And.intro (ob_raw (P := pg) (A := an) (vals := [xi av, xi av]) (H := []) (op := .binOp .neq 3 (.tmp 0) (.tmp 1) 3) (ty := 0) (r := xb ((av : Int) != av)) (v := xb false) (by kernel_rfl) (congrArg (fun z => xb z) (bne_f (by omega)))) (And.intro (ob_raw (P := pg) (A := an) (vals := [xi (costW av), xi 1]) (H := []) (op := .binOp .lss 3 (.tmp 0) (.tmp 1) 3) (ty := 0) (r := xb (decide (((costW av) : Int) < 1))) (v := xb false) (by kernel_rfl) (congrArg (fun z => xb z) (decide_eq_false (by omega)))) (And.intro (ob_raw (P := pg) (A := an) (vals := [xi (costW av), xi 8]) (H := []) (op := .binOp .gtr 3 (.tmp 0) (.tmp 1) 3) (ty := 0) (r := xb (decide (((costW av) : Int) > 8))) (v := xb false) (by kernel_rfl) (congrArg (fun z => xb z) (decide_eq_false (by omega)))) (And.intro (ob_raw (P := pg) (A := an) (vals := [xi av, xi 1]) (H := []) (op := .binOp .lss 3 (.tmp 0) (.tmp 1) 3) (ty := 0) (r := xb (decide ((av : Int) < 1))) (v := xb false) (by kernel_rfl) (congrArg (fun z => xb z) (decide_eq_false (by omega)))) (And.intro (ob_raw (P := pg) (A := an) (vals := [xi av, xi 46]) (H := []) (op := .binOp .gtr 3 (.tmp 0) (.tmp 1) 3) (ty := 0) (r := xb (decide ((av : Int) > 46))) (v := xb false) (by kernel_rfl) (congrArg (fun z => xb z) (decide_eq_false (by omega)))) trivial))))) (by kernel_rfl)) (by kernel_rfl) ?_
    refine Wp.condF (by kernel_rfl) ?_
    refine Wp.skip ?_
    refine Wp.regionSeq [(12, xb true, [])] [(4, xb true)] []
      (cast (And.intro (ob_pure (P := pg) (A := an) (H := []) (g := 6) (vals := []) (xs0 := []) (xs1 := []) (res := [.one (vb true)]) (ats := #[]) (ty := 0) (v := xb true) [] (by kernel_rfl) (by kernel_rfl) (by kernel_rfl) fn6 (by kernel_rfl)) trivial) (by kernel_rfl)) (by kernel_rfl) ?_
    refine Wp.ret ?_
    exact ⟨Or.inr rfl, [.one (vb true)], by kernel_rfl, rfl⟩
   ·
    by_cases c10 : (46 : Int) < bv
    ·
     refine Wp.regionSeq [(1, .tup [.one (.sc (.string ⟨#[]⟩)), .one (vi 3)], [])] [(0, xi av), (1, xi bv), (5, .y (.one (.sc (.string (opNm av))))), (6, xi 0), (7, .y (.one (.sc (.string ⟨#[]⟩)))), (8, xi 3)] []
       (cast (And.intro (ob_pure (P := pg) (A := an) (H := []) (g := 4) (vals := [xi bv]) (xs0 := [.one (vi bv)]) (xs1 := [.one (vi bv)]) (res := [.one (.sc (.string ⟨#[]⟩)), .one (vi 3)]) (ats := #[]) (ty := 0) (v := .tup [.one (.sc (.string ⟨#[]⟩)), .one (vi 3)]) [.tmp 0] (by kernel_rfl) (by kernel_rfl) (by kernel_rfl) (fn4o bv (by omega)) (by kernel_rfl)) trivial) (by kernel_rfl)) (by kernel_rfl) ?_
     have hcz11 := cost_is (n := av) (by omega)
     refine Wp.regionSeq [(2, .tup [.one (vi (costW av)), .one (vi 0)], [])] [(0, xi av), (1, xi bv), (5, .y (.one (.sc (.string (opNm av))))), (6, xi 0), (7, .y (.one (.sc (.string ⟨#[]⟩)))), (8, xi 3), (9, xi (costW av)), (10, xi 0)] []
       (cast (And.intro (ob_pure (P := pg) (A := an) (H := []) (g := 5) (vals := [.y (.agg [vi av, vi 0, vi 0, vi 0, vi 0, .sc (.complex .f64 0 0), .sc (.string ⟨#[]⟩), vi 0, vi 0, .sl false true true [] 0, .sl false true true [] 0])]) (xs0 := [.agg [vi av, vi 0, vi 0, vi 0, vi 0, .sc (.complex .f64 0 0), .sc (.string ⟨#[]⟩), vi 0, vi 0, .sl false true true [] 0, .sl false true true [] 0]]) (xs1 := [.agg [vi av, vi 0, vi 0, vi 0, vi 0, .sc (.complex .f64 0 0), .sc (.string ⟨#[]⟩), vi 0, vi 0, .sl false true true [] 0, .sl false true true [] 0]]) (res := [.one (vi (costW av)), .one (vi 0)]) (ats := #[]) (ty := 0) (v := .tup [.one (vi (costW av)), .one (vi 0)]) [.tmp 0] (by kernel_rfl) (by kernel_rfl) (by kernel_rfl) (fn5i (n := av) (by omega)) (by kernel_rfl)) trivial) (by kernel_rfl)) (by kernel_rfl) ?_
     refine Wp.seq ?_
     refine Wp.regionSeq [] [(0, xi av), (1, xi bv), (5, .y (.one (.sc (.string (opNm av))))), (6, xi 0), (7, .y (.one (.sc (.string ⟨#[]⟩)))), (8, xi 3), (9, xi (costW av)), (10, xi 0), (30, xb false)] []
       (cast trivial (by kernel_rfl)) (by kernel_rfl) ?_
     refine Wp.condF (by kernel_rfl) ?_
     refine Wp.skip ?_
     refine Wp.regionSeq [(1, .tup [.one (vi av), .one (vi 0)], [])] [(0, xi av), (1, xi bv), (5, .y (.one (.sc (.string (opNm av))))), (7, .y (.one (.sc (.string ⟨#[]⟩)))), (8, xi 3), (9, xi (costW av)), (10, xi 0), (11, xi av), (12, xi 0)] []
       (cast (And.intro (ob_pure (P := pg) (A := an) (H := []) (g := 7) (vals := [.y (.one (.sc (.string (opNm av))))]) (xs0 := [.one (.sc (.string (opNm av)))]) (xs1 := [.one (.sc (.string (opNm av)))]) (res := [.one (vi av), .one (vi 0)]) (ats := #[]) (ty := 0) (v := .tup [.one (vi av), .one (vi 0)]) [.tmp 0] (by kernel_rfl) (by kernel_rfl) (by kernel_rfl) (fn7i (n := av) (by omega)) (by kernel_rfl)) trivial) (by kernel_rfl)) (by kernel_rfl) ?_
     refine Wp.seq ?_
     refine Wp.regionSeq [(5, xb false, []), (13, xb false, []), (17, xb false, []), (23, xb false, []), (27, xb false, [])] [(0, xi av), (1, xi bv), (5, .y (.one (.sc (.string (opNm av))))), (7, .y (.one (.sc (.string ⟨#[]⟩)))), (8, xi 3), (89, xb false)] []
       (cast (And.intro (ob_raw (P := pg) (A := an) (vals := [xi av, xi av]) (H := []) (op := .binOp .neq 3 (.tmp 0) (.tmp 1) 3) (ty := 0) (r := xb ((av : Int) != av)) (v := xb false) (by kernel_rfl) (congrArg (fun z => xb z) (bne_f (by omega)))) (And.intro (ob_raw (P := pg) (A := an) (vals := [xi (costW av), xi 1]) (H := []) (op := .binOp .lss 3 (.tmp 0) (.tmp 1) 3) (ty := 0) (r := xb (decide (((costW av) : Int) < 1))) (v := xb false) (by kernel_rfl) (congrArg (fun z => xb z) (decide_eq_false (by omega)))) (And.intro (ob_raw (P := pg) (A := an) (vals := [xi (costW av), xi 8]) (H := []) (op := .binOp .gtr 3 (.tmp 0) (.tmp 1) 3) (ty := 0) (r := xb (decide (((costW av) : Int) > 8))) (v := xb false) (by kernel_rfl) (congrArg (fun z => xb z) (decide_eq_false (by omega)))) (And.intro (ob_raw (P := pg) (A := an) (vals := [xi av, xi 1]) (H := []) (op := .binOp .lss 3 (.tmp 0) (.tmp 1) 3) (ty := 0) (r := xb (decide ((av : Int) < 1))) (v := xb false) (by kernel_rfl) (congrArg (fun z => xb z) (decide_eq_false (by omega)))) (And.intro (ob_raw (P := pg) (A := an) (vals := [xi av, xi 46]) (H := []) (op := .binOp .gtr 3 (.tmp 0) (.tmp 1) 3) (ty := 0) (r := xb (decide ((av : Int) > 46))) (v := xb false) (by kernel_rfl) (congrArg (fun z => xb z) (decide_eq_false (by omega)))) trivial))))) (by kernel_rfl)) (by kernel_rfl) ?_
     refine Wp.condF (by kernel_rfl) ?_
     refine Wp.skip ?_
     refine Wp.regionSeq [(12, xb true, [])] [(4, xb true)] []
       (cast (And.intro (ob_pure (P := pg) (A := an) (H := []) (g := 6) (vals := []) (xs0 := []) (xs1 := []) (res := [.one (vb true)]) (ats := #[]) (ty := 0) (v := xb true) [] (by kernel_rfl) (by kernel_rfl) (by kernel_rfl) fn6 (by kernel_rfl)) trivial) (by kernel_rfl)) (by kernel_rfl) ?_
     refine Wp.ret ?_
     exact ⟨Or.inr rfl, [.one (vb true)], by kernel_rfl, rfl⟩
    ·
     refine Wp.regionSeq [(1, .tup [.one (.sc (.string (opNm bv))), .one (vi 0)], [])] [(0, xi av), (1, xi bv), (5, .y (.one (.sc (.string (opNm av))))), (6, xi 0), (7, .y (.one (.sc (.string (opNm bv))))), (8, xi 0)] []
       (cast (And.intro (ob_pure (P := pg) (A := an) (H := []) (g := 4) (vals := [xi bv]) (xs0 := [.one (vi bv)]) (xs1 := [.one (vi bv)]) (res := [.one (.sc (.string (opNm bv))), .one (vi 0)]) (ats := #[]) (ty := 0) (v := .tup [.one (.sc (.string (opNm bv))), .one (vi 0)]) [.tmp 0] (by kernel_rfl) (by kernel_rfl) (by kernel_rfl) (fn4i (n := bv) (by omega)) (by kernel_rfl)) trivial) (by kernel_rfl)) (by kernel_rfl) ?_
     have hcz13 := cost_is (n := av) (by omega)
     refine Wp.regionSeq [(2, .tup [.one (vi (costW av)), .one (vi 0)], [])] [(0, xi av), (1, xi bv), (5, .y (.one (.sc (.string (opNm av))))), (6, xi 0), (7, .y (.one (.sc (.string (opNm bv))))), (8, xi 0), (9, xi (costW av)), (10, xi 0)] []
       (cast (And.intro (ob_pure (P := pg) (A := an) (H := []) (g := 5) (vals := [.y (.agg [vi av, vi 0, vi 0, vi 0, vi 0, .sc (.complex .f64 0 0), .sc (.string ⟨#[]⟩), vi 0, vi 0, .sl false true true [] 0, .sl false true true [] 0])]) (xs0 := [.agg [vi av, vi 0, vi 0, vi 0, vi 0, .sc (.complex .f64 0 0), .sc (.string ⟨#[]⟩), vi 0, vi 0, .sl false true true [] 0, .sl false true true [] 0]]) (xs1 := [.agg [vi av, vi 0, vi 0, vi 0, vi 0, .sc (.complex .f64 0 0), .sc (.string ⟨#[]⟩), vi 0, vi 0, .sl false true true [] 0, .sl false true true [] 0]]) (res := [.one (vi (costW av)), .one (vi 0)]) (ats := #[]) (ty := 0) (v := .tup [.one (vi (costW av)), .one (vi 0)]) [.tmp 0] (by kernel_rfl) (by kernel_rfl) (by kernel_rfl) (fn5i (n := av) (by omega)) (by kernel_rfl)) trivial) (by kernel_rfl)) (by kernel_rfl) ?_
     refine Wp.seq ?_
     refine Wp.regionSeq [] [(0, xi av), (1, xi bv), (5, .y (.one (.sc (.string (opNm av))))), (6, xi 0), (7, .y (.one (.sc (.string (opNm bv))))), (8, xi 0), (9, xi (costW av)), (10, xi 0), (30, xb false)] []
       (cast trivial (by kernel_rfl)) (by kernel_rfl) ?_
     refine Wp.condF (by kernel_rfl) ?_
     refine Wp.skip ?_
     refine Wp.regionSeq [(1, .tup [.one (vi av), .one (vi 0)], [])] [(0, xi av), (1, xi bv), (5, .y (.one (.sc (.string (opNm av))))), (7, .y (.one (.sc (.string (opNm bv))))), (8, xi 0), (9, xi (costW av)), (10, xi 0), (11, xi av), (12, xi 0)] []
       (cast (And.intro (ob_pure (P := pg) (A := an) (H := []) (g := 7) (vals := [.y (.one (.sc (.string (opNm av))))]) (xs0 := [.one (.sc (.string (opNm av)))]) (xs1 := [.one (.sc (.string (opNm av)))]) (res := [.one (vi av), .one (vi 0)]) (ats := #[]) (ty := 0) (v := .tup [.one (vi av), .one (vi 0)]) [.tmp 0] (by kernel_rfl) (by kernel_rfl) (by kernel_rfl) (fn7i (n := av) (by omega)) (by kernel_rfl)) trivial) (by kernel_rfl)) (by kernel_rfl) ?_
     refine Wp.seq ?_
     refine Wp.regionSeq [(5, xb false, []), (13, xb false, []), (17, xb false, []), (23, xb false, []), (27, xb false, [])] [(0, xi av), (1, xi bv), (5, .y (.one (.sc (.string (opNm av))))), (7, .y (.one (.sc (.string (opNm bv))))), (8, xi 0), (89, xb false)] []
       (cast (And.intro (ob_raw (P := pg) (A := an) (vals := [xi av, xi av]) (H := []) (op := .binOp .neq 3 (.tmp 0) (.tmp 1) 3) (ty := 0) (r := xb ((av : Int) != av)) (v := xb false) (by kernel_rfl) (congrArg (fun z => xb z) (bne_f (by omega)))) (And.intro (ob_raw (P := pg) (A := an) (vals := [xi (costW av), xi 1]) (H := []) (op := .binOp .lss 3 (.tmp 0) (.tmp 1) 3) (ty := 0) (r := xb (decide (((costW av) : Int) < 1))) (v := xb false) (by kernel_rfl) (congrArg (fun z => xb z) (decide_eq_false (by omega)))) (And.intro (ob_raw (P := pg) (A := an) (vals := [xi (costW av), xi 8]) (H := []) (op := .binOp .gtr 3 (.tmp 0) (.tmp 1) 3) (ty := 0) (r := xb (decide (((costW av) : Int) > 8))) (v := xb false) (by kernel_rfl) (congrArg (fun z => xb z) (decide_eq_false (by omega)))) (And.intro (ob_raw (P := pg) (A := an) (vals := [xi av, xi 1]) (H := []) (op := .binOp .lss 3 (.tmp 0) (.tmp 1) 3) (ty := 0) (r := xb (decide ((av : Int) < 1))) (v := xb false) (by kernel_rfl) (congrArg (fun z => xb z) (decide_eq_false (by omega)))) (And.intro (ob_raw (P := pg) (A := an) (vals := [xi av, xi 46]) (H := []) (op := .binOp .gtr 3 (.tmp 0) (.tmp 1) 3) (ty := 0) (r := xb (decide ((av : Int) > 46))) (v := xb false) (by kernel_rfl) (congrArg (fun z => xb z) (decide_eq_false (by omega)))) trivial))))) (by kernel_rfl)) (by kernel_rfl) ?_
     refine Wp.condF (by kernel_rfl) ?_
     refine Wp.skip ?_
     by_cases c15 : (av : Int) = bv
     ·
      refine Wp.regionSeq [(5, xb true, []), (8, xb true, []), (12, xb true, [])] [(4, xb true)] []
        (cast (And.intro (ob_raw (P := pg) (A := an) (vals := [.y (.one (.sc (.string (opNm av)))), .y (.one (.sc (.string (opNm bv))))]) (H := []) (op := .binOp .eql 9 (.tmp 0) (.tmp 1) 9) (ty := 0) (r := xb (((opNm av).toList == (opNm bv).toList))) (v := xb true) (by kernel_rfl) (congrArg (fun z => xb z) (op_t (a := av) (b := bv) (by omega) (by omega) (by omega)))) (And.intro (ob_raw (P := pg) (A := an) (vals := [xi av, xi bv]) (H := []) (op := .binOp .eql 3 (.tmp 0) (.tmp 1) 3) (ty := 0) (r := xb ((av : Int) == bv)) (v := xb true) (by kernel_rfl) (congrArg (fun z => xb z) (beq_t (by omega)))) (And.intro (ob_pure (P := pg) (A := an) (H := []) (g := 6) (vals := []) (xs0 := []) (xs1 := []) (res := [.one (vb true)]) (ats := #[]) (ty := 0) (v := xb true) [] (by kernel_rfl) (by kernel_rfl) (by kernel_rfl) fn6 (by kernel_rfl)) trivial))) (by kernel_rfl)) (by kernel_rfl) ?_
      refine Wp.ret ?_
      exact ⟨Or.inr rfl, [.one (vb true)], by kernel_rfl, rfl⟩
     ·
      refine Wp.regionSeq [(5, xb false, []), (8, xb false, []), (12, xb true, [])] [(4, xb true)] []
        (cast (And.intro (ob_raw (P := pg) (A := an) (vals := [.y (.one (.sc (.string (opNm av)))), .y (.one (.sc (.string (opNm bv))))]) (H := []) (op := .binOp .eql 9 (.tmp 0) (.tmp 1) 9) (ty := 0) (r := xb (((opNm av).toList == (opNm bv).toList))) (v := xb false) (by kernel_rfl) (congrArg (fun z => xb z) (op_f (a := av) (b := bv) (by omega) (by omega) (by omega)))) (And.intro (ob_raw (P := pg) (A := an) (vals := [xi av, xi bv]) (H := []) (op := .binOp .eql 3 (.tmp 0) (.tmp 1) 3) (ty := 0) (r := xb ((av : Int) == bv)) (v := xb false) (by kernel_rfl) (congrArg (fun z => xb z) (beq_f (by omega)))) (And.intro (ob_pure (P := pg) (A := an) (H := []) (g := 6) (vals := []) (xs0 := []) (xs1 := []) (res := [.one (vb true)]) (ats := #[]) (ty := 0) (v := xb true) [] (by kernel_rfl) (by kernel_rfl) (by kernel_rfl) fn6 (by kernel_rfl)) trivial))) (by kernel_rfl)) (by kernel_rfl) ?_
      refine Wp.ret ?_
      exact ⟨Or.inr rfl, [.one (vb true)], by kernel_rfl, rfl⟩
end Go.Proofs.Ytgbhmenlbhmafaa
