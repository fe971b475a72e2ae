/-
  Wheel: even: the walk. (Printed by sx/r02.py.)
-/
import Derived.Test.YtoieblpjklbmoaaR02EK
namespace Go.Proofs.Ytoieblpjklbmoaa
open Go.Lg
set_option linter.unusedVariables false
set_option maxRecDepth 100000
set_option linter.unusedSimpArgs false
theorem fn17r (w0 w1 w2 : Int) : ∃ rs H', Runs pg an 17 [.agg [vi w0, vi w1, vi w2]] [] rs H' ∧ EvR w0 w1 w2 rs H' := by
 refine Runs.of (fn := Try.f17) Try.func17 rfl (by kernel_rfl) [(0, .y (.agg [vi w0, vi w1, vi w2]))] (by kernel_rfl) ?_
 refine Wp.regionSeq [] [(1, .y (.one (.ptr 0 0)))] [.obj [vi w0, vi w1, vi w2]]
   (cast trivial (by kernel_rfl)) (by kernel_rfl) ?_
 refine Wp.regionSeq [] [(1, .y (.one (.ptr 0 0))), (4, xi 0)] [.obj [vi w0, vi w1, vi w2]]
   (cast trivial (by kernel_rfl)) (by kernel_rfl) ?_
 refine Wp.seq ?_
 refine Wp.regionSeq [] [(1, .y (.one (.ptr 0 0))), (4, xi 0), (11, .y (.agg [vi w0, vi w1, vi w2])), (12, xi 0)] [.obj [vi w0, vi w1, vi w2]]
   (cast trivial (by kernel_rfl)) (by kernel_rfl) ?_
 refine Wp.block ?_
 refine Wp.loopU [(1, .y (.one (.ptr 0 0))), (4, xi 0), (11, .y (.agg [vi w0, vi w1, vi w2])), (12, xi 0)] (some ([1, 4, 11, 12], false)) 1 (by kernel_rfl) ?_
 refine WpL.step ?_
 refine Wp.regionSeq [] [(1, .y (.one (.ptr 0 0))), (4, xi 0), (11, .y (.agg [vi w0, vi w1, vi w2])), (12, xi 0), (13, xb true)] [.obj [vi w0, vi w1, vi w2]]
   (cast trivial (by kernel_rfl)) (by kernel_rfl) ?_
 refine Wp.seq ?_
 refine Wp.condT (by kernel_rfl) ?_
 refine Wp.skip ?_
 refine Wp.seq ?_
 refine Wp.block ?_
 refine Wp.regionSeq [] [(1, .y (.one (.ptr 0 0))), (4, xi 0), (6, xi w0), (11, .y (.agg [vi w0, vi w1, vi w2])), (12, xi 0)] [.obj [vi w0, vi w1, vi w2]]
   (cast trivial (by kernel_rfl)) (by kernel_rfl) ?_
 refine Wp.seq ?_
 by_cases c1 : (w0 : Int) < 1
 ·
  refine Wp.regionSeq [(1, xb true, [.obj [vi w0, vi w1, vi w2]])] [(1, .y (.one (.ptr 0 0))), (4, xi 0), (6, xi w0), (11, .y (.agg [vi w0, vi w1, vi w2])), (12, xi 0), (20, xb true)] [.obj [vi w0, vi w1, vi w2]]
    (cast (And.intro (ob_raw (P := pg) (A := an) (vals := [xi w0, xi 1]) (H := [.obj [vi w0, vi w1, vi w2]]) (op := .binOp .lss 3 (.tmp 0) (.tmp 1) 3) (ty := 0) (r := xb (decide ((w0 : Int) < 1))) (v := xb true) (by kernel_rfl) (congrArg (fun z => xb z) (decide_eq_true (by omega)))) trivial) (by kernel_rfl)) (by kernel_rfl) ?_
  refine Wp.condT (by kernel_rfl) ?_
  refine Wp.regionSeq [] [(2, .y (.one (.sl false true true [] 0))), (3, xi 1)] [.obj [vi w0, vi w1, vi w2]]
    (cast trivial (by kernel_rfl)) (by kernel_rfl) ?_
  refine Wp.ret ?_
  exact ⟨Or.inr rfl, [.one (.sl false true true [] 0), .one (vi 1)], by kernel_rfl, (.inr ⟨decide_eq_false (by omega), rfl⟩)⟩
 ·
  by_cases c2 : (64 : Int) < w0
  ·
   refine Wp.regionSeq [(1, xb false, [.obj [vi w0, vi w1, vi w2]]), (4, xb true, [.obj [vi w0, vi w1, vi w2]])] [(1, .y (.one (.ptr 0 0))), (4, xi 0), (6, xi w0), (11, .y (.agg [vi w0, vi w1, vi w2])), (12, xi 0), (20, xb true)] [.obj [vi w0, vi w1, vi w2]]
     (cast (And.intro (ob_raw (P := pg) (A := an) (vals := [xi w0, xi 1]) (H := [.obj [vi w0, vi w1, vi w2]]) (op := .binOp .lss 3 (.tmp 0) (.tmp 1) 3) (ty := 0) (r := xb (decide ((w0 : Int) < 1))) (v := xb false) (by kernel_rfl) (congrArg (fun z => xb z) (decide_eq_false (by omega)))) (And.intro (ob_raw (P := pg) (A := an) (vals := [xi w0, xi 64]) (H := [.obj [vi w0, vi w1, vi w2]]) (op := .binOp .gtr 3 (.tmp 0) (.tmp 1) 3) (ty := 0) (r := xb (decide ((w0 : Int) > 64))) (v := xb true) (by kernel_rfl) (congrArg (fun z => xb z) (decide_eq_true (by omega)))) trivial)) (by kernel_rfl)) (by kernel_rfl) ?_
   refine Wp.condT (by kernel_rfl) ?_
   refine Wp.regionSeq [] [(2, .y (.one (.sl false true true [] 0))), (3, xi 1)] [.obj [vi w0, vi w1, vi w2]]
     (cast trivial (by kernel_rfl)) (by kernel_rfl) ?_
   refine Wp.ret ?_
   exact ⟨Or.inr rfl, [.one (.sl false true true [] 0), .one (vi 1)], by kernel_rfl, (.inr ⟨decide_eq_false (by omega), rfl⟩)⟩
  ·
   refine Wp.regionSeq [(1, xb false, [.obj [vi w0, vi w1, vi w2]]), (4, xb false, [.obj [vi w0, vi w1, vi w2]])] [(1, .y (.one (.ptr 0 0))), (4, xi 0), (6, xi w0), (11, .y (.agg [vi w0, vi w1, vi w2])), (12, xi 0), (20, xb false)] [.obj [vi w0, vi w1, vi w2]]
     (cast (And.intro (ob_raw (P := pg) (A := an) (vals := [xi w0, xi 1]) (H := [.obj [vi w0, vi w1, vi w2]]) (op := .binOp .lss 3 (.tmp 0) (.tmp 1) 3) (ty := 0) (r := xb (decide ((w0 : Int) < 1))) (v := xb false) (by kernel_rfl) (congrArg (fun z => xb z) (decide_eq_false (by omega)))) (And.intro (ob_raw (P := pg) (A := an) (vals := [xi w0, xi 64]) (H := [.obj [vi w0, vi w1, vi w2]]) (op := .binOp .gtr 3 (.tmp 0) (.tmp 1) 3) (ty := 0) (r := xb (decide ((w0 : Int) > 64))) (v := xb false) (by kernel_rfl) (congrArg (fun z => xb z) (decide_eq_false (by omega)))) trivial)) (by kernel_rfl)) (by kernel_rfl) ?_
   refine Wp.condF (by kernel_rfl) ?_
   refine Wp.skip ?_
   refine Wp.region [(2, xi w0, [.obj [vi w0, vi w1, vi w2]])] [(1, .y (.one (.ptr 0 0))), (4, xi w0), (11, .y (.agg [vi w0, vi w1, vi w2])), (12, xi 0)] [.obj [vi w0, vi w1, vi w2]]
     (cast (And.intro (ob_raw (P := pg) (A := an) (vals := [xi 0, xi w0]) (H := [.obj [vi w0, vi w1, vi w2]]) (op := .binOp .add 3 (.tmp 0) (.tmp 1) 3) (ty := 0) (r := xi (IntKind.wrap .i64 (0 + w0))) (v := xi w0) (by kernel_rfl) (congrArg (fun z => xi z) ((wrap64 (by omega)).trans (by omega)))) trivial) (by kernel_rfl)) (by kernel_rfl) ?_
   refine Wp.region [] [(1, .y (.one (.ptr 0 0))), (4, xi w0), (11, .y (.agg [vi w0, vi w1, vi w2])), (12, xi 1)] [.obj [vi w0, vi w1, vi w2]]
     (cast trivial (by kernel_rfl)) (by kernel_rfl) ?_
   refine ⟨[(1, .y (.one (.ptr 0 0))), (4, xi w0), (11, .y (.agg [vi w0, vi w1, vi w2])), (12, xi 1)], [.obj [vi w0, vi w1, vi w2]], by kernel_rfl, ?_⟩
   refine WpL.step ?_
   refine Wp.regionSeq [] [(1, .y (.one (.ptr 0 0))), (4, xi w0), (11, .y (.agg [vi w0, vi w1, vi w2])), (12, xi 1), (13, xb true)] [.obj [vi w0, vi w1, vi w2]]
     (cast trivial (by kernel_rfl)) (by kernel_rfl) ?_
   refine Wp.seq ?_
   refine Wp.condT (by kernel_rfl) ?_
   refine Wp.skip ?_
   refine Wp.seq ?_
   refine Wp.block ?_
   refine Wp.regionSeq [] [(1, .y (.one (.ptr 0 0))), (4, xi w0), (6, xi w1), (11, .y (.agg [vi w0, vi w1, vi w2])), (12, xi 1)] [.obj [vi w0, vi w1, vi w2]]
     (cast trivial (by kernel_rfl)) (by kernel_rfl) ?_
   refine Wp.seq ?_
   by_cases c3 : (w1 : Int) < 1
   ·
    refine Wp.regionSeq [(1, xb true, [.obj [vi w0, vi w1, vi w2]])] [(1, .y (.one (.ptr 0 0))), (4, xi w0), (6, xi w1), (11, .y (.agg [vi w0, vi w1, vi w2])), (12, xi 1), (20, xb true)] [.obj [vi w0, vi w1, vi w2]]
      (cast (And.intro (ob_raw (P := pg) (A := an) (vals := [xi w1, xi 1]) (H := [.obj [vi w0, vi w1, vi w2]]) (op := .binOp .lss 3 (.tmp 0) (.tmp 1) 3) (ty := 0) (r := xb (decide ((w1 : Int) < 1))) (v := xb true) (by kernel_rfl) (congrArg (fun z => xb z) (decide_eq_true (by omega)))) trivial) (by kernel_rfl)) (by kernel_rfl) ?_
    refine Wp.condT (by kernel_rfl) ?_
    refine Wp.regionSeq [] [(2, .y (.one (.sl false true true [] 0))), (3, xi 1)] [.obj [vi w0, vi w1, vi w2]]
      (cast trivial (by kernel_rfl)) (by kernel_rfl) ?_
    refine Wp.ret ?_
    exact ⟨Or.inr rfl, [.one (.sl false true true [] 0), .one (vi 1)], by kernel_rfl, (.inr ⟨decide_eq_false (by omega), rfl⟩)⟩
   ·
    by_cases c4 : (64 : Int) < w1
    ·
     refine Wp.regionSeq [(1, xb false, [.obj [vi w0, vi w1, vi w2]]), (4, xb true, [.obj [vi w0, vi w1, vi w2]])] [(1, .y (.one (.ptr 0 0))), (4, xi w0), (6, xi w1), (11, .y (.agg [vi w0, vi w1, vi w2])), (12, xi 1), (20, xb true)] [.obj [vi w0, vi w1, vi w2]]
       (cast (And.intro (ob_raw (P := pg) (A := an) (vals := [xi w1, xi 1]) (H := [.obj [vi w0, vi w1, vi w2]]) (op := .binOp .lss 3 (.tmp 0) (.tmp 1) 3) (ty := 0) (r := xb (decide ((w1 : Int) < 1))) (v := xb false) (by kernel_rfl) (congrArg (fun z => xb z) (decide_eq_false (by omega)))) (And.intro (ob_raw (P := pg) (A := an) (vals := [xi w1, xi 64]) (H := [.obj [vi w0, vi w1, vi w2]]) (op := .binOp .gtr 3 (.tmp 0) (.tmp 1) 3) (ty := 0) (r := xb (decide ((w1 : Int) > 64))) (v := xb true) (by kernel_rfl) (congrArg (fun z => xb z) (decide_eq_true (by omega)))) trivial)) (by kernel_rfl)) (by kernel_rfl) ?_
     refine Wp.condT (by kernel_rfl) ?_
     refine Wp.regionSeq [] [(2, .y (.one (.sl false true true [] 0))), (3, xi 1)] [.obj [vi w0, vi w1, vi w2]]
       (cast trivial (by kernel_rfl)) (by kernel_rfl) ?_
     refine Wp.ret ?_
     exact ⟨Or.inr rfl, [.one (.sl false true true [] 0), .one (vi 1)], by kernel_rfl, (.inr ⟨decide_eq_false (by omega), rfl⟩)⟩
    ·
     refine Wp.regionSeq [(1, xb false, [.obj [vi w0, vi w1, vi w2]]), (4, xb false, [.obj [vi w0, vi w1, vi w2]])] [(1, .y (.one (.ptr 0 0))), (4, xi w0), (6, xi w1), (11, .y (.agg [vi w0, vi w1, vi w2])), (12, xi 1), (20, xb false)] [.obj [vi w0, vi w1, vi w2]]
       (cast (And.intro (ob_raw (P := pg) (A := an) (vals := [xi w1, xi 1]) (H := [.obj [vi w0, vi w1, vi w2]]) (op := .binOp .lss 3 (.tmp 0) (.tmp 1) 3) (ty := 0) (r := xb (decide ((w1 : Int) < 1))) (v := xb false) (by kernel_rfl) (congrArg (fun z => xb z) (decide_eq_false (by omega)))) (And.intro (ob_raw (P := pg) (A := an) (vals := [xi w1, xi 64]) (H := [.obj [vi w0, vi w1, vi w2]]) (op := .binOp .gtr 3 (.tmp 0) (.tmp 1) 3) (ty := 0) (r := xb (decide ((w1 : Int) > 64))) (v := xb false) (by kernel_rfl) (congrArg (fun z => xb z) (decide_eq_false (by omega)))) trivial)) (by kernel_rfl)) (by kernel_rfl) ?_
     refine Wp.condF (by kernel_rfl) ?_
     refine Wp.skip ?_
     refine Wp.region [(2, xi (w0 + w1), [.obj [vi w0, vi w1, vi w2]])] [(1, .y (.one (.ptr 0 0))), (4, xi (w0 + w1)), (11, .y (.agg [vi w0, vi w1, vi w2])), (12, xi 1)] [.obj [vi w0, vi w1, vi w2]]
       (cast (And.intro (ob_raw (P := pg) (A := an) (vals := [xi w0, xi w1]) (H := [.obj [vi w0, vi w1, vi w2]]) (op := .binOp .add 3 (.tmp 0) (.tmp 1) 3) (ty := 0) (r := xi (IntKind.wrap .i64 (w0 + w1))) (v := xi (w0 + w1)) (by kernel_rfl) (congrArg (fun z => xi z) ((wrap64 (by omega)).trans (by omega)))) trivial) (by kernel_rfl)) (by kernel_rfl) ?_
     refine Wp.region [] [(1, .y (.one (.ptr 0 0))), (4, xi (w0 + w1)), (11, .y (.agg [vi w0, vi w1, vi w2])), (12, xi 2)] [.obj [vi w0, vi w1, vi w2]]
       (cast trivial (by kernel_rfl)) (by kernel_rfl) ?_
     refine ⟨[(1, .y (.one (.ptr 0 0))), (4, xi (w0 + w1)), (11, .y (.agg [vi w0, vi w1, vi w2])), (12, xi 2)], [.obj [vi w0, vi w1, vi w2]], by kernel_rfl, ?_⟩
     refine WpL.step ?_
     refine Wp.regionSeq [] [(1, .y (.one (.ptr 0 0))), (4, xi (w0 + w1)), (11, .y (.agg [vi w0, vi w1, vi w2])), (12, xi 2), (13, xb true)] [.obj [vi w0, vi w1, vi w2]]
       (cast trivial (by kernel_rfl)) (by kernel_rfl) ?_
     refine Wp.seq ?_
     refine Wp.condT (by kernel_rfl) ?_
     refine Wp.skip ?_
     refine Wp.seq ?_
     refine Wp.block ?_
     refine Wp.regionSeq [] [(1, .y (.one (.ptr 0 0))), (4, xi (w0 + w1)), (6, xi w2), (11, .y (.agg [vi w0, vi w1, vi w2])), (12, xi 2)] [.obj [vi w0, vi w1, vi w2]]
       (cast trivial (by kernel_rfl)) (by kernel_rfl) ?_
     refine Wp.seq ?_
     by_cases c5 : (w2 : Int) < 1
     ·
      refine Wp.regionSeq [(1, xb true, [.obj [vi w0, vi w1, vi w2]])] [(1, .y (.one (.ptr 0 0))), (4, xi (w0 + w1)), (6, xi w2), (11, .y (.agg [vi w0, vi w1, vi w2])), (12, xi 2), (20, xb true)] [.obj [vi w0, vi w1, vi w2]]
        (cast (And.intro (ob_raw (P := pg) (A := an) (vals := [xi w2, xi 1]) (H := [.obj [vi w0, vi w1, vi w2]]) (op := .binOp .lss 3 (.tmp 0) (.tmp 1) 3) (ty := 0) (r := xb (decide ((w2 : Int) < 1))) (v := xb true) (by kernel_rfl) (congrArg (fun z => xb z) (decide_eq_true (by omega)))) trivial) (by kernel_rfl)) (by kernel_rfl) ?_
      refine Wp.condT (by kernel_rfl) ?_
      refine Wp.regionSeq [] [(2, .y (.one (.sl false true true [] 0))), (3, xi 1)] [.obj [vi w0, vi w1, vi w2]]
        (cast trivial (by kernel_rfl)) (by kernel_rfl) ?_
      refine Wp.ret ?_
      exact ⟨Or.inr rfl, [.one (.sl false true true [] 0), .one (vi 1)], by kernel_rfl, (.inr ⟨decide_eq_false (by omega), rfl⟩)⟩
     ·
      by_cases c6 : (64 : Int) < w2
      ·
       refine Wp.regionSeq [(1, xb false, [.obj [vi w0, vi w1, vi w2]]), (4, xb true, [.obj [vi w0, vi w1, vi w2]])] [(1, .y (.one (.ptr 0 0))), (4, xi (w0 + w1)), (6, xi w2), (11, .y (.agg [vi w0, vi w1, vi w2])), (12, xi 2), (20, xb true)] [.obj [vi w0, vi w1, vi w2]]
         (cast (And.intro (ob_raw (P := pg) (A := an) (vals := [xi w2, xi 1]) (H := [.obj [vi w0, vi w1, vi w2]]) (op := .binOp .lss 3 (.tmp 0) (.tmp 1) 3) (ty := 0) (r := xb (decide ((w2 : Int) < 1))) (v := xb false) (by kernel_rfl) (congrArg (fun z => xb z) (decide_eq_false (by omega)))) (And.intro (ob_raw (P := pg) (A := an) (vals := [xi w2, xi 64]) (H := [.obj [vi w0, vi w1, vi w2]]) (op := .binOp .gtr 3 (.tmp 0) (.tmp 1) 3) (ty := 0) (r := xb (decide ((w2 : Int) > 64))) (v := xb true) (by kernel_rfl) (congrArg (fun z => xb z) (decide_eq_true (by omega)))) trivial)) (by kernel_rfl)) (by kernel_rfl) ?_
       refine Wp.condT (by kernel_rfl) ?_
       refine Wp.regionSeq [] [(2, .y (.one (.sl false true true [] 0))), (3, xi 1)] [.obj [vi w0, vi w1, vi w2]]
         (cast trivial (by kernel_rfl)) (by kernel_rfl) ?_
       refine Wp.ret ?_
       exact ⟨Or.inr rfl, [.one (.sl false true true [] 0), .one (vi 1)], by kernel_rfl, (.inr ⟨decide_eq_false (by omega), rfl⟩)⟩
      ·
       refine Wp.regionSeq [(1, xb false, [.obj [vi w0, vi w1, vi w2]]), (4, xb false, [.obj [vi w0, vi w1, vi w2]])] [(1, .y (.one (.ptr 0 0))), (4, xi (w0 + w1)), (6, xi w2), (11, .y (.agg [vi w0, vi w1, vi w2])), (12, xi 2), (20, xb false)] [.obj [vi w0, vi w1, vi w2]]
         (cast (And.intro (ob_raw (P := pg) (A := an) (vals := [xi w2, xi 1]) (H := [.obj [vi w0, vi w1, vi w2]]) (op := .binOp .lss 3 (.tmp 0) (.tmp 1) 3) (ty := 0) (r := xb (decide ((w2 : Int) < 1))) (v := xb false) (by kernel_rfl) (congrArg (fun z => xb z) (decide_eq_false (by omega)))) (And.intro (ob_raw (P := pg) (A := an) (vals := [xi w2, xi 64]) (H := [.obj [vi w0, vi w1, vi w2]]) (op := .binOp .gtr 3 (.tmp 0) (.tmp 1) 3) (ty := 0) (r := xb (decide ((w2 : Int) > 64))) (v := xb false) (by kernel_rfl) (congrArg (fun z => xb z) (decide_eq_false (by omega)))) trivial)) (by kernel_rfl)) (by kernel_rfl) ?_
       refine Wp.condF (by kernel_rfl) ?_
       refine Wp.skip ?_
       refine Wp.region [(2, xi (w0 + w1 + w2), [.obj [vi w0, vi w1, vi w2]])] [(1, .y (.one (.ptr 0 0))), (4, xi (w0 + w1 + w2)), (11, .y (.agg [vi w0, vi w1, vi w2])), (12, xi 2)] [.obj [vi w0, vi w1, vi w2]]
         (cast (And.intro (ob_raw (P := pg) (A := an) (vals := [xi (w0 + w1), xi w2]) (H := [.obj [vi w0, vi w1, vi w2]]) (op := .binOp .add 3 (.tmp 0) (.tmp 1) 3) (ty := 0) (r := xi (IntKind.wrap .i64 ((w0 + w1) + w2))) (v := xi (w0 + w1 + w2)) (by kernel_rfl) (congrArg (fun z => xi z) ((wrap64 (by omega)).trans (by omega)))) trivial) (by kernel_rfl)) (by kernel_rfl) ?_
       refine Wp.region [] [(1, .y (.one (.ptr 0 0))), (4, xi (w0 + w1 + w2)), (11, .y (.agg [vi w0, vi w1, vi w2])), (12, xi 3)] [.obj [vi w0, vi w1, vi w2]]
         (cast trivial (by kernel_rfl)) (by kernel_rfl) ?_
       refine ⟨[(1, .y (.one (.ptr 0 0))), (4, xi (w0 + w1 + w2)), (11, .y (.agg [vi w0, vi w1, vi w2])), (12, xi 3)], [.obj [vi w0, vi w1, vi w2]], by kernel_rfl, ?_⟩
       refine WpL.step ?_
       refine Wp.regionSeq [] [(1, .y (.one (.ptr 0 0))), (4, xi (w0 + w1 + w2)), (11, .y (.agg [vi w0, vi w1, vi w2])), (12, xi 3), (13, xb false)] [.obj [vi w0, vi w1, vi w2]]
         (cast trivial (by kernel_rfl)) (by kernel_rfl) ?_
       refine Wp.seq ?_
       refine Wp.condF (by kernel_rfl) ?_
       refine Wp.exit ?_
       refine Eq.mpr (if_pos rfl) ?_
       refine Wp.seq ?_
       by_cases c7 : (64 : Int) < (w0 + w1 + w2)
       ·
        refine Wp.regionSeq [(1, xb true, [.obj [vi w0, vi w1, vi w2]])] [(1, .y (.one (.ptr 0 0))), (4, xi (w0 + w1 + w2)), (26, xb true)] [.obj [vi w0, vi w1, vi w2]]
          (cast (And.intro (ob_raw (P := pg) (A := an) (vals := [xi (w0 + w1 + w2), xi 64]) (H := [.obj [vi w0, vi w1, vi w2]]) (op := .binOp .gtr 3 (.tmp 0) (.tmp 1) 3) (ty := 0) (r := xb (decide (((w0 + w1 + w2) : Int) > 64))) (v := xb true) (by kernel_rfl) (congrArg (fun z => xb z) (decide_eq_true (by omega)))) trivial) (by kernel_rfl)) (by kernel_rfl) ?_
        refine Wp.condT (by kernel_rfl) ?_
        refine Wp.regionSeq [] [(2, .y (.one (.sl false true true [] 0))), (3, xi 1)] [.obj [vi w0, vi w1, vi w2]]
          (cast trivial (by kernel_rfl)) (by kernel_rfl) ?_
        refine Wp.ret ?_
        exact ⟨Or.inr rfl, [.one (.sl false true true [] 0), .one (vi 1)], by kernel_rfl, (.inr ⟨decide_eq_false (by omega), rfl⟩)⟩
       ·
        refine Wp.regionSeq [(1, xb false, [.obj [vi w0, vi w1, vi w2]])] [(1, .y (.one (.ptr 0 0))), (4, xi (w0 + w1 + w2)), (26, xb false)] [.obj [vi w0, vi w1, vi w2]]
          (cast (And.intro (ob_raw (P := pg) (A := an) (vals := [xi (w0 + w1 + w2), xi 64]) (H := [.obj [vi w0, vi w1, vi w2]]) (op := .binOp .gtr 3 (.tmp 0) (.tmp 1) 3) (ty := 0) (r := xb (decide (((w0 + w1 + w2) : Int) > 64))) (v := xb false) (by kernel_rfl) (congrArg (fun z => xb z) (decide_eq_false (by omega)))) trivial) (by kernel_rfl)) (by kernel_rfl) ?_
        refine Wp.condF (by kernel_rfl) ?_
        refine Wp.skip ?_
        refine Wp.regionSeq [] [(1, .y (.one (.ptr 0 0))), (4, xi (w0 + w1 + w2)), (7, .y (.one (.ptr 1 0)))] [.obj [vi w0, vi w1, vi w2], .obj [vi 0, vi 0, vi 0]]
          (cast trivial (by kernel_rfl)) (by kernel_rfl) ?_
        refine Wp.regionSeq [] [(1, .y (.one (.ptr 0 0))), (4, xi (w0 + w1 + w2)), (7, .y (.one (.ptr 1 0))), (8, .y (.one (.sl false true true [] 0)))] [.obj [vi w0, vi w1, vi w2], .obj [vi 0, vi 0, vi 0]]
          (cast trivial (by kernel_rfl)) (by kernel_rfl) ?_
        refine Wp.seq ?_
        refine Wp.regionSeq [] [(1, .y (.one (.ptr 0 0))), (4, xi (w0 + w1 + w2)), (7, .y (.one (.ptr 1 0))), (8, .y (.one (.sl false true true [] 0))), (27, xi (w0 + w1 + w2)), (28, xi 0)] [.obj [vi w0, vi w1, vi w2], .obj [vi 0, vi 0, vi 0]]
          (cast trivial (by kernel_rfl)) (by kernel_rfl) ?_
        refine Wp.block ?_
        refine Wp.loopU [(1, .y (.one (.ptr 0 0))), (4, xi (w0 + w1 + w2)), (7, .y (.one (.ptr 1 0))), (8, .y (.one (.sl false true true [] 0))), (27, xi (w0 + w1 + w2)), (28, xi 0)] (some ([1, 4, 7, 8, 27, 28], false)) 2 (by kernel_rfl) ?_
        refine WpL.peel (T := Int × Int × Int × Int × List Int) (fun (t : Int × Int × Int × Int × List Int) => match t with | (kx, c0, c1, c2, ml) => ((w0 + w1 + w2 - kx).toNat : Nat)) (fun (t : Int × Int × Int × Int × List Int) => match t with | (kx, c0, c1, c2, ml) => ([(1, .y (.one (.ptr 0 0))), (4, xi (w0 + w1 + w2)), (7, .y (.one (.ptr 1 0))), (8, .y (.one (.row 2 ml.length 0 ml.length false))), (27, xi (w0 + w1 + w2)), (28, xi kx)] : Env)) (fun (t : Int × Int × Int × Int × List Int) => match t with | (kx, c0, c1, c2, ml) => ([.obj [vi w0, vi w1, vi w2], .obj [vi c0, vi c1, vi c2], tr NI true ml] : Go.Lg.Heap))
          (fun (t : Int × Int × Int × Int × List Int) => match t with | (kx, c0, c1, c2, ml) => (0 ≤ kx ∧ kx ≤ w0 + w1 + w2 ∧ c0 = (evS w0 w1 w2 kx.toNat).1 ∧ c1 = (evS w0 w1 w2 kx.toNat).2.1 ∧ c2 = (evS w0 w1 w2 kx.toNat).2.2 ∧ ml = evL w0 w1 w2 kx.toNat ∧ c0 + c1 + c2 = 0 ∧ -(w0 + w1 + w2) < c0 ∧ -(w0 + w1 + w2) < c1 ∧ -(w0 + w1 + w2) < c2 ∧ (ml.length : Int) = kx : Prop)) ?_ ?_
        ·
         refine Wp.regionSeq [(0, xb true, [.obj [vi w0, vi w1, vi w2], .obj [vi 0, vi 0, vi 0]])] [(1, .y (.one (.ptr 0 0))), (4, xi (w0 + w1 + w2)), (7, .y (.one (.ptr 1 0))), (8, .y (.one (.sl false true true [] 0))), (27, xi (w0 + w1 + w2)), (28, xi 0), (29, xb true)] [.obj [vi w0, vi w1, vi w2], .obj [vi 0, vi 0, vi 0]]
           (cast (And.intro (ob_raw (P := pg) (A := an) (vals := [xi 0, xi (w0 + w1 + w2)]) (H := [.obj [vi w0, vi w1, vi w2], .obj [vi 0, vi 0, vi 0]]) (op := .binOp .lss 3 (.tmp 0) (.tmp 1) 3) (ty := 0) (r := xb (decide ((0 : Int) < (w0 + w1 + w2)))) (v := xb true) (by kernel_rfl) (congrArg (fun z => xb z) (decide_eq_true (by omega)))) trivial) (by kernel_rfl)) (by kernel_rfl) ?_
         refine Wp.seq ?_
         refine Wp.condT (by kernel_rfl) ?_
         refine Wp.skip ?_
         refine Wp.seq ?_
         refine Wp.block ?_
         refine Wp.regionSeq [] [(1, .y (.one (.ptr 0 0))), (4, xi (w0 + w1 + w2)), (7, .y (.one (.ptr 1 0))), (8, .y (.one (.sl false true true [] 0))), (9, xi 0), (27, xi (w0 + w1 + w2)), (28, xi 0)] [.obj [vi w0, vi w1, vi w2], .obj [vi 0, vi 0, vi 0]]
           (cast trivial (by kernel_rfl)) (by kernel_rfl) ?_
         refine Wp.seq ?_
         refine Wp.regionSeq [] [(1, .y (.one (.ptr 0 0))), (4, xi (w0 + w1 + w2)), (7, .y (.one (.ptr 1 0))), (8, .y (.one (.sl false true true [] 0))), (9, xi 0), (27, xi (w0 + w1 + w2)), (28, xi 0), (30, xi 0)] [.obj [vi w0, vi w1, vi w2], .obj [vi 0, vi 0, vi 0]]
           (cast trivial (by kernel_rfl)) (by kernel_rfl) ?_
         refine Wp.block ?_
         refine Wp.loopU [(1, .y (.one (.ptr 0 0))), (4, xi (w0 + w1 + w2)), (7, .y (.one (.ptr 1 0))), (8, .y (.one (.sl false true true [] 0))), (9, xi 0), (27, xi (w0 + w1 + w2)), (28, xi 0), (30, xi 0)] (some ([1, 4, 7, 8, 9, 27, 28, 30], false)) 2 (by kernel_rfl) ?_
         refine WpL.step ?_
         refine Wp.regionSeq [] [(1, .y (.one (.ptr 0 0))), (4, xi (w0 + w1 + w2)), (7, .y (.one (.ptr 1 0))), (8, .y (.one (.sl false true true [] 0))), (9, xi 0), (27, xi (w0 + w1 + w2)), (28, xi 0), (30, xi 0), (31, xb true)] [.obj [vi w0, vi w1, vi w2], .obj [vi 0, vi 0, vi 0]]
           (cast trivial (by kernel_rfl)) (by kernel_rfl) ?_
         refine Wp.seq ?_
         refine Wp.condT (by kernel_rfl) ?_
         refine Wp.skip ?_
         refine Wp.seq ?_
         refine Wp.block ?_
         refine Wp.regionSeq [] [(1, .y (.one (.ptr 0 0))), (4, xi (w0 + w1 + w2)), (7, .y (.one (.ptr 1 0))), (8, .y (.one (.sl false true true [] 0))), (9, xi 0), (10, xi 0), (27, xi (w0 + w1 + w2)), (28, xi 0), (30, xi 0)] [.obj [vi w0, vi w1, vi w2], .obj [vi 0, vi 0, vi 0]]
           (cast trivial (by kernel_rfl)) (by kernel_rfl) ?_
         refine Wp.regionSeq [(6, xi w0, [.obj [vi w0, vi w1, vi w2], .obj [vi 0, vi 0, vi 0]])] [(1, .y (.one (.ptr 0 0))), (4, xi (w0 + w1 + w2)), (7, .y (.one (.ptr 1 0))), (8, .y (.one (.sl false true true [] 0))), (9, xi 0), (10, xi 0), (27, xi (w0 + w1 + w2)), (28, xi 0), (30, xi 0)] [.obj [vi w0, vi w1, vi w2], .obj [vi w0, vi 0, vi 0]]
           (cast (And.intro (ob_raw (P := pg) (A := an) (vals := [xi 0, xi w0]) (H := [.obj [vi w0, vi w1, vi w2], .obj [vi 0, vi 0, vi 0]]) (op := .binOp .add 3 (.tmp 0) (.tmp 1) 3) (ty := 0) (r := xi (IntKind.wrap .i64 (0 + w0))) (v := xi w0) (by kernel_rfl) (congrArg (fun z => xi z) ((wrap64 (by omega)).trans (by omega)))) trivial) (by kernel_rfl)) (by kernel_rfl) ?_
         refine Wp.regionSeq [(6, xb false, [.obj [vi w0, vi w1, vi w2], .obj [vi w0, vi 0, vi 0]])] [(1, .y (.one (.ptr 0 0))), (4, xi (w0 + w1 + w2)), (7, .y (.one (.ptr 1 0))), (8, .y (.one (.sl false true true [] 0))), (9, xi 0), (10, xi 0), (27, xi (w0 + w1 + w2)), (28, xi 0), (30, xi 0), (47, xb false)] [.obj [vi w0, vi w1, vi w2], .obj [vi w0, vi 0, vi 0]]
           (cast (And.intro (ob_raw (P := pg) (A := an) (vals := [xi w0, xi w0]) (H := [.obj [vi w0, vi w1, vi w2], .obj [vi w0, vi 0, vi 0]]) (op := .binOp .gtr 3 (.tmp 0) (.tmp 1) 3) (ty := 0) (r := xb (decide ((w0 : Int) > w0))) (v := xb false) (by kernel_rfl) (congrArg (fun z => xb z) (decide_eq_false (by omega)))) trivial) (by kernel_rfl)) (by kernel_rfl) ?_
         refine Wp.condF (by kernel_rfl) ?_
         refine Wp.skip ?_
         refine Wp.region [] [(1, .y (.one (.ptr 0 0))), (4, xi (w0 + w1 + w2)), (7, .y (.one (.ptr 1 0))), (8, .y (.one (.sl false true true [] 0))), (9, xi 0), (27, xi (w0 + w1 + w2)), (28, xi 0), (30, xi 1)] [.obj [vi w0, vi w1, vi w2], .obj [vi w0, vi 0, vi 0]]
           (cast trivial (by kernel_rfl)) (by kernel_rfl) ?_
         refine ⟨[(1, .y (.one (.ptr 0 0))), (4, xi (w0 + w1 + w2)), (7, .y (.one (.ptr 1 0))), (8, .y (.one (.sl false true true [] 0))), (9, xi 0), (27, xi (w0 + w1 + w2)), (28, xi 0), (30, xi 1)], [.obj [vi w0, vi w1, vi w2], .obj [vi w0, vi 0, vi 0]], by kernel_rfl, ?_⟩
         refine WpL.step ?_
         refine Wp.regionSeq [] [(1, .y (.one (.ptr 0 0))), (4, xi (w0 + w1 + w2)), (7, .y (.one (.ptr 1 0))), (8, .y (.one (.sl false true true [] 0))), (9, xi 0), (27, xi (w0 + w1 + w2)), (28, xi 0), (30, xi 1), (31, xb true)] [.obj [vi w0, vi w1, vi w2], .obj [vi w0, vi 0, vi 0]]
           (cast trivial (by kernel_rfl)) (by kernel_rfl) ?_
         refine Wp.seq ?_
         refine Wp.condT (by kernel_rfl) ?_
         refine Wp.skip ?_
         refine Wp.seq ?_
         refine Wp.block ?_
         refine Wp.regionSeq [] [(1, .y (.one (.ptr 0 0))), (4, xi (w0 + w1 + w2)), (7, .y (.one (.ptr 1 0))), (8, .y (.one (.sl false true true [] 0))), (9, xi 0), (10, xi 1), (27, xi (w0 + w1 + w2)), (28, xi 0), (30, xi 1)] [.obj [vi w0, vi w1, vi w2], .obj [vi w0, vi 0, vi 0]]
           (cast trivial (by kernel_rfl)) (by kernel_rfl) ?_
         refine Wp.regionSeq [(6, xi w1, [.obj [vi w0, vi w1, vi w2], .obj [vi w0, vi 0, vi 0]])] [(1, .y (.one (.ptr 0 0))), (4, xi (w0 + w1 + w2)), (7, .y (.one (.ptr 1 0))), (8, .y (.one (.sl false true true [] 0))), (9, xi 0), (10, xi 1), (27, xi (w0 + w1 + w2)), (28, xi 0), (30, xi 1)] [.obj [vi w0, vi w1, vi w2], .obj [vi w0, vi w1, vi 0]]
           (cast (And.intro (ob_raw (P := pg) (A := an) (vals := [xi 0, xi w1]) (H := [.obj [vi w0, vi w1, vi w2], .obj [vi w0, vi 0, vi 0]]) (op := .binOp .add 3 (.tmp 0) (.tmp 1) 3) (ty := 0) (r := xi (IntKind.wrap .i64 (0 + w1))) (v := xi w1) (by kernel_rfl) (congrArg (fun z => xi z) ((wrap64 (by omega)).trans (by omega)))) trivial) (by kernel_rfl)) (by kernel_rfl) ?_
         by_cases c11 : (w0 : Int) < w1
         ·
          refine Wp.regionSeq [(6, xb true, [.obj [vi w0, vi w1, vi w2], .obj [vi w0, vi w1, vi 0]])] [(1, .y (.one (.ptr 0 0))), (4, xi (w0 + w1 + w2)), (7, .y (.one (.ptr 1 0))), (8, .y (.one (.sl false true true [] 0))), (9, xi 0), (10, xi 1), (27, xi (w0 + w1 + w2)), (28, xi 0), (30, xi 1), (47, xb true)] [.obj [vi w0, vi w1, vi w2], .obj [vi w0, vi w1, vi 0]]
            (cast (And.intro (ob_raw (P := pg) (A := an) (vals := [xi w1, xi w0]) (H := [.obj [vi w0, vi w1, vi w2], .obj [vi w0, vi w1, vi 0]]) (op := .binOp .gtr 3 (.tmp 0) (.tmp 1) 3) (ty := 0) (r := xb (decide ((w1 : Int) > w0))) (v := xb true) (by kernel_rfl) (congrArg (fun z => xb z) (decide_eq_true (by omega)))) trivial) (by kernel_rfl)) (by kernel_rfl) ?_
          refine Wp.condT (by kernel_rfl) ?_
          refine Wp.region [] [(1, .y (.one (.ptr 0 0))), (4, xi (w0 + w1 + w2)), (7, .y (.one (.ptr 1 0))), (8, .y (.one (.sl false true true [] 0))), (9, xi 1), (27, xi (w0 + w1 + w2)), (28, xi 0), (30, xi 1)] [.obj [vi w0, vi w1, vi w2], .obj [vi w0, vi w1, vi 0]]
            (cast trivial (by kernel_rfl)) (by kernel_rfl) ?_
          refine Wp.region [] [(1, .y (.one (.ptr 0 0))), (4, xi (w0 + w1 + w2)), (7, .y (.one (.ptr 1 0))), (8, .y (.one (.sl false true true [] 0))), (9, xi 1), (27, xi (w0 + w1 + w2)), (28, xi 0), (30, xi 2)] [.obj [vi w0, vi w1, vi w2], .obj [vi w0, vi w1, vi 0]]
            (cast trivial (by kernel_rfl)) (by kernel_rfl) ?_
          refine ⟨[(1, .y (.one (.ptr 0 0))), (4, xi (w0 + w1 + w2)), (7, .y (.one (.ptr 1 0))), (8, .y (.one (.sl false true true [] 0))), (9, xi 1), (27, xi (w0 + w1 + w2)), (28, xi 0), (30, xi 2)], [.obj [vi w0, vi w1, vi w2], .obj [vi w0, vi w1, vi 0]], by kernel_rfl, ?_⟩
          refine WpL.step ?_
          refine Wp.regionSeq [] [(1, .y (.one (.ptr 0 0))), (4, xi (w0 + w1 + w2)), (7, .y (.one (.ptr 1 0))), (8, .y (.one (.sl false true true [] 0))), (9, xi 1), (27, xi (w0 + w1 + w2)), (28, xi 0), (30, xi 2), (31, xb true)] [.obj [vi w0, vi w1, vi w2], .obj [vi w0, vi w1, vi 0]]
            (cast trivial (by kernel_rfl)) (by kernel_rfl) ?_
          refine Wp.seq ?_
          refine Wp.condT (by kernel_rfl) ?_
          refine Wp.skip ?_
          refine Wp.seq ?_
          refine Wp.block ?_
          refine Wp.regionSeq [] [(1, .y (.one (.ptr 0 0))), (4, xi (w0 + w1 + w2)), (7, .y (.one (.ptr 1 0))), (8, .y (.one (.sl false true true [] 0))), (9, xi 1), (10, xi 2), (27, xi (w0 + w1 + w2)), (28, xi 0), (30, xi 2)] [.obj [vi w0, vi w1, vi w2], .obj [vi w0, vi w1, vi 0]]
            (cast trivial (by kernel_rfl)) (by kernel_rfl) ?_
          refine Wp.regionSeq [(6, xi w2, [.obj [vi w0, vi w1, vi w2], .obj [vi w0, vi w1, vi 0]])] [(1, .y (.one (.ptr 0 0))), (4, xi (w0 + w1 + w2)), (7, .y (.one (.ptr 1 0))), (8, .y (.one (.sl false true true [] 0))), (9, xi 1), (10, xi 2), (27, xi (w0 + w1 + w2)), (28, xi 0), (30, xi 2)] [.obj [vi w0, vi w1, vi w2], .obj [vi w0, vi w1, vi w2]]
            (cast (And.intro (ob_raw (P := pg) (A := an) (vals := [xi 0, xi w2]) (H := [.obj [vi w0, vi w1, vi w2], .obj [vi w0, vi w1, vi 0]]) (op := .binOp .add 3 (.tmp 0) (.tmp 1) 3) (ty := 0) (r := xi (IntKind.wrap .i64 (0 + w2))) (v := xi w2) (by kernel_rfl) (congrArg (fun z => xi z) ((wrap64 (by omega)).trans (by omega)))) trivial) (by kernel_rfl)) (by kernel_rfl) ?_
          by_cases c12 : (w1 : Int) < w2
          ·
           refine Wp.regionSeq [(6, xb true, [.obj [vi w0, vi w1, vi w2], .obj [vi w0, vi w1, vi w2]])] [(1, .y (.one (.ptr 0 0))), (4, xi (w0 + w1 + w2)), (7, .y (.one (.ptr 1 0))), (8, .y (.one (.sl false true true [] 0))), (9, xi 1), (10, xi 2), (27, xi (w0 + w1 + w2)), (28, xi 0), (30, xi 2), (47, xb true)] [.obj [vi w0, vi w1, vi w2], .obj [vi w0, vi w1, vi w2]]
             (cast (And.intro (ob_raw (P := pg) (A := an) (vals := [xi w2, xi w1]) (H := [.obj [vi w0, vi w1, vi w2], .obj [vi w0, vi w1, vi w2]]) (op := .binOp .gtr 3 (.tmp 0) (.tmp 1) 3) (ty := 0) (r := xb (decide ((w2 : Int) > w1))) (v := xb true) (by kernel_rfl) (congrArg (fun z => xb z) (decide_eq_true (by omega)))) trivial) (by kernel_rfl)) (by kernel_rfl) ?_
           refine Wp.condT (by kernel_rfl) ?_
           refine Wp.region [] [(1, .y (.one (.ptr 0 0))), (4, xi (w0 + w1 + w2)), (7, .y (.one (.ptr 1 0))), (8, .y (.one (.sl false true true [] 0))), (9, xi 2), (27, xi (w0 + w1 + w2)), (28, xi 0), (30, xi 2)] [.obj [vi w0, vi w1, vi w2], .obj [vi w0, vi w1, vi w2]]
             (cast trivial (by kernel_rfl)) (by kernel_rfl) ?_
           refine Wp.region [] [(1, .y (.one (.ptr 0 0))), (4, xi (w0 + w1 + w2)), (7, .y (.one (.ptr 1 0))), (8, .y (.one (.sl false true true [] 0))), (9, xi 2), (27, xi (w0 + w1 + w2)), (28, xi 0), (30, xi 3)] [.obj [vi w0, vi w1, vi w2], .obj [vi w0, vi w1, vi w2]]
             (cast trivial (by kernel_rfl)) (by kernel_rfl) ?_
           refine ⟨[(1, .y (.one (.ptr 0 0))), (4, xi (w0 + w1 + w2)), (7, .y (.one (.ptr 1 0))), (8, .y (.one (.sl false true true [] 0))), (9, xi 2), (27, xi (w0 + w1 + w2)), (28, xi 0), (30, xi 3)], [.obj [vi w0, vi w1, vi w2], .obj [vi w0, vi w1, vi w2]], by kernel_rfl, ?_⟩
           refine WpL.step ?_
           refine Wp.regionSeq [] [(1, .y (.one (.ptr 0 0))), (4, xi (w0 + w1 + w2)), (7, .y (.one (.ptr 1 0))), (8, .y (.one (.sl false true true [] 0))), (9, xi 2), (27, xi (w0 + w1 + w2)), (28, xi 0), (30, xi 3), (31, xb false)] [.obj [vi w0, vi w1, vi w2], .obj [vi w0, vi w1, vi w2]]
             (cast trivial (by kernel_rfl)) (by kernel_rfl) ?_
           refine Wp.seq ?_
           refine Wp.condF (by kernel_rfl) ?_
           refine Wp.exit ?_
           refine Eq.mpr (if_pos rfl) ?_
           refine Wp.regionSeq [(4, xi (-w0 - w1), [.obj [vi w0, vi w1, vi w2], .obj [vi w0, vi w1, vi w2]])] [(1, .y (.one (.ptr 0 0))), (4, xi (w0 + w1 + w2)), (7, .y (.one (.ptr 1 0))), (8, .y (.one (.sl false true true [] 0))), (9, xi 2), (27, xi (w0 + w1 + w2)), (28, xi 0)] [.obj [vi w0, vi w1, vi w2], .obj [vi w0, vi w1, vi (-w0 - w1)]]
             (cast (And.intro (ob_raw (P := pg) (A := an) (vals := [xi w2, xi (w0 + w1 + w2)]) (H := [.obj [vi w0, vi w1, vi w2], .obj [vi w0, vi w1, vi w2]]) (op := .binOp .sub 3 (.tmp 0) (.tmp 1) 3) (ty := 0) (r := xi (IntKind.wrap .i64 (w2 - (w0 + w1 + w2)))) (v := xi (-w0 - w1)) (by kernel_rfl) (congrArg (fun z => xi z) ((wrap64 (by omega)).trans (by omega)))) trivial) (by kernel_rfl)) (by kernel_rfl) ?_
           refine Wp.region [(3, .y (.one (.row 2 (([] : List Int) ++ [2]).length 0 ((([] : List Int) ++ [2]).length) false)), [.obj [vi w0, vi w1, vi w2], .obj [vi w0, vi w1, vi (-w0 - w1)], tr NI true (([] : List Int) ++ [2])])] [(1, .y (.one (.ptr 0 0))), (4, xi (w0 + w1 + w2)), (7, .y (.one (.ptr 1 0))), (8, .y (.one (.row 2 (([] : List Int) ++ [2]).length 0 ((([] : List Int) ++ [2]).length) false))), (27, xi (w0 + w1 + w2)), (28, xi 0)] [.obj [vi w0, vi w1, vi w2], .obj [vi w0, vi w1, vi (-w0 - w1)], tr NI true (([] : List Int) ++ [2])]
             (cast (And.intro (ob_append_new (P := pg) (A := an) (H := [.obj [vi w0, vi w1, vi w2], .obj [vi w0, vi w1, vi (-w0 - w1)]]) (s := NI) (t := 22) (u := 22) (el := 3) (by_ := 8) (z := [vi 0]) (ty := 0) (b' := false) (nil' := true) (b := false) (nil := false) (capd := true) (l := ([] : List Int)) (m := [2]) (by kernel_rfl) (by kernel_rfl) (by kernel_rfl) (by kernel_rfl) (by kernel_rfl) (by kernel_rfl) (by have e1 : (([] : List Int).length : Int) = 0 := by { first | omega | (simp; done) | (simp; omega) }; have e2 : (([2] : List Int).length : Int) = 1 := by { first | omega | (simp; done) | (simp; omega) }; omega) (by have e1 : (([] : List Int).length : Int) = 0 := by { first | omega | (simp; done) | (simp; omega) }; have e2 : (([2] : List Int).length : Int) = 1 := by { first | omega | (simp; done) | (simp; omega) }; omega) (by have e1 : (([] : List Int).length : Int) = 0 := by { first | omega | (simp; done) | (simp; omega) }; have e2 : (([2] : List Int).length : Int) = 1 := by { first | omega | (simp; done) | (simp; omega) }; omega)) trivial) (by kernel_rfl)) (by kernel_rfl) ?_
           refine Wp.region [] [(1, .y (.one (.ptr 0 0))), (4, xi (w0 + w1 + w2)), (7, .y (.one (.ptr 1 0))), (8, .y (.one (.row 2 (([] : List Int) ++ [2]).length 0 ((([] : List Int) ++ [2]).length) false))), (27, xi (w0 + w1 + w2)), (28, xi 1)] [.obj [vi w0, vi w1, vi w2], .obj [vi w0, vi w1, vi (-w0 - w1)], tr NI true (([] : List Int) ++ [2])]
             (cast trivial (by kernel_rfl)) (by kernel_rfl) ?_
           exact ⟨(1, w0, w1, (-w0 - w1), (([] : List Int) ++ [2])), by kernel_rfl, (by have he := ev_2 (w0 := w0) (w1 := w1) (w2 := w2) (k := 0) (c0 := 0) (c1 := 0) (c2 := 0) (by omega) rfl rfl rfl (by omega); obtain ⟨g0, g1, g2, g3⟩ := he; exact ⟨by omega, by omega, g0.symm ▸ by omega, g1.symm ▸ by omega, g2.symm ▸ by omega, g3.symm, by omega, by omega, by omega, by omega, by simp⟩)⟩
          ·
           refine Wp.regionSeq [(6, xb false, [.obj [vi w0, vi w1, vi w2], .obj [vi w0, vi w1, vi w2]])] [(1, .y (.one (.ptr 0 0))), (4, xi (w0 + w1 + w2)), (7, .y (.one (.ptr 1 0))), (8, .y (.one (.sl false true true [] 0))), (9, xi 1), (10, xi 2), (27, xi (w0 + w1 + w2)), (28, xi 0), (30, xi 2), (47, xb false)] [.obj [vi w0, vi w1, vi w2], .obj [vi w0, vi w1, vi w2]]
             (cast (And.intro (ob_raw (P := pg) (A := an) (vals := [xi w2, xi w1]) (H := [.obj [vi w0, vi w1, vi w2], .obj [vi w0, vi w1, vi w2]]) (op := .binOp .gtr 3 (.tmp 0) (.tmp 1) 3) (ty := 0) (r := xb (decide ((w2 : Int) > w1))) (v := xb false) (by kernel_rfl) (congrArg (fun z => xb z) (decide_eq_false (by omega)))) trivial) (by kernel_rfl)) (by kernel_rfl) ?_
           refine Wp.condF (by kernel_rfl) ?_
           refine Wp.skip ?_
           refine Wp.region [] [(1, .y (.one (.ptr 0 0))), (4, xi (w0 + w1 + w2)), (7, .y (.one (.ptr 1 0))), (8, .y (.one (.sl false true true [] 0))), (9, xi 1), (27, xi (w0 + w1 + w2)), (28, xi 0), (30, xi 3)] [.obj [vi w0, vi w1, vi w2], .obj [vi w0, vi w1, vi w2]]
             (cast trivial (by kernel_rfl)) (by kernel_rfl) ?_
           refine ⟨[(1, .y (.one (.ptr 0 0))), (4, xi (w0 + w1 + w2)), (7, .y (.one (.ptr 1 0))), (8, .y (.one (.sl false true true [] 0))), (9, xi 1), (27, xi (w0 + w1 + w2)), (28, xi 0), (30, xi 3)], [.obj [vi w0, vi w1, vi w2], .obj [vi w0, vi w1, vi w2]], by kernel_rfl, ?_⟩
           refine WpL.step ?_
           refine Wp.regionSeq [] [(1, .y (.one (.ptr 0 0))), (4, xi (w0 + w1 + w2)), (7, .y (.one (.ptr 1 0))), (8, .y (.one (.sl false true true [] 0))), (9, xi 1), (27, xi (w0 + w1 + w2)), (28, xi 0), (30, xi 3), (31, xb false)] [.obj [vi w0, vi w1, vi w2], .obj [vi w0, vi w1, vi w2]]
             (cast trivial (by kernel_rfl)) (by kernel_rfl) ?_
           refine Wp.seq ?_
           refine Wp.condF (by kernel_rfl) ?_
           refine Wp.exit ?_
           refine Eq.mpr (if_pos rfl) ?_
           refine Wp.regionSeq [(4, xi (-w0 - w2), [.obj [vi w0, vi w1, vi w2], .obj [vi w0, vi w1, vi w2]])] [(1, .y (.one (.ptr 0 0))), (4, xi (w0 + w1 + w2)), (7, .y (.one (.ptr 1 0))), (8, .y (.one (.sl false true true [] 0))), (9, xi 1), (27, xi (w0 + w1 + w2)), (28, xi 0)] [.obj [vi w0, vi w1, vi w2], .obj [vi w0, vi (-w0 - w2), vi w2]]
             (cast (And.intro (ob_raw (P := pg) (A := an) (vals := [xi w1, xi (w0 + w1 + w2)]) (H := [.obj [vi w0, vi w1, vi w2], .obj [vi w0, vi w1, vi w2]]) (op := .binOp .sub 3 (.tmp 0) (.tmp 1) 3) (ty := 0) (r := xi (IntKind.wrap .i64 (w1 - (w0 + w1 + w2)))) (v := xi (-w0 - w2)) (by kernel_rfl) (congrArg (fun z => xi z) ((wrap64 (by omega)).trans (by omega)))) trivial) (by kernel_rfl)) (by kernel_rfl) ?_
           refine Wp.region [(3, .y (.one (.row 2 (([] : List Int) ++ [1]).length 0 ((([] : List Int) ++ [1]).length) false)), [.obj [vi w0, vi w1, vi w2], .obj [vi w0, vi (-w0 - w2), vi w2], tr NI true (([] : List Int) ++ [1])])] [(1, .y (.one (.ptr 0 0))), (4, xi (w0 + w1 + w2)), (7, .y (.one (.ptr 1 0))), (8, .y (.one (.row 2 (([] : List Int) ++ [1]).length 0 ((([] : List Int) ++ [1]).length) false))), (27, xi (w0 + w1 + w2)), (28, xi 0)] [.obj [vi w0, vi w1, vi w2], .obj [vi w0, vi (-w0 - w2), vi w2], tr NI true (([] : List Int) ++ [1])]
             (cast (And.intro (ob_append_new (P := pg) (A := an) (H := [.obj [vi w0, vi w1, vi w2], .obj [vi w0, vi (-w0 - w2), vi w2]]) (s := NI) (t := 22) (u := 22) (el := 3) (by_ := 8) (z := [vi 0]) (ty := 0) (b' := false) (nil' := true) (b := false) (nil := false) (capd := true) (l := ([] : List Int)) (m := [1]) (by kernel_rfl) (by kernel_rfl) (by kernel_rfl) (by kernel_rfl) (by kernel_rfl) (by kernel_rfl) (by have e1 : (([] : List Int).length : Int) = 0 := by { first | omega | (simp; done) | (simp; omega) }; have e2 : (([1] : List Int).length : Int) = 1 := by { first | omega | (simp; done) | (simp; omega) }; omega) (by have e1 : (([] : List Int).length : Int) = 0 := by { first | omega | (simp; done) | (simp; omega) }; have e2 : (([1] : List Int).length : Int) = 1 := by { first | omega | (simp; done) | (simp; omega) }; omega) (by have e1 : (([] : List Int).length : Int) = 0 := by { first | omega | (simp; done) | (simp; omega) }; have e2 : (([1] : List Int).length : Int) = 1 := by { first | omega | (simp; done) | (simp; omega) }; omega)) trivial) (by kernel_rfl)) (by kernel_rfl) ?_
           refine Wp.region [] [(1, .y (.one (.ptr 0 0))), (4, xi (w0 + w1 + w2)), (7, .y (.one (.ptr 1 0))), (8, .y (.one (.row 2 (([] : List Int) ++ [1]).length 0 ((([] : List Int) ++ [1]).length) false))), (27, xi (w0 + w1 + w2)), (28, xi 1)] [.obj [vi w0, vi w1, vi w2], .obj [vi w0, vi (-w0 - w2), vi w2], tr NI true (([] : List Int) ++ [1])]
             (cast trivial (by kernel_rfl)) (by kernel_rfl) ?_
           exact ⟨(1, w0, (-w0 - w2), w2, (([] : List Int) ++ [1])), by kernel_rfl, (by have he := ev_1 (w0 := w0) (w1 := w1) (w2 := w2) (k := 0) (c0 := 0) (c1 := 0) (c2 := 0) (by omega) rfl rfl rfl (by omega); obtain ⟨g0, g1, g2, g3⟩ := he; exact ⟨by omega, by omega, g0.symm ▸ by omega, g1.symm ▸ by omega, g2.symm ▸ by omega, g3.symm, by omega, by omega, by omega, by omega, by simp⟩)⟩
         ·
          refine Wp.regionSeq [(6, xb false, [.obj [vi w0, vi w1, vi w2], .obj [vi w0, vi w1, vi 0]])] [(1, .y (.one (.ptr 0 0))), (4, xi (w0 + w1 + w2)), (7, .y (.one (.ptr 1 0))), (8, .y (.one (.sl false true true [] 0))), (9, xi 0), (10, xi 1), (27, xi (w0 + w1 + w2)), (28, xi 0), (30, xi 1), (47, xb false)] [.obj [vi w0, vi w1, vi w2], .obj [vi w0, vi w1, vi 0]]
            (cast (And.intro (ob_raw (P := pg) (A := an) (vals := [xi w1, xi w0]) (H := [.obj [vi w0, vi w1, vi w2], .obj [vi w0, vi w1, vi 0]]) (op := .binOp .gtr 3 (.tmp 0) (.tmp 1) 3) (ty := 0) (r := xb (decide ((w1 : Int) > w0))) (v := xb false) (by kernel_rfl) (congrArg (fun z => xb z) (decide_eq_false (by omega)))) trivial) (by kernel_rfl)) (by kernel_rfl) ?_
          refine Wp.condF (by kernel_rfl) ?_
          refine Wp.skip ?_
          refine Wp.region [] [(1, .y (.one (.ptr 0 0))), (4, xi (w0 + w1 + w2)), (7, .y (.one (.ptr 1 0))), (8, .y (.one (.sl false true true [] 0))), (9, xi 0), (27, xi (w0 + w1 + w2)), (28, xi 0), (30, xi 2)] [.obj [vi w0, vi w1, vi w2], .obj [vi w0, vi w1, vi 0]]
            (cast trivial (by kernel_rfl)) (by kernel_rfl) ?_
          refine ⟨[(1, .y (.one (.ptr 0 0))), (4, xi (w0 + w1 + w2)), (7, .y (.one (.ptr 1 0))), (8, .y (.one (.sl false true true [] 0))), (9, xi 0), (27, xi (w0 + w1 + w2)), (28, xi 0), (30, xi 2)], [.obj [vi w0, vi w1, vi w2], .obj [vi w0, vi w1, vi 0]], by kernel_rfl, ?_⟩
          refine WpL.step ?_
          refine Wp.regionSeq [] [(1, .y (.one (.ptr 0 0))), (4, xi (w0 + w1 + w2)), (7, .y (.one (.ptr 1 0))), (8, .y (.one (.sl false true true [] 0))), (9, xi 0), (27, xi (w0 + w1 + w2)), (28, xi 0), (30, xi 2), (31, xb true)] [.obj [vi w0, vi w1, vi w2], .obj [vi w0, vi w1, vi 0]]
            (cast trivial (by kernel_rfl)) (by kernel_rfl) ?_
          refine Wp.seq ?_
          refine Wp.condT (by kernel_rfl) ?_
          refine Wp.skip ?_
          refine Wp.seq ?_
          refine Wp.block ?_
          refine Wp.regionSeq [] [(1, .y (.one (.ptr 0 0))), (4, xi (w0 + w1 + w2)), (7, .y (.one (.ptr 1 0))), (8, .y (.one (.sl false true true [] 0))), (9, xi 0), (10, xi 2), (27, xi (w0 + w1 + w2)), (28, xi 0), (30, xi 2)] [.obj [vi w0, vi w1, vi w2], .obj [vi w0, vi w1, vi 0]]
            (cast trivial (by kernel_rfl)) (by kernel_rfl) ?_
          refine Wp.regionSeq [(6, xi w2, [.obj [vi w0, vi w1, vi w2], .obj [vi w0, vi w1, vi 0]])] [(1, .y (.one (.ptr 0 0))), (4, xi (w0 + w1 + w2)), (7, .y (.one (.ptr 1 0))), (8, .y (.one (.sl false true true [] 0))), (9, xi 0), (10, xi 2), (27, xi (w0 + w1 + w2)), (28, xi 0), (30, xi 2)] [.obj [vi w0, vi w1, vi w2], .obj [vi w0, vi w1, vi w2]]
            (cast (And.intro (ob_raw (P := pg) (A := an) (vals := [xi 0, xi w2]) (H := [.obj [vi w0, vi w1, vi w2], .obj [vi w0, vi w1, vi 0]]) (op := .binOp .add 3 (.tmp 0) (.tmp 1) 3) (ty := 0) (r := xi (IntKind.wrap .i64 (0 + w2))) (v := xi w2) (by kernel_rfl) (congrArg (fun z => xi z) ((wrap64 (by omega)).trans (by omega)))) trivial) (by kernel_rfl)) (by kernel_rfl) ?_
          by_cases c13 : (w0 : Int) < w2
          ·
           refine Wp.regionSeq [(6, xb true, [.obj [vi w0, vi w1, vi w2], .obj [vi w0, vi w1, vi w2]])] [(1, .y (.one (.ptr 0 0))), (4, xi (w0 + w1 + w2)), (7, .y (.one (.ptr 1 0))), (8, .y (.one (.sl false true true [] 0))), (9, xi 0), (10, xi 2), (27, xi (w0 + w1 + w2)), (28, xi 0), (30, xi 2), (47, xb true)] [.obj [vi w0, vi w1, vi w2], .obj [vi w0, vi w1, vi w2]]
             (cast (And.intro (ob_raw (P := pg) (A := an) (vals := [xi w2, xi w0]) (H := [.obj [vi w0, vi w1, vi w2], .obj [vi w0, vi w1, vi w2]]) (op := .binOp .gtr 3 (.tmp 0) (.tmp 1) 3) (ty := 0) (r := xb (decide ((w2 : Int) > w0))) (v := xb true) (by kernel_rfl) (congrArg (fun z => xb z) (decide_eq_true (by omega)))) trivial) (by kernel_rfl)) (by kernel_rfl) ?_
           refine Wp.condT (by kernel_rfl) ?_
           refine Wp.region [] [(1, .y (.one (.ptr 0 0))), (4, xi (w0 + w1 + w2)), (7, .y (.one (.ptr 1 0))), (8, .y (.one (.sl false true true [] 0))), (9, xi 2), (27, xi (w0 + w1 + w2)), (28, xi 0), (30, xi 2)] [.obj [vi w0, vi w1, vi w2], .obj [vi w0, vi w1, vi w2]]
             (cast trivial (by kernel_rfl)) (by kernel_rfl) ?_
           refine Wp.region [] [(1, .y (.one (.ptr 0 0))), (4, xi (w0 + w1 + w2)), (7, .y (.one (.ptr 1 0))), (8, .y (.one (.sl false true true [] 0))), (9, xi 2), (27, xi (w0 + w1 + w2)), (28, xi 0), (30, xi 3)] [.obj [vi w0, vi w1, vi w2], .obj [vi w0, vi w1, vi w2]]
             (cast trivial (by kernel_rfl)) (by kernel_rfl) ?_
           refine ⟨[(1, .y (.one (.ptr 0 0))), (4, xi (w0 + w1 + w2)), (7, .y (.one (.ptr 1 0))), (8, .y (.one (.sl false true true [] 0))), (9, xi 2), (27, xi (w0 + w1 + w2)), (28, xi 0), (30, xi 3)], [.obj [vi w0, vi w1, vi w2], .obj [vi w0, vi w1, vi w2]], by kernel_rfl, ?_⟩
           refine WpL.step ?_
           refine Wp.regionSeq [] [(1, .y (.one (.ptr 0 0))), (4, xi (w0 + w1 + w2)), (7, .y (.one (.ptr 1 0))), (8, .y (.one (.sl false true true [] 0))), (9, xi 2), (27, xi (w0 + w1 + w2)), (28, xi 0), (30, xi 3), (31, xb false)] [.obj [vi w0, vi w1, vi w2], .obj [vi w0, vi w1, vi w2]]
             (cast trivial (by kernel_rfl)) (by kernel_rfl) ?_
           refine Wp.seq ?_
           refine Wp.condF (by kernel_rfl) ?_
           refine Wp.exit ?_
           refine Eq.mpr (if_pos rfl) ?_
           refine Wp.regionSeq [(4, xi (-w0 - w1), [.obj [vi w0, vi w1, vi w2], .obj [vi w0, vi w1, vi w2]])] [(1, .y (.one (.ptr 0 0))), (4, xi (w0 + w1 + w2)), (7, .y (.one (.ptr 1 0))), (8, .y (.one (.sl false true true [] 0))), (9, xi 2), (27, xi (w0 + w1 + w2)), (28, xi 0)] [.obj [vi w0, vi w1, vi w2], .obj [vi w0, vi w1, vi (-w0 - w1)]]
             (cast (And.intro (ob_raw (P := pg) (A := an) (vals := [xi w2, xi (w0 + w1 + w2)]) (H := [.obj [vi w0, vi w1, vi w2], .obj [vi w0, vi w1, vi w2]]) (op := .binOp .sub 3 (.tmp 0) (.tmp 1) 3) (ty := 0) (r := xi (IntKind.wrap .i64 (w2 - (w0 + w1 + w2)))) (v := xi (-w0 - w1)) (by kernel_rfl) (congrArg (fun z => xi z) ((wrap64 (by omega)).trans (by omega)))) trivial) (by kernel_rfl)) (by kernel_rfl) ?_
           refine Wp.region [(3, .y (.one (.row 2 (([] : List Int) ++ [2]).length 0 ((([] : List Int) ++ [2]).length) false)), [.obj [vi w0, vi w1, vi w2], .obj [vi w0, vi w1, vi (-w0 - w1)], tr NI true (([] : List Int) ++ [2])])] [(1, .y (.one (.ptr 0 0))), (4, xi (w0 + w1 + w2)), (7, .y (.one (.ptr 1 0))), (8, .y (.one (.row 2 (([] : List Int) ++ [2]).length 0 ((([] : List Int) ++ [2]).length) false))), (27, xi (w0 + w1 + w2)), (28, xi 0)] [.obj [vi w0, vi w1, vi w2], .obj [vi w0, vi w1, vi (-w0 - w1)], tr NI true (([] : List Int) ++ [2])]
             (cast (And.intro (ob_append_new (P := pg) (A := an) (H := [.obj [vi w0, vi w1, vi w2], .obj [vi w0, vi w1, vi (-w0 - w1)]]) (s := NI) (t := 22) (u := 22) (el := 3) (by_ := 8) (z := [vi 0]) (ty := 0) (b' := false) (nil' := true) (b := false) (nil := false) (capd := true) (l := ([] : List Int)) (m := [2]) (by kernel_rfl) (by kernel_rfl) (by kernel_rfl) (by kernel_rfl) (by kernel_rfl) (by kernel_rfl) (by have e1 : (([] : List Int).length : Int) = 0 := by { first | omega | (simp; done) | (simp; omega) }; have e2 : (([2] : List Int).length : Int) = 1 := by { first | omega | (simp; done) | (simp; omega) }; omega) (by have e1 : (([] : List Int).length : Int) = 0 := by { first | omega | (simp; done) | (simp; omega) }; have e2 : (([2] : List Int).length : Int) = 1 := by { first | omega | (simp; done) | (simp; omega) }; omega) (by have e1 : (([] : List Int).length : Int) = 0 := by { first | omega | (simp; done) | (simp; omega) }; have e2 : (([2] : List Int).length : Int) = 1 := by { first | omega | (simp; done) | (simp; omega) }; omega)) trivial) (by kernel_rfl)) (by kernel_rfl) ?_
           refine Wp.region [] [(1, .y (.one (.ptr 0 0))), (4, xi (w0 + w1 + w2)), (7, .y (.one (.ptr 1 0))), (8, .y (.one (.row 2 (([] : List Int) ++ [2]).length 0 ((([] : List Int) ++ [2]).length) false))), (27, xi (w0 + w1 + w2)), (28, xi 1)] [.obj [vi w0, vi w1, vi w2], .obj [vi w0, vi w1, vi (-w0 - w1)], tr NI true (([] : List Int) ++ [2])]
             (cast trivial (by kernel_rfl)) (by kernel_rfl) ?_
           exact ⟨(1, w0, w1, (-w0 - w1), (([] : List Int) ++ [2])), by kernel_rfl, (by have he := ev_2 (w0 := w0) (w1 := w1) (w2 := w2) (k := 0) (c0 := 0) (c1 := 0) (c2 := 0) (by omega) rfl rfl rfl (by omega); obtain ⟨g0, g1, g2, g3⟩ := he; exact ⟨by omega, by omega, g0.symm ▸ by omega, g1.symm ▸ by omega, g2.symm ▸ by omega, g3.symm, by omega, by omega, by omega, by omega, by simp⟩)⟩
          ·
           refine Wp.regionSeq [(6, xb false, [.obj [vi w0, vi w1, vi w2], .obj [vi w0, vi w1, vi w2]])] [(1, .y (.one (.ptr 0 0))), (4, xi (w0 + w1 + w2)), (7, .y (.one (.ptr 1 0))), (8, .y (.one (.sl false true true [] 0))), (9, xi 0), (10, xi 2), (27, xi (w0 + w1 + w2)), (28, xi 0), (30, xi 2), (47, xb false)] [.obj [vi w0, vi w1, vi w2], .obj [vi w0, vi w1, vi w2]]
             (cast (And.intro (ob_raw (P := pg) (A := an) (vals := [xi w2, xi w0]) (H := [.obj [vi w0, vi w1, vi w2], .obj [vi w0, vi w1, vi w2]]) (op := .binOp .gtr 3 (.tmp 0) (.tmp 1) 3) (ty := 0) (r := xb (decide ((w2 : Int) > w0))) (v := xb false) (by kernel_rfl) (congrArg (fun z => xb z) (decide_eq_false (by omega)))) trivial) (by kernel_rfl)) (by kernel_rfl) ?_
           refine Wp.condF (by kernel_rfl) ?_
           refine Wp.skip ?_
           refine Wp.region [] [(1, .y (.one (.ptr 0 0))), (4, xi (w0 + w1 + w2)), (7, .y (.one (.ptr 1 0))), (8, .y (.one (.sl false true true [] 0))), (9, xi 0), (27, xi (w0 + w1 + w2)), (28, xi 0), (30, xi 3)] [.obj [vi w0, vi w1, vi w2], .obj [vi w0, vi w1, vi w2]]
             (cast trivial (by kernel_rfl)) (by kernel_rfl) ?_
           refine ⟨[(1, .y (.one (.ptr 0 0))), (4, xi (w0 + w1 + w2)), (7, .y (.one (.ptr 1 0))), (8, .y (.one (.sl false true true [] 0))), (9, xi 0), (27, xi (w0 + w1 + w2)), (28, xi 0), (30, xi 3)], [.obj [vi w0, vi w1, vi w2], .obj [vi w0, vi w1, vi w2]], by kernel_rfl, ?_⟩
           refine WpL.step ?_
           refine Wp.regionSeq [] [(1, .y (.one (.ptr 0 0))), (4, xi (w0 + w1 + w2)), (7, .y (.one (.ptr 1 0))), (8, .y (.one (.sl false true true [] 0))), (9, xi 0), (27, xi (w0 + w1 + w2)), (28, xi 0), (30, xi 3), (31, xb false)] [.obj [vi w0, vi w1, vi w2], .obj [vi w0, vi w1, vi w2]]
             (cast trivial (by kernel_rfl)) (by kernel_rfl) ?_
           refine Wp.seq ?_
           refine Wp.condF (by kernel_rfl) ?_
           refine Wp.exit ?_
           refine Eq.mpr (if_pos rfl) ?_
           refine Wp.regionSeq [(4, xi (-w1 - w2), [.obj [vi w0, vi w1, vi w2], .obj [vi w0, vi w1, vi w2]])] [(1, .y (.one (.ptr 0 0))), (4, xi (w0 + w1 + w2)), (7, .y (.one (.ptr 1 0))), (8, .y (.one (.sl false true true [] 0))), (9, xi 0), (27, xi (w0 + w1 + w2)), (28, xi 0)] [.obj [vi w0, vi w1, vi w2], .obj [vi (-w1 - w2), vi w1, vi w2]]
             (cast (And.intro (ob_raw (P := pg) (A := an) (vals := [xi w0, xi (w0 + w1 + w2)]) (H := [.obj [vi w0, vi w1, vi w2], .obj [vi w0, vi w1, vi w2]]) (op := .binOp .sub 3 (.tmp 0) (.tmp 1) 3) (ty := 0) (r := xi (IntKind.wrap .i64 (w0 - (w0 + w1 + w2)))) (v := xi (-w1 - w2)) (by kernel_rfl) (congrArg (fun z => xi z) ((wrap64 (by omega)).trans (by omega)))) trivial) (by kernel_rfl)) (by kernel_rfl) ?_
           refine Wp.region [(3, .y (.one (.row 2 (([] : List Int) ++ [0]).length 0 ((([] : List Int) ++ [0]).length) false)), [.obj [vi w0, vi w1, vi w2], .obj [vi (-w1 - w2), vi w1, vi w2], tr NI true (([] : List Int) ++ [0])])] [(1, .y (.one (.ptr 0 0))), (4, xi (w0 + w1 + w2)), (7, .y (.one (.ptr 1 0))), (8, .y (.one (.row 2 (([] : List Int) ++ [0]).length 0 ((([] : List Int) ++ [0]).length) false))), (27, xi (w0 + w1 + w2)), (28, xi 0)] [.obj [vi w0, vi w1, vi w2], .obj [vi (-w1 - w2), vi w1, vi w2], tr NI true (([] : List Int) ++ [0])]
             (cast (And.intro (ob_append_new (P := pg) (A := an) (H := [.obj [vi w0, vi w1, vi w2], .obj [vi (-w1 - w2), vi w1, vi w2]]) (s := NI) (t := 22) (u := 22) (el := 3) (by_ := 8) (z := [vi 0]) (ty := 0) (b' := false) (nil' := true) (b := false) (nil := false) (capd := true) (l := ([] : List Int)) (m := [0]) (by kernel_rfl) (by kernel_rfl) (by kernel_rfl) (by kernel_rfl) (by kernel_rfl) (by kernel_rfl) (by have e1 : (([] : List Int).length : Int) = 0 := by { first | omega | (simp; done) | (simp; omega) }; have e2 : (([0] : List Int).length : Int) = 1 := by { first | omega | (simp; done) | (simp; omega) }; omega) (by have e1 : (([] : List Int).length : Int) = 0 := by { first | omega | (simp; done) | (simp; omega) }; have e2 : (([0] : List Int).length : Int) = 1 := by { first | omega | (simp; done) | (simp; omega) }; omega) (by have e1 : (([] : List Int).length : Int) = 0 := by { first | omega | (simp; done) | (simp; omega) }; have e2 : (([0] : List Int).length : Int) = 1 := by { first | omega | (simp; done) | (simp; omega) }; omega)) trivial) (by kernel_rfl)) (by kernel_rfl) ?_
           refine Wp.region [] [(1, .y (.one (.ptr 0 0))), (4, xi (w0 + w1 + w2)), (7, .y (.one (.ptr 1 0))), (8, .y (.one (.row 2 (([] : List Int) ++ [0]).length 0 ((([] : List Int) ++ [0]).length) false))), (27, xi (w0 + w1 + w2)), (28, xi 1)] [.obj [vi w0, vi w1, vi w2], .obj [vi (-w1 - w2), vi w1, vi w2], tr NI true (([] : List Int) ++ [0])]
             (cast trivial (by kernel_rfl)) (by kernel_rfl) ?_
           exact ⟨(1, (-w1 - w2), w1, w2, (([] : List Int) ++ [0])), by kernel_rfl, (by have he := ev_0 (w0 := w0) (w1 := w1) (w2 := w2) (k := 0) (c0 := 0) (c1 := 0) (c2 := 0) (by omega) rfl rfl rfl (by omega); obtain ⟨g0, g1, g2, g3⟩ := he; exact ⟨by omega, by omega, g0.symm ▸ by omega, g1.symm ▸ by omega, g2.symm ▸ by omega, g3.symm, by omega, by omega, by omega, by omega, by simp⟩)⟩
        ·
         rintro ⟨kx, c0, c1, c2, ml⟩ ⟨i1, i2, a0, a1, a2, a3, s0, s1, s2, s3, s4⟩
         show Wp _ _ _ _ [(1, .y (.one (.ptr 0 0))), (4, xi (w0 + w1 + w2)), (7, .y (.one (.ptr 1 0))), (8, .y (.one (.row 2 ml.length 0 ml.length false))), (27, xi (w0 + w1 + w2)), (28, xi kx)] [.obj [vi w0, vi w1, vi w2], .obj [vi c0, vi c1, vi c2], tr NI true ml] _
         by_cases c14 : (kx : Int) < (w0 + w1 + w2)
         ·
          refine Wp.regionSeq [(0, xb true, [.obj [vi w0, vi w1, vi w2], .obj [vi c0, vi c1, vi c2], tr NI true ml])] [(1, .y (.one (.ptr 0 0))), (4, xi (w0 + w1 + w2)), (7, .y (.one (.ptr 1 0))), (8, .y (.one (.row 2 ml.length 0 ml.length false))), (27, xi (w0 + w1 + w2)), (28, xi kx), (29, xb true)] [.obj [vi w0, vi w1, vi w2], .obj [vi c0, vi c1, vi c2], tr NI true ml]
            (cast (And.intro (ob_raw (P := pg) (A := an) (vals := [xi kx, xi (w0 + w1 + w2)]) (H := [.obj [vi w0, vi w1, vi w2], .obj [vi c0, vi c1, vi c2], tr NI true ml]) (op := .binOp .lss 3 (.tmp 0) (.tmp 1) 3) (ty := 0) (r := xb (decide ((kx : Int) < (w0 + w1 + w2)))) (v := xb true) (by kernel_rfl) (congrArg (fun z => xb z) (decide_eq_true (by omega)))) trivial) (by kernel_rfl)) (by kernel_rfl) ?_
          refine Wp.seq ?_
          refine Wp.condT (by kernel_rfl) ?_
          refine Wp.skip ?_
          refine Wp.seq ?_
          refine Wp.block ?_
          refine Wp.regionSeq [] [(1, .y (.one (.ptr 0 0))), (4, xi (w0 + w1 + w2)), (7, .y (.one (.ptr 1 0))), (8, .y (.one (.row 2 ml.length 0 ml.length false))), (9, xi 0), (27, xi (w0 + w1 + w2)), (28, xi kx)] [.obj [vi w0, vi w1, vi w2], .obj [vi c0, vi c1, vi c2], tr NI true ml]
            (cast trivial (by kernel_rfl)) (by kernel_rfl) ?_
          refine Wp.seq ?_
          refine Wp.regionSeq [] [(1, .y (.one (.ptr 0 0))), (4, xi (w0 + w1 + w2)), (7, .y (.one (.ptr 1 0))), (8, .y (.one (.row 2 ml.length 0 ml.length false))), (9, xi 0), (27, xi (w0 + w1 + w2)), (28, xi kx), (30, xi 0)] [.obj [vi w0, vi w1, vi w2], .obj [vi c0, vi c1, vi c2], tr NI true ml]
            (cast trivial (by kernel_rfl)) (by kernel_rfl) ?_
          refine Wp.block ?_
          refine Wp.loopU [(1, .y (.one (.ptr 0 0))), (4, xi (w0 + w1 + w2)), (7, .y (.one (.ptr 1 0))), (8, .y (.one (.row 2 ml.length 0 ml.length false))), (9, xi 0), (27, xi (w0 + w1 + w2)), (28, xi kx), (30, xi 0)] (some ([1, 4, 7, 8, 9, 27, 28, 30], false)) 3 (by kernel_rfl) ?_
          refine WpL.step ?_
          refine Wp.regionSeq [] [(1, .y (.one (.ptr 0 0))), (4, xi (w0 + w1 + w2)), (7, .y (.one (.ptr 1 0))), (8, .y (.one (.row 2 ml.length 0 ml.length false))), (9, xi 0), (27, xi (w0 + w1 + w2)), (28, xi kx), (30, xi 0), (31, xb true)] [.obj [vi w0, vi w1, vi w2], .obj [vi c0, vi c1, vi c2], tr NI true ml]
            (cast trivial (by kernel_rfl)) (by kernel_rfl) ?_
          refine Wp.seq ?_
          refine Wp.condT (by kernel_rfl) ?_
          refine Wp.skip ?_
          refine Wp.seq ?_
          refine Wp.block ?_
          refine Wp.regionSeq [] [(1, .y (.one (.ptr 0 0))), (4, xi (w0 + w1 + w2)), (7, .y (.one (.ptr 1 0))), (8, .y (.one (.row 2 ml.length 0 ml.length false))), (9, xi 0), (10, xi 0), (27, xi (w0 + w1 + w2)), (28, xi kx), (30, xi 0)] [.obj [vi w0, vi w1, vi w2], .obj [vi c0, vi c1, vi c2], tr NI true ml]
            (cast trivial (by kernel_rfl)) (by kernel_rfl) ?_
          refine Wp.regionSeq [(6, xi (c0 + w0), [.obj [vi w0, vi w1, vi w2], .obj [vi c0, vi c1, vi c2], tr NI true ml])] [(1, .y (.one (.ptr 0 0))), (4, xi (w0 + w1 + w2)), (7, .y (.one (.ptr 1 0))), (8, .y (.one (.row 2 ml.length 0 ml.length false))), (9, xi 0), (10, xi 0), (27, xi (w0 + w1 + w2)), (28, xi kx), (30, xi 0)] [.obj [vi w0, vi w1, vi w2], .obj [vi (c0 + w0), vi c1, vi c2], tr NI true ml]
            (cast (And.intro (ob_raw (P := pg) (A := an) (vals := [xi c0, xi w0]) (H := [.obj [vi w0, vi w1, vi w2], .obj [vi c0, vi c1, vi c2], tr NI true ml]) (op := .binOp .add 3 (.tmp 0) (.tmp 1) 3) (ty := 0) (r := xi (IntKind.wrap .i64 (c0 + w0))) (v := xi (c0 + w0)) (by kernel_rfl) (congrArg (fun z => xi z) ((wrap64 (by omega)).trans (by omega)))) trivial) (by kernel_rfl)) (by kernel_rfl) ?_
          refine Wp.regionSeq [(6, xb false, [.obj [vi w0, vi w1, vi w2], .obj [vi (c0 + w0), vi c1, vi c2], tr NI true ml])] [(1, .y (.one (.ptr 0 0))), (4, xi (w0 + w1 + w2)), (7, .y (.one (.ptr 1 0))), (8, .y (.one (.row 2 ml.length 0 ml.length false))), (9, xi 0), (10, xi 0), (27, xi (w0 + w1 + w2)), (28, xi kx), (30, xi 0), (47, xb false)] [.obj [vi w0, vi w1, vi w2], .obj [vi (c0 + w0), vi c1, vi c2], tr NI true ml]
            (cast (And.intro (ob_raw (P := pg) (A := an) (vals := [xi (c0 + w0), xi (c0 + w0)]) (H := [.obj [vi w0, vi w1, vi w2], .obj [vi (c0 + w0), vi c1, vi c2], tr NI true ml]) (op := .binOp .gtr 3 (.tmp 0) (.tmp 1) 3) (ty := 0) (r := xb (decide (((c0 + w0) : Int) > (c0 + w0)))) (v := xb false) (by kernel_rfl) (congrArg (fun z => xb z) (decide_eq_false (by omega)))) trivial) (by kernel_rfl)) (by kernel_rfl) ?_
          refine Wp.condF (by kernel_rfl) ?_
          refine Wp.skip ?_
          refine Wp.region [] [(1, .y (.one (.ptr 0 0))), (4, xi (w0 + w1 + w2)), (7, .y (.one (.ptr 1 0))), (8, .y (.one (.row 2 ml.length 0 ml.length false))), (9, xi 0), (27, xi (w0 + w1 + w2)), (28, xi kx), (30, xi 1)] [.obj [vi w0, vi w1, vi w2], .obj [vi (c0 + w0), vi c1, vi c2], tr NI true ml]
            (cast trivial (by kernel_rfl)) (by kernel_rfl) ?_
          refine ⟨[(1, .y (.one (.ptr 0 0))), (4, xi (w0 + w1 + w2)), (7, .y (.one (.ptr 1 0))), (8, .y (.one (.row 2 ml.length 0 ml.length false))), (9, xi 0), (27, xi (w0 + w1 + w2)), (28, xi kx), (30, xi 1)], [.obj [vi w0, vi w1, vi w2], .obj [vi (c0 + w0), vi c1, vi c2], tr NI true ml], by kernel_rfl, ?_⟩
          refine WpL.step ?_
          refine Wp.regionSeq [] [(1, .y (.one (.ptr 0 0))), (4, xi (w0 + w1 + w2)), (7, .y (.one (.ptr 1 0))), (8, .y (.one (.row 2 ml.length 0 ml.length false))), (9, xi 0), (27, xi (w0 + w1 + w2)), (28, xi kx), (30, xi 1), (31, xb true)] [.obj [vi w0, vi w1, vi w2], .obj [vi (c0 + w0), vi c1, vi c2], tr NI true ml]
            (cast trivial (by kernel_rfl)) (by kernel_rfl) ?_
          refine Wp.seq ?_
          refine Wp.condT (by kernel_rfl) ?_
          refine Wp.skip ?_
          refine Wp.seq ?_
          refine Wp.block ?_
          refine Wp.regionSeq [] [(1, .y (.one (.ptr 0 0))), (4, xi (w0 + w1 + w2)), (7, .y (.one (.ptr 1 0))), (8, .y (.one (.row 2 ml.length 0 ml.length false))), (9, xi 0), (10, xi 1), (27, xi (w0 + w1 + w2)), (28, xi kx), (30, xi 1)] [.obj [vi w0, vi w1, vi w2], .obj [vi (c0 + w0), vi c1, vi c2], tr NI true ml]
            (cast trivial (by kernel_rfl)) (by kernel_rfl) ?_
          refine Wp.regionSeq [(6, xi (c1 + w1), [.obj [vi w0, vi w1, vi w2], .obj [vi (c0 + w0), vi c1, vi c2], tr NI true ml])] [(1, .y (.one (.ptr 0 0))), (4, xi (w0 + w1 + w2)), (7, .y (.one (.ptr 1 0))), (8, .y (.one (.row 2 ml.length 0 ml.length false))), (9, xi 0), (10, xi 1), (27, xi (w0 + w1 + w2)), (28, xi kx), (30, xi 1)] [.obj [vi w0, vi w1, vi w2], .obj [vi (c0 + w0), vi (c1 + w1), vi c2], tr NI true ml]
            (cast (And.intro (ob_raw (P := pg) (A := an) (vals := [xi c1, xi w1]) (H := [.obj [vi w0, vi w1, vi w2], .obj [vi (c0 + w0), vi c1, vi c2], tr NI true ml]) (op := .binOp .add 3 (.tmp 0) (.tmp 1) 3) (ty := 0) (r := xi (IntKind.wrap .i64 (c1 + w1))) (v := xi (c1 + w1)) (by kernel_rfl) (congrArg (fun z => xi z) ((wrap64 (by omega)).trans (by omega)))) trivial) (by kernel_rfl)) (by kernel_rfl) ?_
          by_cases c15 : ((c0 + w0) : Int) < (c1 + w1)
          ·
           refine Wp.regionSeq [(6, xb true, [.obj [vi w0, vi w1, vi w2], .obj [vi (c0 + w0), vi (c1 + w1), vi c2], tr NI true ml])] [(1, .y (.one (.ptr 0 0))), (4, xi (w0 + w1 + w2)), (7, .y (.one (.ptr 1 0))), (8, .y (.one (.row 2 ml.length 0 ml.length false))), (9, xi 0), (10, xi 1), (27, xi (w0 + w1 + w2)), (28, xi kx), (30, xi 1), (47, xb true)] [.obj [vi w0, vi w1, vi w2], .obj [vi (c0 + w0), vi (c1 + w1), vi c2], tr NI true ml]
             (cast (And.intro (ob_raw (P := pg) (A := an) (vals := [xi (c1 + w1), xi (c0 + w0)]) (H := [.obj [vi w0, vi w1, vi w2], .obj [vi (c0 + w0), vi (c1 + w1), vi c2], tr NI true ml]) (op := .binOp .gtr 3 (.tmp 0) (.tmp 1) 3) (ty := 0) (r := xb (decide (((c1 + w1) : Int) > (c0 + w0)))) (v := xb true) (by kernel_rfl) (congrArg (fun z => xb z) (decide_eq_true (by omega)))) trivial) (by kernel_rfl)) (by kernel_rfl) ?_
           refine Wp.condT (by kernel_rfl) ?_
           refine Wp.region [] [(1, .y (.one (.ptr 0 0))), (4, xi (w0 + w1 + w2)), (7, .y (.one (.ptr 1 0))), (8, .y (.one (.row 2 ml.length 0 ml.length false))), (9, xi 1), (27, xi (w0 + w1 + w2)), (28, xi kx), (30, xi 1)] [.obj [vi w0, vi w1, vi w2], .obj [vi (c0 + w0), vi (c1 + w1), vi c2], tr NI true ml]
             (cast trivial (by kernel_rfl)) (by kernel_rfl) ?_
           refine Wp.region [] [(1, .y (.one (.ptr 0 0))), (4, xi (w0 + w1 + w2)), (7, .y (.one (.ptr 1 0))), (8, .y (.one (.row 2 ml.length 0 ml.length false))), (9, xi 1), (27, xi (w0 + w1 + w2)), (28, xi kx), (30, xi 2)] [.obj [vi w0, vi w1, vi w2], .obj [vi (c0 + w0), vi (c1 + w1), vi c2], tr NI true ml]
             (cast trivial (by kernel_rfl)) (by kernel_rfl) ?_
           refine ⟨[(1, .y (.one (.ptr 0 0))), (4, xi (w0 + w1 + w2)), (7, .y (.one (.ptr 1 0))), (8, .y (.one (.row 2 ml.length 0 ml.length false))), (9, xi 1), (27, xi (w0 + w1 + w2)), (28, xi kx), (30, xi 2)], [.obj [vi w0, vi w1, vi w2], .obj [vi (c0 + w0), vi (c1 + w1), vi c2], tr NI true ml], by kernel_rfl, ?_⟩
           refine WpL.step ?_
           refine Wp.regionSeq [] [(1, .y (.one (.ptr 0 0))), (4, xi (w0 + w1 + w2)), (7, .y (.one (.ptr 1 0))), (8, .y (.one (.row 2 ml.length 0 ml.length false))), (9, xi 1), (27, xi (w0 + w1 + w2)), (28, xi kx), (30, xi 2), (31, xb true)] [.obj [vi w0, vi w1, vi w2], .obj [vi (c0 + w0), vi (c1 + w1), vi c2], tr NI true ml]
             (cast trivial (by kernel_rfl)) (by kernel_rfl) ?_
           refine Wp.seq ?_
           refine Wp.condT (by kernel_rfl) ?_
           refine Wp.skip ?_
           refine Wp.seq ?_
           refine Wp.block ?_
           refine Wp.regionSeq [] [(1, .y (.one (.ptr 0 0))), (4, xi (w0 + w1 + w2)), (7, .y (.one (.ptr 1 0))), (8, .y (.one (.row 2 ml.length 0 ml.length false))), (9, xi 1), (10, xi 2), (27, xi (w0 + w1 + w2)), (28, xi kx), (30, xi 2)] [.obj [vi w0, vi w1, vi w2], .obj [vi (c0 + w0), vi (c1 + w1), vi c2], tr NI true ml]
             (cast trivial (by kernel_rfl)) (by kernel_rfl) ?_
           refine Wp.regionSeq [(6, xi (c2 + w2), [.obj [vi w0, vi w1, vi w2], .obj [vi (c0 + w0), vi (c1 + w1), vi c2], tr NI true ml])] [(1, .y (.one (.ptr 0 0))), (4, xi (w0 + w1 + w2)), (7, .y (.one (.ptr 1 0))), (8, .y (.one (.row 2 ml.length 0 ml.length false))), (9, xi 1), (10, xi 2), (27, xi (w0 + w1 + w2)), (28, xi kx), (30, xi 2)] [.obj [vi w0, vi w1, vi w2], .obj [vi (c0 + w0), vi (c1 + w1), vi (c2 + w2)], tr NI true ml]
             (cast (And.intro (ob_raw (P := pg) (A := an) (vals := [xi c2, xi w2]) (H := [.obj [vi w0, vi w1, vi w2], .obj [vi (c0 + w0), vi (c1 + w1), vi c2], tr NI true ml]) (op := .binOp .add 3 (.tmp 0) (.tmp 1) 3) (ty := 0) (r := xi (IntKind.wrap .i64 (c2 + w2))) (v := xi (c2 + w2)) (by kernel_rfl) (congrArg (fun z => xi z) ((wrap64 (by omega)).trans (by omega)))) trivial) (by kernel_rfl)) (by kernel_rfl) ?_
           by_cases c16 : ((c1 + w1) : Int) < (c2 + w2)
           ·
            refine Wp.regionSeq [(6, xb true, [.obj [vi w0, vi w1, vi w2], .obj [vi (c0 + w0), vi (c1 + w1), vi (c2 + w2)], tr NI true ml])] [(1, .y (.one (.ptr 0 0))), (4, xi (w0 + w1 + w2)), (7, .y (.one (.ptr 1 0))), (8, .y (.one (.row 2 ml.length 0 ml.length false))), (9, xi 1), (10, xi 2), (27, xi (w0 + w1 + w2)), (28, xi kx), (30, xi 2), (47, xb true)] [.obj [vi w0, vi w1, vi w2], .obj [vi (c0 + w0), vi (c1 + w1), vi (c2 + w2)], tr NI true ml]
              (cast (And.intro (ob_raw (P := pg) (A := an) (vals := [xi (c2 + w2), xi (c1 + w1)]) (H := [.obj [vi w0, vi w1, vi w2], .obj [vi (c0 + w0), vi (c1 + w1), vi (c2 + w2)], tr NI true ml]) (op := .binOp .gtr 3 (.tmp 0) (.tmp 1) 3) (ty := 0) (r := xb (decide (((c2 + w2) : Int) > (c1 + w1)))) (v := xb true) (by kernel_rfl) (congrArg (fun z => xb z) (decide_eq_true (by omega)))) trivial) (by kernel_rfl)) (by kernel_rfl) ?_
            refine Wp.condT (by kernel_rfl) ?_
            refine Wp.region [] [(1, .y (.one (.ptr 0 0))), (4, xi (w0 + w1 + w2)), (7, .y (.one (.ptr 1 0))), (8, .y (.one (.row 2 ml.length 0 ml.length false))), (9, xi 2), (27, xi (w0 + w1 + w2)), (28, xi kx), (30, xi 2)] [.obj [vi w0, vi w1, vi w2], .obj [vi (c0 + w0), vi (c1 + w1), vi (c2 + w2)], tr NI true ml]
              (cast trivial (by kernel_rfl)) (by kernel_rfl) ?_
            refine Wp.region [] [(1, .y (.one (.ptr 0 0))), (4, xi (w0 + w1 + w2)), (7, .y (.one (.ptr 1 0))), (8, .y (.one (.row 2 ml.length 0 ml.length false))), (9, xi 2), (27, xi (w0 + w1 + w2)), (28, xi kx), (30, xi 3)] [.obj [vi w0, vi w1, vi w2], .obj [vi (c0 + w0), vi (c1 + w1), vi (c2 + w2)], tr NI true ml]
              (cast trivial (by kernel_rfl)) (by kernel_rfl) ?_
            refine ⟨[(1, .y (.one (.ptr 0 0))), (4, xi (w0 + w1 + w2)), (7, .y (.one (.ptr 1 0))), (8, .y (.one (.row 2 ml.length 0 ml.length false))), (9, xi 2), (27, xi (w0 + w1 + w2)), (28, xi kx), (30, xi 3)], [.obj [vi w0, vi w1, vi w2], .obj [vi (c0 + w0), vi (c1 + w1), vi (c2 + w2)], tr NI true ml], by kernel_rfl, ?_⟩
            refine WpL.step ?_
            refine Wp.regionSeq [] [(1, .y (.one (.ptr 0 0))), (4, xi (w0 + w1 + w2)), (7, .y (.one (.ptr 1 0))), (8, .y (.one (.row 2 ml.length 0 ml.length false))), (9, xi 2), (27, xi (w0 + w1 + w2)), (28, xi kx), (30, xi 3), (31, xb false)] [.obj [vi w0, vi w1, vi w2], .obj [vi (c0 + w0), vi (c1 + w1), vi (c2 + w2)], tr NI true ml]
              (cast trivial (by kernel_rfl)) (by kernel_rfl) ?_
            refine Wp.seq ?_
            refine Wp.condF (by kernel_rfl) ?_
            refine Wp.exit ?_
            refine Eq.mpr (if_pos rfl) ?_
            refine Wp.regionSeq [(4, xi (c2 - w0 - w1), [.obj [vi w0, vi w1, vi w2], .obj [vi (c0 + w0), vi (c1 + w1), vi (c2 + w2)], tr NI true ml])] [(1, .y (.one (.ptr 0 0))), (4, xi (w0 + w1 + w2)), (7, .y (.one (.ptr 1 0))), (8, .y (.one (.row 2 ml.length 0 ml.length false))), (9, xi 2), (27, xi (w0 + w1 + w2)), (28, xi kx)] [.obj [vi w0, vi w1, vi w2], .obj [vi (c0 + w0), vi (c1 + w1), vi (c2 - w0 - w1)], tr NI true ml]
              (cast (And.intro (ob_raw (P := pg) (A := an) (vals := [xi (c2 + w2), xi (w0 + w1 + w2)]) (H := [.obj [vi w0, vi w1, vi w2], .obj [vi (c0 + w0), vi (c1 + w1), vi (c2 + w2)], tr NI true ml]) (op := .binOp .sub 3 (.tmp 0) (.tmp 1) 3) (ty := 0) (r := xi (IntKind.wrap .i64 ((c2 + w2) - (w0 + w1 + w2)))) (v := xi (c2 - w0 - w1)) (by kernel_rfl) (congrArg (fun z => xi z) ((wrap64 (by omega)).trans (by omega)))) trivial) (by kernel_rfl)) (by kernel_rfl) ?_
            refine Wp.region [(3, .y (.one (.row 2 (ml ++ [2]).length 0 ((ml ++ [2]).length) false)), [.obj [vi w0, vi w1, vi w2], .obj [vi (c0 + w0), vi (c1 + w1), vi (c2 - w0 - w1)], tr NI true (ml ++ [2])])] [(1, .y (.one (.ptr 0 0))), (4, xi (w0 + w1 + w2)), (7, .y (.one (.ptr 1 0))), (8, .y (.one (.row 2 (ml ++ [2]).length 0 ((ml ++ [2]).length) false))), (27, xi (w0 + w1 + w2)), (28, xi kx)] [.obj [vi w0, vi w1, vi w2], .obj [vi (c0 + w0), vi (c1 + w1), vi (c2 - w0 - w1)], tr NI true (ml ++ [2])]
              (cast (And.intro (ob_append (P := pg) (A := an) (H := [.obj [vi w0, vi w1, vi w2], .obj [vi (c0 + w0), vi (c1 + w1), vi (c2 - w0 - w1)], tr NI true ml]) (s := NI) (t := 22) (u := 22) (el := 3) (by_ := 8) (z := [vi 0]) (ty := 0) (pu := true) (b := false) (nil := false) (capd := true) (id := 2) (l := ml) (m := [2]) (by kernel_rfl) (by kernel_rfl) (by kernel_rfl) (by kernel_rfl) (by kernel_rfl) (by kernel_rfl) (by kernel_rfl) (by have e1 : (ml.length : Int) = kx := by { first | omega | (simp; done) | (simp; omega) }; have e2 : (([2] : List Int).length : Int) = 1 := by { first | omega | (simp; done) | (simp; omega) }; omega) (by have e1 : (ml.length : Int) = kx := by { first | omega | (simp; done) | (simp; omega) }; have e2 : (([2] : List Int).length : Int) = 1 := by { first | omega | (simp; done) | (simp; omega) }; omega)) trivial) (by kernel_rfl)) (by kernel_rfl) ?_
            refine Wp.region [(0, xi (kx + 1), [.obj [vi w0, vi w1, vi w2], .obj [vi (c0 + w0), vi (c1 + w1), vi (c2 - w0 - w1)], tr NI true (ml ++ [2])])] [(1, .y (.one (.ptr 0 0))), (4, xi (w0 + w1 + w2)), (7, .y (.one (.ptr 1 0))), (8, .y (.one (.row 2 (ml ++ [2]).length 0 ((ml ++ [2]).length) false))), (27, xi (w0 + w1 + w2)), (28, xi (kx + 1))] [.obj [vi w0, vi w1, vi w2], .obj [vi (c0 + w0), vi (c1 + w1), vi (c2 - w0 - w1)], tr NI true (ml ++ [2])]
              (cast (And.intro (ob_raw (P := pg) (A := an) (vals := [xi kx, xi 1]) (H := [.obj [vi w0, vi w1, vi w2], .obj [vi (c0 + w0), vi (c1 + w1), vi (c2 - w0 - w1)], tr NI true (ml ++ [2])]) (op := .binOp .add 3 (.tmp 0) (.tmp 1) 3) (ty := 0) (r := xi (IntKind.wrap .i64 (kx + 1))) (v := xi (kx + 1)) (by kernel_rfl) (congrArg (fun z => xi z) ((wrap64 (by omega)).trans (by omega)))) trivial) (by kernel_rfl)) (by kernel_rfl) ?_
            exact ⟨((kx + 1), (c0 + w0), (c1 + w1), (c2 - w0 - w1), (ml ++ [2])), by kernel_rfl, (by have he := ev_2 (w0 := w0) (w1 := w1) (w2 := w2) (k := kx) (by omega) a0 a1 a2 (by omega); obtain ⟨g0, g1, g2, g3⟩ := he; exact ⟨by omega, by omega, by omega, by omega, by omega, by rw [g3, a3], by omega, by omega, by omega, by omega, by simp; omega⟩), (by show (_ : Nat) < _; simp only []; omega)⟩
           ·
            refine Wp.regionSeq [(6, xb false, [.obj [vi w0, vi w1, vi w2], .obj [vi (c0 + w0), vi (c1 + w1), vi (c2 + w2)], tr NI true ml])] [(1, .y (.one (.ptr 0 0))), (4, xi (w0 + w1 + w2)), (7, .y (.one (.ptr 1 0))), (8, .y (.one (.row 2 ml.length 0 ml.length false))), (9, xi 1), (10, xi 2), (27, xi (w0 + w1 + w2)), (28, xi kx), (30, xi 2), (47, xb false)] [.obj [vi w0, vi w1, vi w2], .obj [vi (c0 + w0), vi (c1 + w1), vi (c2 + w2)], tr NI true ml]
              (cast (And.intro (ob_raw (P := pg) (A := an) (vals := [xi (c2 + w2), xi (c1 + w1)]) (H := [.obj [vi w0, vi w1, vi w2], .obj [vi (c0 + w0), vi (c1 + w1), vi (c2 + w2)], tr NI true ml]) (op := .binOp .gtr 3 (.tmp 0) (.tmp 1) 3) (ty := 0) (r := xb (decide (((c2 + w2) : Int) > (c1 + w1)))) (v := xb false) (by kernel_rfl) (congrArg (fun z => xb z) (decide_eq_false (by omega)))) trivial) (by kernel_rfl)) (by kernel_rfl) ?_
            refine Wp.condF (by kernel_rfl) ?_
            refine Wp.skip ?_
            refine Wp.region [] [(1, .y (.one (.ptr 0 0))), (4, xi (w0 + w1 + w2)), (7, .y (.one (.ptr 1 0))), (8, .y (.one (.row 2 ml.length 0 ml.length false))), (9, xi 1), (27, xi (w0 + w1 + w2)), (28, xi kx), (30, xi 3)] [.obj [vi w0, vi w1, vi w2], .obj [vi (c0 + w0), vi (c1 + w1), vi (c2 + w2)], tr NI true ml]
              (cast trivial (by kernel_rfl)) (by kernel_rfl) ?_
            refine ⟨[(1, .y (.one (.ptr 0 0))), (4, xi (w0 + w1 + w2)), (7, .y (.one (.ptr 1 0))), (8, .y (.one (.row 2 ml.length 0 ml.length false))), (9, xi 1), (27, xi (w0 + w1 + w2)), (28, xi kx), (30, xi 3)], [.obj [vi w0, vi w1, vi w2], .obj [vi (c0 + w0), vi (c1 + w1), vi (c2 + w2)], tr NI true ml], by kernel_rfl, ?_⟩
            refine WpL.step ?_
            refine Wp.regionSeq [] [(1, .y (.one (.ptr 0 0))), (4, xi (w0 + w1 + w2)), (7, .y (.one (.ptr 1 0))), (8, .y (.one (.row 2 ml.length 0 ml.length false))), (9, xi 1), (27, xi (w0 + w1 + w2)), (28, xi kx), (30, xi 3), (31, xb false)] [.obj [vi w0, vi w1, vi w2], .obj [vi (c0 + w0), vi (c1 + w1), vi (c2 + w2)], tr NI true ml]
              (cast trivial (by kernel_rfl)) (by kernel_rfl) ?_
            refine Wp.seq ?_
            refine Wp.condF (by kernel_rfl) ?_
            refine Wp.exit ?_
            refine Eq.mpr (if_pos rfl) ?_
            refine Wp.regionSeq [(4, xi (c1 - w0 - w2), [.obj [vi w0, vi w1, vi w2], .obj [vi (c0 + w0), vi (c1 + w1), vi (c2 + w2)], tr NI true ml])] [(1, .y (.one (.ptr 0 0))), (4, xi (w0 + w1 + w2)), (7, .y (.one (.ptr 1 0))), (8, .y (.one (.row 2 ml.length 0 ml.length false))), (9, xi 1), (27, xi (w0 + w1 + w2)), (28, xi kx)] [.obj [vi w0, vi w1, vi w2], .obj [vi (c0 + w0), vi (c1 - w0 - w2), vi (c2 + w2)], tr NI true ml]
              (cast (And.intro (ob_raw (P := pg) (A := an) (vals := [xi (c1 + w1), xi (w0 + w1 + w2)]) (H := [.obj [vi w0, vi w1, vi w2], .obj [vi (c0 + w0), vi (c1 + w1), vi (c2 + w2)], tr NI true ml]) (op := .binOp .sub 3 (.tmp 0) (.tmp 1) 3) (ty := 0) (r := xi (IntKind.wrap .i64 ((c1 + w1) - (w0 + w1 + w2)))) (v := xi (c1 - w0 - w2)) (by kernel_rfl) (congrArg (fun z => xi z) ((wrap64 (by omega)).trans (by omega)))) trivial) (by kernel_rfl)) (by kernel_rfl) ?_
            refine Wp.region [(3, .y (.one (.row 2 (ml ++ [1]).length 0 ((ml ++ [1]).length) false)), [.obj [vi w0, vi w1, vi w2], .obj [vi (c0 + w0), vi (c1 - w0 - w2), vi (c2 + w2)], tr NI true (ml ++ [1])])] [(1, .y (.one (.ptr 0 0))), (4, xi (w0 + w1 + w2)), (7, .y (.one (.ptr 1 0))), (8, .y (.one (.row 2 (ml ++ [1]).length 0 ((ml ++ [1]).length) false))), (27, xi (w0 + w1 + w2)), (28, xi kx)] [.obj [vi w0, vi w1, vi w2], .obj [vi (c0 + w0), vi (c1 - w0 - w2), vi (c2 + w2)], tr NI true (ml ++ [1])]
              (cast (And.intro (ob_append (P := pg) (A := an) (H := [.obj [vi w0, vi w1, vi w2], .obj [vi (c0 + w0), vi (c1 - w0 - w2), vi (c2 + w2)], tr NI true ml]) (s := NI) (t := 22) (u := 22) (el := 3) (by_ := 8) (z := [vi 0]) (ty := 0) (pu := true) (b := false) (nil := false) (capd := true) (id := 2) (l := ml) (m := [1]) (by kernel_rfl) (by kernel_rfl) (by kernel_rfl) (by kernel_rfl) (by kernel_rfl) (by kernel_rfl) (by kernel_rfl) (by have e1 : (ml.length : Int) = kx := by { first | omega | (simp; done) | (simp; omega) }; have e2 : (([1] : List Int).length : Int) = 1 := by { first | omega | (simp; done) | (simp; omega) }; omega) (by have e1 : (ml.length : Int) = kx := by { first | omega | (simp; done) | (simp; omega) }; have e2 : (([1] : List Int).length : Int) = 1 := by { first | omega | (simp; done) | (simp; omega) }; omega)) trivial) (by kernel_rfl)) (by kernel_rfl) ?_
            refine Wp.region [(0, xi (kx + 1), [.obj [vi w0, vi w1, vi w2], .obj [vi (c0 + w0), vi (c1 - w0 - w2), vi (c2 + w2)], tr NI true (ml ++ [1])])] [(1, .y (.one (.ptr 0 0))), (4, xi (w0 + w1 + w2)), (7, .y (.one (.ptr 1 0))), (8, .y (.one (.row 2 (ml ++ [1]).length 0 ((ml ++ [1]).length) false))), (27, xi (w0 + w1 + w2)), (28, xi (kx + 1))] [.obj [vi w0, vi w1, vi w2], .obj [vi (c0 + w0), vi (c1 - w0 - w2), vi (c2 + w2)], tr NI true (ml ++ [1])]
              (cast (And.intro (ob_raw (P := pg) (A := an) (vals := [xi kx, xi 1]) (H := [.obj [vi w0, vi w1, vi w2], .obj [vi (c0 + w0), vi (c1 - w0 - w2), vi (c2 + w2)], tr NI true (ml ++ [1])]) (op := .binOp .add 3 (.tmp 0) (.tmp 1) 3) (ty := 0) (r := xi (IntKind.wrap .i64 (kx + 1))) (v := xi (kx + 1)) (by kernel_rfl) (congrArg (fun z => xi z) ((wrap64 (by omega)).trans (by omega)))) trivial) (by kernel_rfl)) (by kernel_rfl) ?_
            exact ⟨((kx + 1), (c0 + w0), (c1 - w0 - w2), (c2 + w2), (ml ++ [1])), by kernel_rfl, (by have he := ev_1 (w0 := w0) (w1 := w1) (w2 := w2) (k := kx) (by omega) a0 a1 a2 (by omega); obtain ⟨g0, g1, g2, g3⟩ := he; exact ⟨by omega, by omega, by omega, by omega, by omega, by rw [g3, a3], by omega, by omega, by omega, by omega, by simp; omega⟩), (by show (_ : Nat) < _; simp only []; omega)⟩
          ·
           refine Wp.regionSeq [(6, xb false, [.obj [vi w0, vi w1, vi w2], .obj [vi (c0 + w0), vi (c1 + w1), vi c2], tr NI true ml])] [(1, .y (.one (.ptr 0 0))), (4, xi (w0 + w1 + w2)), (7, .y (.one (.ptr 1 0))), (8, .y (.one (.row 2 ml.length 0 ml.length false))), (9, xi 0), (10, xi 1), (27, xi (w0 + w1 + w2)), (28, xi kx), (30, xi 1), (47, xb false)] [.obj [vi w0, vi w1, vi w2], .obj [vi (c0 + w0), vi (c1 + w1), vi c2], tr NI true ml]
             (cast (And.intro (ob_raw (P := pg) (A := an) (vals := [xi (c1 + w1), xi (c0 + w0)]) (H := [.obj [vi w0, vi w1, vi w2], .obj [vi (c0 + w0), vi (c1 + w1), vi c2], tr NI true ml]) (op := .binOp .gtr 3 (.tmp 0) (.tmp 1) 3) (ty := 0) (r := xb (decide (((c1 + w1) : Int) > (c0 + w0)))) (v := xb false) (by kernel_rfl) (congrArg (fun z => xb z) (decide_eq_false (by omega)))) trivial) (by kernel_rfl)) (by kernel_rfl) ?_
           refine Wp.condF (by kernel_rfl) ?_
           refine Wp.skip ?_
           refine Wp.region [] [(1, .y (.one (.ptr 0 0))), (4, xi (w0 + w1 + w2)), (7, .y (.one (.ptr 1 0))), (8, .y (.one (.row 2 ml.length 0 ml.length false))), (9, xi 0), (27, xi (w0 + w1 + w2)), (28, xi kx), (30, xi 2)] [.obj [vi w0, vi w1, vi w2], .obj [vi (c0 + w0), vi (c1 + w1), vi c2], tr NI true ml]
             (cast trivial (by kernel_rfl)) (by kernel_rfl) ?_
           refine ⟨[(1, .y (.one (.ptr 0 0))), (4, xi (w0 + w1 + w2)), (7, .y (.one (.ptr 1 0))), (8, .y (.one (.row 2 ml.length 0 ml.length false))), (9, xi 0), (27, xi (w0 + w1 + w2)), (28, xi kx), (30, xi 2)], [.obj [vi w0, vi w1, vi w2], .obj [vi (c0 + w0), vi (c1 + w1), vi c2], tr NI true ml], by kernel_rfl, ?_⟩
           refine WpL.step ?_
           refine Wp.regionSeq [] [(1, .y (.one (.ptr 0 0))), (4, xi (w0 + w1 + w2)), (7, .y (.one (.ptr 1 0))), (8, .y (.one (.row 2 ml.length 0 ml.length false))), (9, xi 0), (27, xi (w0 + w1 + w2)), (28, xi kx), (30, xi 2), (31, xb true)] [.obj [vi w0, vi w1, vi w2], .obj [vi (c0 + w0), vi (c1 + w1), vi c2], tr NI true ml]
             (cast trivial (by kernel_rfl)) (by kernel_rfl) ?_
           refine Wp.seq ?_
           refine Wp.condT (by kernel_rfl) ?_
           refine Wp.skip ?_
           refine Wp.seq ?_
           refine Wp.block ?_
           refine Wp.regionSeq [] [(1, .y (.one (.ptr 0 0))), (4, xi (w0 + w1 + w2)), (7, .y (.one (.ptr 1 0))), (8, .y (.one (.row 2 ml.length 0 ml.length false))), (9, xi 0), (10, xi 2), (27, xi (w0 + w1 + w2)), (28, xi kx), (30, xi 2)] [.obj [vi w0, vi w1, vi w2], .obj [vi (c0 + w0), vi (c1 + w1), vi c2], tr NI true ml]
             (cast trivial (by kernel_rfl)) (by kernel_rfl) ?_
           refine Wp.regionSeq [(6, xi (c2 + w2), [.obj [vi w0, vi w1, vi w2], .obj [vi (c0 + w0), vi (c1 + w1), vi c2], tr NI true ml])] [(1, .y (.one (.ptr 0 0))), (4, xi (w0 + w1 + w2)), (7, .y (.one (.ptr 1 0))), (8, .y (.one (.row 2 ml.length 0 ml.length false))), (9, xi 0), (10, xi 2), (27, xi (w0 + w1 + w2)), (28, xi kx), (30, xi 2)] [.obj [vi w0, vi w1, vi w2], .obj [vi (c0 + w0), vi (c1 + w1), vi (c2 + w2)], tr NI true ml]
             (cast (And.intro (ob_raw (P := pg) (A := an) (vals := [xi c2, xi w2]) (H := [.obj [vi w0, vi w1, vi w2], .obj [vi (c0 + w0), vi (c1 + w1), vi c2], tr NI true ml]) (op := .binOp .add 3 (.tmp 0) (.tmp 1) 3) (ty := 0) (r := xi (IntKind.wrap .i64 (c2 + w2))) (v := xi (c2 + w2)) (by kernel_rfl) (congrArg (fun z => xi z) ((wrap64 (by omega)).trans (by omega)))) trivial) (by kernel_rfl)) (by kernel_rfl) ?_
           by_cases c17 : ((c0 + w0) : Int) < (c2 + w2)
           ·
            refine Wp.regionSeq [(6, xb true, [.obj [vi w0, vi w1, vi w2], .obj [vi (c0 + w0), vi (c1 + w1), vi (c2 + w2)], tr NI true ml])] [(1, .y (.one (.ptr 0 0))), (4, xi (w0 + w1 + w2)), (7, .y (.one (.ptr 1 0))), (8, .y (.one (.row 2 ml.length 0 ml.length false))), (9, xi 0), (10, xi 2), (27, xi (w0 + w1 + w2)), (28, xi kx), (30, xi 2), (47, xb true)] [.obj [vi w0, vi w1, vi w2], .obj [vi (c0 + w0), vi (c1 + w1), vi (c2 + w2)], tr NI true ml]
              (cast (And.intro (ob_raw (P := pg) (A := an) (vals := [xi (c2 + w2), xi (c0 + w0)]) (H := [.obj [vi w0, vi w1, vi w2], .obj [vi (c0 + w0), vi (c1 + w1), vi (c2 + w2)], tr NI true ml]) (op := .binOp .gtr 3 (.tmp 0) (.tmp 1) 3) (ty := 0) (r := xb (decide (((c2 + w2) : Int) > (c0 + w0)))) (v := xb true) (by kernel_rfl) (congrArg (fun z => xb z) (decide_eq_true (by omega)))) trivial) (by kernel_rfl)) (by kernel_rfl) ?_
            refine Wp.condT (by kernel_rfl) ?_
            refine Wp.region [] [(1, .y (.one (.ptr 0 0))), (4, xi (w0 + w1 + w2)), (7, .y (.one (.ptr 1 0))), (8, .y (.one (.row 2 ml.length 0 ml.length false))), (9, xi 2), (27, xi (w0 + w1 + w2)), (28, xi kx), (30, xi 2)] [.obj [vi w0, vi w1, vi w2], .obj [vi (c0 + w0), vi (c1 + w1), vi (c2 + w2)], tr NI true ml]
              (cast trivial (by kernel_rfl)) (by kernel_rfl) ?_
            refine Wp.region [] [(1, .y (.one (.ptr 0 0))), (4, xi (w0 + w1 + w2)), (7, .y (.one (.ptr 1 0))), (8, .y (.one (.row 2 ml.length 0 ml.length false))), (9, xi 2), (27, xi (w0 + w1 + w2)), (28, xi kx), (30, xi 3)] [.obj [vi w0, vi w1, vi w2], .obj [vi (c0 + w0), vi (c1 + w1), vi (c2 + w2)], tr NI true ml]
              (cast trivial (by kernel_rfl)) (by kernel_rfl) ?_
            refine ⟨[(1, .y (.one (.ptr 0 0))), (4, xi (w0 + w1 + w2)), (7, .y (.one (.ptr 1 0))), (8, .y (.one (.row 2 ml.length 0 ml.length false))), (9, xi 2), (27, xi (w0 + w1 + w2)), (28, xi kx), (30, xi 3)], [.obj [vi w0, vi w1, vi w2], .obj [vi (c0 + w0), vi (c1 + w1), vi (c2 + w2)], tr NI true ml], by kernel_rfl, ?_⟩
            refine WpL.step ?_
            refine Wp.regionSeq [] [(1, .y (.one (.ptr 0 0))), (4, xi (w0 + w1 + w2)), (7, .y (.one (.ptr 1 0))), (8, .y (.one (.row 2 ml.length 0 ml.length false))), (9, xi 2), (27, xi (w0 + w1 + w2)), (28, xi kx), (30, xi 3), (31, xb false)] [.obj [vi w0, vi w1, vi w2], .obj [vi (c0 + w0), vi (c1 + w1), vi (c2 + w2)], tr NI true ml]
              (cast trivial (by kernel_rfl)) (by kernel_rfl) ?_
            refine Wp.seq ?_
            refine Wp.condF (by kernel_rfl) ?_
            refine Wp.exit ?_
            refine Eq.mpr (if_pos rfl) ?_
            refine Wp.regionSeq [(4, xi (c2 - w0 - w1), [.obj [vi w0, vi w1, vi w2], .obj [vi (c0 + w0), vi (c1 + w1), vi (c2 + w2)], tr NI true ml])] [(1, .y (.one (.ptr 0 0))), (4, xi (w0 + w1 + w2)), (7, .y (.one (.ptr 1 0))), (8, .y (.one (.row 2 ml.length 0 ml.length false))), (9, xi 2), (27, xi (w0 + w1 + w2)), (28, xi kx)] [.obj [vi w0, vi w1, vi w2], .obj [vi (c0 + w0), vi (c1 + w1), vi (c2 - w0 - w1)], tr NI true ml]
              (cast (And.intro (ob_raw (P := pg) (A := an) (vals := [xi (c2 + w2), xi (w0 + w1 + w2)]) (H := [.obj [vi w0, vi w1, vi w2], .obj [vi (c0 + w0), vi (c1 + w1), vi (c2 + w2)], tr NI true ml]) (op := .binOp .sub 3 (.tmp 0) (.tmp 1) 3) (ty := 0) (r := xi (IntKind.wrap .i64 ((c2 + w2) - (w0 + w1 + w2)))) (v := xi (c2 - w0 - w1)) (by kernel_rfl) (congrArg (fun z => xi z) ((wrap64 (by omega)).trans (by omega)))) trivial) (by kernel_rfl)) (by kernel_rfl) ?_
            refine Wp.region [(3, .y (.one (.row 2 (ml ++ [2]).length 0 ((ml ++ [2]).length) false)), [.obj [vi w0, vi w1, vi w2], .obj [vi (c0 + w0), vi (c1 + w1), vi (c2 - w0 - w1)], tr NI true (ml ++ [2])])] [(1, .y (.one (.ptr 0 0))), (4, xi (w0 + w1 + w2)), (7, .y (.one (.ptr 1 0))), (8, .y (.one (.row 2 (ml ++ [2]).length 0 ((ml ++ [2]).length) false))), (27, xi (w0 + w1 + w2)), (28, xi kx)] [.obj [vi w0, vi w1, vi w2], .obj [vi (c0 + w0), vi (c1 + w1), vi (c2 - w0 - w1)], tr NI true (ml ++ [2])]
              (cast (And.intro (ob_append (P := pg) (A := an) (H := [.obj [vi w0, vi w1, vi w2], .obj [vi (c0 + w0), vi (c1 + w1), vi (c2 - w0 - w1)], tr NI true ml]) (s := NI) (t := 22) (u := 22) (el := 3) (by_ := 8) (z := [vi 0]) (ty := 0) (pu := true) (b := false) (nil := false) (capd := true) (id := 2) (l := ml) (m := [2]) (by kernel_rfl) (by kernel_rfl) (by kernel_rfl) (by kernel_rfl) (by kernel_rfl) (by kernel_rfl) (by kernel_rfl) (by have e1 : (ml.length : Int) = kx := by { first | omega | (simp; done) | (simp; omega) }; have e2 : (([2] : List Int).length : Int) = 1 := by { first | omega | (simp; done) | (simp; omega) }; omega) (by have e1 : (ml.length : Int) = kx := by { first | omega | (simp; done) | (simp; omega) }; have e2 : (([2] : List Int).length : Int) = 1 := by { first | omega | (simp; done) | (simp; omega) }; omega)) trivial) (by kernel_rfl)) (by kernel_rfl) ?_
            refine Wp.region [(0, xi (kx + 1), [.obj [vi w0, vi w1, vi w2], .obj [vi (c0 + w0), vi (c1 + w1), vi (c2 - w0 - w1)], tr NI true (ml ++ [2])])] [(1, .y (.one (.ptr 0 0))), (4, xi (w0 + w1 + w2)), (7, .y (.one (.ptr 1 0))), (8, .y (.one (.row 2 (ml ++ [2]).length 0 ((ml ++ [2]).length) false))), (27, xi (w0 + w1 + w2)), (28, xi (kx + 1))] [.obj [vi w0, vi w1, vi w2], .obj [vi (c0 + w0), vi (c1 + w1), vi (c2 - w0 - w1)], tr NI true (ml ++ [2])]
              (cast (And.intro (ob_raw (P := pg) (A := an) (vals := [xi kx, xi 1]) (H := [.obj [vi w0, vi w1, vi w2], .obj [vi (c0 + w0), vi (c1 + w1), vi (c2 - w0 - w1)], tr NI true (ml ++ [2])]) (op := .binOp .add 3 (.tmp 0) (.tmp 1) 3) (ty := 0) (r := xi (IntKind.wrap .i64 (kx + 1))) (v := xi (kx + 1)) (by kernel_rfl) (congrArg (fun z => xi z) ((wrap64 (by omega)).trans (by omega)))) trivial) (by kernel_rfl)) (by kernel_rfl) ?_
            exact ⟨((kx + 1), (c0 + w0), (c1 + w1), (c2 - w0 - w1), (ml ++ [2])), by kernel_rfl, (by have he := ev_2 (w0 := w0) (w1 := w1) (w2 := w2) (k := kx) (by omega) a0 a1 a2 (by omega); obtain ⟨g0, g1, g2, g3⟩ := he; exact ⟨by omega, by omega, by omega, by omega, by omega, by rw [g3, a3], by omega, by omega, by omega, by omega, by simp; omega⟩), (by show (_ : Nat) < _; simp only []; omega)⟩
           ·
            refine Wp.regionSeq [(6, xb false, [.obj [vi w0, vi w1, vi w2], .obj [vi (c0 + w0), vi (c1 + w1), vi (c2 + w2)], tr NI true ml])] [(1, .y (.one (.ptr 0 0))), (4, xi (w0 + w1 + w2)), (7, .y (.one (.ptr 1 0))), (8, .y (.one (.row 2 ml.length 0 ml.length false))), (9, xi 0), (10, xi 2), (27, xi (w0 + w1 + w2)), (28, xi kx), (30, xi 2), (47, xb false)] [.obj [vi w0, vi w1, vi w2], .obj [vi (c0 + w0), vi (c1 + w1), vi (c2 + w2)], tr NI true ml]
              (cast (And.intro (ob_raw (P := pg) (A := an) (vals := [xi (c2 + w2), xi (c0 + w0)]) (H := [.obj [vi w0, vi w1, vi w2], .obj [vi (c0 + w0), vi (c1 + w1), vi (c2 + w2)], tr NI true ml]) (op := .binOp .gtr 3 (.tmp 0) (.tmp 1) 3) (ty := 0) (r := xb (decide (((c2 + w2) : Int) > (c0 + w0)))) (v := xb false) (by kernel_rfl) (congrArg (fun z => xb z) (decide_eq_false (by omega)))) trivial) (by kernel_rfl)) (by kernel_rfl) ?_
            refine Wp.condF (by kernel_rfl) ?_
            refine Wp.skip ?_
            refine Wp.region [] [(1, .y (.one (.ptr 0 0))), (4, xi (w0 + w1 + w2)), (7, .y (.one (.ptr 1 0))), (8, .y (.one (.row 2 ml.length 0 ml.length false))), (9, xi 0), (27, xi (w0 + w1 + w2)), (28, xi kx), (30, xi 3)] [.obj [vi w0, vi w1, vi w2], .obj [vi (c0 + w0), vi (c1 + w1), vi (c2 + w2)], tr NI true ml]
              (cast trivial (by kernel_rfl)) (by kernel_rfl) ?_
            refine ⟨[(1, .y (.one (.ptr 0 0))), (4, xi (w0 + w1 + w2)), (7, .y (.one (.ptr 1 0))), (8, .y (.one (.row 2 ml.length 0 ml.length false))), (9, xi 0), (27, xi (w0 + w1 + w2)), (28, xi kx), (30, xi 3)], [.obj [vi w0, vi w1, vi w2], .obj [vi (c0 + w0), vi (c1 + w1), vi (c2 + w2)], tr NI true ml], by kernel_rfl, ?_⟩
            refine WpL.step ?_
            refine Wp.regionSeq [] [(1, .y (.one (.ptr 0 0))), (4, xi (w0 + w1 + w2)), (7, .y (.one (.ptr 1 0))), (8, .y (.one (.row 2 ml.length 0 ml.length false))), (9, xi 0), (27, xi (w0 + w1 + w2)), (28, xi kx), (30, xi 3), (31, xb false)] [.obj [vi w0, vi w1, vi w2], .obj [vi (c0 + w0), vi (c1 + w1), vi (c2 + w2)], tr NI true ml]
              (cast trivial (by kernel_rfl)) (by kernel_rfl) ?_
            refine Wp.seq ?_
            refine Wp.condF (by kernel_rfl) ?_
            refine Wp.exit ?_
            refine Eq.mpr (if_pos rfl) ?_
            refine Wp.regionSeq [(4, xi (c0 - w1 - w2), [.obj [vi w0, vi w1, vi w2], .obj [vi (c0 + w0), vi (c1 + w1), vi (c2 + w2)], tr NI true ml])] [(1, .y (.one (.ptr 0 0))), (4, xi (w0 + w1 + w2)), (7, .y (.one (.ptr 1 0))), (8, .y (.one (.row 2 ml.length 0 ml.length false))), (9, xi 0), (27, xi (w0 + w1 + w2)), (28, xi kx)] [.obj [vi w0, vi w1, vi w2], .obj [vi (c0 - w1 - w2), vi (c1 + w1), vi (c2 + w2)], tr NI true ml]
              (cast (And.intro (ob_raw (P := pg) (A := an) (vals := [xi (c0 + w0), xi (w0 + w1 + w2)]) (H := [.obj [vi w0, vi w1, vi w2], .obj [vi (c0 + w0), vi (c1 + w1), vi (c2 + w2)], tr NI true ml]) (op := .binOp .sub 3 (.tmp 0) (.tmp 1) 3) (ty := 0) (r := xi (IntKind.wrap .i64 ((c0 + w0) - (w0 + w1 + w2)))) (v := xi (c0 - w1 - w2)) (by kernel_rfl) (congrArg (fun z => xi z) ((wrap64 (by omega)).trans (by omega)))) trivial) (by kernel_rfl)) (by kernel_rfl) ?_
            refine Wp.region [(3, .y (.one (.row 2 (ml ++ [0]).length 0 ((ml ++ [0]).length) false)), [.obj [vi w0, vi w1, vi w2], .obj [vi (c0 - w1 - w2), vi (c1 + w1), vi (c2 + w2)], tr NI true (ml ++ [0])])] [(1, .y (.one (.ptr 0 0))), (4, xi (w0 + w1 + w2)), (7, .y (.one (.ptr 1 0))), (8, .y (.one (.row 2 (ml ++ [0]).length 0 ((ml ++ [0]).length) false))), (27, xi (w0 + w1 + w2)), (28, xi kx)] [.obj [vi w0, vi w1, vi w2], .obj [vi (c0 - w1 - w2), vi (c1 + w1), vi (c2 + w2)], tr NI true (ml ++ [0])]
              (cast (And.intro (ob_append (P := pg) (A := an) (H := [.obj [vi w0, vi w1, vi w2], .obj [vi (c0 - w1 - w2), vi (c1 + w1), vi (c2 + w2)], tr NI true ml]) (s := NI) (t := 22) (u := 22) (el := 3) (by_ := 8) (z := [vi 0]) (ty := 0) (pu := true) (b := false) (nil := false) (capd := true) (id := 2) (l := ml) (m := [0]) (by kernel_rfl) (by kernel_rfl) (by kernel_rfl) (by kernel_rfl) (by kernel_rfl) (by kernel_rfl) (by kernel_rfl) (by have e1 : (ml.length : Int) = kx := by { first | omega | (simp; done) | (simp; omega) }; have e2 : (([0] : List Int).length : Int) = 1 := by { first | omega | (simp; done) | (simp; omega) }; omega) (by have e1 : (ml.length : Int) = kx := by { first | omega | (simp; done) | (simp; omega) }; have e2 : (([0] : List Int).length : Int) = 1 := by { first | omega | (simp; done) | (simp; omega) }; omega)) trivial) (by kernel_rfl)) (by kernel_rfl) ?_
            refine Wp.region [(0, xi (kx + 1), [.obj [vi w0, vi w1, vi w2], .obj [vi (c0 - w1 - w2), vi (c1 + w1), vi (c2 + w2)], tr NI true (ml ++ [0])])] [(1, .y (.one (.ptr 0 0))), (4, xi (w0 + w1 + w2)), (7, .y (.one (.ptr 1 0))), (8, .y (.one (.row 2 (ml ++ [0]).length 0 ((ml ++ [0]).length) false))), (27, xi (w0 + w1 + w2)), (28, xi (kx + 1))] [.obj [vi w0, vi w1, vi w2], .obj [vi (c0 - w1 - w2), vi (c1 + w1), vi (c2 + w2)], tr NI true (ml ++ [0])]
              (cast (And.intro (ob_raw (P := pg) (A := an) (vals := [xi kx, xi 1]) (H := [.obj [vi w0, vi w1, vi w2], .obj [vi (c0 - w1 - w2), vi (c1 + w1), vi (c2 + w2)], tr NI true (ml ++ [0])]) (op := .binOp .add 3 (.tmp 0) (.tmp 1) 3) (ty := 0) (r := xi (IntKind.wrap .i64 (kx + 1))) (v := xi (kx + 1)) (by kernel_rfl) (congrArg (fun z => xi z) ((wrap64 (by omega)).trans (by omega)))) trivial) (by kernel_rfl)) (by kernel_rfl) ?_
            exact ⟨((kx + 1), (c0 - w1 - w2), (c1 + w1), (c2 + w2), (ml ++ [0])), by kernel_rfl, (by have he := ev_0 (w0 := w0) (w1 := w1) (w2 := w2) (k := kx) (by omega) a0 a1 a2 (by omega); obtain ⟨g0, g1, g2, g3⟩ := he; exact ⟨by omega, by omega, by omega, by omega, by omega, by rw [g3, a3], by omega, by omega, by omega, by omega, by simp; omega⟩), (by show (_ : Nat) < _; simp only []; omega)⟩
         ·
          refine Wp.regionSeq [(0, xb false, [.obj [vi w0, vi w1, vi w2], .obj [vi c0, vi c1, vi c2], tr NI true ml])] [(1, .y (.one (.ptr 0 0))), (4, xi (w0 + w1 + w2)), (7, .y (.one (.ptr 1 0))), (8, .y (.one (.row 2 ml.length 0 ml.length false))), (27, xi (w0 + w1 + w2)), (28, xi kx), (29, xb false)] [.obj [vi w0, vi w1, vi w2], .obj [vi c0, vi c1, vi c2], tr NI true ml]
            (cast (And.intro (ob_raw (P := pg) (A := an) (vals := [xi kx, xi (w0 + w1 + w2)]) (H := [.obj [vi w0, vi w1, vi w2], .obj [vi c0, vi c1, vi c2], tr NI true ml]) (op := .binOp .lss 3 (.tmp 0) (.tmp 1) 3) (ty := 0) (r := xb (decide ((kx : Int) < (w0 + w1 + w2)))) (v := xb false) (by kernel_rfl) (congrArg (fun z => xb z) (decide_eq_false (by omega)))) trivial) (by kernel_rfl)) (by kernel_rfl) ?_
          refine Wp.seq ?_
          refine Wp.condF (by kernel_rfl) ?_
          refine Wp.exit ?_
          refine Eq.mpr (if_pos rfl) ?_
          refine Wp.regionSeq [] [(2, .y (.one (.row 2 ml.length 0 ml.length false))), (3, xi 0)] [.obj [vi w0, vi w1, vi w2], .obj [vi c0, vi c1, vi c2], tr NI true ml]
            (cast trivial (by kernel_rfl)) (by kernel_rfl) ?_
          refine Wp.ret ?_
          exact ⟨Or.inr rfl, [.one (.row 2 ml.length 0 ml.length false), .one (vi 0)], by kernel_rfl, (by obtain rfl : ml = evn w0 w1 w2 := by { rw [a3, show kx = w0 + w1 + w2 by omega]; rfl }; exact .inl ⟨decide_eq_true (by omega), 2, rfl, rfl⟩)⟩
end Go.Proofs.Ytoieblpjklbmoaa
