/-
  Ring: the queue. (Printed by sx/r01.py.)
-/
import Derived.Test.YtpoaaggjgmdpdaaR01B
namespace Go.Proofs.Ytpoaaggjgmdpdaa
open Go.Lg
set_option linter.unusedVariables false
set_option maxRecDepth 100000
set_option linter.unusedSimpArgs false
theorem fn3 (room : Int) (b nil capd : Bool) (l : List Int) (hl : (l.length : Int) ≤ 17592186044416) : PureC pg an 3 [.one (vi room), .one (sv NI b nil capd l)] [.one (vb true)] := by
  refine Runs.of (fn := Try.f3) Try.func3 rfl (by kernel_rfl) [(0, xi room), (1, .y (.one (sv NI b nil capd l)))] (by kernel_rfl) ?_
  refine Wp.regionSeq [] [(0, xi room), (1, .y (.one (sv NI b nil capd l)))] []
    (cast trivial (by kernel_rfl)) (by kernel_rfl) ?_
  by_cases c2 : (room : Int) < 1
  ·
    have hcall3 : Runs pg an 8 [.one (vi room)] [] [.one (.sc (.pointer none)), .one (vi 1)] [] := by
      refine runs_of ?_
      refine Runs.of (fn := Try.f8) Try.func8 rfl (by kernel_rfl) [(0, xi room)] (by kernel_rfl) ?_
      refine Wp.regionSeq [] [(0, xi room)] []
        (cast trivial (by kernel_rfl)) (by kernel_rfl) ?_
      refine Wp.seq ?_
      refine Wp.regionSeq [(1, xb true, [])] [(0, xi room), (9, xb true)] []
        (cast (And.intro (ob_raw (P := pg) (A := an) (vals := [xi room, xi 1]) (H := []) (op := .binOp .lss 3 (.tmp 0) (.tmp 1) 3) (ty := 0) (r := xb (decide ((room : Int) < 1))) (v := xb true) (by kernel_rfl) (congrArg (fun z => xb z) (decide_eq_true (by omega)))) trivial) (by kernel_rfl)) (by kernel_rfl) ?_
      refine Wp.condT (by kernel_rfl) ?_
      refine Wp.regionSeq [] [(2, .y (.one (.sc (.pointer none)))), (3, xi 1)] []
        (cast trivial (by kernel_rfl)) (by kernel_rfl) ?_
      refine Wp.ret ?_
      exact ⟨Or.inr rfl, [.one (.sc (.pointer none)), .one (vi 1)], by kernel_rfl, ⟨rfl, rfl⟩⟩
    refine Wp.regionSeq [(1, .tup [.one (.sc (.pointer none)), .one (vi 1)], [])] [(0, xi room), (1, .y (.one (sv NI b nil capd l))), (5, .y (.one (.sc (.pointer none)))), (6, xi 1)] []
      (cast (And.intro (ob_call (P := pg) (A := an) (H := []) (g := 8) (vals := [xi room]) (xs0 := [.one (vi room)]) (res := [.one (.sc (.pointer none)), .one (vi 1)]) (ats := #[]) (ty := 0) (v := .tup [.one (.sc (.pointer none)), .one (vi 1)]) (H' := []) [.tmp 0] (by kernel_rfl) (by kernel_rfl) hcall3 (by kernel_rfl)) trivial) (by kernel_rfl)) (by kernel_rfl) ?_
    refine Wp.seq ?_
    refine Wp.regionSeq [] [(0, xi room), (1, .y (.one (sv NI b nil capd l))), (5, .y (.one (.sc (.pointer none)))), (6, xi 1), (23, xb true)] []
      (cast trivial (by kernel_rfl)) (by kernel_rfl) ?_
    refine Wp.condT (by kernel_rfl) ?_
    refine Wp.regionSeq [(1, .tup [.agg [vi 0, .sl false true true [] 0], .one (vi 1)], [])] [(6, xi 1), (8, xi 1)] [.obj [vi 0, .sl false true true [] 0]]
      (cast (And.intro (ob_pure (P := pg) (A := an) (H := []) (g := 9) (vals := [xi room]) (xs0 := [.one (vi room)]) (xs1 := [.one (vi room)]) (res := [.agg [vi 0, .sl false true true [] 0], .one (vi 1)]) (ats := #[]) (ty := 0) (v := .tup [.agg [vi 0, .sl false true true [] 0], .one (vi 1)]) [.tmp 0] (by kernel_rfl) (by kernel_rfl) (by kernel_rfl) (by have := fn9 room; rw [newW, if_pos (by omega)] at this; exact this) (by kernel_rfl)) trivial) (by kernel_rfl)) (by kernel_rfl) ?_
    refine Wp.regionSeq [(4, xb true, [.obj [vi 0, .sl false true true [] 0]])] [(4, xb true)] [.obj [vi 0, .sl false true true [] 0]]
      (cast (And.intro (ob_pure (P := pg) (A := an) (H := [.obj [vi 0, .sl false true true [] 0]]) (g := 10) (vals := []) (xs0 := []) (xs1 := []) (res := [.one (vb true)]) (ats := #[]) (ty := 0) (v := xb true) [] (by kernel_rfl) (by kernel_rfl) (by kernel_rfl) fn10 (by kernel_rfl)) trivial) (by kernel_rfl)) (by kernel_rfl) ?_
    refine Wp.ret ?_
    exact ⟨Or.inr rfl, [.one (vb true)], by kernel_rfl, rfl⟩
  ·
    by_cases c5 : (65536 : Int) < room
    ·
      have hcall6 : Runs pg an 8 [.one (vi room)] [] [.one (.sc (.pointer none)), .one (vi 1)] [] := by
        refine runs_of ?_
        refine Runs.of (fn := Try.f8) Try.func8 rfl (by kernel_rfl) [(0, xi room)] (by kernel_rfl) ?_
        refine Wp.regionSeq [] [(0, xi room)] []
          (cast trivial (by kernel_rfl)) (by kernel_rfl) ?_
        refine Wp.seq ?_
        refine Wp.regionSeq [(1, xb false, []), (4, xb true, [])] [(0, xi room), (9, xb true)] []
          (cast (And.intro (ob_raw (P := pg) (A := an) (vals := [xi room, xi 1]) (H := []) (op := .binOp .lss 3 (.tmp 0) (.tmp 1) 3) (ty := 0) (r := xb (decide ((room : Int) < 1))) (v := xb false) (by kernel_rfl) (congrArg (fun z => xb z) (decide_eq_false (by omega)))) (And.intro (ob_raw (P := pg) (A := an) (vals := [xi room, xi 65536]) (H := []) (op := .binOp .gtr 3 (.tmp 0) (.tmp 1) 3) (ty := 0) (r := xb (decide ((room : Int) > 65536))) (v := xb true) (by kernel_rfl) (congrArg (fun z => xb z) (decide_eq_true (by omega)))) trivial)) (by kernel_rfl)) (by kernel_rfl) ?_
        refine Wp.condT (by kernel_rfl) ?_
        refine Wp.regionSeq [] [(2, .y (.one (.sc (.pointer none)))), (3, xi 1)] []
          (cast trivial (by kernel_rfl)) (by kernel_rfl) ?_
        refine Wp.ret ?_
        exact ⟨Or.inr rfl, [.one (.sc (.pointer none)), .one (vi 1)], by kernel_rfl, ⟨rfl, rfl⟩⟩
      refine Wp.regionSeq [(1, .tup [.one (.sc (.pointer none)), .one (vi 1)], [])] [(0, xi room), (1, .y (.one (sv NI b nil capd l))), (5, .y (.one (.sc (.pointer none)))), (6, xi 1)] []
        (cast (And.intro (ob_call (P := pg) (A := an) (H := []) (g := 8) (vals := [xi room]) (xs0 := [.one (vi room)]) (res := [.one (.sc (.pointer none)), .one (vi 1)]) (ats := #[]) (ty := 0) (v := .tup [.one (.sc (.pointer none)), .one (vi 1)]) (H' := []) [.tmp 0] (by kernel_rfl) (by kernel_rfl) hcall6 (by kernel_rfl)) trivial) (by kernel_rfl)) (by kernel_rfl) ?_
      refine Wp.seq ?_
      refine Wp.regionSeq [] [(0, xi room), (1, .y (.one (sv NI b nil capd l))), (5, .y (.one (.sc (.pointer none)))), (6, xi 1), (23, xb true)] []
        (cast trivial (by kernel_rfl)) (by kernel_rfl) ?_
      refine Wp.condT (by kernel_rfl) ?_
      refine Wp.regionSeq [(1, .tup [.agg [vi 0, .sl false true true [] 0], .one (vi 1)], [])] [(6, xi 1), (8, xi 1)] [.obj [vi 0, .sl false true true [] 0]]
        (cast (And.intro (ob_pure (P := pg) (A := an) (H := []) (g := 9) (vals := [xi room]) (xs0 := [.one (vi room)]) (xs1 := [.one (vi room)]) (res := [.agg [vi 0, .sl false true true [] 0], .one (vi 1)]) (ats := #[]) (ty := 0) (v := .tup [.agg [vi 0, .sl false true true [] 0], .one (vi 1)]) [.tmp 0] (by kernel_rfl) (by kernel_rfl) (by kernel_rfl) (by have := fn9 room; rw [newW, if_pos (by omega)] at this; exact this) (by kernel_rfl)) trivial) (by kernel_rfl)) (by kernel_rfl) ?_
      refine Wp.regionSeq [(4, xb true, [.obj [vi 0, .sl false true true [] 0]])] [(4, xb true)] [.obj [vi 0, .sl false true true [] 0]]
        (cast (And.intro (ob_pure (P := pg) (A := an) (H := [.obj [vi 0, .sl false true true [] 0]]) (g := 10) (vals := []) (xs0 := []) (xs1 := []) (res := [.one (vb true)]) (ats := #[]) (ty := 0) (v := xb true) [] (by kernel_rfl) (by kernel_rfl) (by kernel_rfl) fn10 (by kernel_rfl)) trivial) (by kernel_rfl)) (by kernel_rfl) ?_
      refine Wp.ret ?_
      exact ⟨Or.inr rfl, [.one (vb true)], by kernel_rfl, rfl⟩
    ·
      have hcall7 : Runs pg an 8 [.one (vi room)] [] [.one (.ptr 0 0), .one (vi 0)] [.obj [vi room, .sl false true true [] 0]] := by
        refine runs_of ?_
        refine Runs.of (fn := Try.f8) Try.func8 rfl (by kernel_rfl) [(0, xi room)] (by kernel_rfl) ?_
        refine Wp.regionSeq [] [(0, xi room)] []
          (cast trivial (by kernel_rfl)) (by kernel_rfl) ?_
        refine Wp.seq ?_
        refine Wp.regionSeq [(1, xb false, []), (4, xb false, [])] [(0, xi room), (9, xb false)] []
          (cast (And.intro (ob_raw (P := pg) (A := an) (vals := [xi room, xi 1]) (H := []) (op := .binOp .lss 3 (.tmp 0) (.tmp 1) 3) (ty := 0) (r := xb (decide ((room : Int) < 1))) (v := xb false) (by kernel_rfl) (congrArg (fun z => xb z) (decide_eq_false (by omega)))) (And.intro (ob_raw (P := pg) (A := an) (vals := [xi room, xi 65536]) (H := []) (op := .binOp .gtr 3 (.tmp 0) (.tmp 1) 3) (ty := 0) (r := xb (decide ((room : Int) > 65536))) (v := xb false) (by kernel_rfl) (congrArg (fun z => xb z) (decide_eq_false (by omega)))) trivial)) (by kernel_rfl)) (by kernel_rfl) ?_
        refine Wp.condF (by kernel_rfl) ?_
        refine Wp.skip ?_
        refine Wp.regionSeq [] [(2, .y (.one (.ptr 0 0))), (3, xi 0)] [.obj [vi room, .sl false true true [] 0]]
          (cast trivial (by kernel_rfl)) (by kernel_rfl) ?_
        refine Wp.ret ?_
        exact ⟨Or.inr rfl, [.one (.ptr 0 0), .one (vi 0)], by kernel_rfl, ⟨rfl, rfl⟩⟩
      refine Wp.regionSeq [(1, .tup [.one (.ptr 0 0), .one (vi 0)], [.obj [vi room, .sl false true true [] 0]])] [(0, xi room), (1, .y (.one (sv NI b nil capd l))), (5, .y (.one (.ptr 0 0))), (6, xi 0)] [.obj [vi room, .sl false true true [] 0]]
        (cast (And.intro (ob_call (P := pg) (A := an) (H := []) (g := 8) (vals := [xi room]) (xs0 := [.one (vi room)]) (res := [.one (.ptr 0 0), .one (vi 0)]) (ats := #[]) (ty := 0) (v := .tup [.one (.ptr 0 0), .one (vi 0)]) (H' := [.obj [vi room, .sl false true true [] 0]]) [.tmp 0] (by kernel_rfl) (by kernel_rfl) hcall7 (by kernel_rfl)) trivial) (by kernel_rfl)) (by kernel_rfl) ?_
      refine Wp.seq ?_
      refine Wp.regionSeq [] [(0, xi room), (1, .y (.one (sv NI b nil capd l))), (5, .y (.one (.ptr 0 0))), (6, xi 0), (23, xb false)] [.obj [vi room, .sl false true true [] 0]]
        (cast trivial (by kernel_rfl)) (by kernel_rfl) ?_
      refine Wp.condF (by kernel_rfl) ?_
      refine Wp.skip ?_
      refine Wp.regionSeq [] [(0, xi room), (1, .y (.one (sv NI b nil capd l))), (5, .y (.one (.ptr 0 0))), (9, xi 0)] [.obj [vi room, .sl false true true [] 0]]
        (cast trivial (by kernel_rfl)) (by kernel_rfl) ?_
      refine Wp.seq ?_
      refine Wp.regionSeq [] [(0, xi room), (1, .y (.one (sv NI b nil capd l))), (5, .y (.one (.ptr 0 0))), (9, xi 0), (10, xi 0)] [.obj [vi room, .sl false true true [] 0]]
        (cast trivial (by kernel_rfl)) (by kernel_rfl) ?_
      refine Wp.block ?_
      refine Wp.loopU [(0, xi room), (1, .y (.one (sv NI b nil capd l))), (5, .y (.one (.ptr 0 0))), (9, xi 0), (10, xi 0)] (some ([0, 1, 5, 9, 10], false)) 1 (by kernel_rfl) ?_
      refine WpL.peel (T := Int × Int × List Int) (fun (t : Int × Int × List Int) => match t with | (ix, n, ml) => (((l.length : Int) - ix).toNat : Nat)) (fun (t : Int × Int × List Int) => match t with | (ix, n, ml) => ([(0, xi room), (1, .y (.one (sv NI b nil capd l))), (5, .y (.one (.ptr 0 0))), (9, xi n), (10, xi ix)] : Env)) (fun (t : Int × Int × List Int) => match t with | (ix, n, ml) => ([.obj [vi room, .row 1 ml.length 0 ml.length false], tr NI true ml] : Go.Lg.Heap))
        (fun (t : Int × Int × List Int) => match t with | (ix, n, ml) => (0 ≤ ix ∧ ix ≤ (l.length : Int) ∧ 1 ≤ n ∧ n ≤ ix ∧ n ≤ room ∧ (n = ix ∨ n = room) ∧ (ml.length : Int) = n ∧ ml = l.take n.toNat : Prop)) ?_ ?_
      ·
        refine Wp.seq ?_
        by_cases c15 : (0 : Int) < (l.length : Int)
        ·
          refine Wp.regionSeq [(3, xb true, [.obj [vi room, .sl false true true [] 0]])] [(0, xi room), (1, .y (.one (sv NI b nil capd l))), (5, .y (.one (.ptr 0 0))), (9, xi 0), (10, xi 0), (38, xb true)] [.obj [vi room, .sl false true true [] 0]]
            (cast (And.intro (ob_raw (P := pg) (A := an) (vals := [xi 0, xi (l.length : Int)]) (H := [.obj [vi room, .sl false true true [] 0]]) (op := .binOp .lss 3 (.tmp 0) (.tmp 1) 3) (ty := 0) (r := xb (decide ((0 : Int) < (l.length : Int)))) (v := xb true) (by kernel_rfl) (congrArg (fun z => xb z) (decide_eq_true (by omega)))) trivial) (by kernel_rfl)) (by kernel_rfl) ?_
          refine Wp.condT (by kernel_rfl) ?_
          refine Wp.skip ?_
          refine Wp.seq ?_
          refine Wp.block ?_
          obtain ⟨x16, hx16⟩ : ∃ x, l[(0 : Int).toNat]? = some x := get_of (by omega)
          have hcall17 : Runs pg an 11 [.one (.ptr 0 0), .one (vi x16)] [.obj [vi room, .sl false true true [] 0]] [.one (vi 0)] [.obj [vi room, .row 1 (([] : List Int) ++ [x16]).length 0 ((([] : List Int) ++ [x16]).length) false], tr NI true (([] : List Int) ++ [x16])] := by
            refine runs_of ?_
            refine Runs.of (fn := Try.f11) Try.func11 rfl (by kernel_rfl) [(0, .y (.one (.ptr 0 0))), (1, xi x16)] (by kernel_rfl) ?_
            refine Wp.regionSeq [] [(0, .y (.one (.ptr 0 0))), (1, xi x16)] [.obj [vi room, .sl false true true [] 0]]
              (cast trivial (by kernel_rfl)) (by kernel_rfl) ?_
            have hcall18 : Runs pg an 19 [.one (.ptr 0 0), .one (.sl false false true [vi x16] 1)] [.obj [vi room, .sl false true true [] 0]] [.one (vi 0)] [.obj [vi room, .row 1 (([] : List Int) ++ [x16]).length 0 ((([] : List Int) ++ [x16]).length) false], tr NI true (([] : List Int) ++ [x16])] := by
              refine runs_of ?_
              refine Runs.of (fn := Try.f19) Try.func19 rfl (by kernel_rfl) [(0, .y (.one (.ptr 0 0))), (1, .y (.one (.sl false false true [vi x16] 1)))] (by kernel_rfl) ?_
              refine Wp.regionSeq [] [(0, .y (.one (.ptr 0 0))), (1, .y (.one (.sl false false true [vi x16] 1)))] [.obj [vi room, .sl false true true [] 0]]
                (cast trivial (by kernel_rfl)) (by kernel_rfl) ?_
              refine Wp.seq ?_
              have hcall19 : Runs pg an 27 [.one (.ptr 0 0)] [.obj [vi room, .sl false true true [] 0]] [.one (vb true)] [.obj [vi room, .sl false true true [] 0]] := by
                refine runs_of ?_
                refine Runs.of (fn := Try.f27) Try.func27 rfl (by kernel_rfl) [(0, .y (.one (.ptr 0 0)))] (by kernel_rfl) ?_
                refine Wp.regionSeq [] [(0, .y (.one (.ptr 0 0)))] [.obj [vi room, .sl false true true [] 0]]
                  (cast trivial (by kernel_rfl)) (by kernel_rfl) ?_
                refine Wp.regionSeq [(7, xb true, [.obj [vi room, .sl false true true [] 0]])] [(2, xb true)] [.obj [vi room, .sl false true true [] 0]]
                  (cast (And.intro (ob_raw (P := pg) (A := an) (vals := [xi room, xi 0]) (H := [.obj [vi room, .sl false true true [] 0]]) (op := .binOp .gtr 3 (.tmp 0) (.tmp 1) 3) (ty := 0) (r := xb (decide ((room : Int) > 0))) (v := xb true) (by kernel_rfl) (congrArg (fun z => xb z) (decide_eq_true (by omega)))) trivial) (by kernel_rfl)) (by kernel_rfl) ?_
                refine Wp.ret ?_
                exact ⟨Or.inr rfl, [.one (vb true)], by kernel_rfl, ⟨rfl, rfl⟩⟩
              refine Wp.regionSeq [(1, xb true, [.obj [vi room, .sl false true true [] 0]])] [(0, .y (.one (.ptr 0 0))), (1, .y (.one (.sl false false true [vi x16] 1))), (7, xb false)] [.obj [vi room, .sl false true true [] 0]]
                (cast (And.intro (ob_call (P := pg) (A := an) (H := [.obj [vi room, .sl false true true [] 0]]) (g := 27) (vals := [.y (.one (.ptr 0 0))]) (xs0 := [.one (.ptr 0 0)]) (res := [.one (vb true)]) (ats := #[]) (ty := 0) (v := xb true) (H' := [.obj [vi room, .sl false true true [] 0]]) [.tmp 0] (by kernel_rfl) (by kernel_rfl) hcall19 (by kernel_rfl)) trivial) (by kernel_rfl)) (by kernel_rfl) ?_
              refine Wp.condF (by kernel_rfl) ?_
              refine Wp.skip ?_
              refine Wp.seq ?_
              have hcall20 : Runs pg an 14 [.one (.ptr 0 0)] [.obj [vi room, .sl false true true [] 0]] [.one (vi room)] [.obj [vi room, .sl false true true [] 0]] := by
                refine runs_of ?_
                refine Runs.of (fn := Try.f14) Try.func14 rfl (by kernel_rfl) [(0, .y (.one (.ptr 0 0)))] (by kernel_rfl) ?_
                refine Wp.regionSeq [] [(0, .y (.one (.ptr 0 0)))] [.obj [vi room, .sl false true true [] 0]]
                  (cast trivial (by kernel_rfl)) (by kernel_rfl) ?_
                refine Wp.seq ?_
                have hcall21 : Runs pg an 27 [.one (.ptr 0 0)] [.obj [vi room, .sl false true true [] 0]] [.one (vb true)] [.obj [vi room, .sl false true true [] 0]] := by
                  refine runs_of ?_
                  refine Runs.of (fn := Try.f27) Try.func27 rfl (by kernel_rfl) [(0, .y (.one (.ptr 0 0)))] (by kernel_rfl) ?_
                  refine Wp.regionSeq [] [(0, .y (.one (.ptr 0 0)))] [.obj [vi room, .sl false true true [] 0]]
                    (cast trivial (by kernel_rfl)) (by kernel_rfl) ?_
                  refine Wp.regionSeq [(7, xb true, [.obj [vi room, .sl false true true [] 0]])] [(2, xb true)] [.obj [vi room, .sl false true true [] 0]]
                    (cast (And.intro (ob_raw (P := pg) (A := an) (vals := [xi room, xi 0]) (H := [.obj [vi room, .sl false true true [] 0]]) (op := .binOp .gtr 3 (.tmp 0) (.tmp 1) 3) (ty := 0) (r := xb (decide ((room : Int) > 0))) (v := xb true) (by kernel_rfl) (congrArg (fun z => xb z) (decide_eq_true (by omega)))) trivial) (by kernel_rfl)) (by kernel_rfl) ?_
                  refine Wp.ret ?_
                  exact ⟨Or.inr rfl, [.one (vb true)], by kernel_rfl, ⟨rfl, rfl⟩⟩
                refine Wp.regionSeq [(1, xb true, [.obj [vi room, .sl false true true [] 0]])] [(0, .y (.one (.ptr 0 0))), (5, xb false)] [.obj [vi room, .sl false true true [] 0]]
                  (cast (And.intro (ob_call (P := pg) (A := an) (H := [.obj [vi room, .sl false true true [] 0]]) (g := 27) (vals := [.y (.one (.ptr 0 0))]) (xs0 := [.one (.ptr 0 0)]) (res := [.one (vb true)]) (ats := #[]) (ty := 0) (v := xb true) (H' := [.obj [vi room, .sl false true true [] 0]]) [.tmp 0] (by kernel_rfl) (by kernel_rfl) hcall21 (by kernel_rfl)) trivial) (by kernel_rfl)) (by kernel_rfl) ?_
                refine Wp.condF (by kernel_rfl) ?_
                refine Wp.skip ?_
                refine Wp.regionSeq [(9, xi room, [.obj [vi room, .sl false true true [] 0]])] [(2, xi room)] [.obj [vi room, .sl false true true [] 0]]
                  (cast (And.intro (ob_raw (P := pg) (A := an) (vals := [xi room, xi 0]) (H := [.obj [vi room, .sl false true true [] 0]]) (op := .binOp .sub 3 (.tmp 0) (.tmp 1) 3) (ty := 0) (r := xi (IntKind.wrap .i64 (room - 0))) (v := xi room) (by kernel_rfl) (congrArg (fun z => xi z) ((wrap64 (by omega)).trans (by omega)))) trivial) (by kernel_rfl)) (by kernel_rfl) ?_
                refine Wp.ret ?_
                exact ⟨Or.inr rfl, [.one (vi room)], by kernel_rfl, ⟨rfl, rfl⟩⟩
              refine Wp.regionSeq [(3, xi room, [.obj [vi room, .sl false true true [] 0]]), (4, xb false, [.obj [vi room, .sl false true true [] 0]])] [(0, .y (.one (.ptr 0 0))), (1, .y (.one (.sl false false true [vi x16] 1))), (12, xb false)] [.obj [vi room, .sl false true true [] 0]]
                (cast (And.intro (ob_call (P := pg) (A := an) (H := [.obj [vi room, .sl false true true [] 0]]) (g := 14) (vals := [.y (.one (.ptr 0 0))]) (xs0 := [.one (.ptr 0 0)]) (res := [.one (vi room)]) (ats := #[]) (ty := 0) (v := xi room) (H' := [.obj [vi room, .sl false true true [] 0]]) [.tmp 0] (by kernel_rfl) (by kernel_rfl) hcall20 (by kernel_rfl)) (And.intro (ob_raw (P := pg) (A := an) (vals := [xi 1, xi room]) (H := [.obj [vi room, .sl false true true [] 0]]) (op := .binOp .gtr 3 (.tmp 0) (.tmp 1) 3) (ty := 0) (r := xb (decide ((1 : Int) > room))) (v := xb false) (by kernel_rfl) (congrArg (fun z => xb z) (decide_eq_false (by omega)))) trivial)) (by kernel_rfl)) (by kernel_rfl) ?_
              refine Wp.condF (by kernel_rfl) ?_
              refine Wp.skip ?_
              refine Wp.regionSeq [(6, .y (.one (.row 1 (([] : List Int) ++ [x16]).length 0 ((([] : List Int) ++ [x16]).length) false)), [.obj [vi room, .sl false true true [] 0], tr NI true (([] : List Int) ++ [x16])])] [] [.obj [vi room, .row 1 (([] : List Int) ++ [x16]).length 0 ((([] : List Int) ++ [x16]).length) false], tr NI true (([] : List Int) ++ [x16])]
                (cast (And.intro (ob_append_new (P := pg) (A := an) (H := [.obj [vi room, .sl false true true [] 0]]) (s := NI) (t := 22) (u := 22) (el := 3) (by_ := 8) (z := [vi 0]) (ty := 0) (b' := false) (nil' := true) (b := false) (nil := false) (capd := true) (l := ([] : List Int)) (m := [x16]) (by kernel_rfl) (by kernel_rfl) (by kernel_rfl) (by kernel_rfl) (by kernel_rfl) (by kernel_rfl) (by have e1 : (([] : List Int).length : Int) = 0 := by { first | omega | (simp; done) | (simp; omega) }; have e2 : (([x16] : List Int).length : Int) = 1 := by { first | omega | (simp; done) | (simp; omega) }; omega) (by have e1 : (([] : List Int).length : Int) = 0 := by { first | omega | (simp; done) | (simp; omega) }; have e2 : (([x16] : List Int).length : Int) = 1 := by { first | omega | (simp; done) | (simp; omega) }; omega) (by have e1 : (([] : List Int).length : Int) = 0 := by { first | omega | (simp; done) | (simp; omega) }; have e2 : (([x16] : List Int).length : Int) = 1 := by { first | omega | (simp; done) | (simp; omega) }; omega)) trivial) (by kernel_rfl)) (by kernel_rfl) ?_
              refine Wp.regionSeq [] [(4, xi 0)] [.obj [vi room, .row 1 (([] : List Int) ++ [x16]).length 0 ((([] : List Int) ++ [x16]).length) false], tr NI true (([] : List Int) ++ [x16])]
                (cast trivial (by kernel_rfl)) (by kernel_rfl) ?_
              refine Wp.ret ?_
              exact ⟨Or.inr rfl, [.one (vi 0)], by kernel_rfl, ⟨rfl, rfl⟩⟩
            refine Wp.regionSeq [(3, xi 0, [.obj [vi room, .row 1 (([] : List Int) ++ [x16]).length 0 ((([] : List Int) ++ [x16]).length) false], tr NI true (([] : List Int) ++ [x16])])] [(4, xi 0)] [.obj [vi room, .row 1 (([] : List Int) ++ [x16]).length 0 ((([] : List Int) ++ [x16]).length) false], tr NI true (([] : List Int) ++ [x16])]
              (cast (And.intro (ob_call (P := pg) (A := an) (H := [.obj [vi room, .sl false true true [] 0]]) (g := 19) (vals := [.y (.one (.ptr 0 0)), .y (.one (.sl false false true [vi x16] 1))]) (xs0 := [.one (.ptr 0 0), .one (.sl false false true [vi x16] 1)]) (res := [.one (vi 0)]) (ats := #[]) (ty := 0) (v := xi 0) (H' := [.obj [vi room, .row 1 (([] : List Int) ++ [x16]).length 0 ((([] : List Int) ++ [x16]).length) false], tr NI true (([] : List Int) ++ [x16])]) [.tmp 0, .tmp 1] (by kernel_rfl) (by kernel_rfl) hcall18 (by kernel_rfl)) trivial) (by kernel_rfl)) (by kernel_rfl) ?_
            refine Wp.ret ?_
            exact ⟨Or.inr rfl, [.one (vi 0)], by kernel_rfl, ⟨rfl, rfl⟩⟩
          refine Wp.regionSeq [(3, .y (.one (.rd ([vi x16] ++ (l.drop ((0 : Int).toNat + 1)).flatMap (enc NI)))), [.obj [vi room, .sl false true true [] 0]]), (5, xi 0, [.obj [vi room, .row 1 (([] : List Int) ++ [x16]).length 0 ((([] : List Int) ++ [x16]).length) false], tr NI true (([] : List Int) ++ [x16])])] [(0, xi room), (1, .y (.one (sv NI b nil capd l))), (5, .y (.one (.ptr 0 0))), (9, xi 0), (10, xi 0), (11, xi 0)] [.obj [vi room, .row 1 (([] : List Int) ++ [x16]).length 0 ((([] : List Int) ++ [x16]).length) false], tr NI true (([] : List Int) ++ [x16])]
            (cast (And.intro (ob_index (P := pg) (A := an) (H := [.obj [vi room, .sl false true true [] 0]]) (s := NI) (b := b) (nil := nil) (capd := capd) (t := 22) (el := 3) (i := 0) Try.underlying22 (by kernel_rfl) (by kernel_rfl) (by omega) hx16) (And.intro (ob_call (P := pg) (A := an) (H := [.obj [vi room, .sl false true true [] 0]]) (g := 11) (vals := [.y (.one (.ptr 0 0)), xi x16]) (xs0 := [.one (.ptr 0 0), .one (vi x16)]) (res := [.one (vi 0)]) (ats := #[]) (ty := 0) (v := xi 0) (H' := [.obj [vi room, .row 1 (([] : List Int) ++ [x16]).length 0 ((([] : List Int) ++ [x16]).length) false], tr NI true (([] : List Int) ++ [x16])]) [.tmp 0, .tmp 1] (by kernel_rfl) (by kernel_rfl) hcall17 (by kernel_rfl)) trivial)) (by kernel_rfl)) (by kernel_rfl) ?_
          refine Wp.seq ?_
          refine Wp.regionSeq [(4, xb true, [.obj [vi room, .row 1 (([] : List Int) ++ [x16]).length 0 ((([] : List Int) ++ [x16]).length) false], tr NI true (([] : List Int) ++ [x16])])] [(0, xi room), (1, .y (.one (sv NI b nil capd l))), (5, .y (.one (.ptr 0 0))), (9, xi 0), (10, xi 0), (11, xi 0), (60, xb false)] [.obj [vi room, .row 1 (([] : List Int) ++ [x16]).length 0 ((([] : List Int) ++ [x16]).length) false], tr NI true (([] : List Int) ++ [x16])]
            (cast (And.intro (ob_raw (P := pg) (A := an) (vals := [xi 0, xi room]) (H := [.obj [vi room, .row 1 (([] : List Int) ++ [x16]).length 0 ((([] : List Int) ++ [x16]).length) false], tr NI true (([] : List Int) ++ [x16])]) (op := .binOp .lss 3 (.tmp 0) (.tmp 1) 3) (ty := 0) (r := xb (decide ((0 : Int) < room))) (v := xb true) (by kernel_rfl) (congrArg (fun z => xb z) (decide_eq_true (by omega)))) trivial) (by kernel_rfl)) (by kernel_rfl) ?_
          refine Wp.condF (by kernel_rfl) ?_
          refine Wp.skip ?_
          refine Wp.regionSeq [] [(0, xi room), (1, .y (.one (sv NI b nil capd l))), (5, .y (.one (.ptr 0 0))), (9, xi 0), (10, xi 0), (62, xb true)] [.obj [vi room, .row 1 (([] : List Int) ++ [x16]).length 0 ((([] : List Int) ++ [x16]).length) false], tr NI true (([] : List Int) ++ [x16])]
            (cast trivial (by kernel_rfl)) (by kernel_rfl) ?_
          refine Wp.condT (by kernel_rfl) ?_
          refine Wp.region [] [(0, xi room), (1, .y (.one (sv NI b nil capd l))), (5, .y (.one (.ptr 0 0))), (9, xi 1), (10, xi 0)] [.obj [vi room, .row 1 (([] : List Int) ++ [x16]).length 0 ((([] : List Int) ++ [x16]).length) false], tr NI true (([] : List Int) ++ [x16])]
            (cast trivial (by kernel_rfl)) (by kernel_rfl) ?_
          refine Wp.region [] [(0, xi room), (1, .y (.one (sv NI b nil capd l))), (5, .y (.one (.ptr 0 0))), (9, xi 1), (10, xi 1)] [.obj [vi room, .row 1 (([] : List Int) ++ [x16]).length 0 ((([] : List Int) ++ [x16]).length) false], tr NI true (([] : List Int) ++ [x16])]
            (cast trivial (by kernel_rfl)) (by kernel_rfl) ?_
          exact ⟨(1, 1, (([] : List Int) ++ [x16])), by kernel_rfl, (by exact ⟨by omega, by omega, by omega, by omega, by omega, by omega, by simp, by simpa using (take_snoc (i := 0) (by omega) hx16).symm⟩)⟩
        ·
          refine Wp.regionSeq [(3, xb false, [.obj [vi room, .sl false true true [] 0]])] [(0, xi room), (1, .y (.one (sv NI b nil capd l))), (5, .y (.one (.ptr 0 0))), (9, xi 0), (10, xi 0), (38, xb false)] [.obj [vi room, .sl false true true [] 0]]
            (cast (And.intro (ob_raw (P := pg) (A := an) (vals := [xi 0, xi (l.length : Int)]) (H := [.obj [vi room, .sl false true true [] 0]]) (op := .binOp .lss 3 (.tmp 0) (.tmp 1) 3) (ty := 0) (r := xb (decide ((0 : Int) < (l.length : Int)))) (v := xb false) (by kernel_rfl) (congrArg (fun z => xb z) (decide_eq_false (by omega)))) trivial) (by kernel_rfl)) (by kernel_rfl) ?_
          refine Wp.condF (by kernel_rfl) ?_
          refine Wp.exit ?_
          refine Eq.mpr (if_pos rfl) ?_
          refine Wp.seq ?_
          refine Wp.regionSeq [] [(0, xi room), (1, .y (.one (sv NI b nil capd l))), (5, .y (.one (.ptr 0 0))), (9, xi 0), (12, xi 0)] [.obj [vi room, .sl false true true [] 0]]
            (cast trivial (by kernel_rfl)) (by kernel_rfl) ?_
          refine Wp.block ?_
          refine Wp.loopU [(0, xi room), (1, .y (.one (sv NI b nil capd l))), (5, .y (.one (.ptr 0 0))), (9, xi 0), (12, xi 0)] (some ([0, 1, 5, 9, 12], false)) 1 (by kernel_rfl) ?_
          refine WpL.step ?_
          refine Wp.seq ?_
          refine Wp.regionSeq [] [(0, xi room), (1, .y (.one (sv NI b nil capd l))), (5, .y (.one (.ptr 0 0))), (9, xi 0), (12, xi 0), (67, xb false)] [.obj [vi room, .sl false true true [] 0]]
            (cast trivial (by kernel_rfl)) (by kernel_rfl) ?_
          refine Wp.condF (by kernel_rfl) ?_
          refine Wp.exit ?_
          refine Eq.mpr (if_pos rfl) ?_
          have hcall22 : Runs pg an 12 [.one (.ptr 0 0)] [.obj [vi room, .sl false true true [] 0]] [.one (vi 0), .one (vi 3)] [.obj [vi room, .sl false true true [] 0]] := by
            refine runs_of ?_
            refine Runs.of (fn := Try.f12) Try.func12 rfl (by kernel_rfl) [(0, .y (.one (.ptr 0 0)))] (by kernel_rfl) ?_
            refine Wp.regionSeq [] [(0, .y (.one (.ptr 0 0)))] [.obj [vi room, .sl false true true [] 0]]
              (cast trivial (by kernel_rfl)) (by kernel_rfl) ?_
            have hcall23 : Runs pg an 26 [.one (.ptr 0 0), .one (vi 0)] [.obj [vi room, .sl false true true [] 0]] [.one (vi 0), .one (vi 3)] [.obj [vi room, .sl false true true [] 0]] := by
              refine runs_of ?_
              refine Runs.of (fn := Try.f26) Try.func26 rfl (by kernel_rfl) [(0, .y (.one (.ptr 0 0))), (1, xi 0)] (by kernel_rfl) ?_
              refine Wp.regionSeq [] [(0, .y (.one (.ptr 0 0))), (1, xi 0)] [.obj [vi room, .sl false true true [] 0]]
                (cast trivial (by kernel_rfl)) (by kernel_rfl) ?_
              refine Wp.seq ?_
              have hcall24 : Runs pg an 25 [.one (.ptr 0 0), .one (vi 0)] [.obj [vi room, .sl false true true [] 0]] [.one (vi 0), .one (vi 3)] [.obj [vi room, .sl false true true [] 0]] := by
                refine runs_of ?_
                refine Runs.of (fn := Try.f25) Try.func25 rfl (by kernel_rfl) [(0, .y (.one (.ptr 0 0))), (1, xi 0)] (by kernel_rfl) ?_
                refine Wp.regionSeq [] [(0, .y (.one (.ptr 0 0))), (1, xi 0), (4, xi 0)] [.obj [vi room, .sl false true true [] 0]]
                  (cast trivial (by kernel_rfl)) (by kernel_rfl) ?_
                refine Wp.seq ?_
                have hcall25 : Runs pg an 27 [.one (.ptr 0 0)] [.obj [vi room, .sl false true true [] 0]] [.one (vb true)] [.obj [vi room, .sl false true true [] 0]] := by
                  refine runs_of ?_
                  refine Runs.of (fn := Try.f27) Try.func27 rfl (by kernel_rfl) [(0, .y (.one (.ptr 0 0)))] (by kernel_rfl) ?_
                  refine Wp.regionSeq [] [(0, .y (.one (.ptr 0 0)))] [.obj [vi room, .sl false true true [] 0]]
                    (cast trivial (by kernel_rfl)) (by kernel_rfl) ?_
                  refine Wp.regionSeq [(7, xb true, [.obj [vi room, .sl false true true [] 0]])] [(2, xb true)] [.obj [vi room, .sl false true true [] 0]]
                    (cast (And.intro (ob_raw (P := pg) (A := an) (vals := [xi room, xi 0]) (H := [.obj [vi room, .sl false true true [] 0]]) (op := .binOp .gtr 3 (.tmp 0) (.tmp 1) 3) (ty := 0) (r := xb (decide ((room : Int) > 0))) (v := xb true) (by kernel_rfl) (congrArg (fun z => xb z) (decide_eq_true (by omega)))) trivial) (by kernel_rfl)) (by kernel_rfl) ?_
                  refine Wp.ret ?_
                  exact ⟨Or.inr rfl, [.one (vb true)], by kernel_rfl, ⟨rfl, rfl⟩⟩
                refine Wp.regionSeq [(1, xb true, [.obj [vi room, .sl false true true [] 0]])] [(0, .y (.one (.ptr 0 0))), (1, xi 0), (4, xi 0), (8, xb false)] [.obj [vi room, .sl false true true [] 0]]
                  (cast (And.intro (ob_call (P := pg) (A := an) (H := [.obj [vi room, .sl false true true [] 0]]) (g := 27) (vals := [.y (.one (.ptr 0 0))]) (xs0 := [.one (.ptr 0 0)]) (res := [.one (vb true)]) (ats := #[]) (ty := 0) (v := xb true) (H' := [.obj [vi room, .sl false true true [] 0]]) [.tmp 0] (by kernel_rfl) (by kernel_rfl) hcall25 (by kernel_rfl)) trivial) (by kernel_rfl)) (by kernel_rfl) ?_
                refine Wp.condF (by kernel_rfl) ?_
                refine Wp.skip ?_
                refine Wp.seq ?_
                refine Wp.regionSeq [] [(0, .y (.one (.ptr 0 0))), (1, xi 0), (4, xi 0), (20, xb true)] [.obj [vi room, .sl false true true [] 0]]
                  (cast trivial (by kernel_rfl)) (by kernel_rfl) ?_
                refine Wp.condT (by kernel_rfl) ?_
                refine Wp.regionSeq [] [(4, xi 0), (5, xi 3)] [.obj [vi room, .sl false true true [] 0]]
                  (cast trivial (by kernel_rfl)) (by kernel_rfl) ?_
                refine Wp.ret ?_
                exact ⟨Or.inr rfl, [.one (vi 0), .one (vi 3)], by kernel_rfl, ⟨rfl, rfl⟩⟩
              refine Wp.regionSeq [(2, .tup [.one (vi 0), .one (vi 3)], [.obj [vi room, .sl false true true [] 0]])] [(0, .y (.one (.ptr 0 0))), (1, xi 0), (4, xi 0), (5, xi 3)] [.obj [vi room, .sl false true true [] 0]]
                (cast (And.intro (ob_call (P := pg) (A := an) (H := [.obj [vi room, .sl false true true [] 0]]) (g := 25) (vals := [.y (.one (.ptr 0 0)), xi 0]) (xs0 := [.one (.ptr 0 0), .one (vi 0)]) (res := [.one (vi 0), .one (vi 3)]) (ats := #[]) (ty := 0) (v := .tup [.one (vi 0), .one (vi 3)]) (H' := [.obj [vi room, .sl false true true [] 0]]) [.tmp 0, .tmp 1] (by kernel_rfl) (by kernel_rfl) hcall24 (by kernel_rfl)) trivial) (by kernel_rfl)) (by kernel_rfl) ?_
              refine Wp.regionSeq [] [(0, .y (.one (.ptr 0 0))), (1, xi 0), (4, xi 0), (5, xi 3), (13, xb true)] [.obj [vi room, .sl false true true [] 0]]
                (cast trivial (by kernel_rfl)) (by kernel_rfl) ?_
              refine Wp.condT (by kernel_rfl) ?_
              refine Wp.regionSeq [] [(4, xi 0), (5, xi 3)] [.obj [vi room, .sl false true true [] 0]]
                (cast trivial (by kernel_rfl)) (by kernel_rfl) ?_
              refine Wp.ret ?_
              exact ⟨Or.inr rfl, [.one (vi 0), .one (vi 3)], by kernel_rfl, ⟨rfl, rfl⟩⟩
            refine Wp.regionSeq [(1, .tup [.one (vi 0), .one (vi 3)], [.obj [vi room, .sl false true true [] 0]])] [(2, xi 0), (3, xi 3)] [.obj [vi room, .sl false true true [] 0]]
              (cast (And.intro (ob_call (P := pg) (A := an) (H := [.obj [vi room, .sl false true true [] 0]]) (g := 26) (vals := [.y (.one (.ptr 0 0)), xi 0]) (xs0 := [.one (.ptr 0 0), .one (vi 0)]) (res := [.one (vi 0), .one (vi 3)]) (ats := #[]) (ty := 0) (v := .tup [.one (vi 0), .one (vi 3)]) (H' := [.obj [vi room, .sl false true true [] 0]]) [.tmp 0, .tmp 1] (by kernel_rfl) (by kernel_rfl) hcall23 (by kernel_rfl)) trivial) (by kernel_rfl)) (by kernel_rfl) ?_
            refine Wp.ret ?_
            exact ⟨Or.inr rfl, [.one (vi 0), .one (vi 3)], by kernel_rfl, ⟨rfl, rfl⟩⟩
          refine Wp.regionSeq [(1, .tup [.one (vi 0), .one (vi 3)], [.obj [vi room, .sl false true true [] 0]])] [(0, xi room), (5, .y (.one (.ptr 0 0))), (16, xi 3)] [.obj [vi room, .sl false true true [] 0]]
            (cast (And.intro (ob_call (P := pg) (A := an) (H := [.obj [vi room, .sl false true true [] 0]]) (g := 12) (vals := [.y (.one (.ptr 0 0))]) (xs0 := [.one (.ptr 0 0)]) (res := [.one (vi 0), .one (vi 3)]) (ats := #[]) (ty := 0) (v := .tup [.one (vi 0), .one (vi 3)]) (H' := [.obj [vi room, .sl false true true [] 0]]) [.tmp 0] (by kernel_rfl) (by kernel_rfl) hcall22 (by kernel_rfl)) trivial) (by kernel_rfl)) (by kernel_rfl) ?_
          have hcall26 : Runs pg an 13 [.one (.ptr 0 0)] [.obj [vi room, .sl false true true [] 0]] [.one (vi 0)] [.obj [vi room, .sl false true true [] 0]] := by
            refine runs_of ?_
            refine Runs.of (fn := Try.f13) Try.func13 rfl (by kernel_rfl) [(0, .y (.one (.ptr 0 0)))] (by kernel_rfl) ?_
            refine Wp.regionSeq [] [(0, .y (.one (.ptr 0 0)))] [.obj [vi room, .sl false true true [] 0]]
              (cast trivial (by kernel_rfl)) (by kernel_rfl) ?_
            refine Wp.seq ?_
            have hcall27 : Runs pg an 27 [.one (.ptr 0 0)] [.obj [vi room, .sl false true true [] 0]] [.one (vb true)] [.obj [vi room, .sl false true true [] 0]] := by
              refine runs_of ?_
              refine Runs.of (fn := Try.f27) Try.func27 rfl (by kernel_rfl) [(0, .y (.one (.ptr 0 0)))] (by kernel_rfl) ?_
              refine Wp.regionSeq [] [(0, .y (.one (.ptr 0 0)))] [.obj [vi room, .sl false true true [] 0]]
                (cast trivial (by kernel_rfl)) (by kernel_rfl) ?_
              refine Wp.regionSeq [(7, xb true, [.obj [vi room, .sl false true true [] 0]])] [(2, xb true)] [.obj [vi room, .sl false true true [] 0]]
                (cast (And.intro (ob_raw (P := pg) (A := an) (vals := [xi room, xi 0]) (H := [.obj [vi room, .sl false true true [] 0]]) (op := .binOp .gtr 3 (.tmp 0) (.tmp 1) 3) (ty := 0) (r := xb (decide ((room : Int) > 0))) (v := xb true) (by kernel_rfl) (congrArg (fun z => xb z) (decide_eq_true (by omega)))) trivial) (by kernel_rfl)) (by kernel_rfl) ?_
              refine Wp.ret ?_
              exact ⟨Or.inr rfl, [.one (vb true)], by kernel_rfl, ⟨rfl, rfl⟩⟩
            refine Wp.regionSeq [(1, xb true, [.obj [vi room, .sl false true true [] 0]])] [(0, .y (.one (.ptr 0 0))), (5, xb false)] [.obj [vi room, .sl false true true [] 0]]
              (cast (And.intro (ob_call (P := pg) (A := an) (H := [.obj [vi room, .sl false true true [] 0]]) (g := 27) (vals := [.y (.one (.ptr 0 0))]) (xs0 := [.one (.ptr 0 0)]) (res := [.one (vb true)]) (ats := #[]) (ty := 0) (v := xb true) (H' := [.obj [vi room, .sl false true true [] 0]]) [.tmp 0] (by kernel_rfl) (by kernel_rfl) hcall27 (by kernel_rfl)) trivial) (by kernel_rfl)) (by kernel_rfl) ?_
            refine Wp.condF (by kernel_rfl) ?_
            refine Wp.skip ?_
            refine Wp.regionSeq [] [(2, xi 0)] [.obj [vi room, .sl false true true [] 0]]
              (cast trivial (by kernel_rfl)) (by kernel_rfl) ?_
            refine Wp.ret ?_
            exact ⟨Or.inr rfl, [.one (vi 0)], by kernel_rfl, ⟨rfl, rfl⟩⟩
          have hcall28 : Runs pg an 14 [.one (.ptr 0 0)] [.obj [vi room, .sl false true true [] 0]] [.one (vi room)] [.obj [vi room, .sl false true true [] 0]] := by
            refine runs_of ?_
            refine Runs.of (fn := Try.f14) Try.func14 rfl (by kernel_rfl) [(0, .y (.one (.ptr 0 0)))] (by kernel_rfl) ?_
            refine Wp.regionSeq [] [(0, .y (.one (.ptr 0 0)))] [.obj [vi room, .sl false true true [] 0]]
              (cast trivial (by kernel_rfl)) (by kernel_rfl) ?_
            refine Wp.seq ?_
            have hcall29 : Runs pg an 27 [.one (.ptr 0 0)] [.obj [vi room, .sl false true true [] 0]] [.one (vb true)] [.obj [vi room, .sl false true true [] 0]] := by
              refine runs_of ?_
              refine Runs.of (fn := Try.f27) Try.func27 rfl (by kernel_rfl) [(0, .y (.one (.ptr 0 0)))] (by kernel_rfl) ?_
              refine Wp.regionSeq [] [(0, .y (.one (.ptr 0 0)))] [.obj [vi room, .sl false true true [] 0]]
                (cast trivial (by kernel_rfl)) (by kernel_rfl) ?_
              refine Wp.regionSeq [(7, xb true, [.obj [vi room, .sl false true true [] 0]])] [(2, xb true)] [.obj [vi room, .sl false true true [] 0]]
                (cast (And.intro (ob_raw (P := pg) (A := an) (vals := [xi room, xi 0]) (H := [.obj [vi room, .sl false true true [] 0]]) (op := .binOp .gtr 3 (.tmp 0) (.tmp 1) 3) (ty := 0) (r := xb (decide ((room : Int) > 0))) (v := xb true) (by kernel_rfl) (congrArg (fun z => xb z) (decide_eq_true (by omega)))) trivial) (by kernel_rfl)) (by kernel_rfl) ?_
              refine Wp.ret ?_
              exact ⟨Or.inr rfl, [.one (vb true)], by kernel_rfl, ⟨rfl, rfl⟩⟩
            refine Wp.regionSeq [(1, xb true, [.obj [vi room, .sl false true true [] 0]])] [(0, .y (.one (.ptr 0 0))), (5, xb false)] [.obj [vi room, .sl false true true [] 0]]
              (cast (And.intro (ob_call (P := pg) (A := an) (H := [.obj [vi room, .sl false true true [] 0]]) (g := 27) (vals := [.y (.one (.ptr 0 0))]) (xs0 := [.one (.ptr 0 0)]) (res := [.one (vb true)]) (ats := #[]) (ty := 0) (v := xb true) (H' := [.obj [vi room, .sl false true true [] 0]]) [.tmp 0] (by kernel_rfl) (by kernel_rfl) hcall29 (by kernel_rfl)) trivial) (by kernel_rfl)) (by kernel_rfl) ?_
            refine Wp.condF (by kernel_rfl) ?_
            refine Wp.skip ?_
            refine Wp.regionSeq [(9, xi room, [.obj [vi room, .sl false true true [] 0]])] [(2, xi room)] [.obj [vi room, .sl false true true [] 0]]
              (cast (And.intro (ob_raw (P := pg) (A := an) (vals := [xi room, xi 0]) (H := [.obj [vi room, .sl false true true [] 0]]) (op := .binOp .sub 3 (.tmp 0) (.tmp 1) 3) (ty := 0) (r := xi (IntKind.wrap .i64 (room - 0))) (v := xi room) (by kernel_rfl) (congrArg (fun z => xi z) ((wrap64 (by omega)).trans (by omega)))) trivial) (by kernel_rfl)) (by kernel_rfl) ?_
            refine Wp.ret ?_
            exact ⟨Or.inr rfl, [.one (vi room)], by kernel_rfl, ⟨rfl, rfl⟩⟩
          refine Wp.regionSeq [(4, xi 0, [.obj [vi room, .sl false true true [] 0]]), (9, xi room, [.obj [vi room, .sl false true true [] 0]]), (11, xb true, [.obj [vi room, .sl false true true [] 0]]), (14, xb true, [.obj [vi room, .sl false true true [] 0]])] [(4, xb true)] [.obj [vi room, .sl false true true [] 0]]
            (cast (And.intro (ob_call (P := pg) (A := an) (H := [.obj [vi room, .sl false true true [] 0]]) (g := 13) (vals := [.y (.one (.ptr 0 0))]) (xs0 := [.one (.ptr 0 0)]) (res := [.one (vi 0)]) (ats := #[]) (ty := 0) (v := xi 0) (H' := [.obj [vi room, .sl false true true [] 0]]) [.tmp 0] (by kernel_rfl) (by kernel_rfl) hcall26 (by kernel_rfl)) (And.intro (ob_call (P := pg) (A := an) (H := [.obj [vi room, .sl false true true [] 0]]) (g := 14) (vals := [.y (.one (.ptr 0 0))]) (xs0 := [.one (.ptr 0 0)]) (res := [.one (vi room)]) (ats := #[]) (ty := 0) (v := xi room) (H' := [.obj [vi room, .sl false true true [] 0]]) [.tmp 0] (by kernel_rfl) (by kernel_rfl) hcall28 (by kernel_rfl)) (And.intro (ob_raw (P := pg) (A := an) (vals := [xi room, xi room]) (H := [.obj [vi room, .sl false true true [] 0]]) (op := .binOp .eql 3 (.tmp 0) (.tmp 1) 3) (ty := 0) (r := xb ((room : Int) == room)) (v := xb true) (by kernel_rfl) (congrArg (fun z => xb z) (beq_t (by omega)))) (And.intro (ob_pure (P := pg) (A := an) (H := [.obj [vi room, .sl false true true [] 0]]) (g := 10) (vals := []) (xs0 := []) (xs1 := []) (res := [.one (vb true)]) (ats := #[]) (ty := 0) (v := xb true) [] (by kernel_rfl) (by kernel_rfl) (by kernel_rfl) fn10 (by kernel_rfl)) trivial)))) (by kernel_rfl)) (by kernel_rfl) ?_
          refine Wp.ret ?_
          exact ⟨Or.inr rfl, [.one (vb true)], by kernel_rfl, rfl⟩
      ·
        rintro ⟨ix, n, ml⟩ ⟨h1, h2, h3, h4, h5, h6, h7, h8⟩
        show Wp _ _ _ _ [(0, xi room), (1, .y (.one (sv NI b nil capd l))), (5, .y (.one (.ptr 0 0))), (9, xi n), (10, xi ix)] [.obj [vi room, .row 1 ml.length 0 ml.length false], tr NI true ml] _
        rcases h6 with h6 | h6
        ·
          refine Wp.seq ?_
          by_cases c30 : (ix : Int) < (l.length : Int)
          ·
            refine Wp.regionSeq [(3, xb true, [.obj [vi room, .row 1 ml.length 0 ml.length false], tr NI true ml])] [(0, xi room), (1, .y (.one (sv NI b nil capd l))), (5, .y (.one (.ptr 0 0))), (9, xi n), (10, xi ix), (38, xb true)] [.obj [vi room, .row 1 ml.length 0 ml.length false], tr NI true ml]
              (cast (And.intro (ob_raw (P := pg) (A := an) (vals := [xi ix, xi (l.length : Int)]) (H := [.obj [vi room, .row 1 ml.length 0 ml.length false], tr NI true ml]) (op := .binOp .lss 3 (.tmp 0) (.tmp 1) 3) (ty := 0) (r := xb (decide ((ix : Int) < (l.length : Int)))) (v := xb true) (by kernel_rfl) (congrArg (fun z => xb z) (decide_eq_true (by omega)))) trivial) (by kernel_rfl)) (by kernel_rfl) ?_
            refine Wp.condT (by kernel_rfl) ?_
            refine Wp.skip ?_
            refine Wp.seq ?_
            refine Wp.block ?_
            obtain ⟨x31, hx31⟩ : ∃ x, l[(ix : Int).toNat]? = some x := get_of (by omega)
            by_cases c37 : ((room - n) : Int) < 1
            ·
              have hcall38 : Runs pg an 11 [.one (.ptr 0 0), .one (vi x31)] [.obj [vi room, .row 1 ml.length 0 ml.length false], tr NI true ml] [.one (vi 2)] [.obj [vi room, .row 1 ml.length 0 ml.length false], tr NI true ml] := by
                refine runs_of ?_
                refine Runs.of (fn := Try.f11) Try.func11 rfl (by kernel_rfl) [(0, .y (.one (.ptr 0 0))), (1, xi x31)] (by kernel_rfl) ?_
                refine Wp.regionSeq [] [(0, .y (.one (.ptr 0 0))), (1, xi x31)] [.obj [vi room, .row 1 ml.length 0 ml.length false], tr NI true ml]
                  (cast trivial (by kernel_rfl)) (by kernel_rfl) ?_
                have hcall39 : Runs pg an 19 [.one (.ptr 0 0), .one (.sl false false true [vi x31] 1)] [.obj [vi room, .row 1 ml.length 0 ml.length false], tr NI true ml] [.one (vi 2)] [.obj [vi room, .row 1 ml.length 0 ml.length false], tr NI true ml] := by
                  refine runs_of ?_
                  refine Runs.of (fn := Try.f19) Try.func19 rfl (by kernel_rfl) [(0, .y (.one (.ptr 0 0))), (1, .y (.one (.sl false false true [vi x31] 1)))] (by kernel_rfl) ?_
                  refine Wp.regionSeq [] [(0, .y (.one (.ptr 0 0))), (1, .y (.one (.sl false false true [vi x31] 1)))] [.obj [vi room, .row 1 ml.length 0 ml.length false], tr NI true ml]
                    (cast trivial (by kernel_rfl)) (by kernel_rfl) ?_
                  refine Wp.seq ?_
                  have hcall40 : Runs pg an 27 [.one (.ptr 0 0)] [.obj [vi room, .row 1 ml.length 0 ml.length false], tr NI true ml] [.one (vb true)] [.obj [vi room, .row 1 ml.length 0 ml.length false], tr NI true ml] := by
                    refine runs_of ?_
                    refine Runs.of (fn := Try.f27) Try.func27 rfl (by kernel_rfl) [(0, .y (.one (.ptr 0 0)))] (by kernel_rfl) ?_
                    refine Wp.regionSeq [] [(0, .y (.one (.ptr 0 0)))] [.obj [vi room, .row 1 ml.length 0 ml.length false], tr NI true ml]
                      (cast trivial (by kernel_rfl)) (by kernel_rfl) ?_
                    refine Wp.regionSeq [(7, xb true, [.obj [vi room, .row 1 ml.length 0 ml.length false], tr NI true ml])] [(2, xb true)] [.obj [vi room, .row 1 ml.length 0 ml.length false], tr NI true ml]
                      (cast (And.intro (ob_raw (P := pg) (A := an) (vals := [xi room, xi 0]) (H := [.obj [vi room, .row 1 ml.length 0 ml.length false], tr NI true ml]) (op := .binOp .gtr 3 (.tmp 0) (.tmp 1) 3) (ty := 0) (r := xb (decide ((room : Int) > 0))) (v := xb true) (by kernel_rfl) (congrArg (fun z => xb z) (decide_eq_true (by omega)))) trivial) (by kernel_rfl)) (by kernel_rfl) ?_
                    refine Wp.ret ?_
                    exact ⟨Or.inr rfl, [.one (vb true)], by kernel_rfl, ⟨rfl, rfl⟩⟩
                  refine Wp.regionSeq [(1, xb true, [.obj [vi room, .row 1 ml.length 0 ml.length false], tr NI true ml])] [(0, .y (.one (.ptr 0 0))), (1, .y (.one (.sl false false true [vi x31] 1))), (7, xb false)] [.obj [vi room, .row 1 ml.length 0 ml.length false], tr NI true ml]
                    (cast (And.intro (ob_call (P := pg) (A := an) (H := [.obj [vi room, .row 1 ml.length 0 ml.length false], tr NI true ml]) (g := 27) (vals := [.y (.one (.ptr 0 0))]) (xs0 := [.one (.ptr 0 0)]) (res := [.one (vb true)]) (ats := #[]) (ty := 0) (v := xb true) (H' := [.obj [vi room, .row 1 ml.length 0 ml.length false], tr NI true ml]) [.tmp 0] (by kernel_rfl) (by kernel_rfl) hcall40 (by kernel_rfl)) trivial) (by kernel_rfl)) (by kernel_rfl) ?_
                  refine Wp.condF (by kernel_rfl) ?_
                  refine Wp.skip ?_
                  refine Wp.seq ?_
                  have hcall41 : Runs pg an 14 [.one (.ptr 0 0)] [.obj [vi room, .row 1 ml.length 0 ml.length false], tr NI true ml] [.one (vi (room - n))] [.obj [vi room, .row 1 ml.length 0 ml.length false], tr NI true ml] := by
                    refine runs_of ?_
                    refine Runs.of (fn := Try.f14) Try.func14 rfl (by kernel_rfl) [(0, .y (.one (.ptr 0 0)))] (by kernel_rfl) ?_
                    refine Wp.regionSeq [] [(0, .y (.one (.ptr 0 0)))] [.obj [vi room, .row 1 ml.length 0 ml.length false], tr NI true ml]
                      (cast trivial (by kernel_rfl)) (by kernel_rfl) ?_
                    refine Wp.seq ?_
                    have hcall42 : Runs pg an 27 [.one (.ptr 0 0)] [.obj [vi room, .row 1 ml.length 0 ml.length false], tr NI true ml] [.one (vb true)] [.obj [vi room, .row 1 ml.length 0 ml.length false], tr NI true ml] := by
                      refine runs_of ?_
                      refine Runs.of (fn := Try.f27) Try.func27 rfl (by kernel_rfl) [(0, .y (.one (.ptr 0 0)))] (by kernel_rfl) ?_
                      refine Wp.regionSeq [] [(0, .y (.one (.ptr 0 0)))] [.obj [vi room, .row 1 ml.length 0 ml.length false], tr NI true ml]
                        (cast trivial (by kernel_rfl)) (by kernel_rfl) ?_
                      refine Wp.regionSeq [(7, xb true, [.obj [vi room, .row 1 ml.length 0 ml.length false], tr NI true ml])] [(2, xb true)] [.obj [vi room, .row 1 ml.length 0 ml.length false], tr NI true ml]
                        (cast (And.intro (ob_raw (P := pg) (A := an) (vals := [xi room, xi 0]) (H := [.obj [vi room, .row 1 ml.length 0 ml.length false], tr NI true ml]) (op := .binOp .gtr 3 (.tmp 0) (.tmp 1) 3) (ty := 0) (r := xb (decide ((room : Int) > 0))) (v := xb true) (by kernel_rfl) (congrArg (fun z => xb z) (decide_eq_true (by omega)))) trivial) (by kernel_rfl)) (by kernel_rfl) ?_
                      refine Wp.ret ?_
                      exact ⟨Or.inr rfl, [.one (vb true)], by kernel_rfl, ⟨rfl, rfl⟩⟩
                    refine Wp.regionSeq [(1, xb true, [.obj [vi room, .row 1 ml.length 0 ml.length false], tr NI true ml])] [(0, .y (.one (.ptr 0 0))), (5, xb false)] [.obj [vi room, .row 1 ml.length 0 ml.length false], tr NI true ml]
                      (cast (And.intro (ob_call (P := pg) (A := an) (H := [.obj [vi room, .row 1 ml.length 0 ml.length false], tr NI true ml]) (g := 27) (vals := [.y (.one (.ptr 0 0))]) (xs0 := [.one (.ptr 0 0)]) (res := [.one (vb true)]) (ats := #[]) (ty := 0) (v := xb true) (H' := [.obj [vi room, .row 1 ml.length 0 ml.length false], tr NI true ml]) [.tmp 0] (by kernel_rfl) (by kernel_rfl) hcall42 (by kernel_rfl)) trivial) (by kernel_rfl)) (by kernel_rfl) ?_
                    refine Wp.condF (by kernel_rfl) ?_
                    refine Wp.skip ?_
                    refine Wp.regionSeq [(8, xi n, [.obj [vi room, .row 1 ml.length 0 ml.length false], tr NI true ml]), (9, xi (room - n), [.obj [vi room, .row 1 ml.length 0 ml.length false], tr NI true ml])] [(2, xi (room - n))] [.obj [vi room, .row 1 ml.length 0 ml.length false], tr NI true ml]
                      (cast (And.intro (ob_len_row (P := pg) (A := an) (H := [.obj [vi room, .row 1 ml.length 0 ml.length false], tr NI true ml]) (s := NI) (t := 22) (ty := 0) (pu := true) (capd := false) (id := 1) (off := 0) (n := ml.length) (l := ml) (e := n) (by kernel_rfl) (by kernel_rfl) (by first | omega | (simp; done) | (simp; omega))) (And.intro (ob_raw (P := pg) (A := an) (vals := [xi room, xi n]) (H := [.obj [vi room, .row 1 ml.length 0 ml.length false], tr NI true ml]) (op := .binOp .sub 3 (.tmp 0) (.tmp 1) 3) (ty := 0) (r := xi (IntKind.wrap .i64 (room - n))) (v := xi (room - n)) (by kernel_rfl) (congrArg (fun z => xi z) ((wrap64 (by omega)).trans (by omega)))) trivial)) (by kernel_rfl)) (by kernel_rfl) ?_
                    refine Wp.ret ?_
                    exact ⟨Or.inr rfl, [.one (vi (room - n))], by kernel_rfl, ⟨rfl, rfl⟩⟩
                  refine Wp.regionSeq [(3, xi (room - n), [.obj [vi room, .row 1 ml.length 0 ml.length false], tr NI true ml]), (4, xb true, [.obj [vi room, .row 1 ml.length 0 ml.length false], tr NI true ml])] [(0, .y (.one (.ptr 0 0))), (1, .y (.one (.sl false false true [vi x31] 1))), (12, xb true)] [.obj [vi room, .row 1 ml.length 0 ml.length false], tr NI true ml]
                    (cast (And.intro (ob_call (P := pg) (A := an) (H := [.obj [vi room, .row 1 ml.length 0 ml.length false], tr NI true ml]) (g := 14) (vals := [.y (.one (.ptr 0 0))]) (xs0 := [.one (.ptr 0 0)]) (res := [.one (vi (room - n))]) (ats := #[]) (ty := 0) (v := xi (room - n)) (H' := [.obj [vi room, .row 1 ml.length 0 ml.length false], tr NI true ml]) [.tmp 0] (by kernel_rfl) (by kernel_rfl) hcall41 (by kernel_rfl)) (And.intro (ob_raw (P := pg) (A := an) (vals := [xi 1, xi (room - n)]) (H := [.obj [vi room, .row 1 ml.length 0 ml.length false], tr NI true ml]) (op := .binOp .gtr 3 (.tmp 0) (.tmp 1) 3) (ty := 0) (r := xb (decide ((1 : Int) > (room - n)))) (v := xb true) (by kernel_rfl) (congrArg (fun z => xb z) (decide_eq_true (by omega)))) trivial)) (by kernel_rfl)) (by kernel_rfl) ?_
                  refine Wp.condT (by kernel_rfl) ?_
                  refine Wp.regionSeq [] [(4, xi 2)] [.obj [vi room, .row 1 ml.length 0 ml.length false], tr NI true ml]
                    (cast trivial (by kernel_rfl)) (by kernel_rfl) ?_
                  refine Wp.ret ?_
                  exact ⟨Or.inr rfl, [.one (vi 2)], by kernel_rfl, ⟨rfl, rfl⟩⟩
                refine Wp.regionSeq [(3, xi 2, [.obj [vi room, .row 1 ml.length 0 ml.length false], tr NI true ml])] [(4, xi 2)] [.obj [vi room, .row 1 ml.length 0 ml.length false], tr NI true ml]
                  (cast (And.intro (ob_call (P := pg) (A := an) (H := [.obj [vi room, .row 1 ml.length 0 ml.length false], tr NI true ml]) (g := 19) (vals := [.y (.one (.ptr 0 0)), .y (.one (.sl false false true [vi x31] 1))]) (xs0 := [.one (.ptr 0 0), .one (.sl false false true [vi x31] 1)]) (res := [.one (vi 2)]) (ats := #[]) (ty := 0) (v := xi 2) (H' := [.obj [vi room, .row 1 ml.length 0 ml.length false], tr NI true ml]) [.tmp 0, .tmp 1] (by kernel_rfl) (by kernel_rfl) hcall39 (by kernel_rfl)) trivial) (by kernel_rfl)) (by kernel_rfl) ?_
                refine Wp.ret ?_
                exact ⟨Or.inr rfl, [.one (vi 2)], by kernel_rfl, ⟨rfl, rfl⟩⟩
              refine Wp.regionSeq [(3, .y (.one (.rd ([vi x31] ++ (l.drop ((ix : Int).toNat + 1)).flatMap (enc NI)))), [.obj [vi room, .row 1 ml.length 0 ml.length false], tr NI true ml]), (5, xi 2, [.obj [vi room, .row 1 ml.length 0 ml.length false], tr NI true ml])] [(0, xi room), (1, .y (.one (sv NI b nil capd l))), (5, .y (.one (.ptr 0 0))), (9, xi n), (10, xi ix), (11, xi 2)] [.obj [vi room, .row 1 ml.length 0 ml.length false], tr NI true ml]
                (cast (And.intro (ob_index (P := pg) (A := an) (H := [.obj [vi room, .row 1 ml.length 0 ml.length false], tr NI true ml]) (s := NI) (b := b) (nil := nil) (capd := capd) (t := 22) (el := 3) (i := ix) Try.underlying22 (by kernel_rfl) (by kernel_rfl) (by omega) hx31) (And.intro (ob_call (P := pg) (A := an) (H := [.obj [vi room, .row 1 ml.length 0 ml.length false], tr NI true ml]) (g := 11) (vals := [.y (.one (.ptr 0 0)), xi x31]) (xs0 := [.one (.ptr 0 0), .one (vi x31)]) (res := [.one (vi 2)]) (ats := #[]) (ty := 0) (v := xi 2) (H' := [.obj [vi room, .row 1 ml.length 0 ml.length false], tr NI true ml]) [.tmp 0, .tmp 1] (by kernel_rfl) (by kernel_rfl) hcall38 (by kernel_rfl)) trivial)) (by kernel_rfl)) (by kernel_rfl) ?_
              refine Wp.seq ?_
              refine Wp.regionSeq [(4, xb false, [.obj [vi room, .row 1 ml.length 0 ml.length false], tr NI true ml])] [(0, xi room), (1, .y (.one (sv NI b nil capd l))), (5, .y (.one (.ptr 0 0))), (9, xi n), (10, xi ix), (11, xi 2), (60, xb false)] [.obj [vi room, .row 1 ml.length 0 ml.length false], tr NI true ml]
                (cast (And.intro (ob_raw (P := pg) (A := an) (vals := [xi ix, xi room]) (H := [.obj [vi room, .row 1 ml.length 0 ml.length false], tr NI true ml]) (op := .binOp .lss 3 (.tmp 0) (.tmp 1) 3) (ty := 0) (r := xb (decide ((ix : Int) < room))) (v := xb false) (by kernel_rfl) (congrArg (fun z => xb z) (decide_eq_false (by omega)))) trivial) (by kernel_rfl)) (by kernel_rfl) ?_
              refine Wp.condF (by kernel_rfl) ?_
              refine Wp.skip ?_
              refine Wp.regionSeq [] [(0, xi room), (1, .y (.one (sv NI b nil capd l))), (5, .y (.one (.ptr 0 0))), (9, xi n), (10, xi ix), (62, xb false)] [.obj [vi room, .row 1 ml.length 0 ml.length false], tr NI true ml]
                (cast trivial (by kernel_rfl)) (by kernel_rfl) ?_
              refine Wp.condF (by kernel_rfl) ?_
              refine Wp.skip ?_
              refine Wp.region [(1, xi (ix + 1), [.obj [vi room, .row 1 ml.length 0 ml.length false], tr NI true ml])] [(0, xi room), (1, .y (.one (sv NI b nil capd l))), (5, .y (.one (.ptr 0 0))), (9, xi n), (10, xi (ix + 1))] [.obj [vi room, .row 1 ml.length 0 ml.length false], tr NI true ml]
                (cast (And.intro (ob_raw (P := pg) (A := an) (vals := [xi ix, xi 1]) (H := [.obj [vi room, .row 1 ml.length 0 ml.length false], tr NI true ml]) (op := .binOp .add 3 (.tmp 0) (.tmp 1) 3) (ty := 0) (r := xi (IntKind.wrap .i64 (ix + 1))) (v := xi (ix + 1)) (by kernel_rfl) (congrArg (fun z => xi z) ((wrap64 (by omega)).trans (by omega)))) trivial) (by kernel_rfl)) (by kernel_rfl) ?_
              exact ⟨((ix + 1), n, ml), by kernel_rfl, (by exact ⟨by omega, by omega, by omega, by omega, by omega, by omega, h7, h8⟩), (by show (_ : Nat) < _; simp only []; omega)⟩
            ·
              have hcall43 : Runs pg an 11 [.one (.ptr 0 0), .one (vi x31)] [.obj [vi room, .row 1 ml.length 0 ml.length false], tr NI true ml] [.one (vi 0)] [.obj [vi room, .row 1 (ml ++ [x31]).length 0 ((ml ++ [x31]).length) false], tr NI true (ml ++ [x31])] := by
                refine runs_of ?_
                refine Runs.of (fn := Try.f11) Try.func11 rfl (by kernel_rfl) [(0, .y (.one (.ptr 0 0))), (1, xi x31)] (by kernel_rfl) ?_
                refine Wp.regionSeq [] [(0, .y (.one (.ptr 0 0))), (1, xi x31)] [.obj [vi room, .row 1 ml.length 0 ml.length false], tr NI true ml]
                  (cast trivial (by kernel_rfl)) (by kernel_rfl) ?_
                have hcall44 : Runs pg an 19 [.one (.ptr 0 0), .one (.sl false false true [vi x31] 1)] [.obj [vi room, .row 1 ml.length 0 ml.length false], tr NI true ml] [.one (vi 0)] [.obj [vi room, .row 1 (ml ++ [x31]).length 0 ((ml ++ [x31]).length) false], tr NI true (ml ++ [x31])] := by
                  refine runs_of ?_
                  refine Runs.of (fn := Try.f19) Try.func19 rfl (by kernel_rfl) [(0, .y (.one (.ptr 0 0))), (1, .y (.one (.sl false false true [vi x31] 1)))] (by kernel_rfl) ?_
                  refine Wp.regionSeq [] [(0, .y (.one (.ptr 0 0))), (1, .y (.one (.sl false false true [vi x31] 1)))] [.obj [vi room, .row 1 ml.length 0 ml.length false], tr NI true ml]
                    (cast trivial (by kernel_rfl)) (by kernel_rfl) ?_
                  refine Wp.seq ?_
                  have hcall45 : Runs pg an 27 [.one (.ptr 0 0)] [.obj [vi room, .row 1 ml.length 0 ml.length false], tr NI true ml] [.one (vb true)] [.obj [vi room, .row 1 ml.length 0 ml.length false], tr NI true ml] := by
                    refine runs_of ?_
                    refine Runs.of (fn := Try.f27) Try.func27 rfl (by kernel_rfl) [(0, .y (.one (.ptr 0 0)))] (by kernel_rfl) ?_
                    refine Wp.regionSeq [] [(0, .y (.one (.ptr 0 0)))] [.obj [vi room, .row 1 ml.length 0 ml.length false], tr NI true ml]
                      (cast trivial (by kernel_rfl)) (by kernel_rfl) ?_
                    refine Wp.regionSeq [(7, xb true, [.obj [vi room, .row 1 ml.length 0 ml.length false], tr NI true ml])] [(2, xb true)] [.obj [vi room, .row 1 ml.length 0 ml.length false], tr NI true ml]
                      (cast (And.intro (ob_raw (P := pg) (A := an) (vals := [xi room, xi 0]) (H := [.obj [vi room, .row 1 ml.length 0 ml.length false], tr NI true ml]) (op := .binOp .gtr 3 (.tmp 0) (.tmp 1) 3) (ty := 0) (r := xb (decide ((room : Int) > 0))) (v := xb true) (by kernel_rfl) (congrArg (fun z => xb z) (decide_eq_true (by omega)))) trivial) (by kernel_rfl)) (by kernel_rfl) ?_
                    refine Wp.ret ?_
                    exact ⟨Or.inr rfl, [.one (vb true)], by kernel_rfl, ⟨rfl, rfl⟩⟩
                  refine Wp.regionSeq [(1, xb true, [.obj [vi room, .row 1 ml.length 0 ml.length false], tr NI true ml])] [(0, .y (.one (.ptr 0 0))), (1, .y (.one (.sl false false true [vi x31] 1))), (7, xb false)] [.obj [vi room, .row 1 ml.length 0 ml.length false], tr NI true ml]
                    (cast (And.intro (ob_call (P := pg) (A := an) (H := [.obj [vi room, .row 1 ml.length 0 ml.length false], tr NI true ml]) (g := 27) (vals := [.y (.one (.ptr 0 0))]) (xs0 := [.one (.ptr 0 0)]) (res := [.one (vb true)]) (ats := #[]) (ty := 0) (v := xb true) (H' := [.obj [vi room, .row 1 ml.length 0 ml.length false], tr NI true ml]) [.tmp 0] (by kernel_rfl) (by kernel_rfl) hcall45 (by kernel_rfl)) trivial) (by kernel_rfl)) (by kernel_rfl) ?_
                  refine Wp.condF (by kernel_rfl) ?_
                  refine Wp.skip ?_
                  refine Wp.seq ?_
                  have hcall46 : Runs pg an 14 [.one (.ptr 0 0)] [.obj [vi room, .row 1 ml.length 0 ml.length false], tr NI true ml] [.one (vi (room - n))] [.obj [vi room, .row 1 ml.length 0 ml.length false], tr NI true ml] := by
                    refine runs_of ?_
                    refine Runs.of (fn := Try.f14) Try.func14 rfl (by kernel_rfl) [(0, .y (.one (.ptr 0 0)))] (by kernel_rfl) ?_
                    refine Wp.regionSeq [] [(0, .y (.one (.ptr 0 0)))] [.obj [vi room, .row 1 ml.length 0 ml.length false], tr NI true ml]
                      (cast trivial (by kernel_rfl)) (by kernel_rfl) ?_
                    refine Wp.seq ?_
                    have hcall47 : Runs pg an 27 [.one (.ptr 0 0)] [.obj [vi room, .row 1 ml.length 0 ml.length false], tr NI true ml] [.one (vb true)] [.obj [vi room, .row 1 ml.length 0 ml.length false], tr NI true ml] := by
                      refine runs_of ?_
                      refine Runs.of (fn := Try.f27) Try.func27 rfl (by kernel_rfl) [(0, .y (.one (.ptr 0 0)))] (by kernel_rfl) ?_
                      refine Wp.regionSeq [] [(0, .y (.one (.ptr 0 0)))] [.obj [vi room, .row 1 ml.length 0 ml.length false], tr NI true ml]
                        (cast trivial (by kernel_rfl)) (by kernel_rfl) ?_
                      refine Wp.regionSeq [(7, xb true, [.obj [vi room, .row 1 ml.length 0 ml.length false], tr NI true ml])] [(2, xb true)] [.obj [vi room, .row 1 ml.length 0 ml.length false], tr NI true ml]
                        (cast (And.intro (ob_raw (P := pg) (A := an) (vals := [xi room, xi 0]) (H := [.obj [vi room, .row 1 ml.length 0 ml.length false], tr NI true ml]) (op := .binOp .gtr 3 (.tmp 0) (.tmp 1) 3) (ty := 0) (r := xb (decide ((room : Int) > 0))) (v := xb true) (by kernel_rfl) (congrArg (fun z => xb z) (decide_eq_true (by omega)))) trivial) (by kernel_rfl)) (by kernel_rfl) ?_
                      refine Wp.ret ?_
                      exact ⟨Or.inr rfl, [.one (vb true)], by kernel_rfl, ⟨rfl, rfl⟩⟩
                    refine Wp.regionSeq [(1, xb true, [.obj [vi room, .row 1 ml.length 0 ml.length false], tr NI true ml])] [(0, .y (.one (.ptr 0 0))), (5, xb false)] [.obj [vi room, .row 1 ml.length 0 ml.length false], tr NI true ml]
                      (cast (And.intro (ob_call (P := pg) (A := an) (H := [.obj [vi room, .row 1 ml.length 0 ml.length false], tr NI true ml]) (g := 27) (vals := [.y (.one (.ptr 0 0))]) (xs0 := [.one (.ptr 0 0)]) (res := [.one (vb true)]) (ats := #[]) (ty := 0) (v := xb true) (H' := [.obj [vi room, .row 1 ml.length 0 ml.length false], tr NI true ml]) [.tmp 0] (by kernel_rfl) (by kernel_rfl) hcall47 (by kernel_rfl)) trivial) (by kernel_rfl)) (by kernel_rfl) ?_
                    refine Wp.condF (by kernel_rfl) ?_
                    refine Wp.skip ?_
                    refine Wp.regionSeq [(8, xi n, [.obj [vi room, .row 1 ml.length 0 ml.length false], tr NI true ml]), (9, xi (room - n), [.obj [vi room, .row 1 ml.length 0 ml.length false], tr NI true ml])] [(2, xi (room - n))] [.obj [vi room, .row 1 ml.length 0 ml.length false], tr NI true ml]
                      (cast (And.intro (ob_len_row (P := pg) (A := an) (H := [.obj [vi room, .row 1 ml.length 0 ml.length false], tr NI true ml]) (s := NI) (t := 22) (ty := 0) (pu := true) (capd := false) (id := 1) (off := 0) (n := ml.length) (l := ml) (e := n) (by kernel_rfl) (by kernel_rfl) (by first | omega | (simp; done) | (simp; omega))) (And.intro (ob_raw (P := pg) (A := an) (vals := [xi room, xi n]) (H := [.obj [vi room, .row 1 ml.length 0 ml.length false], tr NI true ml]) (op := .binOp .sub 3 (.tmp 0) (.tmp 1) 3) (ty := 0) (r := xi (IntKind.wrap .i64 (room - n))) (v := xi (room - n)) (by kernel_rfl) (congrArg (fun z => xi z) ((wrap64 (by omega)).trans (by omega)))) trivial)) (by kernel_rfl)) (by kernel_rfl) ?_
                    refine Wp.ret ?_
                    exact ⟨Or.inr rfl, [.one (vi (room - n))], by kernel_rfl, ⟨rfl, rfl⟩⟩
                  refine Wp.regionSeq [(3, xi (room - n), [.obj [vi room, .row 1 ml.length 0 ml.length false], tr NI true ml]), (4, xb false, [.obj [vi room, .row 1 ml.length 0 ml.length false], tr NI true ml])] [(0, .y (.one (.ptr 0 0))), (1, .y (.one (.sl false false true [vi x31] 1))), (12, xb false)] [.obj [vi room, .row 1 ml.length 0 ml.length false], tr NI true ml]
                    (cast (And.intro (ob_call (P := pg) (A := an) (H := [.obj [vi room, .row 1 ml.length 0 ml.length false], tr NI true ml]) (g := 14) (vals := [.y (.one (.ptr 0 0))]) (xs0 := [.one (.ptr 0 0)]) (res := [.one (vi (room - n))]) (ats := #[]) (ty := 0) (v := xi (room - n)) (H' := [.obj [vi room, .row 1 ml.length 0 ml.length false], tr NI true ml]) [.tmp 0] (by kernel_rfl) (by kernel_rfl) hcall46 (by kernel_rfl)) (And.intro (ob_raw (P := pg) (A := an) (vals := [xi 1, xi (room - n)]) (H := [.obj [vi room, .row 1 ml.length 0 ml.length false], tr NI true ml]) (op := .binOp .gtr 3 (.tmp 0) (.tmp 1) 3) (ty := 0) (r := xb (decide ((1 : Int) > (room - n)))) (v := xb false) (by kernel_rfl) (congrArg (fun z => xb z) (decide_eq_false (by omega)))) trivial)) (by kernel_rfl)) (by kernel_rfl) ?_
                  refine Wp.condF (by kernel_rfl) ?_
                  refine Wp.skip ?_
                  refine Wp.regionSeq [(6, .y (.one (.row 1 (ml ++ [x31]).length 0 ((ml ++ [x31]).length) false)), [.obj [vi room, .row 1 ml.length 0 ml.length false], tr NI true (ml ++ [x31])])] [] [.obj [vi room, .row 1 (ml ++ [x31]).length 0 ((ml ++ [x31]).length) false], tr NI true (ml ++ [x31])]
                    (cast (And.intro (ob_append (P := pg) (A := an) (H := [.obj [vi room, .row 1 ml.length 0 ml.length false], tr NI true ml]) (s := NI) (t := 22) (u := 22) (el := 3) (by_ := 8) (z := [vi 0]) (ty := 0) (pu := true) (b := false) (nil := false) (capd := true) (id := 1) (l := ml) (m := [x31]) (by kernel_rfl) (by kernel_rfl) (by kernel_rfl) (by kernel_rfl) (by kernel_rfl) (by kernel_rfl) (by kernel_rfl) (by have e1 : (ml.length : Int) = n := by { first | omega | (simp; done) | (simp; omega) }; have e2 : (([x31] : List Int).length : Int) = 1 := by { first | omega | (simp; done) | (simp; omega) }; omega) (by have e1 : (ml.length : Int) = n := by { first | omega | (simp; done) | (simp; omega) }; have e2 : (([x31] : List Int).length : Int) = 1 := by { first | omega | (simp; done) | (simp; omega) }; omega)) trivial) (by kernel_rfl)) (by kernel_rfl) ?_
                  refine Wp.regionSeq [] [(4, xi 0)] [.obj [vi room, .row 1 (ml ++ [x31]).length 0 ((ml ++ [x31]).length) false], tr NI true (ml ++ [x31])]
                    (cast trivial (by kernel_rfl)) (by kernel_rfl) ?_
                  refine Wp.ret ?_
                  exact ⟨Or.inr rfl, [.one (vi 0)], by kernel_rfl, ⟨rfl, rfl⟩⟩
                refine Wp.regionSeq [(3, xi 0, [.obj [vi room, .row 1 (ml ++ [x31]).length 0 ((ml ++ [x31]).length) false], tr NI true (ml ++ [x31])])] [(4, xi 0)] [.obj [vi room, .row 1 (ml ++ [x31]).length 0 ((ml ++ [x31]).length) false], tr NI true (ml ++ [x31])]
                  (cast (And.intro (ob_call (P := pg) (A := an) (H := [.obj [vi room, .row 1 ml.length 0 ml.length false], tr NI true ml]) (g := 19) (vals := [.y (.one (.ptr 0 0)), .y (.one (.sl false false true [vi x31] 1))]) (xs0 := [.one (.ptr 0 0), .one (.sl false false true [vi x31] 1)]) (res := [.one (vi 0)]) (ats := #[]) (ty := 0) (v := xi 0) (H' := [.obj [vi room, .row 1 (ml ++ [x31]).length 0 ((ml ++ [x31]).length) false], tr NI true (ml ++ [x31])]) [.tmp 0, .tmp 1] (by kernel_rfl) (by kernel_rfl) hcall44 (by kernel_rfl)) trivial) (by kernel_rfl)) (by kernel_rfl) ?_
                refine Wp.ret ?_
                exact ⟨Or.inr rfl, [.one (vi 0)], by kernel_rfl, ⟨rfl, rfl⟩⟩
              refine Wp.regionSeq [(3, .y (.one (.rd ([vi x31] ++ (l.drop ((ix : Int).toNat + 1)).flatMap (enc NI)))), [.obj [vi room, .row 1 ml.length 0 ml.length false], tr NI true ml]), (5, xi 0, [.obj [vi room, .row 1 (ml ++ [x31]).length 0 ((ml ++ [x31]).length) false], tr NI true (ml ++ [x31])])] [(0, xi room), (1, .y (.one (sv NI b nil capd l))), (5, .y (.one (.ptr 0 0))), (9, xi n), (10, xi ix), (11, xi 0)] [.obj [vi room, .row 1 (ml ++ [x31]).length 0 ((ml ++ [x31]).length) false], tr NI true (ml ++ [x31])]
                (cast (And.intro (ob_index (P := pg) (A := an) (H := [.obj [vi room, .row 1 ml.length 0 ml.length false], tr NI true ml]) (s := NI) (b := b) (nil := nil) (capd := capd) (t := 22) (el := 3) (i := ix) Try.underlying22 (by kernel_rfl) (by kernel_rfl) (by omega) hx31) (And.intro (ob_call (P := pg) (A := an) (H := [.obj [vi room, .row 1 ml.length 0 ml.length false], tr NI true ml]) (g := 11) (vals := [.y (.one (.ptr 0 0)), xi x31]) (xs0 := [.one (.ptr 0 0), .one (vi x31)]) (res := [.one (vi 0)]) (ats := #[]) (ty := 0) (v := xi 0) (H' := [.obj [vi room, .row 1 (ml ++ [x31]).length 0 ((ml ++ [x31]).length) false], tr NI true (ml ++ [x31])]) [.tmp 0, .tmp 1] (by kernel_rfl) (by kernel_rfl) hcall43 (by kernel_rfl)) trivial)) (by kernel_rfl)) (by kernel_rfl) ?_
              refine Wp.seq ?_
              refine Wp.regionSeq [(4, xb true, [.obj [vi room, .row 1 (ml ++ [x31]).length 0 ((ml ++ [x31]).length) false], tr NI true (ml ++ [x31])])] [(0, xi room), (1, .y (.one (sv NI b nil capd l))), (5, .y (.one (.ptr 0 0))), (9, xi n), (10, xi ix), (11, xi 0), (60, xb false)] [.obj [vi room, .row 1 (ml ++ [x31]).length 0 ((ml ++ [x31]).length) false], tr NI true (ml ++ [x31])]
                (cast (And.intro (ob_raw (P := pg) (A := an) (vals := [xi ix, xi room]) (H := [.obj [vi room, .row 1 (ml ++ [x31]).length 0 ((ml ++ [x31]).length) false], tr NI true (ml ++ [x31])]) (op := .binOp .lss 3 (.tmp 0) (.tmp 1) 3) (ty := 0) (r := xb (decide ((ix : Int) < room))) (v := xb true) (by kernel_rfl) (congrArg (fun z => xb z) (decide_eq_true (by omega)))) trivial) (by kernel_rfl)) (by kernel_rfl) ?_
              refine Wp.condF (by kernel_rfl) ?_
              refine Wp.skip ?_
              refine Wp.regionSeq [] [(0, xi room), (1, .y (.one (sv NI b nil capd l))), (5, .y (.one (.ptr 0 0))), (9, xi n), (10, xi ix), (62, xb true)] [.obj [vi room, .row 1 (ml ++ [x31]).length 0 ((ml ++ [x31]).length) false], tr NI true (ml ++ [x31])]
                (cast trivial (by kernel_rfl)) (by kernel_rfl) ?_
              refine Wp.condT (by kernel_rfl) ?_
              refine Wp.region [(1, xi (n + 1), [.obj [vi room, .row 1 (ml ++ [x31]).length 0 ((ml ++ [x31]).length) false], tr NI true (ml ++ [x31])])] [(0, xi room), (1, .y (.one (sv NI b nil capd l))), (5, .y (.one (.ptr 0 0))), (9, xi (n + 1)), (10, xi ix)] [.obj [vi room, .row 1 (ml ++ [x31]).length 0 ((ml ++ [x31]).length) false], tr NI true (ml ++ [x31])]
                (cast (And.intro (ob_raw (P := pg) (A := an) (vals := [xi n, xi 1]) (H := [.obj [vi room, .row 1 (ml ++ [x31]).length 0 ((ml ++ [x31]).length) false], tr NI true (ml ++ [x31])]) (op := .binOp .add 3 (.tmp 0) (.tmp 1) 3) (ty := 0) (r := xi (IntKind.wrap .i64 (n + 1))) (v := xi (n + 1)) (by kernel_rfl) (congrArg (fun z => xi z) ((wrap64 (by omega)).trans (by omega)))) trivial) (by kernel_rfl)) (by kernel_rfl) ?_
              refine Wp.region [(1, xi (ix + 1), [.obj [vi room, .row 1 (ml ++ [x31]).length 0 ((ml ++ [x31]).length) false], tr NI true (ml ++ [x31])])] [(0, xi room), (1, .y (.one (sv NI b nil capd l))), (5, .y (.one (.ptr 0 0))), (9, xi (n + 1)), (10, xi (ix + 1))] [.obj [vi room, .row 1 (ml ++ [x31]).length 0 ((ml ++ [x31]).length) false], tr NI true (ml ++ [x31])]
                (cast (And.intro (ob_raw (P := pg) (A := an) (vals := [xi ix, xi 1]) (H := [.obj [vi room, .row 1 (ml ++ [x31]).length 0 ((ml ++ [x31]).length) false], tr NI true (ml ++ [x31])]) (op := .binOp .add 3 (.tmp 0) (.tmp 1) 3) (ty := 0) (r := xi (IntKind.wrap .i64 (ix + 1))) (v := xi (ix + 1)) (by kernel_rfl) (congrArg (fun z => xi z) ((wrap64 (by omega)).trans (by omega)))) trivial) (by kernel_rfl)) (by kernel_rfl) ?_
              exact ⟨((ix + 1), (n + 1), (ml ++ [x31])), by kernel_rfl, (by exact ⟨by omega, by omega, by omega, by omega, by omega, by omega, by simp; omega, by rw [h8, h6]; exact (take_snoc (by omega) hx31).symm⟩), (by show (_ : Nat) < _; simp only []; omega)⟩
          ·
            refine Wp.regionSeq [(3, xb false, [.obj [vi room, .row 1 ml.length 0 ml.length false], tr NI true ml])] [(0, xi room), (1, .y (.one (sv NI b nil capd l))), (5, .y (.one (.ptr 0 0))), (9, xi n), (10, xi ix), (38, xb false)] [.obj [vi room, .row 1 ml.length 0 ml.length false], tr NI true ml]
              (cast (And.intro (ob_raw (P := pg) (A := an) (vals := [xi ix, xi (l.length : Int)]) (H := [.obj [vi room, .row 1 ml.length 0 ml.length false], tr NI true ml]) (op := .binOp .lss 3 (.tmp 0) (.tmp 1) 3) (ty := 0) (r := xb (decide ((ix : Int) < (l.length : Int)))) (v := xb false) (by kernel_rfl) (congrArg (fun z => xb z) (decide_eq_false (by omega)))) trivial) (by kernel_rfl)) (by kernel_rfl) ?_
            refine Wp.condF (by kernel_rfl) ?_
            refine Wp.exit ?_
            refine Eq.mpr (if_pos rfl) ?_
            refine Wp.seq ?_
            refine Wp.regionSeq [] [(0, xi room), (1, .y (.one (sv NI b nil capd l))), (5, .y (.one (.ptr 0 0))), (9, xi n), (12, xi 0)] [.obj [vi room, .row 1 ml.length 0 ml.length false], tr NI true ml]
              (cast trivial (by kernel_rfl)) (by kernel_rfl) ?_
            refine Wp.block ?_
            refine Wp.loop (T := Int × Nat × Nat) (fun (t : Int × Nat × Nat) => match t with | (ji, o, q) => ((n - ji).toNat : Nat)) (fun (t : Int × Nat × Nat) => match t with | (ji, o, q) => ([(0, xi room), (1, .y (.one (sv NI b nil capd l))), (5, .y (.one (.ptr 0 0))), (9, xi n), (12, xi ji)] : Env)) (fun (t : Int × Nat × Nat) => match t with | (ji, o, q) => ([.obj [vi room, .row 1 ml.length o q false], tr NI true ml] : Go.Lg.Heap))
              (fun (t : Int × Nat × Nat) => match t with | (ji, o, q) => (0 ≤ ji ∧ ji ≤ n ∧ (o : Int) = ji ∧ (q : Int) = n - ji : Prop)) (0, 0, ml.length) (by kernel_rfl) (by refine ⟨?_, ?_, ?_, ?_⟩ <;> omega) ?_
            rintro ⟨ji, o, q⟩ ⟨k1, k2, k3, k4⟩
            show Wp _ _ _ _ [(0, xi room), (1, .y (.one (sv NI b nil capd l))), (5, .y (.one (.ptr 0 0))), (9, xi n), (12, xi ji)] [.obj [vi room, .row 1 ml.length o q false], tr NI true ml] _
            refine Wp.seq ?_
            by_cases c48 : (ji : Int) < n
            ·
              refine Wp.regionSeq [(2, xb true, [.obj [vi room, .row 1 ml.length o q false], tr NI true ml])] [(0, xi room), (1, .y (.one (sv NI b nil capd l))), (5, .y (.one (.ptr 0 0))), (9, xi n), (12, xi ji), (67, xb true)] [.obj [vi room, .row 1 ml.length o q false], tr NI true ml]
                (cast (And.intro (ob_raw (P := pg) (A := an) (vals := [xi ji, xi n]) (H := [.obj [vi room, .row 1 ml.length o q false], tr NI true ml]) (op := .binOp .lss 3 (.tmp 0) (.tmp 1) 3) (ty := 0) (r := xb (decide ((ji : Int) < n))) (v := xb true) (by kernel_rfl) (congrArg (fun z => xb z) (decide_eq_true (by omega)))) trivial) (by kernel_rfl)) (by kernel_rfl) ?_
              refine Wp.condT (by kernel_rfl) ?_
              refine Wp.skip ?_
              refine Wp.seq ?_
              refine Wp.block ?_
              obtain ⟨x53, hx53⟩ : ∃ x, ml[(o + (0 : Int).toNat)]? = some x := get_of (by first | omega | (simp; done) | (simp; omega))
              obtain ⟨x58, hx58⟩ : ∃ x, l[(ji : Int).toNat]? = some x := get_of (by omega)
              have htgx53 : x53 = x58 := take_get (i := ji) h8 hx53 hx58 (by omega) (by omega)
              have hcall63 : Runs pg an 12 [.one (.ptr 0 0)] [.obj [vi room, .row 1 ml.length o q false], tr NI true ml] [.one (vi x53), .one (vi 0)] [.obj [vi room, .row 1 ml.length ((o + (1 : Int).toNat)) ((((q : Nat) : Int) - 1).toNat) false], tr NI true ml] := by
                refine runs_of ?_
                refine Runs.of (fn := Try.f12) Try.func12 rfl (by kernel_rfl) [(0, .y (.one (.ptr 0 0)))] (by kernel_rfl) ?_
                refine Wp.regionSeq [] [(0, .y (.one (.ptr 0 0)))] [.obj [vi room, .row 1 ml.length o q false], tr NI true ml]
                  (cast trivial (by kernel_rfl)) (by kernel_rfl) ?_
                have hcall64 : Runs pg an 26 [.one (.ptr 0 0), .one (vi 0)] [.obj [vi room, .row 1 ml.length o q false], tr NI true ml] [.one (vi x53), .one (vi 0)] [.obj [vi room, .row 1 ml.length ((o + (1 : Int).toNat)) ((((q : Nat) : Int) - 1).toNat) false], tr NI true ml] := by
                  refine runs_of ?_
                  refine Runs.of (fn := Try.f26) Try.func26 rfl (by kernel_rfl) [(0, .y (.one (.ptr 0 0))), (1, xi 0)] (by kernel_rfl) ?_
                  refine Wp.regionSeq [] [(0, .y (.one (.ptr 0 0))), (1, xi 0)] [.obj [vi room, .row 1 ml.length o q false], tr NI true ml]
                    (cast trivial (by kernel_rfl)) (by kernel_rfl) ?_
                  refine Wp.seq ?_
                  have hcall65 : Runs pg an 25 [.one (.ptr 0 0), .one (vi 0)] [.obj [vi room, .row 1 ml.length o q false], tr NI true ml] [.one (vi x53), .one (vi 0)] [.obj [vi room, .row 1 ml.length o q false], tr NI true ml] := by
                    refine runs_of ?_
                    refine Runs.of (fn := Try.f25) Try.func25 rfl (by kernel_rfl) [(0, .y (.one (.ptr 0 0))), (1, xi 0)] (by kernel_rfl) ?_
                    refine Wp.regionSeq [] [(0, .y (.one (.ptr 0 0))), (1, xi 0), (4, xi 0)] [.obj [vi room, .row 1 ml.length o q false], tr NI true ml]
                      (cast trivial (by kernel_rfl)) (by kernel_rfl) ?_
                    refine Wp.seq ?_
                    have hcall66 : Runs pg an 27 [.one (.ptr 0 0)] [.obj [vi room, .row 1 ml.length o q false], tr NI true ml] [.one (vb true)] [.obj [vi room, .row 1 ml.length o q false], tr NI true ml] := by
                      refine runs_of ?_
                      refine Runs.of (fn := Try.f27) Try.func27 rfl (by kernel_rfl) [(0, .y (.one (.ptr 0 0)))] (by kernel_rfl) ?_
                      refine Wp.regionSeq [] [(0, .y (.one (.ptr 0 0)))] [.obj [vi room, .row 1 ml.length o q false], tr NI true ml]
                        (cast trivial (by kernel_rfl)) (by kernel_rfl) ?_
                      refine Wp.regionSeq [(7, xb true, [.obj [vi room, .row 1 ml.length o q false], tr NI true ml])] [(2, xb true)] [.obj [vi room, .row 1 ml.length o q false], tr NI true ml]
                        (cast (And.intro (ob_raw (P := pg) (A := an) (vals := [xi room, xi 0]) (H := [.obj [vi room, .row 1 ml.length o q false], tr NI true ml]) (op := .binOp .gtr 3 (.tmp 0) (.tmp 1) 3) (ty := 0) (r := xb (decide ((room : Int) > 0))) (v := xb true) (by kernel_rfl) (congrArg (fun z => xb z) (decide_eq_true (by omega)))) trivial) (by kernel_rfl)) (by kernel_rfl) ?_
                      refine Wp.ret ?_
                      exact ⟨Or.inr rfl, [.one (vb true)], by kernel_rfl, ⟨rfl, rfl⟩⟩
                    refine Wp.regionSeq [(1, xb true, [.obj [vi room, .row 1 ml.length o q false], tr NI true ml])] [(0, .y (.one (.ptr 0 0))), (1, xi 0), (4, xi 0), (8, xb false)] [.obj [vi room, .row 1 ml.length o q false], tr NI true ml]
                      (cast (And.intro (ob_call (P := pg) (A := an) (H := [.obj [vi room, .row 1 ml.length o q false], tr NI true ml]) (g := 27) (vals := [.y (.one (.ptr 0 0))]) (xs0 := [.one (.ptr 0 0)]) (res := [.one (vb true)]) (ats := #[]) (ty := 0) (v := xb true) (H' := [.obj [vi room, .row 1 ml.length o q false], tr NI true ml]) [.tmp 0] (by kernel_rfl) (by kernel_rfl) hcall66 (by kernel_rfl)) trivial) (by kernel_rfl)) (by kernel_rfl) ?_
                    refine Wp.condF (by kernel_rfl) ?_
                    refine Wp.skip ?_
                    refine Wp.seq ?_
                    refine Wp.regionSeq [(8, xi (q : Int), [.obj [vi room, .row 1 ml.length o q false], tr NI true ml]), (9, xb false, [.obj [vi room, .row 1 ml.length o q false], tr NI true ml])] [(0, .y (.one (.ptr 0 0))), (1, xi 0), (4, xi 0), (20, xb false)] [.obj [vi room, .row 1 ml.length o q false], tr NI true ml]
                      (cast (And.intro (ob_len_row (P := pg) (A := an) (H := [.obj [vi room, .row 1 ml.length o q false], tr NI true ml]) (s := NI) (t := 22) (ty := 0) (pu := true) (capd := false) (id := 1) (off := o) (n := q) (l := ml) (e := (q : Int)) (by kernel_rfl) (by kernel_rfl) (by first | omega | (simp; done) | (simp; omega))) (And.intro (ob_raw (P := pg) (A := an) (vals := [xi 0, xi (q : Int)]) (H := [.obj [vi room, .row 1 ml.length o q false], tr NI true ml]) (op := .binOp .geq 3 (.tmp 0) (.tmp 1) 3) (ty := 0) (r := xb (decide ((0 : Int) ≥ (q : Int)))) (v := xb false) (by kernel_rfl) (congrArg (fun z => xb z) (decide_eq_false (by omega)))) trivial)) (by kernel_rfl)) (by kernel_rfl) ?_
                    refine Wp.condF (by kernel_rfl) ?_
                    refine Wp.skip ?_
                    refine Wp.regionSeq [(5, .y (.one (.ra 1 ml.length (((o + (0 : Int).toNat)) * 1 + 0))), [.obj [vi room, .row 1 ml.length o q false], tr NI true ml]), (6, xi x53, [.obj [vi room, .row 1 ml.length o q false], tr NI true ml])] [(4, xi x53), (5, xi 0)] [.obj [vi room, .row 1 ml.length o q false], tr NI true ml]
                      (cast (And.intro (ob_index_row (P := pg) (A := an) (H := [.obj [vi room, .row 1 ml.length o q false], tr NI true ml]) (s := NI) (t := 22) (el := 3) (ty := 0) (pu := true) (capd := false) (id := 1) (off := o) (n := q) (l := ml) (i := 0) (by kernel_rfl) Try.underlying22 (by kernel_rfl) (by omega) (by first | omega | (simp; done) | (simp; omega)) (by first | omega | (simp; done) | (simp; omega))) (And.intro (ob_load_ra (P := pg) (A := an) (H := [.obj [vi room, .row 1 ml.length o q false], tr NI true ml]) (s := NI) (t := 3) (ty := 0) (pu := true) (id := 1) (j := (o + (0 : Int).toNat)) (o := 0) (n := 1) (l := ml) (x := x53) (v := .one (vi x53)) (by kernel_rfl) (by kernel_rfl) (by kernel_rfl) hx53 (by kernel_rfl)) trivial)) (by kernel_rfl)) (by kernel_rfl) ?_
                    refine Wp.ret ?_
                    exact ⟨Or.inr rfl, [.one (vi x53), .one (vi 0)], by kernel_rfl, ⟨rfl, rfl⟩⟩
                  refine Wp.regionSeq [(2, .tup [.one (vi x53), .one (vi 0)], [.obj [vi room, .row 1 ml.length o q false], tr NI true ml])] [(0, .y (.one (.ptr 0 0))), (1, xi 0), (4, xi x53), (5, xi 0)] [.obj [vi room, .row 1 ml.length o q false], tr NI true ml]
                    (cast (And.intro (ob_call (P := pg) (A := an) (H := [.obj [vi room, .row 1 ml.length o q false], tr NI true ml]) (g := 25) (vals := [.y (.one (.ptr 0 0)), xi 0]) (xs0 := [.one (.ptr 0 0), .one (vi 0)]) (res := [.one (vi x53), .one (vi 0)]) (ats := #[]) (ty := 0) (v := .tup [.one (vi x53), .one (vi 0)]) (H' := [.obj [vi room, .row 1 ml.length o q false], tr NI true ml]) [.tmp 0, .tmp 1] (by kernel_rfl) (by kernel_rfl) hcall65 (by kernel_rfl)) trivial) (by kernel_rfl)) (by kernel_rfl) ?_
                  refine Wp.regionSeq [] [(0, .y (.one (.ptr 0 0))), (1, xi 0), (4, xi x53), (5, xi 0), (13, xb false)] [.obj [vi room, .row 1 ml.length o q false], tr NI true ml]
                    (cast trivial (by kernel_rfl)) (by kernel_rfl) ?_
                  refine Wp.condF (by kernel_rfl) ?_
                  refine Wp.skip ?_
                  have hcall67 : Runs pg an 35 [.one (.row 1 ml.length o q false), .one (vi 0)] [.obj [vi room, .row 1 ml.length o q false], tr NI true ml] [.one (.row 1 ml.length ((o + (1 : Int).toNat)) ((((q : Nat) : Int) - 1).toNat) false)] [.obj [vi room, .row 1 ml.length o q false], tr NI true ml] := by
                    refine runs_of ?_
                    refine Runs.of (fn := Try.f35) Try.func35 rfl (by kernel_rfl) [(0, .y (.one (.row 1 ml.length o q false))), (1, xi 0)] (by kernel_rfl) ?_
                    refine Wp.regionSeq [] [(0, .y (.one (.row 1 ml.length o q false))), (1, xi 0)] [.obj [vi room, .row 1 ml.length o q false], tr NI true ml]
                      (cast trivial (by kernel_rfl)) (by kernel_rfl) ?_
                    refine Wp.seq ?_
                    refine Wp.regionSeq [] [(0, .y (.one (.row 1 ml.length o q false))), (1, xi 0), (6, xb true)] [.obj [vi room, .row 1 ml.length o q false], tr NI true ml]
                      (cast trivial (by kernel_rfl)) (by kernel_rfl) ?_
                    refine Wp.condT (by kernel_rfl) ?_
                    refine Wp.regionSeq [(1, .y (.one (.row 1 ml.length ((o + (1 : Int).toNat)) ((((q : Nat) : Int) - 1).toNat) false)), [.obj [vi room, .row 1 ml.length o q false], tr NI true ml])] [(4, .y (.one (.row 1 ml.length ((o + (1 : Int).toNat)) ((((q : Nat) : Int) - 1).toNat) false)))] [.obj [vi room, .row 1 ml.length o q false], tr NI true ml]
                      (cast (And.intro (ob_slice_rowl (P := pg) (A := an) (H := [.obj [vi room, .row 1 ml.length o q false], tr NI true ml]) (s := NI) (t := 22) (el := 3) (ty := 0) (pu := true) (capd := false) (id := 1) (off := o) (n := q) (l := ml) (a := 1) (n' := (((q : Nat) : Int) - 1).toNat) (by kernel_rfl) (by kernel_rfl) (by kernel_rfl) (by omega) (by first | omega | (simp; done) | (simp; omega)) (by first | omega | (simp; done) | (simp; omega)) rfl) trivial) (by kernel_rfl)) (by kernel_rfl) ?_
                    refine Wp.ret ?_
                    exact ⟨Or.inr rfl, [.one (.row 1 ml.length ((o + (1 : Int).toNat)) ((((q : Nat) : Int) - 1).toNat) false)], by kernel_rfl, ⟨rfl, rfl⟩⟩
                  refine Wp.regionSeq [(6, .y (.one (.row 1 ml.length ((o + (1 : Int).toNat)) ((((q : Nat) : Int) - 1).toNat) false)), [.obj [vi room, .row 1 ml.length o q false], tr NI true ml])] [(4, xi x53)] [.obj [vi room, .row 1 ml.length ((o + (1 : Int).toNat)) ((((q : Nat) : Int) - 1).toNat) false], tr NI true ml]
                    (cast (And.intro (ob_call (P := pg) (A := an) (H := [.obj [vi room, .row 1 ml.length o q false], tr NI true ml]) (g := 35) (vals := [.y (.one (.row 1 ml.length o q false)), xi 0]) (xs0 := [.one (.row 1 ml.length o q false), .one (vi 0)]) (res := [.one (.row 1 ml.length ((o + (1 : Int).toNat)) ((((q : Nat) : Int) - 1).toNat) false)]) (ats := #[]) (ty := 0) (v := .y (.one (.row 1 ml.length ((o + (1 : Int).toNat)) ((((q : Nat) : Int) - 1).toNat) false))) (H' := [.obj [vi room, .row 1 ml.length o q false], tr NI true ml]) [.tmp 0, .tmp 1] (by kernel_rfl) (by kernel_rfl) hcall67 (by kernel_rfl)) trivial) (by kernel_rfl)) (by kernel_rfl) ?_
                  refine Wp.regionSeq [] [(4, xi x53), (5, xi 0)] [.obj [vi room, .row 1 ml.length ((o + (1 : Int).toNat)) ((((q : Nat) : Int) - 1).toNat) false], tr NI true ml]
                    (cast trivial (by kernel_rfl)) (by kernel_rfl) ?_
                  refine Wp.ret ?_
                  exact ⟨Or.inr rfl, [.one (vi x53), .one (vi 0)], by kernel_rfl, ⟨rfl, rfl⟩⟩
                refine Wp.regionSeq [(1, .tup [.one (vi x53), .one (vi 0)], [.obj [vi room, .row 1 ml.length ((o + (1 : Int).toNat)) ((((q : Nat) : Int) - 1).toNat) false], tr NI true ml])] [(2, xi x53), (3, xi 0)] [.obj [vi room, .row 1 ml.length ((o + (1 : Int).toNat)) ((((q : Nat) : Int) - 1).toNat) false], tr NI true ml]
                  (cast (And.intro (ob_call (P := pg) (A := an) (H := [.obj [vi room, .row 1 ml.length o q false], tr NI true ml]) (g := 26) (vals := [.y (.one (.ptr 0 0)), xi 0]) (xs0 := [.one (.ptr 0 0), .one (vi 0)]) (res := [.one (vi x53), .one (vi 0)]) (ats := #[]) (ty := 0) (v := .tup [.one (vi x53), .one (vi 0)]) (H' := [.obj [vi room, .row 1 ml.length ((o + (1 : Int).toNat)) ((((q : Nat) : Int) - 1).toNat) false], tr NI true ml]) [.tmp 0, .tmp 1] (by kernel_rfl) (by kernel_rfl) hcall64 (by kernel_rfl)) trivial) (by kernel_rfl)) (by kernel_rfl) ?_
                refine Wp.ret ?_
                exact ⟨Or.inr rfl, [.one (vi x53), .one (vi 0)], by kernel_rfl, ⟨rfl, rfl⟩⟩
              refine Wp.regionSeq [(1, .tup [.one (vi x53), .one (vi 0)], [.obj [vi room, .row 1 ml.length ((o + (1 : Int).toNat)) ((((q : Nat) : Int) - 1).toNat) false], tr NI true ml])] [(0, xi room), (1, .y (.one (sv NI b nil capd l))), (5, .y (.one (.ptr 0 0))), (9, xi n), (12, xi ji), (13, xi x53), (14, xi 0)] [.obj [vi room, .row 1 ml.length ((o + (1 : Int).toNat)) ((((q : Nat) : Int) - 1).toNat) false], tr NI true ml]
                (cast (And.intro (ob_call (P := pg) (A := an) (H := [.obj [vi room, .row 1 ml.length o q false], tr NI true ml]) (g := 12) (vals := [.y (.one (.ptr 0 0))]) (xs0 := [.one (.ptr 0 0)]) (res := [.one (vi x53), .one (vi 0)]) (ats := #[]) (ty := 0) (v := .tup [.one (vi x53), .one (vi 0)]) (H' := [.obj [vi room, .row 1 ml.length ((o + (1 : Int).toNat)) ((((q : Nat) : Int) - 1).toNat) false], tr NI true ml]) [.tmp 0] (by kernel_rfl) (by kernel_rfl) hcall63 (by kernel_rfl)) trivial) (by kernel_rfl)) (by kernel_rfl) ?_
              refine Wp.regionSeq [(6, .y (.one (.rd ([vi x58] ++ (l.drop ((ji : Int).toNat + 1)).flatMap (enc NI)))), [.obj [vi room, .row 1 ml.length ((o + (1 : Int).toNat)) ((((q : Nat) : Int) - 1).toNat) false], tr NI true ml]), (8, xb false, [.obj [vi room, .row 1 ml.length ((o + (1 : Int).toNat)) ((((q : Nat) : Int) - 1).toNat) false], tr NI true ml])] [(0, xi room), (1, .y (.one (sv NI b nil capd l))), (5, .y (.one (.ptr 0 0))), (9, xi n), (12, xi ji), (84, xb false)] [.obj [vi room, .row 1 ml.length ((o + (1 : Int).toNat)) ((((q : Nat) : Int) - 1).toNat) false], tr NI true ml]
                (cast (And.intro (ob_index (P := pg) (A := an) (H := [.obj [vi room, .row 1 ml.length ((o + (1 : Int).toNat)) ((((q : Nat) : Int) - 1).toNat) false], tr NI true ml]) (s := NI) (b := b) (nil := nil) (capd := capd) (t := 22) (el := 3) (i := ji) Try.underlying22 (by kernel_rfl) (by kernel_rfl) (by omega) hx58) (And.intro (ob_raw (P := pg) (A := an) (vals := [xi x53, xi x58]) (H := [.obj [vi room, .row 1 ml.length ((o + (1 : Int).toNat)) ((((q : Nat) : Int) - 1).toNat) false], tr NI true ml]) (op := .binOp .neq 3 (.tmp 0) (.tmp 1) 3) (ty := 0) (r := xb ((x53 : Int) != x58)) (v := xb false) (by kernel_rfl) (congrArg (fun z => xb z) (bne_f (by omega)))) trivial)) (by kernel_rfl)) (by kernel_rfl) ?_
              refine Wp.condF (by kernel_rfl) ?_
              refine Wp.skip ?_
              refine Wp.region [(1, xi (ji + 1), [.obj [vi room, .row 1 ml.length ((o + (1 : Int).toNat)) ((((q : Nat) : Int) - 1).toNat) false], tr NI true ml])] [(0, xi room), (1, .y (.one (sv NI b nil capd l))), (5, .y (.one (.ptr 0 0))), (9, xi n), (12, xi (ji + 1))] [.obj [vi room, .row 1 ml.length ((o + (1 : Int).toNat)) ((((q : Nat) : Int) - 1).toNat) false], tr NI true ml]
                (cast (And.intro (ob_raw (P := pg) (A := an) (vals := [xi ji, xi 1]) (H := [.obj [vi room, .row 1 ml.length ((o + (1 : Int).toNat)) ((((q : Nat) : Int) - 1).toNat) false], tr NI true ml]) (op := .binOp .add 3 (.tmp 0) (.tmp 1) 3) (ty := 0) (r := xi (IntKind.wrap .i64 (ji + 1))) (v := xi (ji + 1)) (by kernel_rfl) (congrArg (fun z => xi z) ((wrap64 (by omega)).trans (by omega)))) trivial) (by kernel_rfl)) (by kernel_rfl) ?_
              exact ⟨((ji + 1), (o + (1 : Int).toNat), (((q : Nat) : Int) - 1).toNat), by kernel_rfl, (by refine ⟨?_, ?_, ?_, ?_⟩ <;> omega), (by show (_ : Nat) < _; simp only []; omega)⟩
            ·
              refine Wp.regionSeq [(2, xb false, [.obj [vi room, .row 1 ml.length o q false], tr NI true ml])] [(0, xi room), (1, .y (.one (sv NI b nil capd l))), (5, .y (.one (.ptr 0 0))), (9, xi n), (12, xi ji), (67, xb false)] [.obj [vi room, .row 1 ml.length o q false], tr NI true ml]
                (cast (And.intro (ob_raw (P := pg) (A := an) (vals := [xi ji, xi n]) (H := [.obj [vi room, .row 1 ml.length o q false], tr NI true ml]) (op := .binOp .lss 3 (.tmp 0) (.tmp 1) 3) (ty := 0) (r := xb (decide ((ji : Int) < n))) (v := xb false) (by kernel_rfl) (congrArg (fun z => xb z) (decide_eq_false (by omega)))) trivial) (by kernel_rfl)) (by kernel_rfl) ?_
              refine Wp.condF (by kernel_rfl) ?_
              refine Wp.exit ?_
              refine Eq.mpr (if_pos rfl) ?_
              have hcall68 : Runs pg an 12 [.one (.ptr 0 0)] [.obj [vi room, .row 1 ml.length o q false], tr NI true ml] [.one (vi 0), .one (vi 3)] [.obj [vi room, .row 1 ml.length o q false], tr NI true ml] := by
                refine runs_of ?_
                refine Runs.of (fn := Try.f12) Try.func12 rfl (by kernel_rfl) [(0, .y (.one (.ptr 0 0)))] (by kernel_rfl) ?_
                refine Wp.regionSeq [] [(0, .y (.one (.ptr 0 0)))] [.obj [vi room, .row 1 ml.length o q false], tr NI true ml]
                  (cast trivial (by kernel_rfl)) (by kernel_rfl) ?_
                have hcall69 : Runs pg an 26 [.one (.ptr 0 0), .one (vi 0)] [.obj [vi room, .row 1 ml.length o q false], tr NI true ml] [.one (vi 0), .one (vi 3)] [.obj [vi room, .row 1 ml.length o q false], tr NI true ml] := by
                  refine runs_of ?_
                  refine Runs.of (fn := Try.f26) Try.func26 rfl (by kernel_rfl) [(0, .y (.one (.ptr 0 0))), (1, xi 0)] (by kernel_rfl) ?_
                  refine Wp.regionSeq [] [(0, .y (.one (.ptr 0 0))), (1, xi 0)] [.obj [vi room, .row 1 ml.length o q false], tr NI true ml]
                    (cast trivial (by kernel_rfl)) (by kernel_rfl) ?_
                  refine Wp.seq ?_
                  have hcall70 : Runs pg an 25 [.one (.ptr 0 0), .one (vi 0)] [.obj [vi room, .row 1 ml.length o q false], tr NI true ml] [.one (vi 0), .one (vi 3)] [.obj [vi room, .row 1 ml.length o q false], tr NI true ml] := by
                    refine runs_of ?_
                    refine Runs.of (fn := Try.f25) Try.func25 rfl (by kernel_rfl) [(0, .y (.one (.ptr 0 0))), (1, xi 0)] (by kernel_rfl) ?_
                    refine Wp.regionSeq [] [(0, .y (.one (.ptr 0 0))), (1, xi 0), (4, xi 0)] [.obj [vi room, .row 1 ml.length o q false], tr NI true ml]
                      (cast trivial (by kernel_rfl)) (by kernel_rfl) ?_
                    refine Wp.seq ?_
                    have hcall71 : Runs pg an 27 [.one (.ptr 0 0)] [.obj [vi room, .row 1 ml.length o q false], tr NI true ml] [.one (vb true)] [.obj [vi room, .row 1 ml.length o q false], tr NI true ml] := by
                      refine runs_of ?_
                      refine Runs.of (fn := Try.f27) Try.func27 rfl (by kernel_rfl) [(0, .y (.one (.ptr 0 0)))] (by kernel_rfl) ?_
                      refine Wp.regionSeq [] [(0, .y (.one (.ptr 0 0)))] [.obj [vi room, .row 1 ml.length o q false], tr NI true ml]
                        (cast trivial (by kernel_rfl)) (by kernel_rfl) ?_
                      refine Wp.regionSeq [(7, xb true, [.obj [vi room, .row 1 ml.length o q false], tr NI true ml])] [(2, xb true)] [.obj [vi room, .row 1 ml.length o q false], tr NI true ml]
                        (cast (And.intro (ob_raw (P := pg) (A := an) (vals := [xi room, xi 0]) (H := [.obj [vi room, .row 1 ml.length o q false], tr NI true ml]) (op := .binOp .gtr 3 (.tmp 0) (.tmp 1) 3) (ty := 0) (r := xb (decide ((room : Int) > 0))) (v := xb true) (by kernel_rfl) (congrArg (fun z => xb z) (decide_eq_true (by omega)))) trivial) (by kernel_rfl)) (by kernel_rfl) ?_
                      refine Wp.ret ?_
                      exact ⟨Or.inr rfl, [.one (vb true)], by kernel_rfl, ⟨rfl, rfl⟩⟩
                    refine Wp.regionSeq [(1, xb true, [.obj [vi room, .row 1 ml.length o q false], tr NI true ml])] [(0, .y (.one (.ptr 0 0))), (1, xi 0), (4, xi 0), (8, xb false)] [.obj [vi room, .row 1 ml.length o q false], tr NI true ml]
                      (cast (And.intro (ob_call (P := pg) (A := an) (H := [.obj [vi room, .row 1 ml.length o q false], tr NI true ml]) (g := 27) (vals := [.y (.one (.ptr 0 0))]) (xs0 := [.one (.ptr 0 0)]) (res := [.one (vb true)]) (ats := #[]) (ty := 0) (v := xb true) (H' := [.obj [vi room, .row 1 ml.length o q false], tr NI true ml]) [.tmp 0] (by kernel_rfl) (by kernel_rfl) hcall71 (by kernel_rfl)) trivial) (by kernel_rfl)) (by kernel_rfl) ?_
                    refine Wp.condF (by kernel_rfl) ?_
                    refine Wp.skip ?_
                    refine Wp.seq ?_
                    refine Wp.regionSeq [(8, xi (q : Int), [.obj [vi room, .row 1 ml.length o q false], tr NI true ml]), (9, xb true, [.obj [vi room, .row 1 ml.length o q false], tr NI true ml])] [(0, .y (.one (.ptr 0 0))), (1, xi 0), (4, xi 0), (20, xb true)] [.obj [vi room, .row 1 ml.length o q false], tr NI true ml]
                      (cast (And.intro (ob_len_row (P := pg) (A := an) (H := [.obj [vi room, .row 1 ml.length o q false], tr NI true ml]) (s := NI) (t := 22) (ty := 0) (pu := true) (capd := false) (id := 1) (off := o) (n := q) (l := ml) (e := (q : Int)) (by kernel_rfl) (by kernel_rfl) (by first | omega | (simp; done) | (simp; omega))) (And.intro (ob_raw (P := pg) (A := an) (vals := [xi 0, xi (q : Int)]) (H := [.obj [vi room, .row 1 ml.length o q false], tr NI true ml]) (op := .binOp .geq 3 (.tmp 0) (.tmp 1) 3) (ty := 0) (r := xb (decide ((0 : Int) ≥ (q : Int)))) (v := xb true) (by kernel_rfl) (congrArg (fun z => xb z) (decide_eq_true (by omega)))) trivial)) (by kernel_rfl)) (by kernel_rfl) ?_
                    refine Wp.condT (by kernel_rfl) ?_
                    refine Wp.regionSeq [] [(4, xi 0), (5, xi 3)] [.obj [vi room, .row 1 ml.length o q false], tr NI true ml]
                      (cast trivial (by kernel_rfl)) (by kernel_rfl) ?_
                    refine Wp.ret ?_
                    exact ⟨Or.inr rfl, [.one (vi 0), .one (vi 3)], by kernel_rfl, ⟨rfl, rfl⟩⟩
                  refine Wp.regionSeq [(2, .tup [.one (vi 0), .one (vi 3)], [.obj [vi room, .row 1 ml.length o q false], tr NI true ml])] [(0, .y (.one (.ptr 0 0))), (1, xi 0), (4, xi 0), (5, xi 3)] [.obj [vi room, .row 1 ml.length o q false], tr NI true ml]
                    (cast (And.intro (ob_call (P := pg) (A := an) (H := [.obj [vi room, .row 1 ml.length o q false], tr NI true ml]) (g := 25) (vals := [.y (.one (.ptr 0 0)), xi 0]) (xs0 := [.one (.ptr 0 0), .one (vi 0)]) (res := [.one (vi 0), .one (vi 3)]) (ats := #[]) (ty := 0) (v := .tup [.one (vi 0), .one (vi 3)]) (H' := [.obj [vi room, .row 1 ml.length o q false], tr NI true ml]) [.tmp 0, .tmp 1] (by kernel_rfl) (by kernel_rfl) hcall70 (by kernel_rfl)) trivial) (by kernel_rfl)) (by kernel_rfl) ?_
                  refine Wp.regionSeq [] [(0, .y (.one (.ptr 0 0))), (1, xi 0), (4, xi 0), (5, xi 3), (13, xb true)] [.obj [vi room, .row 1 ml.length o q false], tr NI true ml]
                    (cast trivial (by kernel_rfl)) (by kernel_rfl) ?_
                  refine Wp.condT (by kernel_rfl) ?_
                  refine Wp.regionSeq [] [(4, xi 0), (5, xi 3)] [.obj [vi room, .row 1 ml.length o q false], tr NI true ml]
                    (cast trivial (by kernel_rfl)) (by kernel_rfl) ?_
                  refine Wp.ret ?_
                  exact ⟨Or.inr rfl, [.one (vi 0), .one (vi 3)], by kernel_rfl, ⟨rfl, rfl⟩⟩
                refine Wp.regionSeq [(1, .tup [.one (vi 0), .one (vi 3)], [.obj [vi room, .row 1 ml.length o q false], tr NI true ml])] [(2, xi 0), (3, xi 3)] [.obj [vi room, .row 1 ml.length o q false], tr NI true ml]
                  (cast (And.intro (ob_call (P := pg) (A := an) (H := [.obj [vi room, .row 1 ml.length o q false], tr NI true ml]) (g := 26) (vals := [.y (.one (.ptr 0 0)), xi 0]) (xs0 := [.one (.ptr 0 0), .one (vi 0)]) (res := [.one (vi 0), .one (vi 3)]) (ats := #[]) (ty := 0) (v := .tup [.one (vi 0), .one (vi 3)]) (H' := [.obj [vi room, .row 1 ml.length o q false], tr NI true ml]) [.tmp 0, .tmp 1] (by kernel_rfl) (by kernel_rfl) hcall69 (by kernel_rfl)) trivial) (by kernel_rfl)) (by kernel_rfl) ?_
                refine Wp.ret ?_
                exact ⟨Or.inr rfl, [.one (vi 0), .one (vi 3)], by kernel_rfl, ⟨rfl, rfl⟩⟩
              refine Wp.regionSeq [(1, .tup [.one (vi 0), .one (vi 3)], [.obj [vi room, .row 1 ml.length o q false], tr NI true ml])] [(0, xi room), (5, .y (.one (.ptr 0 0))), (16, xi 3)] [.obj [vi room, .row 1 ml.length o q false], tr NI true ml]
                (cast (And.intro (ob_call (P := pg) (A := an) (H := [.obj [vi room, .row 1 ml.length o q false], tr NI true ml]) (g := 12) (vals := [.y (.one (.ptr 0 0))]) (xs0 := [.one (.ptr 0 0)]) (res := [.one (vi 0), .one (vi 3)]) (ats := #[]) (ty := 0) (v := .tup [.one (vi 0), .one (vi 3)]) (H' := [.obj [vi room, .row 1 ml.length o q false], tr NI true ml]) [.tmp 0] (by kernel_rfl) (by kernel_rfl) hcall68 (by kernel_rfl)) trivial) (by kernel_rfl)) (by kernel_rfl) ?_
              have hcall72 : Runs pg an 13 [.one (.ptr 0 0)] [.obj [vi room, .row 1 ml.length o q false], tr NI true ml] [.one (vi (q : Int))] [.obj [vi room, .row 1 ml.length o q false], tr NI true ml] := by
                refine runs_of ?_
                refine Runs.of (fn := Try.f13) Try.func13 rfl (by kernel_rfl) [(0, .y (.one (.ptr 0 0)))] (by kernel_rfl) ?_
                refine Wp.regionSeq [] [(0, .y (.one (.ptr 0 0)))] [.obj [vi room, .row 1 ml.length o q false], tr NI true ml]
                  (cast trivial (by kernel_rfl)) (by kernel_rfl) ?_
                refine Wp.seq ?_
                have hcall73 : Runs pg an 27 [.one (.ptr 0 0)] [.obj [vi room, .row 1 ml.length o q false], tr NI true ml] [.one (vb true)] [.obj [vi room, .row 1 ml.length o q false], tr NI true ml] := by
                  refine runs_of ?_
                  refine Runs.of (fn := Try.f27) Try.func27 rfl (by kernel_rfl) [(0, .y (.one (.ptr 0 0)))] (by kernel_rfl) ?_
                  refine Wp.regionSeq [] [(0, .y (.one (.ptr 0 0)))] [.obj [vi room, .row 1 ml.length o q false], tr NI true ml]
                    (cast trivial (by kernel_rfl)) (by kernel_rfl) ?_
                  refine Wp.regionSeq [(7, xb true, [.obj [vi room, .row 1 ml.length o q false], tr NI true ml])] [(2, xb true)] [.obj [vi room, .row 1 ml.length o q false], tr NI true ml]
                    (cast (And.intro (ob_raw (P := pg) (A := an) (vals := [xi room, xi 0]) (H := [.obj [vi room, .row 1 ml.length o q false], tr NI true ml]) (op := .binOp .gtr 3 (.tmp 0) (.tmp 1) 3) (ty := 0) (r := xb (decide ((room : Int) > 0))) (v := xb true) (by kernel_rfl) (congrArg (fun z => xb z) (decide_eq_true (by omega)))) trivial) (by kernel_rfl)) (by kernel_rfl) ?_
                  refine Wp.ret ?_
                  exact ⟨Or.inr rfl, [.one (vb true)], by kernel_rfl, ⟨rfl, rfl⟩⟩
                refine Wp.regionSeq [(1, xb true, [.obj [vi room, .row 1 ml.length o q false], tr NI true ml])] [(0, .y (.one (.ptr 0 0))), (5, xb false)] [.obj [vi room, .row 1 ml.length o q false], tr NI true ml]
                  (cast (And.intro (ob_call (P := pg) (A := an) (H := [.obj [vi room, .row 1 ml.length o q false], tr NI true ml]) (g := 27) (vals := [.y (.one (.ptr 0 0))]) (xs0 := [.one (.ptr 0 0)]) (res := [.one (vb true)]) (ats := #[]) (ty := 0) (v := xb true) (H' := [.obj [vi room, .row 1 ml.length o q false], tr NI true ml]) [.tmp 0] (by kernel_rfl) (by kernel_rfl) hcall73 (by kernel_rfl)) trivial) (by kernel_rfl)) (by kernel_rfl) ?_
                refine Wp.condF (by kernel_rfl) ?_
                refine Wp.skip ?_
                refine Wp.regionSeq [(4, xi (q : Int), [.obj [vi room, .row 1 ml.length o q false], tr NI true ml])] [(2, xi (q : Int))] [.obj [vi room, .row 1 ml.length o q false], tr NI true ml]
                  (cast (And.intro (ob_len_row (P := pg) (A := an) (H := [.obj [vi room, .row 1 ml.length o q false], tr NI true ml]) (s := NI) (t := 22) (ty := 0) (pu := true) (capd := false) (id := 1) (off := o) (n := q) (l := ml) (e := (q : Int)) (by kernel_rfl) (by kernel_rfl) (by first | omega | (simp; done) | (simp; omega))) trivial) (by kernel_rfl)) (by kernel_rfl) ?_
                refine Wp.ret ?_
                exact ⟨Or.inr rfl, [.one (vi (q : Int))], by kernel_rfl, ⟨rfl, rfl⟩⟩
              have hcall74 : Runs pg an 14 [.one (.ptr 0 0)] [.obj [vi room, .row 1 ml.length o q false], tr NI true ml] [.one (vi (room - (q : Int)))] [.obj [vi room, .row 1 ml.length o q false], tr NI true ml] := by
                refine runs_of ?_
                refine Runs.of (fn := Try.f14) Try.func14 rfl (by kernel_rfl) [(0, .y (.one (.ptr 0 0)))] (by kernel_rfl) ?_
                refine Wp.regionSeq [] [(0, .y (.one (.ptr 0 0)))] [.obj [vi room, .row 1 ml.length o q false], tr NI true ml]
                  (cast trivial (by kernel_rfl)) (by kernel_rfl) ?_
                refine Wp.seq ?_
                have hcall75 : Runs pg an 27 [.one (.ptr 0 0)] [.obj [vi room, .row 1 ml.length o q false], tr NI true ml] [.one (vb true)] [.obj [vi room, .row 1 ml.length o q false], tr NI true ml] := by
                  refine runs_of ?_
                  refine Runs.of (fn := Try.f27) Try.func27 rfl (by kernel_rfl) [(0, .y (.one (.ptr 0 0)))] (by kernel_rfl) ?_
                  refine Wp.regionSeq [] [(0, .y (.one (.ptr 0 0)))] [.obj [vi room, .row 1 ml.length o q false], tr NI true ml]
                    (cast trivial (by kernel_rfl)) (by kernel_rfl) ?_
                  refine Wp.regionSeq [(7, xb true, [.obj [vi room, .row 1 ml.length o q false], tr NI true ml])] [(2, xb true)] [.obj [vi room, .row 1 ml.length o q false], tr NI true ml]
                    (cast (And.intro (ob_raw (P := pg) (A := an) (vals := [xi room, xi 0]) (H := [.obj [vi room, .row 1 ml.length o q false], tr NI true ml]) (op := .binOp .gtr 3 (.tmp 0) (.tmp 1) 3) (ty := 0) (r := xb (decide ((room : Int) > 0))) (v := xb true) (by kernel_rfl) (congrArg (fun z => xb z) (decide_eq_true (by omega)))) trivial) (by kernel_rfl)) (by kernel_rfl) ?_
                  refine Wp.ret ?_
                  exact ⟨Or.inr rfl, [.one (vb true)], by kernel_rfl, ⟨rfl, rfl⟩⟩
                refine Wp.regionSeq [(1, xb true, [.obj [vi room, .row 1 ml.length o q false], tr NI true ml])] [(0, .y (.one (.ptr 0 0))), (5, xb false)] [.obj [vi room, .row 1 ml.length o q false], tr NI true ml]
                  (cast (And.intro (ob_call (P := pg) (A := an) (H := [.obj [vi room, .row 1 ml.length o q false], tr NI true ml]) (g := 27) (vals := [.y (.one (.ptr 0 0))]) (xs0 := [.one (.ptr 0 0)]) (res := [.one (vb true)]) (ats := #[]) (ty := 0) (v := xb true) (H' := [.obj [vi room, .row 1 ml.length o q false], tr NI true ml]) [.tmp 0] (by kernel_rfl) (by kernel_rfl) hcall75 (by kernel_rfl)) trivial) (by kernel_rfl)) (by kernel_rfl) ?_
                refine Wp.condF (by kernel_rfl) ?_
                refine Wp.skip ?_
                refine Wp.regionSeq [(8, xi (q : Int), [.obj [vi room, .row 1 ml.length o q false], tr NI true ml]), (9, xi (room - (q : Int)), [.obj [vi room, .row 1 ml.length o q false], tr NI true ml])] [(2, xi (room - (q : Int)))] [.obj [vi room, .row 1 ml.length o q false], tr NI true ml]
                  (cast (And.intro (ob_len_row (P := pg) (A := an) (H := [.obj [vi room, .row 1 ml.length o q false], tr NI true ml]) (s := NI) (t := 22) (ty := 0) (pu := true) (capd := false) (id := 1) (off := o) (n := q) (l := ml) (e := (q : Int)) (by kernel_rfl) (by kernel_rfl) (by first | omega | (simp; done) | (simp; omega))) (And.intro (ob_raw (P := pg) (A := an) (vals := [xi room, xi (q : Int)]) (H := [.obj [vi room, .row 1 ml.length o q false], tr NI true ml]) (op := .binOp .sub 3 (.tmp 0) (.tmp 1) 3) (ty := 0) (r := xi (IntKind.wrap .i64 (room - (q : Int)))) (v := xi (room - (q : Int))) (by kernel_rfl) (congrArg (fun z => xi z) ((wrap64 (by omega)).trans (by omega)))) trivial)) (by kernel_rfl)) (by kernel_rfl) ?_
                refine Wp.ret ?_
                exact ⟨Or.inr rfl, [.one (vi (room - (q : Int)))], by kernel_rfl, ⟨rfl, rfl⟩⟩
              refine Wp.regionSeq [(4, xi (q : Int), [.obj [vi room, .row 1 ml.length o q false], tr NI true ml]), (5, xb true, [.obj [vi room, .row 1 ml.length o q false], tr NI true ml]), (9, xi (room - (q : Int)), [.obj [vi room, .row 1 ml.length o q false], tr NI true ml]), (11, xb true, [.obj [vi room, .row 1 ml.length o q false], tr NI true ml]), (14, xb true, [.obj [vi room, .row 1 ml.length o q false], tr NI true ml])] [(4, xb true)] [.obj [vi room, .row 1 ml.length o q false], tr NI true ml]
                (cast (And.intro (ob_call (P := pg) (A := an) (H := [.obj [vi room, .row 1 ml.length o q false], tr NI true ml]) (g := 13) (vals := [.y (.one (.ptr 0 0))]) (xs0 := [.one (.ptr 0 0)]) (res := [.one (vi (q : Int))]) (ats := #[]) (ty := 0) (v := xi (q : Int)) (H' := [.obj [vi room, .row 1 ml.length o q false], tr NI true ml]) [.tmp 0] (by kernel_rfl) (by kernel_rfl) hcall72 (by kernel_rfl)) (And.intro (ob_raw (P := pg) (A := an) (vals := [xi (q : Int), xi 0]) (H := [.obj [vi room, .row 1 ml.length o q false], tr NI true ml]) (op := .binOp .eql 3 (.tmp 0) (.tmp 1) 3) (ty := 0) (r := xb (((q : Int) : Int) == 0)) (v := xb true) (by kernel_rfl) (congrArg (fun z => xb z) (beq_t (by omega)))) (And.intro (ob_call (P := pg) (A := an) (H := [.obj [vi room, .row 1 ml.length o q false], tr NI true ml]) (g := 14) (vals := [.y (.one (.ptr 0 0))]) (xs0 := [.one (.ptr 0 0)]) (res := [.one (vi (room - (q : Int)))]) (ats := #[]) (ty := 0) (v := xi (room - (q : Int))) (H' := [.obj [vi room, .row 1 ml.length o q false], tr NI true ml]) [.tmp 0] (by kernel_rfl) (by kernel_rfl) hcall74 (by kernel_rfl)) (And.intro (ob_raw (P := pg) (A := an) (vals := [xi (room - (q : Int)), xi room]) (H := [.obj [vi room, .row 1 ml.length o q false], tr NI true ml]) (op := .binOp .eql 3 (.tmp 0) (.tmp 1) 3) (ty := 0) (r := xb (((room - (q : Int)) : Int) == room)) (v := xb true) (by kernel_rfl) (congrArg (fun z => xb z) (beq_t (by omega)))) (And.intro (ob_pure (P := pg) (A := an) (H := [.obj [vi room, .row 1 ml.length o q false], tr NI true ml]) (g := 10) (vals := []) (xs0 := []) (xs1 := []) (res := [.one (vb true)]) (ats := #[]) (ty := 0) (v := xb true) [] (by kernel_rfl) (by kernel_rfl) (by kernel_rfl) fn10 (by kernel_rfl)) trivial))))) (by kernel_rfl)) (by kernel_rfl) ?_
              refine Wp.ret ?_
              exact ⟨Or.inr rfl, [.one (vb true)], by kernel_rfl, rfl⟩
        ·
          refine Wp.seq ?_
          by_cases c76 : (ix : Int) < (l.length : Int)
          ·
            refine Wp.regionSeq [(3, xb true, [.obj [vi room, .row 1 ml.length 0 ml.length false], tr NI true ml])] [(0, xi room), (1, .y (.one (sv NI b nil capd l))), (5, .y (.one (.ptr 0 0))), (9, xi n), (10, xi ix), (38, xb true)] [.obj [vi room, .row 1 ml.length 0 ml.length false], tr NI true ml]
              (cast (And.intro (ob_raw (P := pg) (A := an) (vals := [xi ix, xi (l.length : Int)]) (H := [.obj [vi room, .row 1 ml.length 0 ml.length false], tr NI true ml]) (op := .binOp .lss 3 (.tmp 0) (.tmp 1) 3) (ty := 0) (r := xb (decide ((ix : Int) < (l.length : Int)))) (v := xb true) (by kernel_rfl) (congrArg (fun z => xb z) (decide_eq_true (by omega)))) trivial) (by kernel_rfl)) (by kernel_rfl) ?_
            refine Wp.condT (by kernel_rfl) ?_
            refine Wp.skip ?_
            refine Wp.seq ?_
            refine Wp.block ?_
            obtain ⟨x77, hx77⟩ : ∃ x, l[(ix : Int).toNat]? = some x := get_of (by omega)
            have hcall78 : Runs pg an 11 [.one (.ptr 0 0), .one (vi x77)] [.obj [vi room, .row 1 ml.length 0 ml.length false], tr NI true ml] [.one (vi 2)] [.obj [vi room, .row 1 ml.length 0 ml.length false], tr NI true ml] := by
              refine runs_of ?_
              refine Runs.of (fn := Try.f11) Try.func11 rfl (by kernel_rfl) [(0, .y (.one (.ptr 0 0))), (1, xi x77)] (by kernel_rfl) ?_
              refine Wp.regionSeq [] [(0, .y (.one (.ptr 0 0))), (1, xi x77)] [.obj [vi room, .row 1 ml.length 0 ml.length false], tr NI true ml]
                (cast trivial (by kernel_rfl)) (by kernel_rfl) ?_
              have hcall79 : Runs pg an 19 [.one (.ptr 0 0), .one (.sl false false true [vi x77] 1)] [.obj [vi room, .row 1 ml.length 0 ml.length false], tr NI true ml] [.one (vi 2)] [.obj [vi room, .row 1 ml.length 0 ml.length false], tr NI true ml] := by
                refine runs_of ?_
                refine Runs.of (fn := Try.f19) Try.func19 rfl (by kernel_rfl) [(0, .y (.one (.ptr 0 0))), (1, .y (.one (.sl false false true [vi x77] 1)))] (by kernel_rfl) ?_
                refine Wp.regionSeq [] [(0, .y (.one (.ptr 0 0))), (1, .y (.one (.sl false false true [vi x77] 1)))] [.obj [vi room, .row 1 ml.length 0 ml.length false], tr NI true ml]
                  (cast trivial (by kernel_rfl)) (by kernel_rfl) ?_
                refine Wp.seq ?_
                have hcall80 : Runs pg an 27 [.one (.ptr 0 0)] [.obj [vi room, .row 1 ml.length 0 ml.length false], tr NI true ml] [.one (vb true)] [.obj [vi room, .row 1 ml.length 0 ml.length false], tr NI true ml] := by
                  refine runs_of ?_
                  refine Runs.of (fn := Try.f27) Try.func27 rfl (by kernel_rfl) [(0, .y (.one (.ptr 0 0)))] (by kernel_rfl) ?_
                  refine Wp.regionSeq [] [(0, .y (.one (.ptr 0 0)))] [.obj [vi room, .row 1 ml.length 0 ml.length false], tr NI true ml]
                    (cast trivial (by kernel_rfl)) (by kernel_rfl) ?_
                  refine Wp.regionSeq [(7, xb true, [.obj [vi room, .row 1 ml.length 0 ml.length false], tr NI true ml])] [(2, xb true)] [.obj [vi room, .row 1 ml.length 0 ml.length false], tr NI true ml]
                    (cast (And.intro (ob_raw (P := pg) (A := an) (vals := [xi room, xi 0]) (H := [.obj [vi room, .row 1 ml.length 0 ml.length false], tr NI true ml]) (op := .binOp .gtr 3 (.tmp 0) (.tmp 1) 3) (ty := 0) (r := xb (decide ((room : Int) > 0))) (v := xb true) (by kernel_rfl) (congrArg (fun z => xb z) (decide_eq_true (by omega)))) trivial) (by kernel_rfl)) (by kernel_rfl) ?_
                  refine Wp.ret ?_
                  exact ⟨Or.inr rfl, [.one (vb true)], by kernel_rfl, ⟨rfl, rfl⟩⟩
                refine Wp.regionSeq [(1, xb true, [.obj [vi room, .row 1 ml.length 0 ml.length false], tr NI true ml])] [(0, .y (.one (.ptr 0 0))), (1, .y (.one (.sl false false true [vi x77] 1))), (7, xb false)] [.obj [vi room, .row 1 ml.length 0 ml.length false], tr NI true ml]
                  (cast (And.intro (ob_call (P := pg) (A := an) (H := [.obj [vi room, .row 1 ml.length 0 ml.length false], tr NI true ml]) (g := 27) (vals := [.y (.one (.ptr 0 0))]) (xs0 := [.one (.ptr 0 0)]) (res := [.one (vb true)]) (ats := #[]) (ty := 0) (v := xb true) (H' := [.obj [vi room, .row 1 ml.length 0 ml.length false], tr NI true ml]) [.tmp 0] (by kernel_rfl) (by kernel_rfl) hcall80 (by kernel_rfl)) trivial) (by kernel_rfl)) (by kernel_rfl) ?_
                refine Wp.condF (by kernel_rfl) ?_
                refine Wp.skip ?_
                refine Wp.seq ?_
                have hcall81 : Runs pg an 14 [.one (.ptr 0 0)] [.obj [vi room, .row 1 ml.length 0 ml.length false], tr NI true ml] [.one (vi (room - n))] [.obj [vi room, .row 1 ml.length 0 ml.length false], tr NI true ml] := by
                  refine runs_of ?_
                  refine Runs.of (fn := Try.f14) Try.func14 rfl (by kernel_rfl) [(0, .y (.one (.ptr 0 0)))] (by kernel_rfl) ?_
                  refine Wp.regionSeq [] [(0, .y (.one (.ptr 0 0)))] [.obj [vi room, .row 1 ml.length 0 ml.length false], tr NI true ml]
                    (cast trivial (by kernel_rfl)) (by kernel_rfl) ?_
                  refine Wp.seq ?_
                  have hcall82 : Runs pg an 27 [.one (.ptr 0 0)] [.obj [vi room, .row 1 ml.length 0 ml.length false], tr NI true ml] [.one (vb true)] [.obj [vi room, .row 1 ml.length 0 ml.length false], tr NI true ml] := by
                    refine runs_of ?_
                    refine Runs.of (fn := Try.f27) Try.func27 rfl (by kernel_rfl) [(0, .y (.one (.ptr 0 0)))] (by kernel_rfl) ?_
                    refine Wp.regionSeq [] [(0, .y (.one (.ptr 0 0)))] [.obj [vi room, .row 1 ml.length 0 ml.length false], tr NI true ml]
                      (cast trivial (by kernel_rfl)) (by kernel_rfl) ?_
                    refine Wp.regionSeq [(7, xb true, [.obj [vi room, .row 1 ml.length 0 ml.length false], tr NI true ml])] [(2, xb true)] [.obj [vi room, .row 1 ml.length 0 ml.length false], tr NI true ml]
                      (cast (And.intro (ob_raw (P := pg) (A := an) (vals := [xi room, xi 0]) (H := [.obj [vi room, .row 1 ml.length 0 ml.length false], tr NI true ml]) (op := .binOp .gtr 3 (.tmp 0) (.tmp 1) 3) (ty := 0) (r := xb (decide ((room : Int) > 0))) (v := xb true) (by kernel_rfl) (congrArg (fun z => xb z) (decide_eq_true (by omega)))) trivial) (by kernel_rfl)) (by kernel_rfl) ?_
                    refine Wp.ret ?_
                    exact ⟨Or.inr rfl, [.one (vb true)], by kernel_rfl, ⟨rfl, rfl⟩⟩
                  refine Wp.regionSeq [(1, xb true, [.obj [vi room, .row 1 ml.length 0 ml.length false], tr NI true ml])] [(0, .y (.one (.ptr 0 0))), (5, xb false)] [.obj [vi room, .row 1 ml.length 0 ml.length false], tr NI true ml]
                    (cast (And.intro (ob_call (P := pg) (A := an) (H := [.obj [vi room, .row 1 ml.length 0 ml.length false], tr NI true ml]) (g := 27) (vals := [.y (.one (.ptr 0 0))]) (xs0 := [.one (.ptr 0 0)]) (res := [.one (vb true)]) (ats := #[]) (ty := 0) (v := xb true) (H' := [.obj [vi room, .row 1 ml.length 0 ml.length false], tr NI true ml]) [.tmp 0] (by kernel_rfl) (by kernel_rfl) hcall82 (by kernel_rfl)) trivial) (by kernel_rfl)) (by kernel_rfl) ?_
                  refine Wp.condF (by kernel_rfl) ?_
                  refine Wp.skip ?_
                  refine Wp.regionSeq [(8, xi n, [.obj [vi room, .row 1 ml.length 0 ml.length false], tr NI true ml]), (9, xi (room - n), [.obj [vi room, .row 1 ml.length 0 ml.length false], tr NI true ml])] [(2, xi (room - n))] [.obj [vi room, .row 1 ml.length 0 ml.length false], tr NI true ml]
                    (cast (And.intro (ob_len_row (P := pg) (A := an) (H := [.obj [vi room, .row 1 ml.length 0 ml.length false], tr NI true ml]) (s := NI) (t := 22) (ty := 0) (pu := true) (capd := false) (id := 1) (off := 0) (n := ml.length) (l := ml) (e := n) (by kernel_rfl) (by kernel_rfl) (by first | omega | (simp; done) | (simp; omega))) (And.intro (ob_raw (P := pg) (A := an) (vals := [xi room, xi n]) (H := [.obj [vi room, .row 1 ml.length 0 ml.length false], tr NI true ml]) (op := .binOp .sub 3 (.tmp 0) (.tmp 1) 3) (ty := 0) (r := xi (IntKind.wrap .i64 (room - n))) (v := xi (room - n)) (by kernel_rfl) (congrArg (fun z => xi z) ((wrap64 (by omega)).trans (by omega)))) trivial)) (by kernel_rfl)) (by kernel_rfl) ?_
                  refine Wp.ret ?_
                  exact ⟨Or.inr rfl, [.one (vi (room - n))], by kernel_rfl, ⟨rfl, rfl⟩⟩
                refine Wp.regionSeq [(3, xi (room - n), [.obj [vi room, .row 1 ml.length 0 ml.length false], tr NI true ml]), (4, xb true, [.obj [vi room, .row 1 ml.length 0 ml.length false], tr NI true ml])] [(0, .y (.one (.ptr 0 0))), (1, .y (.one (.sl false false true [vi x77] 1))), (12, xb true)] [.obj [vi room, .row 1 ml.length 0 ml.length false], tr NI true ml]
                  (cast (And.intro (ob_call (P := pg) (A := an) (H := [.obj [vi room, .row 1 ml.length 0 ml.length false], tr NI true ml]) (g := 14) (vals := [.y (.one (.ptr 0 0))]) (xs0 := [.one (.ptr 0 0)]) (res := [.one (vi (room - n))]) (ats := #[]) (ty := 0) (v := xi (room - n)) (H' := [.obj [vi room, .row 1 ml.length 0 ml.length false], tr NI true ml]) [.tmp 0] (by kernel_rfl) (by kernel_rfl) hcall81 (by kernel_rfl)) (And.intro (ob_raw (P := pg) (A := an) (vals := [xi 1, xi (room - n)]) (H := [.obj [vi room, .row 1 ml.length 0 ml.length false], tr NI true ml]) (op := .binOp .gtr 3 (.tmp 0) (.tmp 1) 3) (ty := 0) (r := xb (decide ((1 : Int) > (room - n)))) (v := xb true) (by kernel_rfl) (congrArg (fun z => xb z) (decide_eq_true (by omega)))) trivial)) (by kernel_rfl)) (by kernel_rfl) ?_
                refine Wp.condT (by kernel_rfl) ?_
                refine Wp.regionSeq [] [(4, xi 2)] [.obj [vi room, .row 1 ml.length 0 ml.length false], tr NI true ml]
                  (cast trivial (by kernel_rfl)) (by kernel_rfl) ?_
                refine Wp.ret ?_
                exact ⟨Or.inr rfl, [.one (vi 2)], by kernel_rfl, ⟨rfl, rfl⟩⟩
              refine Wp.regionSeq [(3, xi 2, [.obj [vi room, .row 1 ml.length 0 ml.length false], tr NI true ml])] [(4, xi 2)] [.obj [vi room, .row 1 ml.length 0 ml.length false], tr NI true ml]
                (cast (And.intro (ob_call (P := pg) (A := an) (H := [.obj [vi room, .row 1 ml.length 0 ml.length false], tr NI true ml]) (g := 19) (vals := [.y (.one (.ptr 0 0)), .y (.one (.sl false false true [vi x77] 1))]) (xs0 := [.one (.ptr 0 0), .one (.sl false false true [vi x77] 1)]) (res := [.one (vi 2)]) (ats := #[]) (ty := 0) (v := xi 2) (H' := [.obj [vi room, .row 1 ml.length 0 ml.length false], tr NI true ml]) [.tmp 0, .tmp 1] (by kernel_rfl) (by kernel_rfl) hcall79 (by kernel_rfl)) trivial) (by kernel_rfl)) (by kernel_rfl) ?_
              refine Wp.ret ?_
              exact ⟨Or.inr rfl, [.one (vi 2)], by kernel_rfl, ⟨rfl, rfl⟩⟩
            refine Wp.regionSeq [(3, .y (.one (.rd ([vi x77] ++ (l.drop ((ix : Int).toNat + 1)).flatMap (enc NI)))), [.obj [vi room, .row 1 ml.length 0 ml.length false], tr NI true ml]), (5, xi 2, [.obj [vi room, .row 1 ml.length 0 ml.length false], tr NI true ml])] [(0, xi room), (1, .y (.one (sv NI b nil capd l))), (5, .y (.one (.ptr 0 0))), (9, xi n), (10, xi ix), (11, xi 2)] [.obj [vi room, .row 1 ml.length 0 ml.length false], tr NI true ml]
              (cast (And.intro (ob_index (P := pg) (A := an) (H := [.obj [vi room, .row 1 ml.length 0 ml.length false], tr NI true ml]) (s := NI) (b := b) (nil := nil) (capd := capd) (t := 22) (el := 3) (i := ix) Try.underlying22 (by kernel_rfl) (by kernel_rfl) (by omega) hx77) (And.intro (ob_call (P := pg) (A := an) (H := [.obj [vi room, .row 1 ml.length 0 ml.length false], tr NI true ml]) (g := 11) (vals := [.y (.one (.ptr 0 0)), xi x77]) (xs0 := [.one (.ptr 0 0), .one (vi x77)]) (res := [.one (vi 2)]) (ats := #[]) (ty := 0) (v := xi 2) (H' := [.obj [vi room, .row 1 ml.length 0 ml.length false], tr NI true ml]) [.tmp 0, .tmp 1] (by kernel_rfl) (by kernel_rfl) hcall78 (by kernel_rfl)) trivial)) (by kernel_rfl)) (by kernel_rfl) ?_
            refine Wp.seq ?_
            refine Wp.regionSeq [(4, xb false, [.obj [vi room, .row 1 ml.length 0 ml.length false], tr NI true ml])] [(0, xi room), (1, .y (.one (sv NI b nil capd l))), (5, .y (.one (.ptr 0 0))), (9, xi n), (10, xi ix), (11, xi 2), (60, xb false)] [.obj [vi room, .row 1 ml.length 0 ml.length false], tr NI true ml]
              (cast (And.intro (ob_raw (P := pg) (A := an) (vals := [xi ix, xi room]) (H := [.obj [vi room, .row 1 ml.length 0 ml.length false], tr NI true ml]) (op := .binOp .lss 3 (.tmp 0) (.tmp 1) 3) (ty := 0) (r := xb (decide ((ix : Int) < room))) (v := xb false) (by kernel_rfl) (congrArg (fun z => xb z) (decide_eq_false (by omega)))) trivial) (by kernel_rfl)) (by kernel_rfl) ?_
            refine Wp.condF (by kernel_rfl) ?_
            refine Wp.skip ?_
            refine Wp.regionSeq [] [(0, xi room), (1, .y (.one (sv NI b nil capd l))), (5, .y (.one (.ptr 0 0))), (9, xi n), (10, xi ix), (62, xb false)] [.obj [vi room, .row 1 ml.length 0 ml.length false], tr NI true ml]
              (cast trivial (by kernel_rfl)) (by kernel_rfl) ?_
            refine Wp.condF (by kernel_rfl) ?_
            refine Wp.skip ?_
            refine Wp.region [(1, xi (ix + 1), [.obj [vi room, .row 1 ml.length 0 ml.length false], tr NI true ml])] [(0, xi room), (1, .y (.one (sv NI b nil capd l))), (5, .y (.one (.ptr 0 0))), (9, xi n), (10, xi (ix + 1))] [.obj [vi room, .row 1 ml.length 0 ml.length false], tr NI true ml]
              (cast (And.intro (ob_raw (P := pg) (A := an) (vals := [xi ix, xi 1]) (H := [.obj [vi room, .row 1 ml.length 0 ml.length false], tr NI true ml]) (op := .binOp .add 3 (.tmp 0) (.tmp 1) 3) (ty := 0) (r := xi (IntKind.wrap .i64 (ix + 1))) (v := xi (ix + 1)) (by kernel_rfl) (congrArg (fun z => xi z) ((wrap64 (by omega)).trans (by omega)))) trivial) (by kernel_rfl)) (by kernel_rfl) ?_
            exact ⟨((ix + 1), n, ml), by kernel_rfl, (by exact ⟨by omega, by omega, by omega, by omega, by omega, by omega, h7, h8⟩), (by show (_ : Nat) < _; simp only []; omega)⟩
          ·
            refine Wp.regionSeq [(3, xb false, [.obj [vi room, .row 1 ml.length 0 ml.length false], tr NI true ml])] [(0, xi room), (1, .y (.one (sv NI b nil capd l))), (5, .y (.one (.ptr 0 0))), (9, xi n), (10, xi ix), (38, xb false)] [.obj [vi room, .row 1 ml.length 0 ml.length false], tr NI true ml]
              (cast (And.intro (ob_raw (P := pg) (A := an) (vals := [xi ix, xi (l.length : Int)]) (H := [.obj [vi room, .row 1 ml.length 0 ml.length false], tr NI true ml]) (op := .binOp .lss 3 (.tmp 0) (.tmp 1) 3) (ty := 0) (r := xb (decide ((ix : Int) < (l.length : Int)))) (v := xb false) (by kernel_rfl) (congrArg (fun z => xb z) (decide_eq_false (by omega)))) trivial) (by kernel_rfl)) (by kernel_rfl) ?_
            refine Wp.condF (by kernel_rfl) ?_
            refine Wp.exit ?_
            refine Eq.mpr (if_pos rfl) ?_
            refine Wp.seq ?_
            refine Wp.regionSeq [] [(0, xi room), (1, .y (.one (sv NI b nil capd l))), (5, .y (.one (.ptr 0 0))), (9, xi n), (12, xi 0)] [.obj [vi room, .row 1 ml.length 0 ml.length false], tr NI true ml]
              (cast trivial (by kernel_rfl)) (by kernel_rfl) ?_
            refine Wp.block ?_
            refine Wp.loop (T := Int × Nat × Nat) (fun (t : Int × Nat × Nat) => match t with | (ji, o, q) => ((n - ji).toNat : Nat)) (fun (t : Int × Nat × Nat) => match t with | (ji, o, q) => ([(0, xi room), (1, .y (.one (sv NI b nil capd l))), (5, .y (.one (.ptr 0 0))), (9, xi n), (12, xi ji)] : Env)) (fun (t : Int × Nat × Nat) => match t with | (ji, o, q) => ([.obj [vi room, .row 1 ml.length o q false], tr NI true ml] : Go.Lg.Heap))
              (fun (t : Int × Nat × Nat) => match t with | (ji, o, q) => (0 ≤ ji ∧ ji ≤ n ∧ (o : Int) = ji ∧ (q : Int) = n - ji : Prop)) (0, 0, ml.length) (by kernel_rfl) (by refine ⟨?_, ?_, ?_, ?_⟩ <;> omega) ?_
            rintro ⟨ji, o, q⟩ ⟨k1, k2, k3, k4⟩
            show Wp _ _ _ _ [(0, xi room), (1, .y (.one (sv NI b nil capd l))), (5, .y (.one (.ptr 0 0))), (9, xi n), (12, xi ji)] [.obj [vi room, .row 1 ml.length o q false], tr NI true ml] _
            refine Wp.seq ?_
            by_cases c83 : (ji : Int) < n
            ·
              refine Wp.regionSeq [(2, xb true, [.obj [vi room, .row 1 ml.length o q false], tr NI true ml])] [(0, xi room), (1, .y (.one (sv NI b nil capd l))), (5, .y (.one (.ptr 0 0))), (9, xi n), (12, xi ji), (67, xb true)] [.obj [vi room, .row 1 ml.length o q false], tr NI true ml]
                (cast (And.intro (ob_raw (P := pg) (A := an) (vals := [xi ji, xi n]) (H := [.obj [vi room, .row 1 ml.length o q false], tr NI true ml]) (op := .binOp .lss 3 (.tmp 0) (.tmp 1) 3) (ty := 0) (r := xb (decide ((ji : Int) < n))) (v := xb true) (by kernel_rfl) (congrArg (fun z => xb z) (decide_eq_true (by omega)))) trivial) (by kernel_rfl)) (by kernel_rfl) ?_
              refine Wp.condT (by kernel_rfl) ?_
              refine Wp.skip ?_
              refine Wp.seq ?_
              refine Wp.block ?_
              obtain ⟨x88, hx88⟩ : ∃ x, ml[(o + (0 : Int).toNat)]? = some x := get_of (by first | omega | (simp; done) | (simp; omega))
              obtain ⟨x93, hx93⟩ : ∃ x, l[(ji : Int).toNat]? = some x := get_of (by omega)
              have htgx88 : x88 = x93 := take_get (i := ji) h8 hx88 hx93 (by omega) (by omega)
              have hcall98 : Runs pg an 12 [.one (.ptr 0 0)] [.obj [vi room, .row 1 ml.length o q false], tr NI true ml] [.one (vi x88), .one (vi 0)] [.obj [vi room, .row 1 ml.length ((o + (1 : Int).toNat)) ((((q : Nat) : Int) - 1).toNat) false], tr NI true ml] := by
                refine runs_of ?_
                refine Runs.of (fn := Try.f12) Try.func12 rfl (by kernel_rfl) [(0, .y (.one (.ptr 0 0)))] (by kernel_rfl) ?_
                refine Wp.regionSeq [] [(0, .y (.one (.ptr 0 0)))] [.obj [vi room, .row 1 ml.length o q false], tr NI true ml]
                  (cast trivial (by kernel_rfl)) (by kernel_rfl) ?_
                have hcall99 : Runs pg an 26 [.one (.ptr 0 0), .one (vi 0)] [.obj [vi room, .row 1 ml.length o q false], tr NI true ml] [.one (vi x88), .one (vi 0)] [.obj [vi room, .row 1 ml.length ((o + (1 : Int).toNat)) ((((q : Nat) : Int) - 1).toNat) false], tr NI true ml] := by
                  refine runs_of ?_
                  refine Runs.of (fn := Try.f26) Try.func26 rfl (by kernel_rfl) [(0, .y (.one (.ptr 0 0))), (1, xi 0)] (by kernel_rfl) ?_
                  refine Wp.regionSeq [] [(0, .y (.one (.ptr 0 0))), (1, xi 0)] [.obj [vi room, .row 1 ml.length o q false], tr NI true ml]
                    (cast trivial (by kernel_rfl)) (by kernel_rfl) ?_
                  refine Wp.seq ?_
                  have hcall100 : Runs pg an 25 [.one (.ptr 0 0), .one (vi 0)] [.obj [vi room, .row 1 ml.length o q false], tr NI true ml] [.one (vi x88), .one (vi 0)] [.obj [vi room, .row 1 ml.length o q false], tr NI true ml] := by
                    refine runs_of ?_
                    refine Runs.of (fn := Try.f25) Try.func25 rfl (by kernel_rfl) [(0, .y (.one (.ptr 0 0))), (1, xi 0)] (by kernel_rfl) ?_
                    refine Wp.regionSeq [] [(0, .y (.one (.ptr 0 0))), (1, xi 0), (4, xi 0)] [.obj [vi room, .row 1 ml.length o q false], tr NI true ml]
                      (cast trivial (by kernel_rfl)) (by kernel_rfl) ?_
                    refine Wp.seq ?_
                    have hcall101 : Runs pg an 27 [.one (.ptr 0 0)] [.obj [vi room, .row 1 ml.length o q false], tr NI true ml] [.one (vb true)] [.obj [vi room, .row 1 ml.length o q false], tr NI true ml] := by
                      refine runs_of ?_
                      refine Runs.of (fn := Try.f27) Try.func27 rfl (by kernel_rfl) [(0, .y (.one (.ptr 0 0)))] (by kernel_rfl) ?_
                      refine Wp.regionSeq [] [(0, .y (.one (.ptr 0 0)))] [.obj [vi room, .row 1 ml.length o q false], tr NI true ml]
                        (cast trivial (by kernel_rfl)) (by kernel_rfl) ?_
                      refine Wp.regionSeq [(7, xb true, [.obj [vi room, .row 1 ml.length o q false], tr NI true ml])] [(2, xb true)] [.obj [vi room, .row 1 ml.length o q false], tr NI true ml]
                        (cast (And.intro (ob_raw (P := pg) (A := an) (vals := [xi room, xi 0]) (H := [.obj [vi room, .row 1 ml.length o q false], tr NI true ml]) (op := .binOp .gtr 3 (.tmp 0) (.tmp 1) 3) (ty := 0) (r := xb (decide ((room : Int) > 0))) (v := xb true) (by kernel_rfl) (congrArg (fun z => xb z) (decide_eq_true (by omega)))) trivial) (by kernel_rfl)) (by kernel_rfl) ?_
                      refine Wp.ret ?_
                      exact ⟨Or.inr rfl, [.one (vb true)], by kernel_rfl, ⟨rfl, rfl⟩⟩
                    refine Wp.regionSeq [(1, xb true, [.obj [vi room, .row 1 ml.length o q false], tr NI true ml])] [(0, .y (.one (.ptr 0 0))), (1, xi 0), (4, xi 0), (8, xb false)] [.obj [vi room, .row 1 ml.length o q false], tr NI true ml]
                      (cast (And.intro (ob_call (P := pg) (A := an) (H := [.obj [vi room, .row 1 ml.length o q false], tr NI true ml]) (g := 27) (vals := [.y (.one (.ptr 0 0))]) (xs0 := [.one (.ptr 0 0)]) (res := [.one (vb true)]) (ats := #[]) (ty := 0) (v := xb true) (H' := [.obj [vi room, .row 1 ml.length o q false], tr NI true ml]) [.tmp 0] (by kernel_rfl) (by kernel_rfl) hcall101 (by kernel_rfl)) trivial) (by kernel_rfl)) (by kernel_rfl) ?_
                    refine Wp.condF (by kernel_rfl) ?_
                    refine Wp.skip ?_
                    refine Wp.seq ?_
                    refine Wp.regionSeq [(8, xi (q : Int), [.obj [vi room, .row 1 ml.length o q false], tr NI true ml]), (9, xb false, [.obj [vi room, .row 1 ml.length o q false], tr NI true ml])] [(0, .y (.one (.ptr 0 0))), (1, xi 0), (4, xi 0), (20, xb false)] [.obj [vi room, .row 1 ml.length o q false], tr NI true ml]
                      (cast (And.intro (ob_len_row (P := pg) (A := an) (H := [.obj [vi room, .row 1 ml.length o q false], tr NI true ml]) (s := NI) (t := 22) (ty := 0) (pu := true) (capd := false) (id := 1) (off := o) (n := q) (l := ml) (e := (q : Int)) (by kernel_rfl) (by kernel_rfl) (by first | omega | (simp; done) | (simp; omega))) (And.intro (ob_raw (P := pg) (A := an) (vals := [xi 0, xi (q : Int)]) (H := [.obj [vi room, .row 1 ml.length o q false], tr NI true ml]) (op := .binOp .geq 3 (.tmp 0) (.tmp 1) 3) (ty := 0) (r := xb (decide ((0 : Int) ≥ (q : Int)))) (v := xb false) (by kernel_rfl) (congrArg (fun z => xb z) (decide_eq_false (by omega)))) trivial)) (by kernel_rfl)) (by kernel_rfl) ?_
                    refine Wp.condF (by kernel_rfl) ?_
                    refine Wp.skip ?_
                    refine Wp.regionSeq [(5, .y (.one (.ra 1 ml.length (((o + (0 : Int).toNat)) * 1 + 0))), [.obj [vi room, .row 1 ml.length o q false], tr NI true ml]), (6, xi x88, [.obj [vi room, .row 1 ml.length o q false], tr NI true ml])] [(4, xi x88), (5, xi 0)] [.obj [vi room, .row 1 ml.length o q false], tr NI true ml]
                      (cast (And.intro (ob_index_row (P := pg) (A := an) (H := [.obj [vi room, .row 1 ml.length o q false], tr NI true ml]) (s := NI) (t := 22) (el := 3) (ty := 0) (pu := true) (capd := false) (id := 1) (off := o) (n := q) (l := ml) (i := 0) (by kernel_rfl) Try.underlying22 (by kernel_rfl) (by omega) (by first | omega | (simp; done) | (simp; omega)) (by first | omega | (simp; done) | (simp; omega))) (And.intro (ob_load_ra (P := pg) (A := an) (H := [.obj [vi room, .row 1 ml.length o q false], tr NI true ml]) (s := NI) (t := 3) (ty := 0) (pu := true) (id := 1) (j := (o + (0 : Int).toNat)) (o := 0) (n := 1) (l := ml) (x := x88) (v := .one (vi x88)) (by kernel_rfl) (by kernel_rfl) (by kernel_rfl) hx88 (by kernel_rfl)) trivial)) (by kernel_rfl)) (by kernel_rfl) ?_
                    refine Wp.ret ?_
                    exact ⟨Or.inr rfl, [.one (vi x88), .one (vi 0)], by kernel_rfl, ⟨rfl, rfl⟩⟩
                  refine Wp.regionSeq [(2, .tup [.one (vi x88), .one (vi 0)], [.obj [vi room, .row 1 ml.length o q false], tr NI true ml])] [(0, .y (.one (.ptr 0 0))), (1, xi 0), (4, xi x88), (5, xi 0)] [.obj [vi room, .row 1 ml.length o q false], tr NI true ml]
                    (cast (And.intro (ob_call (P := pg) (A := an) (H := [.obj [vi room, .row 1 ml.length o q false], tr NI true ml]) (g := 25) (vals := [.y (.one (.ptr 0 0)), xi 0]) (xs0 := [.one (.ptr 0 0), .one (vi 0)]) (res := [.one (vi x88), .one (vi 0)]) (ats := #[]) (ty := 0) (v := .tup [.one (vi x88), .one (vi 0)]) (H' := [.obj [vi room, .row 1 ml.length o q false], tr NI true ml]) [.tmp 0, .tmp 1] (by kernel_rfl) (by kernel_rfl) hcall100 (by kernel_rfl)) trivial) (by kernel_rfl)) (by kernel_rfl) ?_
                  refine Wp.regionSeq [] [(0, .y (.one (.ptr 0 0))), (1, xi 0), (4, xi x88), (5, xi 0), (13, xb false)] [.obj [vi room, .row 1 ml.length o q false], tr NI true ml]
                    (cast trivial (by kernel_rfl)) (by kernel_rfl) ?_
                  refine Wp.condF (by kernel_rfl) ?_
                  refine Wp.skip ?_
                  have hcall102 : Runs pg an 35 [.one (.row 1 ml.length o q false), .one (vi 0)] [.obj [vi room, .row 1 ml.length o q false], tr NI true ml] [.one (.row 1 ml.length ((o + (1 : Int).toNat)) ((((q : Nat) : Int) - 1).toNat) false)] [.obj [vi room, .row 1 ml.length o q false], tr NI true ml] := by
                    refine runs_of ?_
                    refine Runs.of (fn := Try.f35) Try.func35 rfl (by kernel_rfl) [(0, .y (.one (.row 1 ml.length o q false))), (1, xi 0)] (by kernel_rfl) ?_
                    refine Wp.regionSeq [] [(0, .y (.one (.row 1 ml.length o q false))), (1, xi 0)] [.obj [vi room, .row 1 ml.length o q false], tr NI true ml]
                      (cast trivial (by kernel_rfl)) (by kernel_rfl) ?_
                    refine Wp.seq ?_
                    refine Wp.regionSeq [] [(0, .y (.one (.row 1 ml.length o q false))), (1, xi 0), (6, xb true)] [.obj [vi room, .row 1 ml.length o q false], tr NI true ml]
                      (cast trivial (by kernel_rfl)) (by kernel_rfl) ?_
                    refine Wp.condT (by kernel_rfl) ?_
                    refine Wp.regionSeq [(1, .y (.one (.row 1 ml.length ((o + (1 : Int).toNat)) ((((q : Nat) : Int) - 1).toNat) false)), [.obj [vi room, .row 1 ml.length o q false], tr NI true ml])] [(4, .y (.one (.row 1 ml.length ((o + (1 : Int).toNat)) ((((q : Nat) : Int) - 1).toNat) false)))] [.obj [vi room, .row 1 ml.length o q false], tr NI true ml]
                      (cast (And.intro (ob_slice_rowl (P := pg) (A := an) (H := [.obj [vi room, .row 1 ml.length o q false], tr NI true ml]) (s := NI) (t := 22) (el := 3) (ty := 0) (pu := true) (capd := false) (id := 1) (off := o) (n := q) (l := ml) (a := 1) (n' := (((q : Nat) : Int) - 1).toNat) (by kernel_rfl) (by kernel_rfl) (by kernel_rfl) (by omega) (by first | omega | (simp; done) | (simp; omega)) (by first | omega | (simp; done) | (simp; omega)) rfl) trivial) (by kernel_rfl)) (by kernel_rfl) ?_
                    refine Wp.ret ?_
                    exact ⟨Or.inr rfl, [.one (.row 1 ml.length ((o + (1 : Int).toNat)) ((((q : Nat) : Int) - 1).toNat) false)], by kernel_rfl, ⟨rfl, rfl⟩⟩
                  refine Wp.regionSeq [(6, .y (.one (.row 1 ml.length ((o + (1 : Int).toNat)) ((((q : Nat) : Int) - 1).toNat) false)), [.obj [vi room, .row 1 ml.length o q false], tr NI true ml])] [(4, xi x88)] [.obj [vi room, .row 1 ml.length ((o + (1 : Int).toNat)) ((((q : Nat) : Int) - 1).toNat) false], tr NI true ml]
                    (cast (And.intro (ob_call (P := pg) (A := an) (H := [.obj [vi room, .row 1 ml.length o q false], tr NI true ml]) (g := 35) (vals := [.y (.one (.row 1 ml.length o q false)), xi 0]) (xs0 := [.one (.row 1 ml.length o q false), .one (vi 0)]) (res := [.one (.row 1 ml.length ((o + (1 : Int).toNat)) ((((q : Nat) : Int) - 1).toNat) false)]) (ats := #[]) (ty := 0) (v := .y (.one (.row 1 ml.length ((o + (1 : Int).toNat)) ((((q : Nat) : Int) - 1).toNat) false))) (H' := [.obj [vi room, .row 1 ml.length o q false], tr NI true ml]) [.tmp 0, .tmp 1] (by kernel_rfl) (by kernel_rfl) hcall102 (by kernel_rfl)) trivial) (by kernel_rfl)) (by kernel_rfl) ?_
                  refine Wp.regionSeq [] [(4, xi x88), (5, xi 0)] [.obj [vi room, .row 1 ml.length ((o + (1 : Int).toNat)) ((((q : Nat) : Int) - 1).toNat) false], tr NI true ml]
                    (cast trivial (by kernel_rfl)) (by kernel_rfl) ?_
                  refine Wp.ret ?_
                  exact ⟨Or.inr rfl, [.one (vi x88), .one (vi 0)], by kernel_rfl, ⟨rfl, rfl⟩⟩
                refine Wp.regionSeq [(1, .tup [.one (vi x88), .one (vi 0)], [.obj [vi room, .row 1 ml.length ((o + (1 : Int).toNat)) ((((q : Nat) : Int) - 1).toNat) false], tr NI true ml])] [(2, xi x88), (3, xi 0)] [.obj [vi room, .row 1 ml.length ((o + (1 : Int).toNat)) ((((q : Nat) : Int) - 1).toNat) false], tr NI true ml]
                  (cast (And.intro (ob_call (P := pg) (A := an) (H := [.obj [vi room, .row 1 ml.length o q false], tr NI true ml]) (g := 26) (vals := [.y (.one (.ptr 0 0)), xi 0]) (xs0 := [.one (.ptr 0 0), .one (vi 0)]) (res := [.one (vi x88), .one (vi 0)]) (ats := #[]) (ty := 0) (v := .tup [.one (vi x88), .one (vi 0)]) (H' := [.obj [vi room, .row 1 ml.length ((o + (1 : Int).toNat)) ((((q : Nat) : Int) - 1).toNat) false], tr NI true ml]) [.tmp 0, .tmp 1] (by kernel_rfl) (by kernel_rfl) hcall99 (by kernel_rfl)) trivial) (by kernel_rfl)) (by kernel_rfl) ?_
                refine Wp.ret ?_
                exact ⟨Or.inr rfl, [.one (vi x88), .one (vi 0)], by kernel_rfl, ⟨rfl, rfl⟩⟩
              refine Wp.regionSeq [(1, .tup [.one (vi x88), .one (vi 0)], [.obj [vi room, .row 1 ml.length ((o + (1 : Int).toNat)) ((((q : Nat) : Int) - 1).toNat) false], tr NI true ml])] [(0, xi room), (1, .y (.one (sv NI b nil capd l))), (5, .y (.one (.ptr 0 0))), (9, xi n), (12, xi ji), (13, xi x88), (14, xi 0)] [.obj [vi room, .row 1 ml.length ((o + (1 : Int).toNat)) ((((q : Nat) : Int) - 1).toNat) false], tr NI true ml]
                (cast (And.intro (ob_call (P := pg) (A := an) (H := [.obj [vi room, .row 1 ml.length o q false], tr NI true ml]) (g := 12) (vals := [.y (.one (.ptr 0 0))]) (xs0 := [.one (.ptr 0 0)]) (res := [.one (vi x88), .one (vi 0)]) (ats := #[]) (ty := 0) (v := .tup [.one (vi x88), .one (vi 0)]) (H' := [.obj [vi room, .row 1 ml.length ((o + (1 : Int).toNat)) ((((q : Nat) : Int) - 1).toNat) false], tr NI true ml]) [.tmp 0] (by kernel_rfl) (by kernel_rfl) hcall98 (by kernel_rfl)) trivial) (by kernel_rfl)) (by kernel_rfl) ?_
              refine Wp.regionSeq [(6, .y (.one (.rd ([vi x93] ++ (l.drop ((ji : Int).toNat + 1)).flatMap (enc NI)))), [.obj [vi room, .row 1 ml.length ((o + (1 : Int).toNat)) ((((q : Nat) : Int) - 1).toNat) false], tr NI true ml]), (8, xb false, [.obj [vi room, .row 1 ml.length ((o + (1 : Int).toNat)) ((((q : Nat) : Int) - 1).toNat) false], tr NI true ml])] [(0, xi room), (1, .y (.one (sv NI b nil capd l))), (5, .y (.one (.ptr 0 0))), (9, xi n), (12, xi ji), (84, xb false)] [.obj [vi room, .row 1 ml.length ((o + (1 : Int).toNat)) ((((q : Nat) : Int) - 1).toNat) false], tr NI true ml]
                (cast (And.intro (ob_index (P := pg) (A := an) (H := [.obj [vi room, .row 1 ml.length ((o + (1 : Int).toNat)) ((((q : Nat) : Int) - 1).toNat) false], tr NI true ml]) (s := NI) (b := b) (nil := nil) (capd := capd) (t := 22) (el := 3) (i := ji) Try.underlying22 (by kernel_rfl) (by kernel_rfl) (by omega) hx93) (And.intro (ob_raw (P := pg) (A := an) (vals := [xi x88, xi x93]) (H := [.obj [vi room, .row 1 ml.length ((o + (1 : Int).toNat)) ((((q : Nat) : Int) - 1).toNat) false], tr NI true ml]) (op := .binOp .neq 3 (.tmp 0) (.tmp 1) 3) (ty := 0) (r := xb ((x88 : Int) != x93)) (v := xb false) (by kernel_rfl) (congrArg (fun z => xb z) (bne_f (by omega)))) trivial)) (by kernel_rfl)) (by kernel_rfl) ?_
              refine Wp.condF (by kernel_rfl) ?_
              refine Wp.skip ?_
              refine Wp.region [(1, xi (ji + 1), [.obj [vi room, .row 1 ml.length ((o + (1 : Int).toNat)) ((((q : Nat) : Int) - 1).toNat) false], tr NI true ml])] [(0, xi room), (1, .y (.one (sv NI b nil capd l))), (5, .y (.one (.ptr 0 0))), (9, xi n), (12, xi (ji + 1))] [.obj [vi room, .row 1 ml.length ((o + (1 : Int).toNat)) ((((q : Nat) : Int) - 1).toNat) false], tr NI true ml]
                (cast (And.intro (ob_raw (P := pg) (A := an) (vals := [xi ji, xi 1]) (H := [.obj [vi room, .row 1 ml.length ((o + (1 : Int).toNat)) ((((q : Nat) : Int) - 1).toNat) false], tr NI true ml]) (op := .binOp .add 3 (.tmp 0) (.tmp 1) 3) (ty := 0) (r := xi (IntKind.wrap .i64 (ji + 1))) (v := xi (ji + 1)) (by kernel_rfl) (congrArg (fun z => xi z) ((wrap64 (by omega)).trans (by omega)))) trivial) (by kernel_rfl)) (by kernel_rfl) ?_
              exact ⟨((ji + 1), (o + (1 : Int).toNat), (((q : Nat) : Int) - 1).toNat), by kernel_rfl, (by refine ⟨?_, ?_, ?_, ?_⟩ <;> omega), (by show (_ : Nat) < _; simp only []; omega)⟩
            ·
              refine Wp.regionSeq [(2, xb false, [.obj [vi room, .row 1 ml.length o q false], tr NI true ml])] [(0, xi room), (1, .y (.one (sv NI b nil capd l))), (5, .y (.one (.ptr 0 0))), (9, xi n), (12, xi ji), (67, xb false)] [.obj [vi room, .row 1 ml.length o q false], tr NI true ml]
                (cast (And.intro (ob_raw (P := pg) (A := an) (vals := [xi ji, xi n]) (H := [.obj [vi room, .row 1 ml.length o q false], tr NI true ml]) (op := .binOp .lss 3 (.tmp 0) (.tmp 1) 3) (ty := 0) (r := xb (decide ((ji : Int) < n))) (v := xb false) (by kernel_rfl) (congrArg (fun z => xb z) (decide_eq_false (by omega)))) trivial) (by kernel_rfl)) (by kernel_rfl) ?_
              refine Wp.condF (by kernel_rfl) ?_
              refine Wp.exit ?_
              refine Eq.mpr (if_pos rfl) ?_
              have hcall103 : Runs pg an 12 [.one (.ptr 0 0)] [.obj [vi room, .row 1 ml.length o q false], tr NI true ml] [.one (vi 0), .one (vi 3)] [.obj [vi room, .row 1 ml.length o q false], tr NI true ml] := by
                refine runs_of ?_
                refine Runs.of (fn := Try.f12) Try.func12 rfl (by kernel_rfl) [(0, .y (.one (.ptr 0 0)))] (by kernel_rfl) ?_
                refine Wp.regionSeq [] [(0, .y (.one (.ptr 0 0)))] [.obj [vi room, .row 1 ml.length o q false], tr NI true ml]
                  (cast trivial (by kernel_rfl)) (by kernel_rfl) ?_
                have hcall104 : Runs pg an 26 [.one (.ptr 0 0), .one (vi 0)] [.obj [vi room, .row 1 ml.length o q false], tr NI true ml] [.one (vi 0), .one (vi 3)] [.obj [vi room, .row 1 ml.length o q false], tr NI true ml] := by
                  refine runs_of ?_
                  refine Runs.of (fn := Try.f26) Try.func26 rfl (by kernel_rfl) [(0, .y (.one (.ptr 0 0))), (1, xi 0)] (by kernel_rfl) ?_
                  refine Wp.regionSeq [] [(0, .y (.one (.ptr 0 0))), (1, xi 0)] [.obj [vi room, .row 1 ml.length o q false], tr NI true ml]
                    (cast trivial (by kernel_rfl)) (by kernel_rfl) ?_
                  refine Wp.seq ?_
                  have hcall105 : Runs pg an 25 [.one (.ptr 0 0), .one (vi 0)] [.obj [vi room, .row 1 ml.length o q false], tr NI true ml] [.one (vi 0), .one (vi 3)] [.obj [vi room, .row 1 ml.length o q false], tr NI true ml] := by
                    refine runs_of ?_
                    refine Runs.of (fn := Try.f25) Try.func25 rfl (by kernel_rfl) [(0, .y (.one (.ptr 0 0))), (1, xi 0)] (by kernel_rfl) ?_
                    refine Wp.regionSeq [] [(0, .y (.one (.ptr 0 0))), (1, xi 0), (4, xi 0)] [.obj [vi room, .row 1 ml.length o q false], tr NI true ml]
                      (cast trivial (by kernel_rfl)) (by kernel_rfl) ?_
                    refine Wp.seq ?_
                    have hcall106 : Runs pg an 27 [.one (.ptr 0 0)] [.obj [vi room, .row 1 ml.length o q false], tr NI true ml] [.one (vb true)] [.obj [vi room, .row 1 ml.length o q false], tr NI true ml] := by
                      refine runs_of ?_
                      refine Runs.of (fn := Try.f27) Try.func27 rfl (by kernel_rfl) [(0, .y (.one (.ptr 0 0)))] (by kernel_rfl) ?_
                      refine Wp.regionSeq [] [(0, .y (.one (.ptr 0 0)))] [.obj [vi room, .row 1 ml.length o q false], tr NI true ml]
                        (cast trivial (by kernel_rfl)) (by kernel_rfl) ?_
                      refine Wp.regionSeq [(7, xb true, [.obj [vi room, .row 1 ml.length o q false], tr NI true ml])] [(2, xb true)] [.obj [vi room, .row 1 ml.length o q false], tr NI true ml]
                        (cast (And.intro (ob_raw (P := pg) (A := an) (vals := [xi room, xi 0]) (H := [.obj [vi room, .row 1 ml.length o q false], tr NI true ml]) (op := .binOp .gtr 3 (.tmp 0) (.tmp 1) 3) (ty := 0) (r := xb (decide ((room : Int) > 0))) (v := xb true) (by kernel_rfl) (congrArg (fun z => xb z) (decide_eq_true (by omega)))) trivial) (by kernel_rfl)) (by kernel_rfl) ?_
                      refine Wp.ret ?_
                      exact ⟨Or.inr rfl, [.one (vb true)], by kernel_rfl, ⟨rfl, rfl⟩⟩
                    refine Wp.regionSeq [(1, xb true, [.obj [vi room, .row 1 ml.length o q false], tr NI true ml])] [(0, .y (.one (.ptr 0 0))), (1, xi 0), (4, xi 0), (8, xb false)] [.obj [vi room, .row 1 ml.length o q false], tr NI true ml]
                      (cast (And.intro (ob_call (P := pg) (A := an) (H := [.obj [vi room, .row 1 ml.length o q false], tr NI true ml]) (g := 27) (vals := [.y (.one (.ptr 0 0))]) (xs0 := [.one (.ptr 0 0)]) (res := [.one (vb true)]) (ats := #[]) (ty := 0) (v := xb true) (H' := [.obj [vi room, .row 1 ml.length o q false], tr NI true ml]) [.tmp 0] (by kernel_rfl) (by kernel_rfl) hcall106 (by kernel_rfl)) trivial) (by kernel_rfl)) (by kernel_rfl) ?_
                    refine Wp.condF (by kernel_rfl) ?_
                    refine Wp.skip ?_
                    refine Wp.seq ?_
                    refine Wp.regionSeq [(8, xi (q : Int), [.obj [vi room, .row 1 ml.length o q false], tr NI true ml]), (9, xb true, [.obj [vi room, .row 1 ml.length o q false], tr NI true ml])] [(0, .y (.one (.ptr 0 0))), (1, xi 0), (4, xi 0), (20, xb true)] [.obj [vi room, .row 1 ml.length o q false], tr NI true ml]
                      (cast (And.intro (ob_len_row (P := pg) (A := an) (H := [.obj [vi room, .row 1 ml.length o q false], tr NI true ml]) (s := NI) (t := 22) (ty := 0) (pu := true) (capd := false) (id := 1) (off := o) (n := q) (l := ml) (e := (q : Int)) (by kernel_rfl) (by kernel_rfl) (by first | omega | (simp; done) | (simp; omega))) (And.intro (ob_raw (P := pg) (A := an) (vals := [xi 0, xi (q : Int)]) (H := [.obj [vi room, .row 1 ml.length o q false], tr NI true ml]) (op := .binOp .geq 3 (.tmp 0) (.tmp 1) 3) (ty := 0) (r := xb (decide ((0 : Int) ≥ (q : Int)))) (v := xb true) (by kernel_rfl) (congrArg (fun z => xb z) (decide_eq_true (by omega)))) trivial)) (by kernel_rfl)) (by kernel_rfl) ?_
                    refine Wp.condT (by kernel_rfl) ?_
                    refine Wp.regionSeq [] [(4, xi 0), (5, xi 3)] [.obj [vi room, .row 1 ml.length o q false], tr NI true ml]
                      (cast trivial (by kernel_rfl)) (by kernel_rfl) ?_
                    refine Wp.ret ?_
                    exact ⟨Or.inr rfl, [.one (vi 0), .one (vi 3)], by kernel_rfl, ⟨rfl, rfl⟩⟩
                  refine Wp.regionSeq [(2, .tup [.one (vi 0), .one (vi 3)], [.obj [vi room, .row 1 ml.length o q false], tr NI true ml])] [(0, .y (.one (.ptr 0 0))), (1, xi 0), (4, xi 0), (5, xi 3)] [.obj [vi room, .row 1 ml.length o q false], tr NI true ml]
                    (cast (And.intro (ob_call (P := pg) (A := an) (H := [.obj [vi room, .row 1 ml.length o q false], tr NI true ml]) (g := 25) (vals := [.y (.one (.ptr 0 0)), xi 0]) (xs0 := [.one (.ptr 0 0), .one (vi 0)]) (res := [.one (vi 0), .one (vi 3)]) (ats := #[]) (ty := 0) (v := .tup [.one (vi 0), .one (vi 3)]) (H' := [.obj [vi room, .row 1 ml.length o q false], tr NI true ml]) [.tmp 0, .tmp 1] (by kernel_rfl) (by kernel_rfl) hcall105 (by kernel_rfl)) trivial) (by kernel_rfl)) (by kernel_rfl) ?_
                  refine Wp.regionSeq [] [(0, .y (.one (.ptr 0 0))), (1, xi 0), (4, xi 0), (5, xi 3), (13, xb true)] [.obj [vi room, .row 1 ml.length o q false], tr NI true ml]
                    (cast trivial (by kernel_rfl)) (by kernel_rfl) ?_
                  refine Wp.condT (by kernel_rfl) ?_
                  refine Wp.regionSeq [] [(4, xi 0), (5, xi 3)] [.obj [vi room, .row 1 ml.length o q false], tr NI true ml]
                    (cast trivial (by kernel_rfl)) (by kernel_rfl) ?_
                  refine Wp.ret ?_
                  exact ⟨Or.inr rfl, [.one (vi 0), .one (vi 3)], by kernel_rfl, ⟨rfl, rfl⟩⟩
                refine Wp.regionSeq [(1, .tup [.one (vi 0), .one (vi 3)], [.obj [vi room, .row 1 ml.length o q false], tr NI true ml])] [(2, xi 0), (3, xi 3)] [.obj [vi room, .row 1 ml.length o q false], tr NI true ml]
                  (cast (And.intro (ob_call (P := pg) (A := an) (H := [.obj [vi room, .row 1 ml.length o q false], tr NI true ml]) (g := 26) (vals := [.y (.one (.ptr 0 0)), xi 0]) (xs0 := [.one (.ptr 0 0), .one (vi 0)]) (res := [.one (vi 0), .one (vi 3)]) (ats := #[]) (ty := 0) (v := .tup [.one (vi 0), .one (vi 3)]) (H' := [.obj [vi room, .row 1 ml.length o q false], tr NI true ml]) [.tmp 0, .tmp 1] (by kernel_rfl) (by kernel_rfl) hcall104 (by kernel_rfl)) trivial) (by kernel_rfl)) (by kernel_rfl) ?_
                refine Wp.ret ?_
                exact ⟨Or.inr rfl, [.one (vi 0), .one (vi 3)], by kernel_rfl, ⟨rfl, rfl⟩⟩
              refine Wp.regionSeq [(1, .tup [.one (vi 0), .one (vi 3)], [.obj [vi room, .row 1 ml.length o q false], tr NI true ml])] [(0, xi room), (5, .y (.one (.ptr 0 0))), (16, xi 3)] [.obj [vi room, .row 1 ml.length o q false], tr NI true ml]
                (cast (And.intro (ob_call (P := pg) (A := an) (H := [.obj [vi room, .row 1 ml.length o q false], tr NI true ml]) (g := 12) (vals := [.y (.one (.ptr 0 0))]) (xs0 := [.one (.ptr 0 0)]) (res := [.one (vi 0), .one (vi 3)]) (ats := #[]) (ty := 0) (v := .tup [.one (vi 0), .one (vi 3)]) (H' := [.obj [vi room, .row 1 ml.length o q false], tr NI true ml]) [.tmp 0] (by kernel_rfl) (by kernel_rfl) hcall103 (by kernel_rfl)) trivial) (by kernel_rfl)) (by kernel_rfl) ?_
              have hcall107 : Runs pg an 13 [.one (.ptr 0 0)] [.obj [vi room, .row 1 ml.length o q false], tr NI true ml] [.one (vi (q : Int))] [.obj [vi room, .row 1 ml.length o q false], tr NI true ml] := by
                refine runs_of ?_
                refine Runs.of (fn := Try.f13) Try.func13 rfl (by kernel_rfl) [(0, .y (.one (.ptr 0 0)))] (by kernel_rfl) ?_
                refine Wp.regionSeq [] [(0, .y (.one (.ptr 0 0)))] [.obj [vi room, .row 1 ml.length o q false], tr NI true ml]
                  (cast trivial (by kernel_rfl)) (by kernel_rfl) ?_
                refine Wp.seq ?_
                have hcall108 : Runs pg an 27 [.one (.ptr 0 0)] [.obj [vi room, .row 1 ml.length o q false], tr NI true ml] [.one (vb true)] [.obj [vi room, .row 1 ml.length o q false], tr NI true ml] := by
                  refine runs_of ?_
                  refine Runs.of (fn := Try.f27) Try.func27 rfl (by kernel_rfl) [(0, .y (.one (.ptr 0 0)))] (by kernel_rfl) ?_
                  refine Wp.regionSeq [] [(0, .y (.one (.ptr 0 0)))] [.obj [vi room, .row 1 ml.length o q false], tr NI true ml]
                    (cast trivial (by kernel_rfl)) (by kernel_rfl) ?_
                  refine Wp.regionSeq [(7, xb true, [.obj [vi room, .row 1 ml.length o q false], tr NI true ml])] [(2, xb true)] [.obj [vi room, .row 1 ml.length o q false], tr NI true ml]
                    (cast (And.intro (ob_raw (P := pg) (A := an) (vals := [xi room, xi 0]) (H := [.obj [vi room, .row 1 ml.length o q false], tr NI true ml]) (op := .binOp .gtr 3 (.tmp 0) (.tmp 1) 3) (ty := 0) (r := xb (decide ((room : Int) > 0))) (v := xb true) (by kernel_rfl) (congrArg (fun z => xb z) (decide_eq_true (by omega)))) trivial) (by kernel_rfl)) (by kernel_rfl) ?_
                  refine Wp.ret ?_
                  exact ⟨Or.inr rfl, [.one (vb true)], by kernel_rfl, ⟨rfl, rfl⟩⟩
                refine Wp.regionSeq [(1, xb true, [.obj [vi room, .row 1 ml.length o q false], tr NI true ml])] [(0, .y (.one (.ptr 0 0))), (5, xb false)] [.obj [vi room, .row 1 ml.length o q false], tr NI true ml]
                  (cast (And.intro (ob_call (P := pg) (A := an) (H := [.obj [vi room, .row 1 ml.length o q false], tr NI true ml]) (g := 27) (vals := [.y (.one (.ptr 0 0))]) (xs0 := [.one (.ptr 0 0)]) (res := [.one (vb true)]) (ats := #[]) (ty := 0) (v := xb true) (H' := [.obj [vi room, .row 1 ml.length o q false], tr NI true ml]) [.tmp 0] (by kernel_rfl) (by kernel_rfl) hcall108 (by kernel_rfl)) trivial) (by kernel_rfl)) (by kernel_rfl) ?_
                refine Wp.condF (by kernel_rfl) ?_
                refine Wp.skip ?_
                refine Wp.regionSeq [(4, xi (q : Int), [.obj [vi room, .row 1 ml.length o q false], tr NI true ml])] [(2, xi (q : Int))] [.obj [vi room, .row 1 ml.length o q false], tr NI true ml]
                  (cast (And.intro (ob_len_row (P := pg) (A := an) (H := [.obj [vi room, .row 1 ml.length o q false], tr NI true ml]) (s := NI) (t := 22) (ty := 0) (pu := true) (capd := false) (id := 1) (off := o) (n := q) (l := ml) (e := (q : Int)) (by kernel_rfl) (by kernel_rfl) (by first | omega | (simp; done) | (simp; omega))) trivial) (by kernel_rfl)) (by kernel_rfl) ?_
                refine Wp.ret ?_
                exact ⟨Or.inr rfl, [.one (vi (q : Int))], by kernel_rfl, ⟨rfl, rfl⟩⟩
              have hcall109 : Runs pg an 14 [.one (.ptr 0 0)] [.obj [vi room, .row 1 ml.length o q false], tr NI true ml] [.one (vi (room - (q : Int)))] [.obj [vi room, .row 1 ml.length o q false], tr NI true ml] := by
                refine runs_of ?_
                refine Runs.of (fn := Try.f14) Try.func14 rfl (by kernel_rfl) [(0, .y (.one (.ptr 0 0)))] (by kernel_rfl) ?_
                refine Wp.regionSeq [] [(0, .y (.one (.ptr 0 0)))] [.obj [vi room, .row 1 ml.length o q false], tr NI true ml]
                  (cast trivial (by kernel_rfl)) (by kernel_rfl) ?_
                refine Wp.seq ?_
                have hcall110 : Runs pg an 27 [.one (.ptr 0 0)] [.obj [vi room, .row 1 ml.length o q false], tr NI true ml] [.one (vb true)] [.obj [vi room, .row 1 ml.length o q false], tr NI true ml] := by
                  refine runs_of ?_
                  refine Runs.of (fn := Try.f27) Try.func27 rfl (by kernel_rfl) [(0, .y (.one (.ptr 0 0)))] (by kernel_rfl) ?_
                  refine Wp.regionSeq [] [(0, .y (.one (.ptr 0 0)))] [.obj [vi room, .row 1 ml.length o q false], tr NI true ml]
                    (cast trivial (by kernel_rfl)) (by kernel_rfl) ?_
                  refine Wp.regionSeq [(7, xb true, [.obj [vi room, .row 1 ml.length o q false], tr NI true ml])] [(2, xb true)] [.obj [vi room, .row 1 ml.length o q false], tr NI true ml]
                    (cast (And.intro (ob_raw (P := pg) (A := an) (vals := [xi room, xi 0]) (H := [.obj [vi room, .row 1 ml.length o q false], tr NI true ml]) (op := .binOp .gtr 3 (.tmp 0) (.tmp 1) 3) (ty := 0) (r := xb (decide ((room : Int) > 0))) (v := xb true) (by kernel_rfl) (congrArg (fun z => xb z) (decide_eq_true (by omega)))) trivial) (by kernel_rfl)) (by kernel_rfl) ?_
                  refine Wp.ret ?_
                  exact ⟨Or.inr rfl, [.one (vb true)], by kernel_rfl, ⟨rfl, rfl⟩⟩
                refine Wp.regionSeq [(1, xb true, [.obj [vi room, .row 1 ml.length o q false], tr NI true ml])] [(0, .y (.one (.ptr 0 0))), (5, xb false)] [.obj [vi room, .row 1 ml.length o q false], tr NI true ml]
                  (cast (And.intro (ob_call (P := pg) (A := an) (H := [.obj [vi room, .row 1 ml.length o q false], tr NI true ml]) (g := 27) (vals := [.y (.one (.ptr 0 0))]) (xs0 := [.one (.ptr 0 0)]) (res := [.one (vb true)]) (ats := #[]) (ty := 0) (v := xb true) (H' := [.obj [vi room, .row 1 ml.length o q false], tr NI true ml]) [.tmp 0] (by kernel_rfl) (by kernel_rfl) hcall110 (by kernel_rfl)) trivial) (by kernel_rfl)) (by kernel_rfl) ?_
                refine Wp.condF (by kernel_rfl) ?_
                refine Wp.skip ?_
                refine Wp.regionSeq [(8, xi (q : Int), [.obj [vi room, .row 1 ml.length o q false], tr NI true ml]), (9, xi (room - (q : Int)), [.obj [vi room, .row 1 ml.length o q false], tr NI true ml])] [(2, xi (room - (q : Int)))] [.obj [vi room, .row 1 ml.length o q false], tr NI true ml]
                  (cast (And.intro (ob_len_row (P := pg) (A := an) (H := [.obj [vi room, .row 1 ml.length o q false], tr NI true ml]) (s := NI) (t := 22) (ty := 0) (pu := true) (capd := false) (id := 1) (off := o) (n := q) (l := ml) (e := (q : Int)) (by kernel_rfl) (by kernel_rfl) (by first | omega | (simp; done) | (simp; omega))) (And.intro (ob_raw (P := pg) (A := an) (vals := [xi room, xi (q : Int)]) (H := [.obj [vi room, .row 1 ml.length o q false], tr NI true ml]) (op := .binOp .sub 3 (.tmp 0) (.tmp 1) 3) (ty := 0) (r := xi (IntKind.wrap .i64 (room - (q : Int)))) (v := xi (room - (q : Int))) (by kernel_rfl) (congrArg (fun z => xi z) ((wrap64 (by omega)).trans (by omega)))) trivial)) (by kernel_rfl)) (by kernel_rfl) ?_
                refine Wp.ret ?_
                exact ⟨Or.inr rfl, [.one (vi (room - (q : Int)))], by kernel_rfl, ⟨rfl, rfl⟩⟩
              refine Wp.regionSeq [(4, xi (q : Int), [.obj [vi room, .row 1 ml.length o q false], tr NI true ml]), (5, xb true, [.obj [vi room, .row 1 ml.length o q false], tr NI true ml]), (9, xi (room - (q : Int)), [.obj [vi room, .row 1 ml.length o q false], tr NI true ml]), (11, xb true, [.obj [vi room, .row 1 ml.length o q false], tr NI true ml]), (14, xb true, [.obj [vi room, .row 1 ml.length o q false], tr NI true ml])] [(4, xb true)] [.obj [vi room, .row 1 ml.length o q false], tr NI true ml]
                (cast (And.intro (ob_call (P := pg) (A := an) (H := [.obj [vi room, .row 1 ml.length o q false], tr NI true ml]) (g := 13) (vals := [.y (.one (.ptr 0 0))]) (xs0 := [.one (.ptr 0 0)]) (res := [.one (vi (q : Int))]) (ats := #[]) (ty := 0) (v := xi (q : Int)) (H' := [.obj [vi room, .row 1 ml.length o q false], tr NI true ml]) [.tmp 0] (by kernel_rfl) (by kernel_rfl) hcall107 (by kernel_rfl)) (And.intro (ob_raw (P := pg) (A := an) (vals := [xi (q : Int), xi 0]) (H := [.obj [vi room, .row 1 ml.length o q false], tr NI true ml]) (op := .binOp .eql 3 (.tmp 0) (.tmp 1) 3) (ty := 0) (r := xb (((q : Int) : Int) == 0)) (v := xb true) (by kernel_rfl) (congrArg (fun z => xb z) (beq_t (by omega)))) (And.intro (ob_call (P := pg) (A := an) (H := [.obj [vi room, .row 1 ml.length o q false], tr NI true ml]) (g := 14) (vals := [.y (.one (.ptr 0 0))]) (xs0 := [.one (.ptr 0 0)]) (res := [.one (vi (room - (q : Int)))]) (ats := #[]) (ty := 0) (v := xi (room - (q : Int))) (H' := [.obj [vi room, .row 1 ml.length o q false], tr NI true ml]) [.tmp 0] (by kernel_rfl) (by kernel_rfl) hcall109 (by kernel_rfl)) (And.intro (ob_raw (P := pg) (A := an) (vals := [xi (room - (q : Int)), xi room]) (H := [.obj [vi room, .row 1 ml.length o q false], tr NI true ml]) (op := .binOp .eql 3 (.tmp 0) (.tmp 1) 3) (ty := 0) (r := xb (((room - (q : Int)) : Int) == room)) (v := xb true) (by kernel_rfl) (congrArg (fun z => xb z) (beq_t (by omega)))) (And.intro (ob_pure (P := pg) (A := an) (H := [.obj [vi room, .row 1 ml.length o q false], tr NI true ml]) (g := 10) (vals := []) (xs0 := []) (xs1 := []) (res := [.one (vb true)]) (ats := #[]) (ty := 0) (v := xb true) [] (by kernel_rfl) (by kernel_rfl) (by kernel_rfl) fn10 (by kernel_rfl)) trivial))))) (by kernel_rfl)) (by kernel_rfl) ?_
              refine Wp.ret ?_
              exact ⟨Or.inr rfl, [.one (vb true)], by kernel_rfl, rfl⟩
end Go.Proofs.Ytpoaaggjgmdpdaa
