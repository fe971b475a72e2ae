/-
  Core: a new core. (Printed by sx/r18.py.)
-/
import Derived.Test.YtjdnhbnpdbpgbaaR18O
namespace Go.Proofs.Ytjdnhbnpdbpgbaa
open Go.Lg
set_option linter.unusedVariables false
set_option maxRecDepth 100000
set_option maxHeartbeats 8000000
set_option linter.unusedSimpArgs false
theorem load_nil (R : HP) (H : Go.Lg.Heap) (b nn0 cp : Bool) (S : List Int) (hs : On [R] H) (hsl : (S.length : Int) ≤ 4611686018427387904) (hnn : okW S = true → nn0 = false) : ∃ rs H', Runs pg an 8 [.one (sv NI b nn0 cp S), .one (vi 0), .agg [.sl false true true [] 0, .sl false true true [] 0, .sl false true true [] 0]] H rs H' ∧ ((okW S = false ∧ rs = [.one (.sc (.pointer none)), .one (vi 20)] ∧ On [R] H') ∨ (okW S = true ∧ ∃ c ks q0 q1 q2, rs = [.one (.ptr c 0), .one (vi 0)] ∧ On [R, pts c (.obj [rowC ks 0 S.length 0 S.length false, vi 0, .ptr q0 0, .ptr q1 0, .ptr q2 0]), pts ks (rowO NI true 0 S), ringP EN q0 64 ([] : List EN.T), ringP EN q1 64 ([] : List EN.T), ringP EN q2 64 ([] : List EN.T)] H')) := by
 refine Runs.of (fn := Try.f8) Try.func8 rfl (by kernel_rfl) [(0, .y (.one (sv NI b nn0 cp S))), (1, xi 0), (2, .y (.agg [.sl false true true [] 0, .sl false true true [] 0, .sl false true true [] 0]))] (by kernel_rfl) ?_
 obtain ⟨n1, hn1⟩ : ∃ n, n = List.length (H : Go.Lg.Heap) := ⟨_, rfl⟩
 refine Wp.regionSeq [(0, .y (.one (.ptr n1 0)), (H ++ [.obj [.sl false true true [] 0, .sl false true true [] 0, .sl false true true [] 0]]))] [(0, .y (.one (sv NI b nn0 cp S))), (1, xi 0), (5, .y (.one (.ptr n1 0)))] (H ++ [.obj [.sl false true true [] 0, .sl false true true [] 0, .sl false true true [] 0]])
   (cast (And.intro (ob_box (P := pg) (A := an) (H := H) (t := 24) (ty := 0) (n := n1) (v := .agg [.sl false true true [] 0, .sl false true true [] 0, .sl false true true [] 0]) (cs := [.sl false true true [] 0, .sl false true true [] 0, .sl false true true [] 0]) hn1 (by kernel_rfl) (by kernel_rfl) (by kernel_rfl)) trivial) (by kernel_rfl)) (by kernel_rfl) ?_
 refine Wp.gen (cs := [R, pts n1 (.obj [.sl false true true [] 0, .sl false true true [] 0, .sl false true true [] 0])]) (On.new' hn1 (.obj [.sl false true true [] 0, .sl false true true [] 0, .sl false true true [] 0]) hs) ?_
 intro H2 hs3
 refine Wp.seq ?_
 rcases Bool.eq_false_or_eq_true ((okW S)) with c4 | c4
 ·
  have hk5 := okW_len c4
  obtain rfl : nn0 = false := hnn c4
  refine Wp.regionSeq [(1, xi 0, H2)] [(0, .y (.one (sv NI b false cp S))), (1, xi 0), (5, .y (.one (.ptr n1 0))), (8, xi 0)] H2
    (cast (And.intro (ob_pure (P := pg) (A := an) (H := H2) (g := 25) (vals := [.y (.one (sv NI b false cp S))]) (xs0 := [.one (sv NI b false cp S)]) (xs1 := [.one (sv NI b false cp S)]) (res := [.one (vi 0)]) (ats := #[]) (ty := 0) (v := xi 0) [.tmp 0] (by kernel_rfl) (by kernel_rfl) (snap_cons (by kernel_rfl) (snap_nil)) (by have := wcheck b false cp S (by omega); rw [c4] at this; exact this) (by kernel_rfl)) trivial) (by kernel_rfl)) (by kernel_rfl) ?_
  refine Wp.regionSeq [] [(0, .y (.one (sv NI b false cp S))), (1, xi 0), (5, .y (.one (.ptr n1 0))), (8, xi 0), (21, xb false)] H2
    (cast trivial (by kernel_rfl)) (by kernel_rfl) ?_
  refine Wp.condF (by kernel_rfl) ?_
  refine Wp.skip ?_
  obtain ⟨n6, hn6⟩ : ∃ n, n = List.length (H2 : Go.Lg.Heap) := ⟨_, rfl⟩
  refine Wp.regionSeq [(0, .y (.one (.mp n6)), (H2 ++ [cntO PN (ones ([] : List PN.T))]))] [(0, .y (.one (sv NI b false cp S))), (1, xi 0), (5, .y (.one (.ptr n1 0))), (9, .y (.one (.mp n6)))] (H2 ++ [cntO PN (ones ([] : List PN.T))])
    (cast (And.intro (ob_cnt_make (P := pg) (A := an) (H := H2) (s := PN) (t := 77) (ty := 0) (n := n6) hn6 (by kernel_rfl)) trivial) (by kernel_rfl)) (by kernel_rfl) ?_
  refine Wp.gen (cs := [R, pts n1 (.obj [.sl false true true [] 0, .sl false true true [] 0, .sl false true true [] 0]), pts n6 (cntO PN (ones ([] : List PN.T)))]) (On.new' hn6 (cntO PN (ones ([] : List PN.T))) hs3) ?_
  intro H7 hs8
  refine Wp.regionSeq [] [(0, .y (.one (sv NI b false cp S))), (1, xi 0), (5, .y (.one (.ptr n1 0))), (9, .y (.one (.mp n6))), (10, xb false)] H7
    (cast trivial (by kernel_rfl)) (by kernel_rfl) ?_
  refine Wp.seq ?_
  refine Wp.regionSeq [(0, .y (.agg [.sl false true true [] 0, .sl false true true [] 0, .sl false true true [] 0]), H7)] [(0, .y (.one (sv NI b false cp S))), (1, xi 0), (5, .y (.one (.ptr n1 0))), (9, .y (.one (.mp n6))), (10, xb false), (24, .y (.agg [.sl false true true [] 0, .sl false true true [] 0, .sl false true true [] 0])), (25, xi 0)] H7
    (cast (And.intro (ob_load_ptr (P := pg) (A := an) (H := H7) (t := 24) (ty := 0) (id := n1) (off := 0) (n := 3) (cs := [.sl false true true [] 0, .sl false true true [] 0, .sl false true true [] 0]) (cs' := [.sl false true true [] 0, .sl false true true [] 0, .sl false true true [] 0]) (v := .agg [.sl false true true [] 0, .sl false true true [] 0, .sl false true true [] 0]) (On.at hs8 1 rfl) (by kernel_rfl) (by kernel_rfl) (by kernel_rfl) (by kernel_rfl)) trivial) (by kernel_rfl)) (by kernel_rfl) ?_
  refine Wp.block ?_
  refine Wp.loopU [(0, .y (.one (sv NI b false cp S))), (1, xi 0), (5, .y (.one (.ptr n1 0))), (9, .y (.one (.mp n6))), (10, xb false), (24, .y (.agg [.sl false true true [] 0, .sl false true true [] 0, .sl false true true [] 0])), (25, xi 0)] (some ([0, 1, 5, 9, 10, 24, 25], false)) (List.length H7) (by kernel_rfl) ?_
  refine WpL.step ?_
  refine Wp.regionSeq [] [(0, .y (.one (sv NI b false cp S))), (1, xi 0), (5, .y (.one (.ptr n1 0))), (9, .y (.one (.mp n6))), (10, xb false), (24, .y (.agg [.sl false true true [] 0, .sl false true true [] 0, .sl false true true [] 0])), (25, xi 0), (26, xb true)] H7
    (cast trivial (by kernel_rfl)) (by kernel_rfl) ?_
  refine Wp.seq ?_
  refine Wp.condT (by kernel_rfl) ?_
  refine Wp.skip ?_
  refine Wp.seq ?_
  refine Wp.block ?_
  refine Wp.regionSeq [] [(0, .y (.one (sv NI b false cp S))), (1, xi 0), (5, .y (.one (.ptr n1 0))), (9, .y (.one (.mp n6))), (10, xb false), (12, .y (.one (.sl false true true [] 0))), (24, .y (.agg [.sl false true true [] 0, .sl false true true [] 0, .sl false true true [] 0])), (25, xi 0)] H7
    (cast trivial (by kernel_rfl)) (by kernel_rfl) ?_
  refine Wp.regionSeq [] [(0, .y (.one (sv NI b false cp S))), (1, xi 0), (5, .y (.one (.ptr n1 0))), (9, .y (.one (.mp n6))), (10, xb false), (12, .y (.one (.sl false true true [] 0))), (24, .y (.agg [.sl false true true [] 0, .sl false true true [] 0, .sl false true true [] 0])), (25, xi 0)] H7
    (cast trivial (by kernel_rfl)) (by kernel_rfl) ?_
  refine Wp.regionSeq [] [(0, .y (.one (sv NI b false cp S))), (1, xi 0), (5, .y (.one (.ptr n1 0))), (9, .y (.one (.mp n6))), (10, xb false), (24, .y (.agg [.sl false true true [] 0, .sl false true true [] 0, .sl false true true [] 0])), (25, xi 0), (34, .y (.one (.sl false true true [] 0))), (35, xi 0), (36, xi 0)] H7
    (cast trivial (by kernel_rfl)) (by kernel_rfl) ?_
  refine Wp.block ?_
  refine Wp.loopU [(0, .y (.one (sv NI b false cp S))), (1, xi 0), (5, .y (.one (.ptr n1 0))), (9, .y (.one (.mp n6))), (10, xb false), (24, .y (.agg [.sl false true true [] 0, .sl false true true [] 0, .sl false true true [] 0])), (25, xi 0), (34, .y (.one (.sl false true true [] 0))), (35, xi 0), (36, xi 0)] (some ([0, 1, 5, 9, 10, 24, 25, 34, 35, 36], false)) (List.length H7) (by kernel_rfl) ?_
  refine WpL.step ?_
  refine Wp.regionSeq [] [(0, .y (.one (sv NI b false cp S))), (1, xi 0), (5, .y (.one (.ptr n1 0))), (9, .y (.one (.mp n6))), (10, xb false), (24, .y (.agg [.sl false true true [] 0, .sl false true true [] 0, .sl false true true [] 0])), (25, xi 0), (34, .y (.one (.sl false true true [] 0))), (35, xi 0), (36, xi 0), (37, xb false)] H7
    (cast trivial (by kernel_rfl)) (by kernel_rfl) ?_
  refine Wp.seq ?_
  refine Wp.condF (by kernel_rfl) ?_
  refine Wp.exit ?_
  refine Eq.mpr (if_pos rfl) ?_
  refine Wp.region [] [(0, .y (.one (sv NI b false cp S))), (1, xi 0), (5, .y (.one (.ptr n1 0))), (9, .y (.one (.mp n6))), (10, xb false), (24, .y (.agg [.sl false true true [] 0, .sl false true true [] 0, .sl false true true [] 0])), (25, xi 1)] H7
    (cast trivial (by kernel_rfl)) (by kernel_rfl) ?_
  refine ⟨[(0, .y (.one (sv NI b false cp S))), (1, xi 0), (5, .y (.one (.ptr n1 0))), (9, .y (.one (.mp n6))), (10, xb false), (24, .y (.agg [.sl false true true [] 0, .sl false true true [] 0, .sl false true true [] 0])), (25, xi 1)], H7, by kernel_rfl, ?_⟩
  refine WpL.step ?_
  refine Wp.regionSeq [] [(0, .y (.one (sv NI b false cp S))), (1, xi 0), (5, .y (.one (.ptr n1 0))), (9, .y (.one (.mp n6))), (10, xb false), (24, .y (.agg [.sl false true true [] 0, .sl false true true [] 0, .sl false true true [] 0])), (25, xi 1), (26, xb true)] H7
    (cast trivial (by kernel_rfl)) (by kernel_rfl) ?_
  refine Wp.seq ?_
  refine Wp.condT (by kernel_rfl) ?_
  refine Wp.skip ?_
  refine Wp.seq ?_
  refine Wp.block ?_
  refine Wp.regionSeq [] [(0, .y (.one (sv NI b false cp S))), (1, xi 0), (5, .y (.one (.ptr n1 0))), (9, .y (.one (.mp n6))), (10, xb false), (12, .y (.one (.sl false true true [] 0))), (24, .y (.agg [.sl false true true [] 0, .sl false true true [] 0, .sl false true true [] 0])), (25, xi 1)] H7
    (cast trivial (by kernel_rfl)) (by kernel_rfl) ?_
  refine Wp.regionSeq [] [(0, .y (.one (sv NI b false cp S))), (1, xi 0), (5, .y (.one (.ptr n1 0))), (9, .y (.one (.mp n6))), (10, xb false), (12, .y (.one (.sl false true true [] 0))), (24, .y (.agg [.sl false true true [] 0, .sl false true true [] 0, .sl false true true [] 0])), (25, xi 1)] H7
    (cast trivial (by kernel_rfl)) (by kernel_rfl) ?_
  refine Wp.regionSeq [] [(0, .y (.one (sv NI b false cp S))), (1, xi 0), (5, .y (.one (.ptr n1 0))), (9, .y (.one (.mp n6))), (10, xb false), (24, .y (.agg [.sl false true true [] 0, .sl false true true [] 0, .sl false true true [] 0])), (25, xi 1), (34, .y (.one (.sl false true true [] 0))), (35, xi 0), (36, xi 0)] H7
    (cast trivial (by kernel_rfl)) (by kernel_rfl) ?_
  refine Wp.block ?_
  refine Wp.loopU [(0, .y (.one (sv NI b false cp S))), (1, xi 0), (5, .y (.one (.ptr n1 0))), (9, .y (.one (.mp n6))), (10, xb false), (24, .y (.agg [.sl false true true [] 0, .sl false true true [] 0, .sl false true true [] 0])), (25, xi 1), (34, .y (.one (.sl false true true [] 0))), (35, xi 0), (36, xi 0)] (some ([0, 1, 5, 9, 10, 24, 25, 34, 35, 36], false)) (List.length H7) (by kernel_rfl) ?_
  refine WpL.step ?_
  refine Wp.regionSeq [] [(0, .y (.one (sv NI b false cp S))), (1, xi 0), (5, .y (.one (.ptr n1 0))), (9, .y (.one (.mp n6))), (10, xb false), (24, .y (.agg [.sl false true true [] 0, .sl false true true [] 0, .sl false true true [] 0])), (25, xi 1), (34, .y (.one (.sl false true true [] 0))), (35, xi 0), (36, xi 0), (37, xb false)] H7
    (cast trivial (by kernel_rfl)) (by kernel_rfl) ?_
  refine Wp.seq ?_
  refine Wp.condF (by kernel_rfl) ?_
  refine Wp.exit ?_
  refine Eq.mpr (if_pos rfl) ?_
  refine Wp.region [] [(0, .y (.one (sv NI b false cp S))), (1, xi 0), (5, .y (.one (.ptr n1 0))), (9, .y (.one (.mp n6))), (10, xb false), (24, .y (.agg [.sl false true true [] 0, .sl false true true [] 0, .sl false true true [] 0])), (25, xi 2)] H7
    (cast trivial (by kernel_rfl)) (by kernel_rfl) ?_
  refine ⟨[(0, .y (.one (sv NI b false cp S))), (1, xi 0), (5, .y (.one (.ptr n1 0))), (9, .y (.one (.mp n6))), (10, xb false), (24, .y (.agg [.sl false true true [] 0, .sl false true true [] 0, .sl false true true [] 0])), (25, xi 2)], H7, by kernel_rfl, ?_⟩
  refine WpL.step ?_
  refine Wp.regionSeq [] [(0, .y (.one (sv NI b false cp S))), (1, xi 0), (5, .y (.one (.ptr n1 0))), (9, .y (.one (.mp n6))), (10, xb false), (24, .y (.agg [.sl false true true [] 0, .sl false true true [] 0, .sl false true true [] 0])), (25, xi 2), (26, xb true)] H7
    (cast trivial (by kernel_rfl)) (by kernel_rfl) ?_
  refine Wp.seq ?_
  refine Wp.condT (by kernel_rfl) ?_
  refine Wp.skip ?_
  refine Wp.seq ?_
  refine Wp.block ?_
  refine Wp.regionSeq [] [(0, .y (.one (sv NI b false cp S))), (1, xi 0), (5, .y (.one (.ptr n1 0))), (9, .y (.one (.mp n6))), (10, xb false), (12, .y (.one (.sl false true true [] 0))), (24, .y (.agg [.sl false true true [] 0, .sl false true true [] 0, .sl false true true [] 0])), (25, xi 2)] H7
    (cast trivial (by kernel_rfl)) (by kernel_rfl) ?_
  refine Wp.regionSeq [] [(0, .y (.one (sv NI b false cp S))), (1, xi 0), (5, .y (.one (.ptr n1 0))), (9, .y (.one (.mp n6))), (10, xb false), (12, .y (.one (.sl false true true [] 0))), (24, .y (.agg [.sl false true true [] 0, .sl false true true [] 0, .sl false true true [] 0])), (25, xi 2)] H7
    (cast trivial (by kernel_rfl)) (by kernel_rfl) ?_
  refine Wp.regionSeq [] [(0, .y (.one (sv NI b false cp S))), (1, xi 0), (5, .y (.one (.ptr n1 0))), (9, .y (.one (.mp n6))), (10, xb false), (24, .y (.agg [.sl false true true [] 0, .sl false true true [] 0, .sl false true true [] 0])), (25, xi 2), (34, .y (.one (.sl false true true [] 0))), (35, xi 0), (36, xi 0)] H7
    (cast trivial (by kernel_rfl)) (by kernel_rfl) ?_
  refine Wp.block ?_
  refine Wp.loopU [(0, .y (.one (sv NI b false cp S))), (1, xi 0), (5, .y (.one (.ptr n1 0))), (9, .y (.one (.mp n6))), (10, xb false), (24, .y (.agg [.sl false true true [] 0, .sl false true true [] 0, .sl false true true [] 0])), (25, xi 2), (34, .y (.one (.sl false true true [] 0))), (35, xi 0), (36, xi 0)] (some ([0, 1, 5, 9, 10, 24, 25, 34, 35, 36], false)) (List.length H7) (by kernel_rfl) ?_
  refine WpL.step ?_
  refine Wp.regionSeq [] [(0, .y (.one (sv NI b false cp S))), (1, xi 0), (5, .y (.one (.ptr n1 0))), (9, .y (.one (.mp n6))), (10, xb false), (24, .y (.agg [.sl false true true [] 0, .sl false true true [] 0, .sl false true true [] 0])), (25, xi 2), (34, .y (.one (.sl false true true [] 0))), (35, xi 0), (36, xi 0), (37, xb false)] H7
    (cast trivial (by kernel_rfl)) (by kernel_rfl) ?_
  refine Wp.seq ?_
  refine Wp.condF (by kernel_rfl) ?_
  refine Wp.exit ?_
  refine Eq.mpr (if_pos rfl) ?_
  refine Wp.region [] [(0, .y (.one (sv NI b false cp S))), (1, xi 0), (5, .y (.one (.ptr n1 0))), (9, .y (.one (.mp n6))), (10, xb false), (24, .y (.agg [.sl false true true [] 0, .sl false true true [] 0, .sl false true true [] 0])), (25, xi 3)] H7
    (cast trivial (by kernel_rfl)) (by kernel_rfl) ?_
  refine ⟨[(0, .y (.one (sv NI b false cp S))), (1, xi 0), (5, .y (.one (.ptr n1 0))), (9, .y (.one (.mp n6))), (10, xb false), (24, .y (.agg [.sl false true true [] 0, .sl false true true [] 0, .sl false true true [] 0])), (25, xi 3)], H7, by kernel_rfl, ?_⟩
  refine WpL.step ?_
  refine Wp.regionSeq [] [(0, .y (.one (sv NI b false cp S))), (1, xi 0), (5, .y (.one (.ptr n1 0))), (9, .y (.one (.mp n6))), (10, xb false), (24, .y (.agg [.sl false true true [] 0, .sl false true true [] 0, .sl false true true [] 0])), (25, xi 3), (26, xb false)] H7
    (cast trivial (by kernel_rfl)) (by kernel_rfl) ?_
  refine Wp.seq ?_
  refine Wp.condF (by kernel_rfl) ?_
  refine Wp.exit ?_
  refine Eq.mpr (if_pos rfl) ?_
  refine Wp.seq ?_
  refine Wp.block ?_
  refine Wp.regionSeq [(6, xb false, H7)] [(0, .y (.one (sv NI b false cp S))), (1, xi 0), (5, .y (.one (.ptr n1 0))), (10, xb false), (54, xb false)] H7
    (cast (And.intro (ob_raw (P := pg) (A := an) (vals := [xi 0, xi (S.length : Int)]) (H := H7) (op := .binOp .geq 3 (.tmp 0) (.tmp 1) 3) (ty := 0) (r := xb (decide ((0 : Int) ≥ (S.length : Int)))) (v := xb false) (by kernel_rfl) (congrArg (fun z => xb z) (decide_eq_false (by omega)))) trivial) (by kernel_rfl)) (by kernel_rfl) ?_
  refine Wp.condF (by kernel_rfl) ?_
  refine Wp.regionSeq [] [(0, .y (.one (sv NI b false cp S))), (1, xi 0), (5, .y (.one (.ptr n1 0))), (63, xb false)] H7
    (cast trivial (by kernel_rfl)) (by kernel_rfl) ?_
  refine Wp.condF (by kernel_rfl) ?_
  refine Wp.skip ?_
  obtain ⟨n10, hn10⟩ : ∃ n, n = List.length (H7 : Go.Lg.Heap) := ⟨_, rfl⟩
  obtain ⟨n12, hn12⟩ : ∃ n, n = List.length ((H7 ++ [rowO NI true 0 S]) : Go.Lg.Heap) := ⟨_, rfl⟩
  have hcall13 : Runs pg an 26 [.one (sv NI b false cp S)] H7 [.one (rowC n10 0 S.length 0 S.length false)] (H7 ++ [rowO NI true 0 S]) := by
   refine runs_of ?_
   refine Runs.of (fn := Try.f26) Try.func26 rfl (by kernel_rfl) [(0, .y (.one (sv NI b false cp S)))] (by kernel_rfl) ?_
   refine Wp.regionSeq [] [(0, .y (.one (sv NI b false cp S)))] H7
     (cast trivial (by kernel_rfl)) (by kernel_rfl) ?_
   refine Wp.seq ?_
   refine Wp.regionSeq [] [(0, .y (.one (sv NI b false cp S))), (4, xb false)] H7
     (cast trivial (by kernel_rfl)) (by kernel_rfl) ?_
   refine Wp.condF (by kernel_rfl) ?_
   refine Wp.skip ?_
   refine Wp.regionSeq [(2, .y (.one (rowC n10 0 S.length 0 S.length false)), (H7 ++ [rowO NI true 0 S]))] [(2, .y (.one (rowC n10 0 S.length 0 S.length false)))] (H7 ++ [rowO NI true 0 S])
     (cast (And.intro (or_append_new (P := pg) (A := an) (H := H7) (s := NI) (t := 22) (u := 22) (el := 3) (by_ := 8) (z := [vi 0]) (ty := 0) (b' := false) (nil' := false) (pu := true) (puy := true) (m := S.length) (n' := S.length) (k := n10) (nl := 0) (l := ([] : List Int)) (lm := S) (l' := S) (y := sv NI b false cp S) hn10 (by first | rfl | omega | (simp only [List.length_nil]; omega) | (simp; done) | (simp; omega)) (by kernel_rfl) (slCells_slO (H := H7) (s := NI) (b := b) (nil := false) (capd := cp) (l := S) (n := S.length) (by first | rfl | omega | (simp only [List.length_nil]; omega) | (simp; done) | (simp; omega))) (by kernel_rfl) (by kernel_rfl) (by kernel_rfl) (by kernel_rfl) (by kernel_rfl) (by kernel_rfl) (by kernel_rfl) (by first | rfl | omega | (simp only [List.length_nil]; omega) | (simp; done) | (simp; omega)) (by first | rfl | omega | (simp only [List.length_nil]; omega) | (simp; done) | (simp; omega)) (by omega) (by omega) (List.nil_append _) (by first | rfl | omega | (simp only [List.length_append, List.length_nil]; omega) | (simp; done) | (simp; omega))) trivial) (by kernel_rfl)) (by kernel_rfl) ?_
   refine Wp.ret ?_
   exact ⟨Or.inr rfl, [.one (rowC n10 0 S.length 0 S.length false)], (by kernel_rfl), ⟨rfl, rfl⟩⟩
  refine Wp.regionSeq [(1, .y (.one (rowC n10 0 S.length 0 S.length false)), (H7 ++ [rowO NI true 0 S])), (4, .y (.one (.ptr n12 0)), ((H7 ++ [rowO NI true 0 S]) ++ [.obj [rowC n10 0 S.length 0 S.length false, vi 0, .sc (.pointer none), .sc (.pointer none), .sc (.pointer none)]]))] [(5, .y (.one (.ptr n1 0))), (15, .y (.one (.ptr n12 0)))] ((H7 ++ [rowO NI true 0 S]) ++ [.obj [rowC n10 0 S.length 0 S.length false, vi 0, .sc (.pointer none), .sc (.pointer none), .sc (.pointer none)]])
    (cast (And.intro (ob_call (P := pg) (A := an) (H := H7) (g := 26) (vals := [.y (.one (sv NI b false cp S))]) (xs0 := [.one (sv NI b false cp S)]) (res := [.one (rowC n10 0 S.length 0 S.length false)]) (ats := #[]) (ty := 0) (v := .y (.one (rowC n10 0 S.length 0 S.length false))) (H' := (H7 ++ [rowO NI true 0 S])) [.tmp 0] (by kernel_rfl) (by kernel_rfl) hcall13 (by kernel_rfl)) (And.intro (ob_box (P := pg) (A := an) (H := (H7 ++ [rowO NI true 0 S])) (t := 83) (ty := 0) (n := n12) (v := .agg [rowC n10 0 S.length 0 S.length false, vi 0, .sc (.pointer none), .sc (.pointer none), .sc (.pointer none)]) (cs := [rowC n10 0 S.length 0 S.length false, vi 0, .sc (.pointer none), .sc (.pointer none), .sc (.pointer none)]) hn12 (by kernel_rfl) (by kernel_rfl) (by kernel_rfl)) trivial)) (by kernel_rfl)) (by kernel_rfl) ?_
  refine Wp.gen (cs := [R, pts n1 (.obj [.sl false true true [] 0, .sl false true true [] 0, .sl false true true [] 0]), pts n6 (cntO PN (ones ([] : List PN.T))), pts n10 (rowO NI true 0 S), pts n12 (.obj [rowC n10 0 S.length 0 S.length false, vi 0, .sc (.pointer none), .sc (.pointer none), .sc (.pointer none)])]) (On.new' hn12 (.obj [rowC n10 0 S.length 0 S.length false, vi 0, .sc (.pointer none), .sc (.pointer none), .sc (.pointer none)]) (On.new' hn10 (rowO NI true 0 S) hs8)) ?_
  intro H14 hs15
  refine Wp.seq ?_
  refine Wp.regionSeq [(0, .y (.agg [.sl false true true [] 0, .sl false true true [] 0, .sl false true true [] 0]), H14)] [(15, .y (.one (.ptr n12 0))), (70, .y (.agg [.sl false true true [] 0, .sl false true true [] 0, .sl false true true [] 0])), (71, xi 0)] H14
    (cast (And.intro (ob_load_ptr (P := pg) (A := an) (H := H14) (t := 24) (ty := 0) (id := n1) (off := 0) (n := 3) (cs := [.sl false true true [] 0, .sl false true true [] 0, .sl false true true [] 0]) (cs' := [.sl false true true [] 0, .sl false true true [] 0, .sl false true true [] 0]) (v := .agg [.sl false true true [] 0, .sl false true true [] 0, .sl false true true [] 0]) (On.at hs15 1 rfl) (by kernel_rfl) (by kernel_rfl) (by kernel_rfl) (by kernel_rfl)) trivial) (by kernel_rfl)) (by kernel_rfl) ?_
  refine Wp.block ?_
  refine Wp.loopU [(15, .y (.one (.ptr n12 0))), (70, .y (.agg [.sl false true true [] 0, .sl false true true [] 0, .sl false true true [] 0])), (71, xi 0)] (some ([15, 70, 71], false)) (List.length H14) (by kernel_rfl) ?_
  refine WpL.step ?_
  refine Wp.regionSeq [] [(15, .y (.one (.ptr n12 0))), (70, .y (.agg [.sl false true true [] 0, .sl false true true [] 0, .sl false true true [] 0])), (71, xi 0), (72, xb true)] H14
    (cast trivial (by kernel_rfl)) (by kernel_rfl) ?_
  refine Wp.seq ?_
  refine Wp.condT (by kernel_rfl) ?_
  refine Wp.skip ?_
  refine Wp.seq ?_
  refine Wp.block ?_
  refine Wp.regionSeq [] [(15, .y (.one (.ptr n12 0))), (16, xi 0), (17, .y (.one (.sl false true true [] 0))), (70, .y (.agg [.sl false true true [] 0, .sl false true true [] 0, .sl false true true [] 0])), (71, xi 0)] H14
    (cast trivial (by kernel_rfl)) (by kernel_rfl) ?_
  obtain ⟨n17, hn17⟩ : ∃ n, n = List.length (H14 : Go.Lg.Heap) := ⟨_, rfl⟩
  obtain ⟨_, H20, hr21, q19, rfl, hs22⟩ := new_ok _ ((H14 ++ [.obj [.sc (.pointer none)]]) : Go.Lg.Heap) (On.call [] [0, 1, 2, 3, 4, 5] (by kernel_rfl) (On.new' hn17 (.obj [.sc (.pointer none)]) hs15)) (room := 64) (by omega) (by omega)
  have hs22 : On [R, pts n1 (.obj [.sl false true true [] 0, .sl false true true [] 0, .sl false true true [] 0]), pts n6 (cntO PN (ones ([] : List PN.T))), pts n10 (rowO NI true 0 S), pts n12 (.obj [rowC n10 0 S.length 0 S.length false, vi 0, .sc (.pointer none), .sc (.pointer none), .sc (.pointer none)]), pts n17 (.obj [.sc (.pointer none)]), ringP EN q19 64 ([] : List EN.T)] H20 := On.flat hs22
  have hlfz24 : ((([] : List EN.T) ++ ([] : List EN.T)).length : Int) = 0 := by { first | rfl | omega | (simp only [List.length_nil]; omega) | (simp; done) | (simp; omega) }
  obtain ⟨_, H27, hr28, rfl, hs29⟩ := join_ok_s _ (H20 : Go.Lg.Heap) (On.call [6] [0, 1, 2, 3, 4, 5] (by kernel_rfl) hs22) (q := q19) (room := 64) (l := ([] : List EN.T)) (b := false) (nil := true) (cp := true) (m := ([] : List EN.T)) (by first | rfl | omega | (simp only [List.length_nil]; omega) | (simp; done) | (simp; omega))
  have hs29 : On [R, pts n1 (.obj [.sl false true true [] 0, .sl false true true [] 0, .sl false true true [] 0]), pts n6 (cntO PN (ones ([] : List PN.T))), pts n10 (rowO NI true 0 S), pts n12 (.obj [rowC n10 0 S.length 0 S.length false, vi 0, .sc (.pointer none), .sc (.pointer none), .sc (.pointer none)]), pts n17 (.obj [.sc (.pointer none)]), ringP EN q19 64 (([] : List EN.T) ++ ([] : List EN.T))] H27 := On.flat hs29
  have hcall30 : Runs pg an 27 [.one (.sl false true true [] 0)] H14 [.agg [.ptr q19 0]] (List.set (α := O) H27 n17 (.obj [.ptr q19 0])) := by
   refine runs_of ?_
   refine Runs.of (fn := Try.f27) Try.func27 rfl (by kernel_rfl) [(0, .y (.one (.sl false true true [] 0)))] (by kernel_rfl) ?_
   refine Wp.regionSeq [(0, .y (.one (.ptr n17 0)), (H14 ++ [.obj [.sc (.pointer none)]]))] [(0, .y (.one (.sl false true true [] 0))), (2, .y (.one (.ptr n17 0)))] (H14 ++ [.obj [.sc (.pointer none)]])
     (cast (And.intro (ob_alloc (P := pg) (A := an) (H := H14) (t := 80) (ty := 0) (n := n17) (cs := [.sc (.pointer none)]) hn17 (by kernel_rfl)) trivial) (by kernel_rfl)) (by kernel_rfl) ?_
   refine Wp.regionSeq [(0, .tup [.one (.ptr q19 0), .one (vi 0)], H20)] [(0, .y (.one (.sl false true true [] 0))), (2, .y (.one (.ptr n17 0))), (3, .y (.one (.ptr q19 0)))] H20
     (cast (And.intro (ob_call (P := pg) (A := an) (H := (H14 ++ [.obj [.sc (.pointer none)]])) (g := 51) (vals := [xi 64]) (xs0 := [.one (vi 64)]) (res := [.one (.ptr q19 0), .one (vi 0)]) (ats := #[]) (ty := 0) (v := .tup [.one (.ptr q19 0), .one (vi 0)]) (H' := H20) [.tmp 0] (by kernel_rfl) (by kernel_rfl) hr21 (by kernel_rfl)) trivial) (by kernel_rfl)) (by kernel_rfl) ?_
   refine Wp.regionSeq [(2, xi 0, H27)] [(2, .y (.one (.ptr n17 0))), (3, .y (.one (.ptr q19 0)))] H27
     (cast (And.intro (ob_call (P := pg) (A := an) (H := H20) (g := 44) (vals := [.y (.one (.ptr q19 0)), .y (.one (.sl false true true [] 0))]) (xs0 := [.one (.ptr q19 0), .one (.sl false true true [] 0)]) (res := [.one (vi 0)]) (ats := #[]) (ty := 0) (v := xi 0) (H' := H27) [.tmp 0, .tmp 1] (by kernel_rfl) (by kernel_rfl) hr28 (by kernel_rfl)) trivial) (by kernel_rfl)) (by kernel_rfl) ?_
   refine Wp.regionSeq [(2, .tup [], (List.set (α := O) H27 n17 (.obj [.ptr q19 0])))] [(2, .y (.one (.ptr n17 0)))] (List.set (α := O) H27 n17 (.obj [.ptr q19 0]))
     (cast (And.intro (ob_store_ptr (P := pg) (A := an) (H := H27) (t := 80) (ty := 0) (id := n17) (off := 0) (cs := [.sc (.pointer none)]) (cs' := [.ptr q19 0]) (v := .agg [.ptr q19 0]) (On.at hs29 5 rfl) (by kernel_rfl) (by kernel_rfl) (by kernel_rfl)) trivial) (by kernel_rfl)) (by kernel_rfl) ?_
   refine Wp.ret ?_
   exact ⟨Or.inr rfl, [.agg [.ptr q19 0]], (cast (res_cons (P := pg) (e := [(2, .y (.one (.ptr n17 0)))]) (H := (List.set (α := O) H27 n17 (.obj [.ptr q19 0]))) (res_cell (P := pg) (e := [(2, .y (.one (.ptr n17 0)))]) (H := (List.set (α := O) H27 n17 (.obj [.ptr q19 0]))) (a := 2) (t := 80) (id := n17) (off := 0) (n := 1) (cs := [.ptr q19 0]) (cs' := [.ptr q19 0]) (v := .agg [.ptr q19 0]) (by kernel_rfl) (by kernel_rfl) (On.at (On.put (.obj [.ptr q19 0]) hs29 5 rfl) 5 rfl) (by kernel_rfl) (by kernel_rfl) (by kernel_rfl)) res_nil) (by kernel_rfl)), ⟨rfl, rfl⟩⟩
  refine Wp.regionK [(3, .y (.agg [.ptr q19 0]), (List.set (α := O) H27 n17 (.obj [.ptr q19 0]))), (7, .tup [], (List.set (α := O) (List.set (α := O) H27 n17 (.obj [.ptr q19 0])) n12 (.obj [rowC n10 0 S.length 0 S.length false, vi 0, .ptr q19 0, .sc (.pointer none), .sc (.pointer none)])))] [(15, .y (.one (.ptr n12 0))), (70, .y (.agg [.sl false true true [] 0, .sl false true true [] 0, .sl false true true [] 0])), (71, xi 0)] (List.set (α := O) (List.set (α := O) H27 n17 (.obj [.ptr q19 0])) n12 (.obj [rowC n10 0 S.length 0 S.length false, vi 0, .ptr q19 0, .sc (.pointer none), .sc (.pointer none)]))
    (cast (And.intro (ob_call (P := pg) (A := an) (H := H14) (g := 27) (vals := [.y (.one (.sl false true true [] 0))]) (xs0 := [.one (.sl false true true [] 0)]) (res := [.agg [.ptr q19 0]]) (ats := #[]) (ty := 0) (v := .y (.agg [.ptr q19 0])) (H' := (List.set (α := O) H27 n17 (.obj [.ptr q19 0]))) [.tmp 0] (by kernel_rfl) (by kernel_rfl) hcall30 (by kernel_rfl)) (And.intro (ob_store_ptr (P := pg) (A := an) (H := (List.set (α := O) H27 n17 (.obj [.ptr q19 0]))) (t := 80) (ty := 0) (id := n12) (off := 2) (cs := [rowC n10 0 S.length 0 S.length false, vi 0, .sc (.pointer none), .sc (.pointer none), .sc (.pointer none)]) (cs' := [rowC n10 0 S.length 0 S.length false, vi 0, .ptr q19 0, .sc (.pointer none), .sc (.pointer none)]) (v := .agg [.ptr q19 0]) (On.at (On.put (.obj [.ptr q19 0]) hs29 5 rfl) 4 rfl) (by kernel_rfl) (by kernel_rfl) (by kernel_rfl)) trivial)) (by kernel_rfl)) (by kernel_rfl) ?_
  refine Wp.gen (cs := [R, pts n1 (.obj [.sl false true true [] 0, .sl false true true [] 0, .sl false true true [] 0]), pts n6 (cntO PN (ones ([] : List PN.T))), pts n10 (rowO NI true 0 S), pts n12 (.obj [rowC n10 0 S.length 0 S.length false, vi 0, .ptr q19 0, .sc (.pointer none), .sc (.pointer none)]), pts n17 (.obj [.ptr q19 0]), ringP EN q19 64 (([] : List EN.T) ++ ([] : List EN.T))]) (On.put (.obj [rowC n10 0 S.length 0 S.length false, vi 0, .ptr q19 0, .sc (.pointer none), .sc (.pointer none)]) (On.put (.obj [.ptr q19 0]) hs29 5 rfl) 4 rfl) ?_
  intro H31 hs32
  refine Wp.skip ?_
  refine Wp.region [] [(15, .y (.one (.ptr n12 0))), (70, .y (.agg [.sl false true true [] 0, .sl false true true [] 0, .sl false true true [] 0])), (71, xi 1)] H31
    (cast trivial (by kernel_rfl)) (by kernel_rfl) ?_
  refine ⟨[(15, .y (.one (.ptr n12 0))), (70, .y (.agg [.sl false true true [] 0, .sl false true true [] 0, .sl false true true [] 0])), (71, xi 1)], H31, by kernel_rfl, ?_⟩
  refine WpL.step ?_
  refine Wp.regionSeq [] [(15, .y (.one (.ptr n12 0))), (70, .y (.agg [.sl false true true [] 0, .sl false true true [] 0, .sl false true true [] 0])), (71, xi 1), (72, xb true)] H31
    (cast trivial (by kernel_rfl)) (by kernel_rfl) ?_
  refine Wp.seq ?_
  refine Wp.condT (by kernel_rfl) ?_
  refine Wp.skip ?_
  refine Wp.seq ?_
  refine Wp.block ?_
  refine Wp.regionSeq [] [(15, .y (.one (.ptr n12 0))), (16, xi 1), (17, .y (.one (.sl false true true [] 0))), (70, .y (.agg [.sl false true true [] 0, .sl false true true [] 0, .sl false true true [] 0])), (71, xi 1)] H31
    (cast trivial (by kernel_rfl)) (by kernel_rfl) ?_
  obtain ⟨n34, hn34⟩ : ∃ n, n = List.length (H31 : Go.Lg.Heap) := ⟨_, rfl⟩
  obtain ⟨_, H37, hr38, q36, rfl, hs39⟩ := new_ok _ ((H31 ++ [.obj [.sc (.pointer none)]]) : Go.Lg.Heap) (On.call [] [0, 1, 2, 3, 4, 5, 6, 7] (by kernel_rfl) (On.new' hn34 (.obj [.sc (.pointer none)]) hs32)) (room := 64) (by omega) (by omega)
  have hs39 : On [R, pts n1 (.obj [.sl false true true [] 0, .sl false true true [] 0, .sl false true true [] 0]), pts n6 (cntO PN (ones ([] : List PN.T))), pts n10 (rowO NI true 0 S), pts n12 (.obj [rowC n10 0 S.length 0 S.length false, vi 0, .ptr q19 0, .sc (.pointer none), .sc (.pointer none)]), pts n17 (.obj [.ptr q19 0]), ringP EN q19 64 (([] : List EN.T) ++ ([] : List EN.T)), pts n34 (.obj [.sc (.pointer none)]), ringP EN q36 64 ([] : List EN.T)] H37 := On.flat hs39
  obtain ⟨_, H42, hr43, rfl, hs44⟩ := join_ok_s _ (H37 : Go.Lg.Heap) (On.call [8] [0, 1, 2, 3, 4, 5, 6, 7] (by kernel_rfl) hs39) (q := q36) (room := 64) (l := ([] : List EN.T)) (b := false) (nil := true) (cp := true) (m := ([] : List EN.T)) (by first | rfl | omega | (simp only [List.length_nil]; omega) | (simp; done) | (simp; omega))
  have hs44 : On [R, pts n1 (.obj [.sl false true true [] 0, .sl false true true [] 0, .sl false true true [] 0]), pts n6 (cntO PN (ones ([] : List PN.T))), pts n10 (rowO NI true 0 S), pts n12 (.obj [rowC n10 0 S.length 0 S.length false, vi 0, .ptr q19 0, .sc (.pointer none), .sc (.pointer none)]), pts n17 (.obj [.ptr q19 0]), ringP EN q19 64 (([] : List EN.T) ++ ([] : List EN.T)), pts n34 (.obj [.sc (.pointer none)]), ringP EN q36 64 (([] : List EN.T) ++ ([] : List EN.T))] H42 := On.flat hs44
  have hcall45 : Runs pg an 27 [.one (.sl false true true [] 0)] H31 [.agg [.ptr q36 0]] (List.set (α := O) H42 n34 (.obj [.ptr q36 0])) := by
   refine runs_of ?_
   refine Runs.of (fn := Try.f27) Try.func27 rfl (by kernel_rfl) [(0, .y (.one (.sl false true true [] 0)))] (by kernel_rfl) ?_
   refine Wp.regionSeq [(0, .y (.one (.ptr n34 0)), (H31 ++ [.obj [.sc (.pointer none)]]))] [(0, .y (.one (.sl false true true [] 0))), (2, .y (.one (.ptr n34 0)))] (H31 ++ [.obj [.sc (.pointer none)]])
     (cast (And.intro (ob_alloc (P := pg) (A := an) (H := H31) (t := 80) (ty := 0) (n := n34) (cs := [.sc (.pointer none)]) hn34 (by kernel_rfl)) trivial) (by kernel_rfl)) (by kernel_rfl) ?_
   refine Wp.regionSeq [(0, .tup [.one (.ptr q36 0), .one (vi 0)], H37)] [(0, .y (.one (.sl false true true [] 0))), (2, .y (.one (.ptr n34 0))), (3, .y (.one (.ptr q36 0)))] H37
     (cast (And.intro (ob_call (P := pg) (A := an) (H := (H31 ++ [.obj [.sc (.pointer none)]])) (g := 51) (vals := [xi 64]) (xs0 := [.one (vi 64)]) (res := [.one (.ptr q36 0), .one (vi 0)]) (ats := #[]) (ty := 0) (v := .tup [.one (.ptr q36 0), .one (vi 0)]) (H' := H37) [.tmp 0] (by kernel_rfl) (by kernel_rfl) hr38 (by kernel_rfl)) trivial) (by kernel_rfl)) (by kernel_rfl) ?_
   refine Wp.regionSeq [(2, xi 0, H42)] [(2, .y (.one (.ptr n34 0))), (3, .y (.one (.ptr q36 0)))] H42
     (cast (And.intro (ob_call (P := pg) (A := an) (H := H37) (g := 44) (vals := [.y (.one (.ptr q36 0)), .y (.one (.sl false true true [] 0))]) (xs0 := [.one (.ptr q36 0), .one (.sl false true true [] 0)]) (res := [.one (vi 0)]) (ats := #[]) (ty := 0) (v := xi 0) (H' := H42) [.tmp 0, .tmp 1] (by kernel_rfl) (by kernel_rfl) hr43 (by kernel_rfl)) trivial) (by kernel_rfl)) (by kernel_rfl) ?_
   refine Wp.regionSeq [(2, .tup [], (List.set (α := O) H42 n34 (.obj [.ptr q36 0])))] [(2, .y (.one (.ptr n34 0)))] (List.set (α := O) H42 n34 (.obj [.ptr q36 0]))
     (cast (And.intro (ob_store_ptr (P := pg) (A := an) (H := H42) (t := 80) (ty := 0) (id := n34) (off := 0) (cs := [.sc (.pointer none)]) (cs' := [.ptr q36 0]) (v := .agg [.ptr q36 0]) (On.at hs44 7 rfl) (by kernel_rfl) (by kernel_rfl) (by kernel_rfl)) trivial) (by kernel_rfl)) (by kernel_rfl) ?_
   refine Wp.ret ?_
   exact ⟨Or.inr rfl, [.agg [.ptr q36 0]], (cast (res_cons (P := pg) (e := [(2, .y (.one (.ptr n34 0)))]) (H := (List.set (α := O) H42 n34 (.obj [.ptr q36 0]))) (res_cell (P := pg) (e := [(2, .y (.one (.ptr n34 0)))]) (H := (List.set (α := O) H42 n34 (.obj [.ptr q36 0]))) (a := 2) (t := 80) (id := n34) (off := 0) (n := 1) (cs := [.ptr q36 0]) (cs' := [.ptr q36 0]) (v := .agg [.ptr q36 0]) (by kernel_rfl) (by kernel_rfl) (On.at (On.put (.obj [.ptr q36 0]) hs44 7 rfl) 7 rfl) (by kernel_rfl) (by kernel_rfl) (by kernel_rfl)) res_nil) (by kernel_rfl)), ⟨rfl, rfl⟩⟩
  refine Wp.regionK [(3, .y (.agg [.ptr q36 0]), (List.set (α := O) H42 n34 (.obj [.ptr q36 0]))), (7, .tup [], (List.set (α := O) (List.set (α := O) H42 n34 (.obj [.ptr q36 0])) n12 (.obj [rowC n10 0 S.length 0 S.length false, vi 0, .ptr q19 0, .ptr q36 0, .sc (.pointer none)])))] [(15, .y (.one (.ptr n12 0))), (70, .y (.agg [.sl false true true [] 0, .sl false true true [] 0, .sl false true true [] 0])), (71, xi 1)] (List.set (α := O) (List.set (α := O) H42 n34 (.obj [.ptr q36 0])) n12 (.obj [rowC n10 0 S.length 0 S.length false, vi 0, .ptr q19 0, .ptr q36 0, .sc (.pointer none)]))
    (cast (And.intro (ob_call (P := pg) (A := an) (H := H31) (g := 27) (vals := [.y (.one (.sl false true true [] 0))]) (xs0 := [.one (.sl false true true [] 0)]) (res := [.agg [.ptr q36 0]]) (ats := #[]) (ty := 0) (v := .y (.agg [.ptr q36 0])) (H' := (List.set (α := O) H42 n34 (.obj [.ptr q36 0]))) [.tmp 0] (by kernel_rfl) (by kernel_rfl) hcall45 (by kernel_rfl)) (And.intro (ob_store_ptr (P := pg) (A := an) (H := (List.set (α := O) H42 n34 (.obj [.ptr q36 0]))) (t := 80) (ty := 0) (id := n12) (off := 3) (cs := [rowC n10 0 S.length 0 S.length false, vi 0, .ptr q19 0, .sc (.pointer none), .sc (.pointer none)]) (cs' := [rowC n10 0 S.length 0 S.length false, vi 0, .ptr q19 0, .ptr q36 0, .sc (.pointer none)]) (v := .agg [.ptr q36 0]) (On.at (On.put (.obj [.ptr q36 0]) hs44 7 rfl) 4 rfl) (by kernel_rfl) (by kernel_rfl) (by kernel_rfl)) trivial)) (by kernel_rfl)) (by kernel_rfl) ?_
  refine Wp.gen (cs := [R, pts n1 (.obj [.sl false true true [] 0, .sl false true true [] 0, .sl false true true [] 0]), pts n6 (cntO PN (ones ([] : List PN.T))), pts n10 (rowO NI true 0 S), pts n12 (.obj [rowC n10 0 S.length 0 S.length false, vi 0, .ptr q19 0, .ptr q36 0, .sc (.pointer none)]), pts n17 (.obj [.ptr q19 0]), ringP EN q19 64 (([] : List EN.T) ++ ([] : List EN.T)), pts n34 (.obj [.ptr q36 0]), ringP EN q36 64 (([] : List EN.T) ++ ([] : List EN.T))]) (On.put (.obj [rowC n10 0 S.length 0 S.length false, vi 0, .ptr q19 0, .ptr q36 0, .sc (.pointer none)]) (On.put (.obj [.ptr q36 0]) hs44 7 rfl) 4 rfl) ?_
  intro H46 hs47
  refine Wp.skip ?_
  refine Wp.region [] [(15, .y (.one (.ptr n12 0))), (70, .y (.agg [.sl false true true [] 0, .sl false true true [] 0, .sl false true true [] 0])), (71, xi 2)] H46
    (cast trivial (by kernel_rfl)) (by kernel_rfl) ?_
  refine ⟨[(15, .y (.one (.ptr n12 0))), (70, .y (.agg [.sl false true true [] 0, .sl false true true [] 0, .sl false true true [] 0])), (71, xi 2)], H46, by kernel_rfl, ?_⟩
  refine WpL.step ?_
  refine Wp.regionSeq [] [(15, .y (.one (.ptr n12 0))), (70, .y (.agg [.sl false true true [] 0, .sl false true true [] 0, .sl false true true [] 0])), (71, xi 2), (72, xb true)] H46
    (cast trivial (by kernel_rfl)) (by kernel_rfl) ?_
  refine Wp.seq ?_
  refine Wp.condT (by kernel_rfl) ?_
  refine Wp.skip ?_
  refine Wp.seq ?_
  refine Wp.block ?_
  refine Wp.regionSeq [] [(15, .y (.one (.ptr n12 0))), (16, xi 2), (17, .y (.one (.sl false true true [] 0))), (70, .y (.agg [.sl false true true [] 0, .sl false true true [] 0, .sl false true true [] 0])), (71, xi 2)] H46
    (cast trivial (by kernel_rfl)) (by kernel_rfl) ?_
  obtain ⟨n49, hn49⟩ : ∃ n, n = List.length (H46 : Go.Lg.Heap) := ⟨_, rfl⟩
  obtain ⟨_, H52, hr53, q51, rfl, hs54⟩ := new_ok _ ((H46 ++ [.obj [.sc (.pointer none)]]) : Go.Lg.Heap) (On.call [] [0, 1, 2, 3, 4, 5, 6, 7, 8, 9] (by kernel_rfl) (On.new' hn49 (.obj [.sc (.pointer none)]) hs47)) (room := 64) (by omega) (by omega)
  have hs54 : On [R, pts n1 (.obj [.sl false true true [] 0, .sl false true true [] 0, .sl false true true [] 0]), pts n6 (cntO PN (ones ([] : List PN.T))), pts n10 (rowO NI true 0 S), pts n12 (.obj [rowC n10 0 S.length 0 S.length false, vi 0, .ptr q19 0, .ptr q36 0, .sc (.pointer none)]), pts n17 (.obj [.ptr q19 0]), ringP EN q19 64 (([] : List EN.T) ++ ([] : List EN.T)), pts n34 (.obj [.ptr q36 0]), ringP EN q36 64 (([] : List EN.T) ++ ([] : List EN.T)), pts n49 (.obj [.sc (.pointer none)]), ringP EN q51 64 ([] : List EN.T)] H52 := On.flat hs54
  obtain ⟨_, H57, hr58, rfl, hs59⟩ := join_ok_s _ (H52 : Go.Lg.Heap) (On.call [10] [0, 1, 2, 3, 4, 5, 6, 7, 8, 9] (by kernel_rfl) hs54) (q := q51) (room := 64) (l := ([] : List EN.T)) (b := false) (nil := true) (cp := true) (m := ([] : List EN.T)) (by first | rfl | omega | (simp only [List.length_nil]; omega) | (simp; done) | (simp; omega))
  have hs59 : On [R, pts n1 (.obj [.sl false true true [] 0, .sl false true true [] 0, .sl false true true [] 0]), pts n6 (cntO PN (ones ([] : List PN.T))), pts n10 (rowO NI true 0 S), pts n12 (.obj [rowC n10 0 S.length 0 S.length false, vi 0, .ptr q19 0, .ptr q36 0, .sc (.pointer none)]), pts n17 (.obj [.ptr q19 0]), ringP EN q19 64 (([] : List EN.T) ++ ([] : List EN.T)), pts n34 (.obj [.ptr q36 0]), ringP EN q36 64 (([] : List EN.T) ++ ([] : List EN.T)), pts n49 (.obj [.sc (.pointer none)]), ringP EN q51 64 (([] : List EN.T) ++ ([] : List EN.T))] H57 := On.flat hs59
  have hcall60 : Runs pg an 27 [.one (.sl false true true [] 0)] H46 [.agg [.ptr q51 0]] (List.set (α := O) H57 n49 (.obj [.ptr q51 0])) := by
   refine runs_of ?_
   refine Runs.of (fn := Try.f27) Try.func27 rfl (by kernel_rfl) [(0, .y (.one (.sl false true true [] 0)))] (by kernel_rfl) ?_
   refine Wp.regionSeq [(0, .y (.one (.ptr n49 0)), (H46 ++ [.obj [.sc (.pointer none)]]))] [(0, .y (.one (.sl false true true [] 0))), (2, .y (.one (.ptr n49 0)))] (H46 ++ [.obj [.sc (.pointer none)]])
     (cast (And.intro (ob_alloc (P := pg) (A := an) (H := H46) (t := 80) (ty := 0) (n := n49) (cs := [.sc (.pointer none)]) hn49 (by kernel_rfl)) trivial) (by kernel_rfl)) (by kernel_rfl) ?_
   refine Wp.regionSeq [(0, .tup [.one (.ptr q51 0), .one (vi 0)], H52)] [(0, .y (.one (.sl false true true [] 0))), (2, .y (.one (.ptr n49 0))), (3, .y (.one (.ptr q51 0)))] H52
     (cast (And.intro (ob_call (P := pg) (A := an) (H := (H46 ++ [.obj [.sc (.pointer none)]])) (g := 51) (vals := [xi 64]) (xs0 := [.one (vi 64)]) (res := [.one (.ptr q51 0), .one (vi 0)]) (ats := #[]) (ty := 0) (v := .tup [.one (.ptr q51 0), .one (vi 0)]) (H' := H52) [.tmp 0] (by kernel_rfl) (by kernel_rfl) hr53 (by kernel_rfl)) trivial) (by kernel_rfl)) (by kernel_rfl) ?_
   refine Wp.regionSeq [(2, xi 0, H57)] [(2, .y (.one (.ptr n49 0))), (3, .y (.one (.ptr q51 0)))] H57
     (cast (And.intro (ob_call (P := pg) (A := an) (H := H52) (g := 44) (vals := [.y (.one (.ptr q51 0)), .y (.one (.sl false true true [] 0))]) (xs0 := [.one (.ptr q51 0), .one (.sl false true true [] 0)]) (res := [.one (vi 0)]) (ats := #[]) (ty := 0) (v := xi 0) (H' := H57) [.tmp 0, .tmp 1] (by kernel_rfl) (by kernel_rfl) hr58 (by kernel_rfl)) trivial) (by kernel_rfl)) (by kernel_rfl) ?_
   refine Wp.regionSeq [(2, .tup [], (List.set (α := O) H57 n49 (.obj [.ptr q51 0])))] [(2, .y (.one (.ptr n49 0)))] (List.set (α := O) H57 n49 (.obj [.ptr q51 0]))
     (cast (And.intro (ob_store_ptr (P := pg) (A := an) (H := H57) (t := 80) (ty := 0) (id := n49) (off := 0) (cs := [.sc (.pointer none)]) (cs' := [.ptr q51 0]) (v := .agg [.ptr q51 0]) (On.at hs59 9 rfl) (by kernel_rfl) (by kernel_rfl) (by kernel_rfl)) trivial) (by kernel_rfl)) (by kernel_rfl) ?_
   refine Wp.ret ?_
   exact ⟨Or.inr rfl, [.agg [.ptr q51 0]], (cast (res_cons (P := pg) (e := [(2, .y (.one (.ptr n49 0)))]) (H := (List.set (α := O) H57 n49 (.obj [.ptr q51 0]))) (res_cell (P := pg) (e := [(2, .y (.one (.ptr n49 0)))]) (H := (List.set (α := O) H57 n49 (.obj [.ptr q51 0]))) (a := 2) (t := 80) (id := n49) (off := 0) (n := 1) (cs := [.ptr q51 0]) (cs' := [.ptr q51 0]) (v := .agg [.ptr q51 0]) (by kernel_rfl) (by kernel_rfl) (On.at (On.put (.obj [.ptr q51 0]) hs59 9 rfl) 9 rfl) (by kernel_rfl) (by kernel_rfl) (by kernel_rfl)) res_nil) (by kernel_rfl)), ⟨rfl, rfl⟩⟩
  refine Wp.regionK [(3, .y (.agg [.ptr q51 0]), (List.set (α := O) H57 n49 (.obj [.ptr q51 0]))), (7, .tup [], (List.set (α := O) (List.set (α := O) H57 n49 (.obj [.ptr q51 0])) n12 (.obj [rowC n10 0 S.length 0 S.length false, vi 0, .ptr q19 0, .ptr q36 0, .ptr q51 0])))] [(15, .y (.one (.ptr n12 0))), (70, .y (.agg [.sl false true true [] 0, .sl false true true [] 0, .sl false true true [] 0])), (71, xi 2)] (List.set (α := O) (List.set (α := O) H57 n49 (.obj [.ptr q51 0])) n12 (.obj [rowC n10 0 S.length 0 S.length false, vi 0, .ptr q19 0, .ptr q36 0, .ptr q51 0]))
    (cast (And.intro (ob_call (P := pg) (A := an) (H := H46) (g := 27) (vals := [.y (.one (.sl false true true [] 0))]) (xs0 := [.one (.sl false true true [] 0)]) (res := [.agg [.ptr q51 0]]) (ats := #[]) (ty := 0) (v := .y (.agg [.ptr q51 0])) (H' := (List.set (α := O) H57 n49 (.obj [.ptr q51 0]))) [.tmp 0] (by kernel_rfl) (by kernel_rfl) hcall60 (by kernel_rfl)) (And.intro (ob_store_ptr (P := pg) (A := an) (H := (List.set (α := O) H57 n49 (.obj [.ptr q51 0]))) (t := 80) (ty := 0) (id := n12) (off := 4) (cs := [rowC n10 0 S.length 0 S.length false, vi 0, .ptr q19 0, .ptr q36 0, .sc (.pointer none)]) (cs' := [rowC n10 0 S.length 0 S.length false, vi 0, .ptr q19 0, .ptr q36 0, .ptr q51 0]) (v := .agg [.ptr q51 0]) (On.at (On.put (.obj [.ptr q51 0]) hs59 9 rfl) 4 rfl) (by kernel_rfl) (by kernel_rfl) (by kernel_rfl)) trivial)) (by kernel_rfl)) (by kernel_rfl) ?_
  refine Wp.gen (cs := [R, pts n1 (.obj [.sl false true true [] 0, .sl false true true [] 0, .sl false true true [] 0]), pts n6 (cntO PN (ones ([] : List PN.T))), pts n10 (rowO NI true 0 S), pts n12 (.obj [rowC n10 0 S.length 0 S.length false, vi 0, .ptr q19 0, .ptr q36 0, .ptr q51 0]), pts n17 (.obj [.ptr q19 0]), ringP EN q19 64 (([] : List EN.T) ++ ([] : List EN.T)), pts n34 (.obj [.ptr q36 0]), ringP EN q36 64 (([] : List EN.T) ++ ([] : List EN.T)), pts n49 (.obj [.ptr q51 0]), ringP EN q51 64 (([] : List EN.T) ++ ([] : List EN.T))]) (On.put (.obj [rowC n10 0 S.length 0 S.length false, vi 0, .ptr q19 0, .ptr q36 0, .ptr q51 0]) (On.put (.obj [.ptr q51 0]) hs59 9 rfl) 4 rfl) ?_
  intro H61 hs62
  refine Wp.skip ?_
  refine Wp.region [] [(15, .y (.one (.ptr n12 0))), (70, .y (.agg [.sl false true true [] 0, .sl false true true [] 0, .sl false true true [] 0])), (71, xi 3)] H61
    (cast trivial (by kernel_rfl)) (by kernel_rfl) ?_
  refine ⟨[(15, .y (.one (.ptr n12 0))), (70, .y (.agg [.sl false true true [] 0, .sl false true true [] 0, .sl false true true [] 0])), (71, xi 3)], H61, by kernel_rfl, ?_⟩
  refine WpL.step ?_
  refine Wp.regionSeq [] [(15, .y (.one (.ptr n12 0))), (70, .y (.agg [.sl false true true [] 0, .sl false true true [] 0, .sl false true true [] 0])), (71, xi 3), (72, xb false)] H61
    (cast trivial (by kernel_rfl)) (by kernel_rfl) ?_
  refine Wp.seq ?_
  refine Wp.condF (by kernel_rfl) ?_
  refine Wp.exit ?_
  refine Eq.mpr (if_pos rfl) ?_
  refine Wp.regionSeq [] [(6, .y (.one (.ptr n12 0))), (7, xi 0)] H61
    (cast trivial (by kernel_rfl)) (by kernel_rfl) ?_
  refine Wp.ret ?_
  refine ⟨Or.inr rfl, [.one (.ptr n12 0), .one (vi 0)], (by kernel_rfl), ?_⟩
  exact .inr ⟨c4, n12, n10, q19, q36, q51, rfl, (On.pick [0, 4, 3, 6, 8, 10] [1, 2, 5, 7, 9] (by kernel_rfl) hs62)⟩
 ·
  refine Wp.regionSeq [(1, xi 20, H2)] [(0, .y (.one (sv NI b nn0 cp S))), (1, xi 0), (5, .y (.one (.ptr n1 0))), (8, xi 20)] H2
    (cast (And.intro (ob_pure (P := pg) (A := an) (H := H2) (g := 25) (vals := [.y (.one (sv NI b nn0 cp S))]) (xs0 := [.one (sv NI b nn0 cp S)]) (xs1 := [.one (sv NI b nn0 cp S)]) (res := [.one (vi 20)]) (ats := #[]) (ty := 0) (v := xi 20) [.tmp 0] (by kernel_rfl) (by kernel_rfl) (snap_cons (by kernel_rfl) (snap_nil)) (by have := wcheck b nn0 cp S (by omega); rw [c4] at this; exact this) (by kernel_rfl)) trivial) (by kernel_rfl)) (by kernel_rfl) ?_
  refine Wp.regionSeq [] [(0, .y (.one (sv NI b nn0 cp S))), (1, xi 0), (5, .y (.one (.ptr n1 0))), (8, xi 20), (21, xb true)] H2
    (cast trivial (by kernel_rfl)) (by kernel_rfl) ?_
  refine Wp.condT (by kernel_rfl) ?_
  refine Wp.regionSeq [] [(6, .y (.one (.sc (.pointer none)))), (7, xi 20)] H2
    (cast trivial (by kernel_rfl)) (by kernel_rfl) ?_
  refine Wp.ret ?_
  refine ⟨Or.inr rfl, [.one (.sc (.pointer none)), .one (vi 20)], (by kernel_rfl), ?_⟩
  exact .inl ⟨c4, rfl, (On.pick [0] [1] (by kernel_rfl) hs3)⟩
theorem rnew_bad (b nil cp0 : Bool) (S : List Int) (hsl : (S.length : Int) ≤ 4611686018427387904) (hok : okW S = false)  : PureC pg an 19 [.one (sv NI b nil cp0 S)] [.agg [.sl false true true [] 0, vi 0, .sl false true true [] 0, .sl false true true [] 0, .sl false true true [] 0], .one (vi 20)] := by
 suffices h : ∃ rs H', Runs pg an 19 [.one (sv NI b nil cp0 S)] [] rs H' ∧ rs.mapM (backY H') = some [.agg [.sl false true true [] 0, vi 0, .sl false true true [] 0, .sl false true true [] 0, .sl false true true [] 0], .one (vi 20)] by
  obtain ⟨rs, H', h1, h2⟩ := h
  exact ⟨rs, H', h1, h2⟩
 refine Runs.of (fn := Try.f19) Try.func19 rfl (by kernel_rfl) [(0, .y (.one (sv NI b nil cp0 S)))] (by kernel_rfl) ?_
 obtain ⟨n1, hn1⟩ : ∃ n, n = List.length ([] : Go.Lg.Heap) := ⟨_, rfl⟩
 refine Wp.regionSeq [(0, .y (.one (.ptr n1 0)), ([] ++ [.obj [.sl false true true [] 0, vi 0, .sl false true true [] 0, .sl false true true [] 0, .sl false true true [] 0]]))] [(0, .y (.one (sv NI b nil cp0 S))), (2, .y (.one (.ptr n1 0)))] ([] ++ [.obj [.sl false true true [] 0, vi 0, .sl false true true [] 0, .sl false true true [] 0, .sl false true true [] 0]])
   (cast (And.intro (ob_alloc (P := pg) (A := an) (H := []) (t := 31) (ty := 0) (n := n1) (cs := [.sl false true true [] 0, vi 0, .sl false true true [] 0, .sl false true true [] 0, .sl false true true [] 0]) hn1 (by kernel_rfl)) trivial) (by kernel_rfl)) (by kernel_rfl) ?_
 refine Wp.gen (cs := [pts n1 (.obj [.sl false true true [] 0, vi 0, .sl false true true [] 0, .sl false true true [] 0, .sl false true true [] 0])]) (On.new' hn1 (.obj [.sl false true true [] 0, vi 0, .sl false true true [] 0, .sl false true true [] 0, .sl false true true [] 0]) (On.nil [])) ?_
 intro H2 hs3
 obtain ⟨n4, hn4⟩ : ∃ n, n = List.length (H2 : Go.Lg.Heap) := ⟨_, rfl⟩
 refine Wp.regionSeq [(0, .y (.one (.ptr n4 0)), (H2 ++ [.obj [.sl false true true [] 0, vi 0, .sl false true true [] 0, .sl false true true [] 0, .sl false true true [] 0]]))] [(0, .y (.one (sv NI b nil cp0 S))), (2, .y (.one (.ptr n1 0))), (4, .y (.one (.ptr n4 0)))] (H2 ++ [.obj [.sl false true true [] 0, vi 0, .sl false true true [] 0, .sl false true true [] 0, .sl false true true [] 0]])
   (cast (And.intro (ob_alloc (P := pg) (A := an) (H := H2) (t := 31) (ty := 0) (n := n4) (cs := [.sl false true true [] 0, vi 0, .sl false true true [] 0, .sl false true true [] 0, .sl false true true [] 0]) hn4 (by kernel_rfl)) trivial) (by kernel_rfl)) (by kernel_rfl) ?_
 refine Wp.gen (cs := [pts n1 (.obj [.sl false true true [] 0, vi 0, .sl false true true [] 0, .sl false true true [] 0, .sl false true true [] 0]), pts n4 (.obj [.sl false true true [] 0, vi 0, .sl false true true [] 0, .sl false true true [] 0, .sl false true true [] 0])]) (On.new' hn4 (.obj [.sl false true true [] 0, vi 0, .sl false true true [] 0, .sl false true true [] 0, .sl false true true [] 0]) hs3) ?_
 intro H5 hs6
 refine Wp.seq ?_
 refine Wp.regionSeq [(1, xi 20, H5)] [(0, .y (.one (sv NI b nil cp0 S))), (2, .y (.one (.ptr n1 0))), (4, .y (.one (.ptr n4 0))), (5, xi 20)] H5
   (cast (And.intro (ob_pure (P := pg) (A := an) (H := H5) (g := 37) (vals := [.y (.one (sv NI b nil cp0 S))]) (xs0 := [.one (sv NI b nil cp0 S)]) (xs1 := [.one (sv NI b nil cp0 S)]) (res := [.one (vi 20)]) (ats := #[]) (ty := 0) (v := xi 20) [.tmp 0] (by kernel_rfl) (by kernel_rfl) (snap_cons (by kernel_rfl) (snap_nil)) (by have := rcheck b nil cp0 S (by omega); rw [hok] at this; exact this) (by kernel_rfl)) trivial) (by kernel_rfl)) (by kernel_rfl) ?_
 refine Wp.regionSeq [] [(0, .y (.one (sv NI b nil cp0 S))), (2, .y (.one (.ptr n1 0))), (4, .y (.one (.ptr n4 0))), (5, xi 20), (9, xb true)] H5
   (cast trivial (by kernel_rfl)) (by kernel_rfl) ?_
 refine Wp.condT (by kernel_rfl) ?_
 refine Wp.regionSeq [(0, .y (.agg [.sl false true true [] 0, vi 0, .sl false true true [] 0, .sl false true true [] 0, .sl false true true [] 0]), H5), (2, .tup [], (List.set (α := O) H5 n1 (.obj [.sl false true true [] 0, vi 0, .sl false true true [] 0, .sl false true true [] 0, .sl false true true [] 0])))] [(2, .y (.one (.ptr n1 0))), (3, xi 20)] (List.set (α := O) H5 n1 (.obj [.sl false true true [] 0, vi 0, .sl false true true [] 0, .sl false true true [] 0, .sl false true true [] 0]))
   (cast (And.intro (ob_load_ptr (P := pg) (A := an) (H := H5) (t := 31) (ty := 0) (id := n4) (off := 0) (n := 5) (cs := [.sl false true true [] 0, vi 0, .sl false true true [] 0, .sl false true true [] 0, .sl false true true [] 0]) (cs' := [.sl false true true [] 0, vi 0, .sl false true true [] 0, .sl false true true [] 0, .sl false true true [] 0]) (v := .agg [.sl false true true [] 0, vi 0, .sl false true true [] 0, .sl false true true [] 0, .sl false true true [] 0]) (On.at hs6 1 rfl) (by kernel_rfl) (by kernel_rfl) (by kernel_rfl) (by kernel_rfl)) (And.intro (ob_store_ptr (P := pg) (A := an) (H := H5) (t := 31) (ty := 0) (id := n1) (off := 0) (cs := [.sl false true true [] 0, vi 0, .sl false true true [] 0, .sl false true true [] 0, .sl false true true [] 0]) (cs' := [.sl false true true [] 0, vi 0, .sl false true true [] 0, .sl false true true [] 0, .sl false true true [] 0]) (v := .agg [.sl false true true [] 0, vi 0, .sl false true true [] 0, .sl false true true [] 0, .sl false true true [] 0]) (On.at hs6 0 rfl) (by kernel_rfl) (by kernel_rfl) (by kernel_rfl)) trivial)) (by kernel_rfl)) (by kernel_rfl) ?_
 refine Wp.gen (cs := [pts n1 (.obj [.sl false true true [] 0, vi 0, .sl false true true [] 0, .sl false true true [] 0, .sl false true true [] 0]), pts n4 (.obj [.sl false true true [] 0, vi 0, .sl false true true [] 0, .sl false true true [] 0, .sl false true true [] 0])]) (On.put (.obj [.sl false true true [] 0, vi 0, .sl false true true [] 0, .sl false true true [] 0, .sl false true true [] 0]) hs6 0 rfl) ?_
 intro H7 hs8
 refine Wp.ret ?_
 refine ⟨Or.inr rfl, [.agg [.sl false true true [] 0, vi 0, .sl false true true [] 0, .sl false true true [] 0, .sl false true true [] 0], .one (vi 20)], (cast (res_cons (P := pg) (e := [(2, .y (.one (.ptr n1 0))), (3, xi 20)]) (H := H7) (res_cell (P := pg) (e := [(2, .y (.one (.ptr n1 0))), (3, xi 20)]) (H := H7) (a := 2) (t := 31) (id := n1) (off := 0) (n := 5) (cs := [.sl false true true [] 0, vi 0, .sl false true true [] 0, .sl false true true [] 0, .sl false true true [] 0]) (cs' := [.sl false true true [] 0, vi 0, .sl false true true [] 0, .sl false true true [] 0, .sl false true true [] 0]) (v := .agg [.sl false true true [] 0, vi 0, .sl false true true [] 0, .sl false true true [] 0, .sl false true true [] 0]) (by kernel_rfl) (by kernel_rfl) (On.at hs8 0 rfl) (by kernel_rfl) (by kernel_rfl) (by kernel_rfl)) (res_cons (P := pg) (e := [(2, .y (.one (.ptr n1 0))), (3, xi 20)]) (H := H7) (r := .tmp 3) (y := .one (vi 20)) (by kernel_rfl) res_nil)) (by kernel_rfl)), ?_⟩
 exact (by kernel_rfl)
end Go.Proofs.Ytjdnhbnpdbpgbaa
