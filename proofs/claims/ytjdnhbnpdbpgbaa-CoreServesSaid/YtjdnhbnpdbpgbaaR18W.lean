/-
  Core: CoreServes: the law. (Printed by sx/r18.py.)
-/
import Derived.Test.YtjdnhbnpdbpgbaaR18V
namespace Go.Proofs.Ytjdnhbnpdbpgbaa
open Go.Lg
set_option linter.unusedVariables false
set_option maxRecDepth 100000
set_option maxHeartbeats 8000000
set_option linter.unusedSimpArgs false
abbrev MV : Sh := .pr NI (.pr PN (.pr .bool .nil))
theorem fn4 (b nn9 cp : Bool) (S : List Int) (hsl : (S.length : Int) ≤ 17592186043904) (hand : Int) (aa0 nn0 pp0 aa1 nn1 pp1 aa2 nn2 pp2 : Bool) (l0 l1 l2 : List EN.T) (hzl0 : (l0.length : Int) ≤ 5864062014805) (hzl1 : (l1.length : Int) ≤ 5864062014805) (hzl2 : (l2.length : Int) ≤ 5864062014805) (bb nn cc : Bool) (mv : List MV.T) (hmv : (mv.length : Int) ≤ 4398046511104) (hnn : okW S = true → nn9 = false)  : PureC pg an 4 [.one (sv NI b nn9 cp S), .one (vi hand), .agg [sv EN aa0 nn0 pp0 l0, sv EN aa1 nn1 pp1 l1, sv EN aa2 nn2 pp2 l2], .one (sv MV bb nn cc mv)] [.one (vb true)] := by
 suffices h : ∃ rs H', Runs pg an 4 [.one (sv NI b nn9 cp S), .one (vi hand), .agg [sv EN aa0 nn0 pp0 l0, sv EN aa1 nn1 pp1 l1, sv EN aa2 nn2 pp2 l2], .one (sv MV bb nn cc mv)] [] rs H' ∧ rs.mapM (backY H') = some [.one (vb true)] by
  obtain ⟨rs, H', h1, h2⟩ := h
  exact ⟨rs, H', h1, h2⟩
 refine Runs.of (fn := Try.f4) Try.func4 rfl (by kernel_rfl) [(0, .y (.one (sv NI b nn9 cp S))), (1, xi hand), (2, .y (.agg [sv EN aa0 nn0 pp0 l0, sv EN aa1 nn1 pp1 l1, sv EN aa2 nn2 pp2 l2])), (3, .y (.one (sv MV bb nn cc mv)))] (by kernel_rfl) ?_
 obtain ⟨n1, hn1⟩ : ∃ n, n = List.length ([] : Go.Lg.Heap) := ⟨_, rfl⟩
 refine rSq [(0, .y (.one (.ptr n1 0)), ([] ++ [.obj [sv EN aa0 nn0 pp0 l0, sv EN aa1 nn1 pp1 l1, sv EN aa2 nn2 pp2 l2]]))] [(0, .y (.one (sv NI b nn9 cp S))), (1, xi hand), (3, .y (.one (sv MV bb nn cc mv))), (6, .y (.one (.ptr n1 0)))] ([] ++ [.obj [sv EN aa0 nn0 pp0 l0, sv EN aa1 nn1 pp1 l1, sv EN aa2 nn2 pp2 l2]])
   (cast (Jai (Jh (H := []) (t := 24) (ty := 0) (n := n1) (v := .agg [sv EN aa0 nn0 pp0 l0, sv EN aa1 nn1 pp1 l1, sv EN aa2 nn2 pp2 l2]) (cs := [sv EN aa0 nn0 pp0 l0, sv EN aa1 nn1 pp1 l1, sv EN aa2 nn2 pp2 l2]) hn1 (by kernel_rfl) (by kernel_rfl) (by kernel_rfl)) trivial) (by kernel_rfl)) (by kernel_rfl) ?_
 refine Wp.gen (cs := [pts n1 (.obj [sv EN aa0 nn0 pp0 l0, sv EN aa1 nn1 pp1 l1, sv EN aa2 nn2 pp2 l2])]) (On.new' hn1 (.obj [sv EN aa0 nn0 pp0 l0, sv EN aa1 nn1 pp1 l1, sv EN aa2 nn2 pp2 l2]) (On.nil [])) ?_
 intro H2 hs3
 obtain ⟨_, H14, hr15, ⟨hz9, rfl, hs16⟩ | ⟨hz9, hz10, rfl, hs16⟩ | ⟨hz9, hz10, hz11, rfl, hs16⟩ | ⟨hz9, hz10, hz11, hz12, rfl, hs16⟩ | ⟨hz9, hz10, hz11, hz12, c4, k5, q6, q7, q8, rfl, hs16⟩⟩ := load_s _ (H2 : Go.Lg.Heap) (On.call [] [0] (by kernel_rfl) hs3) (b := b) (nn9 := nn9) (cp := cp) (S := S) (hand := hand) (aa0 := aa0) (nn0 := nn0) (pp0 := pp0) (l0 := l0) (aa1 := aa1) (nn1 := nn1) (pp1 := pp1) (l1 := l1) (aa2 := aa2) (nn2 := nn2) (pp2 := pp2) (l2 := l2) (hzl0 := by omega) (hzl1 := by omega) (hzl2 := by omega) (by omega) hnn
 ·
  have hs17 : On [pts n1 (.obj [sv EN aa0 nn0 pp0 l0, sv EN aa1 nn1 pp1 l1, sv EN aa2 nn2 pp2 l2])] H14 := On.flat hs16
  refine rSq [(2, .y (.agg [sv EN aa0 nn0 pp0 l0, sv EN aa1 nn1 pp1 l1, sv EN aa2 nn2 pp2 l2]), H2), (3, .tup [.one (.sc (.pointer none)), .one (vi 20)], H14)] [(0, .y (.one (sv NI b nn9 cp S))), (1, xi hand), (3, .y (.one (sv MV bb nn cc mv))), (6, .y (.one (.ptr n1 0))), (9, .y (.one (.sc (.pointer none)))), (10, xi 20)] H14
    (cast (Jai (Jb (H := H2) (t := 24) (ty := 0) (id := n1) (off := 0) (n := 3) (cs := [sv EN aa0 nn0 pp0 l0, sv EN aa1 nn1 pp1 l1, sv EN aa2 nn2 pp2 l2]) (cs' := [sv EN aa0 nn0 pp0 l0, sv EN aa1 nn1 pp1 l1, sv EN aa2 nn2 pp2 l2]) (v := .agg [sv EN aa0 nn0 pp0 l0, sv EN aa1 nn1 pp1 l1, sv EN aa2 nn2 pp2 l2]) (On.at hs3 0 rfl) (by kernel_rfl) (by kernel_rfl) (by kernel_rfl) (by kernel_rfl)) (Jai (Jc (H := H2) (g := 8) (vals := [.y (.one (sv NI b nn9 cp S)), xi hand, .y (.agg [sv EN aa0 nn0 pp0 l0, sv EN aa1 nn1 pp1 l1, sv EN aa2 nn2 pp2 l2])]) (xs0 := [.one (sv NI b nn9 cp S), .one (vi hand), .agg [sv EN aa0 nn0 pp0 l0, sv EN aa1 nn1 pp1 l1, sv EN aa2 nn2 pp2 l2]]) (res := [.one (.sc (.pointer none)), .one (vi 20)]) (ats := #[]) (ty := 0) (v := .tup [.one (.sc (.pointer none)), .one (vi 20)]) (H' := H14) [.tmp 0, .tmp 1, .tmp 2] (by kernel_rfl) (by kernel_rfl) hr15 (by kernel_rfl)) trivial)) (by kernel_rfl)) (by kernel_rfl) ?_
  refine Wp.gen (cs := [pts n1 (.obj [sv EN aa0 nn0 pp0 l0, sv EN aa1 nn1 pp1 l1, sv EN aa2 nn2 pp2 l2])]) hs17 ?_
  intro H18 hs19
  refine Wp.seq ?_
  refine rSq [] [(0, .y (.one (sv NI b nn9 cp S))), (1, xi hand), (3, .y (.one (sv MV bb nn cc mv))), (6, .y (.one (.ptr n1 0))), (9, .y (.one (.sc (.pointer none)))), (10, xi 20), (38, xb true)] H18
    (cast trivial (by kernel_rfl)) (by kernel_rfl) ?_
  refine Wp.condT (by kernel_rfl) ?_
  obtain ⟨n20, hn20⟩ : ∃ n, n = List.length (H18 : Go.Lg.Heap) := ⟨_, rfl⟩
  refine rSq [(2, .y (.agg [sv EN aa0 nn0 pp0 l0, sv EN aa1 nn1 pp1 l1, sv EN aa2 nn2 pp2 l2]), H18), (3, .tup [.agg [.sl false true true [] 0, vi 0, .sl false true true [] 0, .sl false true true [] 0, .sl false true true [] 0], .one (vi 20)], H18), (7, .y (.one (.ptr n20 0)), (H18 ++ [.obj [.sl false true true [] 0, vi 0, .sl false true true [] 0, .sl false true true [] 0, .sl false true true [] 0]])), (8, .tup [], (List.set (α := O) (H18 ++ [.obj [.sl false true true [] 0, vi 0, .sl false true true [] 0, .sl false true true [] 0, .sl false true true [] 0]]) n20 (.obj [.sl false true true [] 0, vi 0, .sl false true true [] 0, .sl false true true [] 0, .sl false true true [] 0])))] [(9, .y (.one (.sc (.pointer none)))), (10, xi 20), (12, xi 20)] (List.set (α := O) (H18 ++ [.obj [.sl false true true [] 0, vi 0, .sl false true true [] 0, .sl false true true [] 0, .sl false true true [] 0]]) n20 (.obj [.sl false true true [] 0, vi 0, .sl false true true [] 0, .sl false true true [] 0, .sl false true true [] 0]))
    (cast (Jai (Jb (H := H18) (t := 24) (ty := 0) (id := n1) (off := 0) (n := 3) (cs := [sv EN aa0 nn0 pp0 l0, sv EN aa1 nn1 pp1 l1, sv EN aa2 nn2 pp2 l2]) (cs' := [sv EN aa0 nn0 pp0 l0, sv EN aa1 nn1 pp1 l1, sv EN aa2 nn2 pp2 l2]) (v := .agg [sv EN aa0 nn0 pp0 l0, sv EN aa1 nn1 pp1 l1, sv EN aa2 nn2 pp2 l2]) (On.at hs19 0 rfl) (by kernel_rfl) (by kernel_rfl) (by kernel_rfl) (by kernel_rfl)) (Jai (Jf (H := H18) (g := 9) (vals := [.y (.one (sv NI b nn9 cp S)), xi hand, .y (.agg [sv EN aa0 nn0 pp0 l0, sv EN aa1 nn1 pp1 l1, sv EN aa2 nn2 pp2 l2])]) (xs0 := [.one (sv NI b nn9 cp S), .one (vi hand), .agg [sv EN aa0 nn0 pp0 l0, sv EN aa1 nn1 pp1 l1, sv EN aa2 nn2 pp2 l2]]) (xs1 := [.one (sv NI b nn9 cp S), .one (vi hand), .agg [sv EN aa0 nn0 pp0 l0, sv EN aa1 nn1 pp1 l1, sv EN aa2 nn2 pp2 l2]]) (res := [.agg [.sl false true true [] 0, vi 0, .sl false true true [] 0, .sl false true true [] 0, .sl false true true [] 0], .one (vi 20)]) (ats := #[]) (ty := 0) (v := .tup [.agg [.sl false true true [] 0, vi 0, .sl false true true [] 0, .sl false true true [] 0, .sl false true true [] 0], .one (vi 20)]) [.tmp 0, .tmp 1, .tmp 2] (by kernel_rfl) (by kernel_rfl) (snap_cons (by kernel_rfl) (snap_cons (by kernel_rfl) (snap_cons (by kernel_rfl) (snap_nil)))) (rload_0 b nn9 cp S (by omega) hand aa0 nn0 pp0 aa1 nn1 pp1 aa2 nn2 pp2 l0 l1 l2 (by omega) (by omega) (by omega) hz9) (by kernel_rfl)) (Jai (Jg (H := H18) (t := 31) (ty := 0) (n := n20) (cs := [.sl false true true [] 0, vi 0, .sl false true true [] 0, .sl false true true [] 0, .sl false true true [] 0]) hn20 (by kernel_rfl)) (Jai (Je (H := (H18 ++ [.obj [.sl false true true [] 0, vi 0, .sl false true true [] 0, .sl false true true [] 0, .sl false true true [] 0]])) (t := 31) (ty := 0) (id := n20) (off := 0) (cs := [.sl false true true [] 0, vi 0, .sl false true true [] 0, .sl false true true [] 0, .sl false true true [] 0]) (cs' := [.sl false true true [] 0, vi 0, .sl false true true [] 0, .sl false true true [] 0, .sl false true true [] 0]) (v := .agg [.sl false true true [] 0, vi 0, .sl false true true [] 0, .sl false true true [] 0, .sl false true true [] 0]) (On.at (On.new' hn20 (.obj [.sl false true true [] 0, vi 0, .sl false true true [] 0, .sl false true true [] 0, .sl false true true [] 0]) hs19) 1 rfl) (by kernel_rfl) (by kernel_rfl) (by kernel_rfl)) trivial)))) (by kernel_rfl)) (by kernel_rfl) ?_
  refine Wp.gen (cs := [pts n1 (.obj [sv EN aa0 nn0 pp0 l0, sv EN aa1 nn1 pp1 l1, sv EN aa2 nn2 pp2 l2]), pts n20 (.obj [.sl false true true [] 0, vi 0, .sl false true true [] 0, .sl false true true [] 0, .sl false true true [] 0])]) (On.put (.obj [.sl false true true [] 0, vi 0, .sl false true true [] 0, .sl false true true [] 0, .sl false true true [] 0]) (On.new' hn20 (.obj [.sl false true true [] 0, vi 0, .sl false true true [] 0, .sl false true true [] 0, .sl false true true [] 0]) hs19) 1 rfl) ?_
  intro H21 hs22
  refine rSq [(8, xb true, H21)] [(8, xb true)] H21
    (cast (Jai (Jf (H := H21) (g := 11) (vals := []) (xs0 := []) (xs1 := []) (res := [.one (vb true)]) (ats := #[]) (ty := 0) (v := xb true) [] (by kernel_rfl) (by kernel_rfl) (snap_nil) fn11 (by kernel_rfl)) trivial) (by kernel_rfl)) (by kernel_rfl) ?_
  refine Wp.ret ?_
  refine ⟨Or.inr rfl, [.one (vb true)], (by kernel_rfl), ?_⟩
  exact (by kernel_rfl)
 ·
  have hs23 : On [pts n1 (.obj [sv EN aa0 nn0 pp0 l0, sv EN aa1 nn1 pp1 l1, sv EN aa2 nn2 pp2 l2])] H14 := On.flat hs16
  have hk13 := okW_len hz9
  refine rSq [(2, .y (.agg [sv EN aa0 nn0 pp0 l0, sv EN aa1 nn1 pp1 l1, sv EN aa2 nn2 pp2 l2]), H2), (3, .tup [.one (.sc (.pointer none)), .one (vi 1)], H14)] [(0, .y (.one (sv NI b nn9 cp S))), (1, xi hand), (3, .y (.one (sv MV bb nn cc mv))), (6, .y (.one (.ptr n1 0))), (9, .y (.one (.sc (.pointer none)))), (10, xi 1)] H14
    (cast (Jai (Jb (H := H2) (t := 24) (ty := 0) (id := n1) (off := 0) (n := 3) (cs := [sv EN aa0 nn0 pp0 l0, sv EN aa1 nn1 pp1 l1, sv EN aa2 nn2 pp2 l2]) (cs' := [sv EN aa0 nn0 pp0 l0, sv EN aa1 nn1 pp1 l1, sv EN aa2 nn2 pp2 l2]) (v := .agg [sv EN aa0 nn0 pp0 l0, sv EN aa1 nn1 pp1 l1, sv EN aa2 nn2 pp2 l2]) (On.at hs3 0 rfl) (by kernel_rfl) (by kernel_rfl) (by kernel_rfl) (by kernel_rfl)) (Jai (Jc (H := H2) (g := 8) (vals := [.y (.one (sv NI b nn9 cp S)), xi hand, .y (.agg [sv EN aa0 nn0 pp0 l0, sv EN aa1 nn1 pp1 l1, sv EN aa2 nn2 pp2 l2])]) (xs0 := [.one (sv NI b nn9 cp S), .one (vi hand), .agg [sv EN aa0 nn0 pp0 l0, sv EN aa1 nn1 pp1 l1, sv EN aa2 nn2 pp2 l2]]) (res := [.one (.sc (.pointer none)), .one (vi 1)]) (ats := #[]) (ty := 0) (v := .tup [.one (.sc (.pointer none)), .one (vi 1)]) (H' := H14) [.tmp 0, .tmp 1, .tmp 2] (by kernel_rfl) (by kernel_rfl) hr15 (by kernel_rfl)) trivial)) (by kernel_rfl)) (by kernel_rfl) ?_
  refine Wp.gen (cs := [pts n1 (.obj [sv EN aa0 nn0 pp0 l0, sv EN aa1 nn1 pp1 l1, sv EN aa2 nn2 pp2 l2])]) hs23 ?_
  intro H24 hs25
  refine Wp.seq ?_
  refine rSq [] [(0, .y (.one (sv NI b nn9 cp S))), (1, xi hand), (3, .y (.one (sv MV bb nn cc mv))), (6, .y (.one (.ptr n1 0))), (9, .y (.one (.sc (.pointer none)))), (10, xi 1), (38, xb true)] H24
    (cast trivial (by kernel_rfl)) (by kernel_rfl) ?_
  refine Wp.condT (by kernel_rfl) ?_
  obtain ⟨n26, hn26⟩ : ∃ n, n = List.length (H24 : Go.Lg.Heap) := ⟨_, rfl⟩
  refine rSq [(2, .y (.agg [sv EN aa0 nn0 pp0 l0, sv EN aa1 nn1 pp1 l1, sv EN aa2 nn2 pp2 l2]), H24), (3, .tup [.agg [.sl false true true [] 0, vi 0, .sl false true true [] 0, .sl false true true [] 0, .sl false true true [] 0], .one (vi 1)], H24), (7, .y (.one (.ptr n26 0)), (H24 ++ [.obj [.sl false true true [] 0, vi 0, .sl false true true [] 0, .sl false true true [] 0, .sl false true true [] 0]])), (8, .tup [], (List.set (α := O) (H24 ++ [.obj [.sl false true true [] 0, vi 0, .sl false true true [] 0, .sl false true true [] 0, .sl false true true [] 0]]) n26 (.obj [.sl false true true [] 0, vi 0, .sl false true true [] 0, .sl false true true [] 0, .sl false true true [] 0])))] [(9, .y (.one (.sc (.pointer none)))), (10, xi 1), (12, xi 1)] (List.set (α := O) (H24 ++ [.obj [.sl false true true [] 0, vi 0, .sl false true true [] 0, .sl false true true [] 0, .sl false true true [] 0]]) n26 (.obj [.sl false true true [] 0, vi 0, .sl false true true [] 0, .sl false true true [] 0, .sl false true true [] 0]))
    (cast (Jai (Jb (H := H24) (t := 24) (ty := 0) (id := n1) (off := 0) (n := 3) (cs := [sv EN aa0 nn0 pp0 l0, sv EN aa1 nn1 pp1 l1, sv EN aa2 nn2 pp2 l2]) (cs' := [sv EN aa0 nn0 pp0 l0, sv EN aa1 nn1 pp1 l1, sv EN aa2 nn2 pp2 l2]) (v := .agg [sv EN aa0 nn0 pp0 l0, sv EN aa1 nn1 pp1 l1, sv EN aa2 nn2 pp2 l2]) (On.at hs25 0 rfl) (by kernel_rfl) (by kernel_rfl) (by kernel_rfl) (by kernel_rfl)) (Jai (Jf (H := H24) (g := 9) (vals := [.y (.one (sv NI b nn9 cp S)), xi hand, .y (.agg [sv EN aa0 nn0 pp0 l0, sv EN aa1 nn1 pp1 l1, sv EN aa2 nn2 pp2 l2])]) (xs0 := [.one (sv NI b nn9 cp S), .one (vi hand), .agg [sv EN aa0 nn0 pp0 l0, sv EN aa1 nn1 pp1 l1, sv EN aa2 nn2 pp2 l2]]) (xs1 := [.one (sv NI b nn9 cp S), .one (vi hand), .agg [sv EN aa0 nn0 pp0 l0, sv EN aa1 nn1 pp1 l1, sv EN aa2 nn2 pp2 l2]]) (res := [.agg [.sl false true true [] 0, vi 0, .sl false true true [] 0, .sl false true true [] 0, .sl false true true [] 0], .one (vi 1)]) (ats := #[]) (ty := 0) (v := .tup [.agg [.sl false true true [] 0, vi 0, .sl false true true [] 0, .sl false true true [] 0, .sl false true true [] 0], .one (vi 1)]) [.tmp 0, .tmp 1, .tmp 2] (by kernel_rfl) (by kernel_rfl) (snap_cons (by kernel_rfl) (snap_cons (by kernel_rfl) (snap_cons (by kernel_rfl) (snap_nil)))) (rload_1 b nn9 cp S (by omega) hand aa0 nn0 pp0 aa1 nn1 pp1 aa2 nn2 pp2 l0 l1 l2 (by omega) (by omega) (by omega) hz9 (.inl hz10)) (by kernel_rfl)) (Jai (Jg (H := H24) (t := 31) (ty := 0) (n := n26) (cs := [.sl false true true [] 0, vi 0, .sl false true true [] 0, .sl false true true [] 0, .sl false true true [] 0]) hn26 (by kernel_rfl)) (Jai (Je (H := (H24 ++ [.obj [.sl false true true [] 0, vi 0, .sl false true true [] 0, .sl false true true [] 0, .sl false true true [] 0]])) (t := 31) (ty := 0) (id := n26) (off := 0) (cs := [.sl false true true [] 0, vi 0, .sl false true true [] 0, .sl false true true [] 0, .sl false true true [] 0]) (cs' := [.sl false true true [] 0, vi 0, .sl false true true [] 0, .sl false true true [] 0, .sl false true true [] 0]) (v := .agg [.sl false true true [] 0, vi 0, .sl false true true [] 0, .sl false true true [] 0, .sl false true true [] 0]) (On.at (On.new' hn26 (.obj [.sl false true true [] 0, vi 0, .sl false true true [] 0, .sl false true true [] 0, .sl false true true [] 0]) hs25) 1 rfl) (by kernel_rfl) (by kernel_rfl) (by kernel_rfl)) trivial)))) (by kernel_rfl)) (by kernel_rfl) ?_
  refine Wp.gen (cs := [pts n1 (.obj [sv EN aa0 nn0 pp0 l0, sv EN aa1 nn1 pp1 l1, sv EN aa2 nn2 pp2 l2]), pts n26 (.obj [.sl false true true [] 0, vi 0, .sl false true true [] 0, .sl false true true [] 0, .sl false true true [] 0])]) (On.put (.obj [.sl false true true [] 0, vi 0, .sl false true true [] 0, .sl false true true [] 0, .sl false true true [] 0]) (On.new' hn26 (.obj [.sl false true true [] 0, vi 0, .sl false true true [] 0, .sl false true true [] 0, .sl false true true [] 0]) hs25) 1 rfl) ?_
  intro H27 hs28
  refine rSq [(8, xb true, H27)] [(8, xb true)] H27
    (cast (Jai (Jf (H := H27) (g := 11) (vals := []) (xs0 := []) (xs1 := []) (res := [.one (vb true)]) (ats := #[]) (ty := 0) (v := xb true) [] (by kernel_rfl) (by kernel_rfl) (snap_nil) fn11 (by kernel_rfl)) trivial) (by kernel_rfl)) (by kernel_rfl) ?_
  refine Wp.ret ?_
  refine ⟨Or.inr rfl, [.one (vb true)], (by kernel_rfl), ?_⟩
  exact (by kernel_rfl)
 ·
  have hs29 : On [pts n1 (.obj [sv EN aa0 nn0 pp0 l0, sv EN aa1 nn1 pp1 l1, sv EN aa2 nn2 pp2 l2])] H14 := On.flat hs16
  have hk13 := okW_len hz9
  refine rSq [(2, .y (.agg [sv EN aa0 nn0 pp0 l0, sv EN aa1 nn1 pp1 l1, sv EN aa2 nn2 pp2 l2]), H2), (3, .tup [.one (.sc (.pointer none)), .one (vi 1)], H14)] [(0, .y (.one (sv NI b nn9 cp S))), (1, xi hand), (3, .y (.one (sv MV bb nn cc mv))), (6, .y (.one (.ptr n1 0))), (9, .y (.one (.sc (.pointer none)))), (10, xi 1)] H14
    (cast (Jai (Jb (H := H2) (t := 24) (ty := 0) (id := n1) (off := 0) (n := 3) (cs := [sv EN aa0 nn0 pp0 l0, sv EN aa1 nn1 pp1 l1, sv EN aa2 nn2 pp2 l2]) (cs' := [sv EN aa0 nn0 pp0 l0, sv EN aa1 nn1 pp1 l1, sv EN aa2 nn2 pp2 l2]) (v := .agg [sv EN aa0 nn0 pp0 l0, sv EN aa1 nn1 pp1 l1, sv EN aa2 nn2 pp2 l2]) (On.at hs3 0 rfl) (by kernel_rfl) (by kernel_rfl) (by kernel_rfl) (by kernel_rfl)) (Jai (Jc (H := H2) (g := 8) (vals := [.y (.one (sv NI b nn9 cp S)), xi hand, .y (.agg [sv EN aa0 nn0 pp0 l0, sv EN aa1 nn1 pp1 l1, sv EN aa2 nn2 pp2 l2])]) (xs0 := [.one (sv NI b nn9 cp S), .one (vi hand), .agg [sv EN aa0 nn0 pp0 l0, sv EN aa1 nn1 pp1 l1, sv EN aa2 nn2 pp2 l2]]) (res := [.one (.sc (.pointer none)), .one (vi 1)]) (ats := #[]) (ty := 0) (v := .tup [.one (.sc (.pointer none)), .one (vi 1)]) (H' := H14) [.tmp 0, .tmp 1, .tmp 2] (by kernel_rfl) (by kernel_rfl) hr15 (by kernel_rfl)) trivial)) (by kernel_rfl)) (by kernel_rfl) ?_
  refine Wp.gen (cs := [pts n1 (.obj [sv EN aa0 nn0 pp0 l0, sv EN aa1 nn1 pp1 l1, sv EN aa2 nn2 pp2 l2])]) hs29 ?_
  intro H30 hs31
  refine Wp.seq ?_
  refine rSq [] [(0, .y (.one (sv NI b nn9 cp S))), (1, xi hand), (3, .y (.one (sv MV bb nn cc mv))), (6, .y (.one (.ptr n1 0))), (9, .y (.one (.sc (.pointer none)))), (10, xi 1), (38, xb true)] H30
    (cast trivial (by kernel_rfl)) (by kernel_rfl) ?_
  refine Wp.condT (by kernel_rfl) ?_
  obtain ⟨n32, hn32⟩ : ∃ n, n = List.length (H30 : Go.Lg.Heap) := ⟨_, rfl⟩
  refine rSq [(2, .y (.agg [sv EN aa0 nn0 pp0 l0, sv EN aa1 nn1 pp1 l1, sv EN aa2 nn2 pp2 l2]), H30), (3, .tup [.agg [.sl false true true [] 0, vi 0, .sl false true true [] 0, .sl false true true [] 0, .sl false true true [] 0], .one (vi 1)], H30), (7, .y (.one (.ptr n32 0)), (H30 ++ [.obj [.sl false true true [] 0, vi 0, .sl false true true [] 0, .sl false true true [] 0, .sl false true true [] 0]])), (8, .tup [], (List.set (α := O) (H30 ++ [.obj [.sl false true true [] 0, vi 0, .sl false true true [] 0, .sl false true true [] 0, .sl false true true [] 0]]) n32 (.obj [.sl false true true [] 0, vi 0, .sl false true true [] 0, .sl false true true [] 0, .sl false true true [] 0])))] [(9, .y (.one (.sc (.pointer none)))), (10, xi 1), (12, xi 1)] (List.set (α := O) (H30 ++ [.obj [.sl false true true [] 0, vi 0, .sl false true true [] 0, .sl false true true [] 0, .sl false true true [] 0]]) n32 (.obj [.sl false true true [] 0, vi 0, .sl false true true [] 0, .sl false true true [] 0, .sl false true true [] 0]))
    (cast (Jai (Jb (H := H30) (t := 24) (ty := 0) (id := n1) (off := 0) (n := 3) (cs := [sv EN aa0 nn0 pp0 l0, sv EN aa1 nn1 pp1 l1, sv EN aa2 nn2 pp2 l2]) (cs' := [sv EN aa0 nn0 pp0 l0, sv EN aa1 nn1 pp1 l1, sv EN aa2 nn2 pp2 l2]) (v := .agg [sv EN aa0 nn0 pp0 l0, sv EN aa1 nn1 pp1 l1, sv EN aa2 nn2 pp2 l2]) (On.at hs31 0 rfl) (by kernel_rfl) (by kernel_rfl) (by kernel_rfl) (by kernel_rfl)) (Jai (Jf (H := H30) (g := 9) (vals := [.y (.one (sv NI b nn9 cp S)), xi hand, .y (.agg [sv EN aa0 nn0 pp0 l0, sv EN aa1 nn1 pp1 l1, sv EN aa2 nn2 pp2 l2])]) (xs0 := [.one (sv NI b nn9 cp S), .one (vi hand), .agg [sv EN aa0 nn0 pp0 l0, sv EN aa1 nn1 pp1 l1, sv EN aa2 nn2 pp2 l2]]) (xs1 := [.one (sv NI b nn9 cp S), .one (vi hand), .agg [sv EN aa0 nn0 pp0 l0, sv EN aa1 nn1 pp1 l1, sv EN aa2 nn2 pp2 l2]]) (res := [.agg [.sl false true true [] 0, vi 0, .sl false true true [] 0, .sl false true true [] 0, .sl false true true [] 0], .one (vi 1)]) (ats := #[]) (ty := 0) (v := .tup [.agg [.sl false true true [] 0, vi 0, .sl false true true [] 0, .sl false true true [] 0, .sl false true true [] 0], .one (vi 1)]) [.tmp 0, .tmp 1, .tmp 2] (by kernel_rfl) (by kernel_rfl) (snap_cons (by kernel_rfl) (snap_cons (by kernel_rfl) (snap_cons (by kernel_rfl) (snap_nil)))) (rload_1 b nn9 cp S (by omega) hand aa0 nn0 pp0 aa1 nn1 pp1 aa2 nn2 pp2 l0 l1 l2 (by omega) (by omega) (by omega) hz9 (.inr hz11)) (by kernel_rfl)) (Jai (Jg (H := H30) (t := 31) (ty := 0) (n := n32) (cs := [.sl false true true [] 0, vi 0, .sl false true true [] 0, .sl false true true [] 0, .sl false true true [] 0]) hn32 (by kernel_rfl)) (Jai (Je (H := (H30 ++ [.obj [.sl false true true [] 0, vi 0, .sl false true true [] 0, .sl false true true [] 0, .sl false true true [] 0]])) (t := 31) (ty := 0) (id := n32) (off := 0) (cs := [.sl false true true [] 0, vi 0, .sl false true true [] 0, .sl false true true [] 0, .sl false true true [] 0]) (cs' := [.sl false true true [] 0, vi 0, .sl false true true [] 0, .sl false true true [] 0, .sl false true true [] 0]) (v := .agg [.sl false true true [] 0, vi 0, .sl false true true [] 0, .sl false true true [] 0, .sl false true true [] 0]) (On.at (On.new' hn32 (.obj [.sl false true true [] 0, vi 0, .sl false true true [] 0, .sl false true true [] 0, .sl false true true [] 0]) hs31) 1 rfl) (by kernel_rfl) (by kernel_rfl) (by kernel_rfl)) trivial)))) (by kernel_rfl)) (by kernel_rfl) ?_
  refine Wp.gen (cs := [pts n1 (.obj [sv EN aa0 nn0 pp0 l0, sv EN aa1 nn1 pp1 l1, sv EN aa2 nn2 pp2 l2]), pts n32 (.obj [.sl false true true [] 0, vi 0, .sl false true true [] 0, .sl false true true [] 0, .sl false true true [] 0])]) (On.put (.obj [.sl false true true [] 0, vi 0, .sl false true true [] 0, .sl false true true [] 0, .sl false true true [] 0]) (On.new' hn32 (.obj [.sl false true true [] 0, vi 0, .sl false true true [] 0, .sl false true true [] 0, .sl false true true [] 0]) hs31) 1 rfl) ?_
  intro H33 hs34
  refine rSq [(8, xb true, H33)] [(8, xb true)] H33
    (cast (Jai (Jf (H := H33) (g := 11) (vals := []) (xs0 := []) (xs1 := []) (res := [.one (vb true)]) (ats := #[]) (ty := 0) (v := xb true) [] (by kernel_rfl) (by kernel_rfl) (snap_nil) fn11 (by kernel_rfl)) trivial) (by kernel_rfl)) (by kernel_rfl) ?_
  refine Wp.ret ?_
  refine ⟨Or.inr rfl, [.one (vb true)], (by kernel_rfl), ?_⟩
  exact (by kernel_rfl)
 ·
  have hs35 : On [pts n1 (.obj [sv EN aa0 nn0 pp0 l0, sv EN aa1 nn1 pp1 l1, sv EN aa2 nn2 pp2 l2])] H14 := On.flat hs16
  have hk13 := okW_len hz9
  refine rSq [(2, .y (.agg [sv EN aa0 nn0 pp0 l0, sv EN aa1 nn1 pp1 l1, sv EN aa2 nn2 pp2 l2]), H2), (3, .tup [.one (.sc (.pointer none)), .one (vi 2)], H14)] [(0, .y (.one (sv NI b nn9 cp S))), (1, xi hand), (3, .y (.one (sv MV bb nn cc mv))), (6, .y (.one (.ptr n1 0))), (9, .y (.one (.sc (.pointer none)))), (10, xi 2)] H14
    (cast (Jai (Jb (H := H2) (t := 24) (ty := 0) (id := n1) (off := 0) (n := 3) (cs := [sv EN aa0 nn0 pp0 l0, sv EN aa1 nn1 pp1 l1, sv EN aa2 nn2 pp2 l2]) (cs' := [sv EN aa0 nn0 pp0 l0, sv EN aa1 nn1 pp1 l1, sv EN aa2 nn2 pp2 l2]) (v := .agg [sv EN aa0 nn0 pp0 l0, sv EN aa1 nn1 pp1 l1, sv EN aa2 nn2 pp2 l2]) (On.at hs3 0 rfl) (by kernel_rfl) (by kernel_rfl) (by kernel_rfl) (by kernel_rfl)) (Jai (Jc (H := H2) (g := 8) (vals := [.y (.one (sv NI b nn9 cp S)), xi hand, .y (.agg [sv EN aa0 nn0 pp0 l0, sv EN aa1 nn1 pp1 l1, sv EN aa2 nn2 pp2 l2])]) (xs0 := [.one (sv NI b nn9 cp S), .one (vi hand), .agg [sv EN aa0 nn0 pp0 l0, sv EN aa1 nn1 pp1 l1, sv EN aa2 nn2 pp2 l2]]) (res := [.one (.sc (.pointer none)), .one (vi 2)]) (ats := #[]) (ty := 0) (v := .tup [.one (.sc (.pointer none)), .one (vi 2)]) (H' := H14) [.tmp 0, .tmp 1, .tmp 2] (by kernel_rfl) (by kernel_rfl) hr15 (by kernel_rfl)) trivial)) (by kernel_rfl)) (by kernel_rfl) ?_
  refine Wp.gen (cs := [pts n1 (.obj [sv EN aa0 nn0 pp0 l0, sv EN aa1 nn1 pp1 l1, sv EN aa2 nn2 pp2 l2])]) hs35 ?_
  intro H36 hs37
  refine Wp.seq ?_
  refine rSq [] [(0, .y (.one (sv NI b nn9 cp S))), (1, xi hand), (3, .y (.one (sv MV bb nn cc mv))), (6, .y (.one (.ptr n1 0))), (9, .y (.one (.sc (.pointer none)))), (10, xi 2), (38, xb true)] H36
    (cast trivial (by kernel_rfl)) (by kernel_rfl) ?_
  refine Wp.condT (by kernel_rfl) ?_
  obtain ⟨n38, hn38⟩ : ∃ n, n = List.length (H36 : Go.Lg.Heap) := ⟨_, rfl⟩
  refine rSq [(2, .y (.agg [sv EN aa0 nn0 pp0 l0, sv EN aa1 nn1 pp1 l1, sv EN aa2 nn2 pp2 l2]), H36), (3, .tup [.agg [.sl false true true [] 0, vi 0, .sl false true true [] 0, .sl false true true [] 0, .sl false true true [] 0], .one (vi 2)], H36), (7, .y (.one (.ptr n38 0)), (H36 ++ [.obj [.sl false true true [] 0, vi 0, .sl false true true [] 0, .sl false true true [] 0, .sl false true true [] 0]])), (8, .tup [], (List.set (α := O) (H36 ++ [.obj [.sl false true true [] 0, vi 0, .sl false true true [] 0, .sl false true true [] 0, .sl false true true [] 0]]) n38 (.obj [.sl false true true [] 0, vi 0, .sl false true true [] 0, .sl false true true [] 0, .sl false true true [] 0])))] [(9, .y (.one (.sc (.pointer none)))), (10, xi 2), (12, xi 2)] (List.set (α := O) (H36 ++ [.obj [.sl false true true [] 0, vi 0, .sl false true true [] 0, .sl false true true [] 0, .sl false true true [] 0]]) n38 (.obj [.sl false true true [] 0, vi 0, .sl false true true [] 0, .sl false true true [] 0, .sl false true true [] 0]))
    (cast (Jai (Jb (H := H36) (t := 24) (ty := 0) (id := n1) (off := 0) (n := 3) (cs := [sv EN aa0 nn0 pp0 l0, sv EN aa1 nn1 pp1 l1, sv EN aa2 nn2 pp2 l2]) (cs' := [sv EN aa0 nn0 pp0 l0, sv EN aa1 nn1 pp1 l1, sv EN aa2 nn2 pp2 l2]) (v := .agg [sv EN aa0 nn0 pp0 l0, sv EN aa1 nn1 pp1 l1, sv EN aa2 nn2 pp2 l2]) (On.at hs37 0 rfl) (by kernel_rfl) (by kernel_rfl) (by kernel_rfl) (by kernel_rfl)) (Jai (Jf (H := H36) (g := 9) (vals := [.y (.one (sv NI b nn9 cp S)), xi hand, .y (.agg [sv EN aa0 nn0 pp0 l0, sv EN aa1 nn1 pp1 l1, sv EN aa2 nn2 pp2 l2])]) (xs0 := [.one (sv NI b nn9 cp S), .one (vi hand), .agg [sv EN aa0 nn0 pp0 l0, sv EN aa1 nn1 pp1 l1, sv EN aa2 nn2 pp2 l2]]) (xs1 := [.one (sv NI b nn9 cp S), .one (vi hand), .agg [sv EN aa0 nn0 pp0 l0, sv EN aa1 nn1 pp1 l1, sv EN aa2 nn2 pp2 l2]]) (res := [.agg [.sl false true true [] 0, vi 0, .sl false true true [] 0, .sl false true true [] 0, .sl false true true [] 0], .one (vi 2)]) (ats := #[]) (ty := 0) (v := .tup [.agg [.sl false true true [] 0, vi 0, .sl false true true [] 0, .sl false true true [] 0, .sl false true true [] 0], .one (vi 2)]) [.tmp 0, .tmp 1, .tmp 2] (by kernel_rfl) (by kernel_rfl) (snap_cons (by kernel_rfl) (snap_cons (by kernel_rfl) (snap_cons (by kernel_rfl) (snap_nil)))) (rload_2 b nn9 cp S (by omega) hand aa0 nn0 pp0 aa1 nn1 pp1 aa2 nn2 pp2 l0 l1 l2 (by omega) (by omega) (by omega) hz9 hz10 hz11 hz12) (by kernel_rfl)) (Jai (Jg (H := H36) (t := 31) (ty := 0) (n := n38) (cs := [.sl false true true [] 0, vi 0, .sl false true true [] 0, .sl false true true [] 0, .sl false true true [] 0]) hn38 (by kernel_rfl)) (Jai (Je (H := (H36 ++ [.obj [.sl false true true [] 0, vi 0, .sl false true true [] 0, .sl false true true [] 0, .sl false true true [] 0]])) (t := 31) (ty := 0) (id := n38) (off := 0) (cs := [.sl false true true [] 0, vi 0, .sl false true true [] 0, .sl false true true [] 0, .sl false true true [] 0]) (cs' := [.sl false true true [] 0, vi 0, .sl false true true [] 0, .sl false true true [] 0, .sl false true true [] 0]) (v := .agg [.sl false true true [] 0, vi 0, .sl false true true [] 0, .sl false true true [] 0, .sl false true true [] 0]) (On.at (On.new' hn38 (.obj [.sl false true true [] 0, vi 0, .sl false true true [] 0, .sl false true true [] 0, .sl false true true [] 0]) hs37) 1 rfl) (by kernel_rfl) (by kernel_rfl) (by kernel_rfl)) trivial)))) (by kernel_rfl)) (by kernel_rfl) ?_
  refine Wp.gen (cs := [pts n1 (.obj [sv EN aa0 nn0 pp0 l0, sv EN aa1 nn1 pp1 l1, sv EN aa2 nn2 pp2 l2]), pts n38 (.obj [.sl false true true [] 0, vi 0, .sl false true true [] 0, .sl false true true [] 0, .sl false true true [] 0])]) (On.put (.obj [.sl false true true [] 0, vi 0, .sl false true true [] 0, .sl false true true [] 0, .sl false true true [] 0]) (On.new' hn38 (.obj [.sl false true true [] 0, vi 0, .sl false true true [] 0, .sl false true true [] 0, .sl false true true [] 0]) hs37) 1 rfl) ?_
  intro H39 hs40
  refine rSq [(8, xb true, H39)] [(8, xb true)] H39
    (cast (Jai (Jf (H := H39) (g := 11) (vals := []) (xs0 := []) (xs1 := []) (res := [.one (vb true)]) (ats := #[]) (ty := 0) (v := xb true) [] (by kernel_rfl) (by kernel_rfl) (snap_nil) fn11 (by kernel_rfl)) trivial) (by kernel_rfl)) (by kernel_rfl) ?_
  refine Wp.ret ?_
  refine ⟨Or.inr rfl, [.one (vb true)], (by kernel_rfl), ?_⟩
  exact (by kernel_rfl)
 ·
  have hs41 : On [pts n1 (.obj [sv EN aa0 nn0 pp0 l0, sv EN aa1 nn1 pp1 l1, sv EN aa2 nn2 pp2 l2]), pts c4 (.obj [rowC k5 0 S.length 0 S.length false, vi hand, .ptr q6 0, .ptr q7 0, .ptr q8 0]), pts k5 (rowO NI true 0 S), ringP EN q6 64 l0, ringP EN q7 64 l1, ringP EN q8 64 l2] H14 := On.flat hs16
  have hk13 := okW_len hz9
  refine rSq [(2, .y (.agg [sv EN aa0 nn0 pp0 l0, sv EN aa1 nn1 pp1 l1, sv EN aa2 nn2 pp2 l2]), H2), (3, .tup [.one (.ptr c4 0), .one (vi 0)], H14)] [(0, .y (.one (sv NI b nn9 cp S))), (1, xi hand), (3, .y (.one (sv MV bb nn cc mv))), (6, .y (.one (.ptr n1 0))), (9, .y (.one (.ptr c4 0))), (10, xi 0)] H14
    (cast (Jai (Jb (H := H2) (t := 24) (ty := 0) (id := n1) (off := 0) (n := 3) (cs := [sv EN aa0 nn0 pp0 l0, sv EN aa1 nn1 pp1 l1, sv EN aa2 nn2 pp2 l2]) (cs' := [sv EN aa0 nn0 pp0 l0, sv EN aa1 nn1 pp1 l1, sv EN aa2 nn2 pp2 l2]) (v := .agg [sv EN aa0 nn0 pp0 l0, sv EN aa1 nn1 pp1 l1, sv EN aa2 nn2 pp2 l2]) (On.at hs3 0 rfl) (by kernel_rfl) (by kernel_rfl) (by kernel_rfl) (by kernel_rfl)) (Jai (Jc (H := H2) (g := 8) (vals := [.y (.one (sv NI b nn9 cp S)), xi hand, .y (.agg [sv EN aa0 nn0 pp0 l0, sv EN aa1 nn1 pp1 l1, sv EN aa2 nn2 pp2 l2])]) (xs0 := [.one (sv NI b nn9 cp S), .one (vi hand), .agg [sv EN aa0 nn0 pp0 l0, sv EN aa1 nn1 pp1 l1, sv EN aa2 nn2 pp2 l2]]) (res := [.one (.ptr c4 0), .one (vi 0)]) (ats := #[]) (ty := 0) (v := .tup [.one (.ptr c4 0), .one (vi 0)]) (H' := H14) [.tmp 0, .tmp 1, .tmp 2] (by kernel_rfl) (by kernel_rfl) hr15 (by kernel_rfl)) trivial)) (by kernel_rfl)) (by kernel_rfl) ?_
  refine Wp.gen (cs := [pts n1 (.obj [sv EN aa0 nn0 pp0 l0, sv EN aa1 nn1 pp1 l1, sv EN aa2 nn2 pp2 l2]), pts c4 (.obj [rowC k5 0 S.length 0 S.length false, vi hand, .ptr q6 0, .ptr q7 0, .ptr q8 0]), pts k5 (rowO NI true 0 S), ringP EN q6 64 l0, ringP EN q7 64 l1, ringP EN q8 64 l2]) hs41 ?_
  intro H42 hs43
  refine Wp.seq ?_
  refine rSq [] [(0, .y (.one (sv NI b nn9 cp S))), (1, xi hand), (3, .y (.one (sv MV bb nn cc mv))), (6, .y (.one (.ptr n1 0))), (9, .y (.one (.ptr c4 0))), (10, xi 0), (38, xb false)] H42
    (cast trivial (by kernel_rfl)) (by kernel_rfl) ?_
  refine Wp.condF (by kernel_rfl) ?_
  refine Wp.skip ?_
  refine Wp.meet 2 (T := Go.Lg.Heap × Int × Int) (fun (t : Go.Lg.Heap × Int × Int) => match t with | (H44, cls, aq) => ([(0, .y (.one (sv NI b nn9 cp S))), (3, .y (.one (sv MV bb nn cc mv))), (6, .y (.one (.ptr n1 0))), (9, .y (.one (.ptr c4 0))), (13, xi cls), (14, xi aq), (15, xi 3), (57, xb false)] : Env)) (fun (t : Go.Lg.Heap × Int × Int) => match t with | (H44, cls, aq) => (H44 : Go.Lg.Heap)) (fun (t : Go.Lg.Heap × Int × Int) => match t with | (H44, cls, aq) => (On [pts n1 (.obj [sv EN aa0 nn0 pp0 l0, sv EN aa1 nn1 pp1 l1, sv EN aa2 nn2 pp2 l2]), pts c4 (.obj [rowC k5 0 S.length 0 S.length false, vi hand, .ptr q6 0, .ptr q7 0, .ptr q8 0]), pts k5 (rowO NI true 0 S), ringP EN q6 64 l0, ringP EN q7 64 l1, ringP EN q8 64 l2] H44 ∧ ((cls = -1 ∧ l0.length = 0 ∧ l1.length = 0 ∧ l2.length = 0) ∨ (cls = 0 ∧ 0 ≤ aq ∧ aq = (l0.length : Int) - 1) ∨ (cls = 1 ∧ 0 ≤ aq ∧ aq = (l1.length : Int) - 1) ∨ (cls = 2 ∧ 0 ≤ aq ∧ aq = (l2.length : Int) - 1)) : Prop)) ?_ ?_
  ·
   rintro ⟨H44, cls, aq⟩ ⟨hs45, w0⟩
   show Wp _ _ _ _ [(0, .y (.one (sv NI b nn9 cp S))), (3, .y (.one (sv MV bb nn cc mv))), (6, .y (.one (.ptr n1 0))), (9, .y (.one (.ptr c4 0))), (13, xi cls), (14, xi aq), (15, xi 3), (57, xb false)] H44 _
   refine Wp.seq ?_
   rcases w0 with ⟨rfl, wa, wb, wc⟩ | w1
   ·
    refine rSq [] [(0, .y (.one (sv NI b nn9 cp S))), (3, .y (.one (sv MV bb nn cc mv))), (6, .y (.one (.ptr n1 0))), (9, .y (.one (.ptr c4 0))), (13, xi (-1)), (14, xi aq), (85, xb true)] H44
      (cast trivial (by kernel_rfl)) (by kernel_rfl) ?_
    refine Wp.condT (by kernel_rfl) ?_
    obtain ⟨_, H57, hr58, ⟨hz49, hz50, hz51, hz52, rfl, hs59⟩ | ⟨x47, hx48, hz52, rfl, hs59⟩ | ⟨x47, hx48, hz52, rfl, hs59⟩ | ⟨x47, hx48, hz52, rfl, hs59⟩⟩ := pick_all _ (H44 : Go.Lg.Heap) (On.call [1, 2, 3, 4, 5] [0] (by kernel_rfl) hs45) (c := c4) (ks := k5) (q0 := q6) (q1 := q7) (q2 := q8) (S := S) (hand := hand) (l0 := l0) (l1 := l1) (l2 := l2) (by omega) (by omega) (by first | rfl | omega | (simp; done) | (simp; omega)) (by first | rfl | omega | (simp; done) | (simp; omega)) (by first | rfl | omega | (simp; done) | (simp; omega)) hz9 (by omega) (by omega)
    ·
     have hs60 : On [pts n1 (.obj [sv EN aa0 nn0 pp0 l0, sv EN aa1 nn1 pp1 l1, sv EN aa2 nn2 pp2 l2]), pts c4 (.obj [rowC k5 0 S.length 0 S.length false, vi hand, .ptr q6 0, .ptr q7 0, .ptr q8 0]), pts k5 (rowO NI true 0 S), ringP EN q6 64 l0, ringP EN q7 64 l1, ringP EN q8 64 l2] H57 := On.flat hs59
     obtain ⟨n61, hn61⟩ : ∃ n, n = List.length (H57 : Go.Lg.Heap) := ⟨_, rfl⟩
     refine rSq [(1, .tup [.agg [vi 0, vi 0, vb false], .one (vi 0), .one (vi 3)], H57), (6, .y (.one (.ptr n61 0)), (H57 ++ [.obj [vi 0, vi 0, vb false]])), (7, .tup [], (List.set (α := O) (H57 ++ [.obj [vi 0, vi 0, vb false]]) n61 (.obj [vi 0, vi 0, vb false])))] [(18, xi 3)] (List.set (α := O) (H57 ++ [.obj [vi 0, vi 0, vb false]]) n61 (.obj [vi 0, vi 0, vb false]))
       (cast (Jai (Jc (H := H44) (g := 13) (vals := [.y (.one (.ptr c4 0))]) (xs0 := [.one (.ptr c4 0)]) (res := [.agg [vi 0, vi 0, vb false], .one (vi 0), .one (vi 3)]) (ats := #[]) (ty := 0) (v := .tup [.agg [vi 0, vi 0, vb false], .one (vi 0), .one (vi 3)]) (H' := H57) [.tmp 0] (by kernel_rfl) (by kernel_rfl) hr58 (by kernel_rfl)) (Jai (Jg (H := H57) (t := 40) (ty := 0) (n := n61) (cs := [vi 0, vi 0, vb false]) hn61 (by kernel_rfl)) (Jai (Je (H := (H57 ++ [.obj [vi 0, vi 0, vb false]])) (t := 40) (ty := 0) (id := n61) (off := 0) (cs := [vi 0, vi 0, vb false]) (cs' := [vi 0, vi 0, vb false]) (v := .agg [vi 0, vi 0, vb false]) (On.at (On.new' hn61 (.obj [vi 0, vi 0, vb false]) hs60) 6 rfl) (by kernel_rfl) (by kernel_rfl) (by kernel_rfl)) trivial))) (by kernel_rfl)) (by kernel_rfl) ?_
     refine Wp.gen (cs := [pts n1 (.obj [sv EN aa0 nn0 pp0 l0, sv EN aa1 nn1 pp1 l1, sv EN aa2 nn2 pp2 l2]), pts c4 (.obj [rowC k5 0 S.length 0 S.length false, vi hand, .ptr q6 0, .ptr q7 0, .ptr q8 0]), pts k5 (rowO NI true 0 S), ringP EN q6 64 l0, ringP EN q7 64 l1, ringP EN q8 64 l2, pts n61 (.obj [vi 0, vi 0, vb false])]) (On.put (.obj [vi 0, vi 0, vb false]) (On.new' hn61 (.obj [vi 0, vi 0, vb false]) hs60) 6 rfl) ?_
     intro H62 hs63
     refine rSq [(3, xb true, H62)] [(8, xb true)] H62
       (cast (Jai (Jf (H := H62) (g := 11) (vals := []) (xs0 := []) (xs1 := []) (res := [.one (vb true)]) (ats := #[]) (ty := 0) (v := xb true) [] (by kernel_rfl) (by kernel_rfl) (snap_nil) fn11 (by kernel_rfl)) trivial) (by kernel_rfl)) (by kernel_rfl) ?_
     refine Wp.ret ?_
     refine ⟨Or.inr rfl, [.one (vb true)], (by kernel_rfl), ?_⟩
     exact (by kernel_rfl)
    ·
     have hs64 : On [pts n1 (.obj [sv EN aa0 nn0 pp0 l0, sv EN aa1 nn1 pp1 l1, sv EN aa2 nn2 pp2 l2]), pts c4 (.obj [rowC k5 0 S.length 0 S.length false, vi ((hand + 1) % (S.length : Int)), .ptr q6 0, .ptr q7 0, .ptr q8 0]), pts k5 (rowO NI true 0 S), ringP EN q6 64 (l0.drop 1), ringP EN q7 64 l1, ringP EN q8 64 l2] H57 := On.flat hs59
     have hl54 := some_lt hx48
     have hl54d : ((l0.drop 1).length : Int) = l0.length - 1 := by simp only [List.length_drop]; omega
     have hh53 := hand_ok (S := S) (hand := hand) (by omega)
     exfalso; omega
    ·
     have hs65 : On [pts n1 (.obj [sv EN aa0 nn0 pp0 l0, sv EN aa1 nn1 pp1 l1, sv EN aa2 nn2 pp2 l2]), pts c4 (.obj [rowC k5 0 S.length 0 S.length false, vi ((hand + 1) % (S.length : Int)), .ptr q6 0, .ptr q7 0, .ptr q8 0]), pts k5 (rowO NI true 0 S), ringP EN q6 64 l0, ringP EN q7 64 (l1.drop 1), ringP EN q8 64 l2] H57 := On.flat hs59
     have hl55 := some_lt hx48
     have hl55d : ((l1.drop 1).length : Int) = l1.length - 1 := by simp only [List.length_drop]; omega
     have hh53 := hand_ok (S := S) (hand := hand) (by omega)
     exfalso; omega
    ·
     have hs66 : On [pts n1 (.obj [sv EN aa0 nn0 pp0 l0, sv EN aa1 nn1 pp1 l1, sv EN aa2 nn2 pp2 l2]), pts c4 (.obj [rowC k5 0 S.length 0 S.length false, vi ((hand + 1) % (S.length : Int)), .ptr q6 0, .ptr q7 0, .ptr q8 0]), pts k5 (rowO NI true 0 S), ringP EN q6 64 l0, ringP EN q7 64 l1, ringP EN q8 64 (l2.drop 1)] H57 := On.flat hs59
     have hl56 := some_lt hx48
     have hl56d : ((l2.drop 1).length : Int) = l2.length - 1 := by simp only [List.length_drop]; omega
     have hh53 := hand_ok (S := S) (hand := hand) (by omega)
     exfalso; omega
   ·
    have w2 : 0 ≤ cls ∧ cls < 3 ∧ 0 ≤ aq ∧ aq ≤ 63 := by omega
    refine rSq [(1, xb false, H44)] [(0, .y (.one (sv NI b nn9 cp S))), (3, .y (.one (sv MV bb nn cc mv))), (6, .y (.one (.ptr n1 0))), (9, .y (.one (.ptr c4 0))), (13, xi cls), (14, xi aq), (85, xb false)] H44
      (cast (Jai (Ja (vals := [xi cls, xi 0]) (H := H44) (op := .binOp .lss 3 (.tmp 0) (.tmp 1) 3) (ty := 0) (r := xb (decide ((cls : Int) < 0))) (v := xb false) (by kernel_rfl) (congrArg (fun z => xb z) (decide_eq_false (by omega)))) trivial) (by kernel_rfl)) (by kernel_rfl) ?_
    refine Wp.condF (by kernel_rfl) ?_
    refine Wp.skip ?_
    refine Wp.meet 1 (T := Go.Lg.Heap × Nat × PN.T) (fun (t : Go.Lg.Heap × Nat × PN.T) => match t with | (H67, nw, px) => ([(0, .y (.one (sv NI b nn9 cp S))), (3, .y (.one (sv MV bb nn cc mv))), (9, .y (.one (.ptr c4 0))), (13, xi cls), (14, xi aq), (19, .y (.one (.ptr nw 0)))] : Env)) (fun (t : Go.Lg.Heap × Nat × PN.T) => match t with | (H67, nw, px) => (H67 : Go.Lg.Heap)) (fun (t : Go.Lg.Heap × Nat × PN.T) => match t with | (H67, nw, px) => (On [pts n1 (.obj [sv EN aa0 nn0 pp0 l0, sv EN aa1 nn1 pp1 l1, sv EN aa2 nn2 pp2 l2]), pts c4 (.obj [rowC k5 0 S.length 0 S.length false, vi hand, .ptr q6 0, .ptr q7 0, .ptr q8 0]), pts k5 (rowO NI true 0 S), ringP EN q6 64 l0, ringP EN q7 64 l1, ringP EN q8 64 l2, pts nw (.obj [vi px.1, vi px.2.1])] H67 ∧ (0 ≤ posC cls px l0 l1 l2 ∧ posC cls px l0 l1 l2 ≤ aq) : Prop)) ?_ ?_
    ·
     rintro ⟨H67, nw, px⟩ ⟨hs68, w3⟩
     show Wp _ _ _ _ [(0, .y (.one (sv NI b nn9 cp S))), (3, .y (.one (sv MV bb nn cc mv))), (9, .y (.one (.ptr c4 0))), (13, xi cls), (14, xi aq), (19, .y (.one (.ptr nw 0)))] H67 _
     have hz70 := gap_bd (c := cls) (hand := hand) hz9 ⟨by omega, by omega⟩ ⟨by omega, by omega⟩
     refine rSq [(2, .tup [.one (vi (gap S cls)), .one (vi 0)], H67)] [(3, .y (.one (sv MV bb nn cc mv))), (9, .y (.one (.ptr c4 0))), (14, xi aq), (19, .y (.one (.ptr nw 0))), (20, xi (gap S cls))] H67
       (cast (Jai (Jf (H := H67) (g := 15) (vals := [.y (.one (sv NI b nn9 cp S)), xi cls]) (xs0 := [.one (sv NI b nn9 cp S), .one (vi cls)]) (xs1 := [.one (sv NI b nn9 cp S), .one (vi cls)]) (res := [.one (vi (gap S cls)), .one (vi 0)]) (ats := #[]) (ty := 0) (v := .tup [.one (vi (gap S cls)), .one (vi 0)]) [.tmp 0, .tmp 1] (by kernel_rfl) (by kernel_rfl) (snap_cons (by kernel_rfl) (snap_cons (by kernel_rfl) (snap_nil))) (rgap b nn9 cp S (by omega) cls hz9 (by omega) (by omega)) (by kernel_rfl)) trivial) (by kernel_rfl)) (by kernel_rfl) ?_
     refine Wp.seq ?_
     refine rSq [] [(3, .y (.one (sv MV bb nn cc mv))), (9, .y (.one (.ptr c4 0))), (14, xi aq), (19, .y (.one (.ptr nw 0))), (20, xi (gap S cls)), (22, xi 0)] H67
       (cast trivial (by kernel_rfl)) (by kernel_rfl) ?_
     refine Wp.block ?_
     obtain ⟨w72, hw72, hw72a, hw72b⟩ := prod_ok (a := aq + 1) (b := (gap S cls)) (by omega) (by omega) (by omega) (by omega)
     refine Wp.loop (T := Go.Lg.Heap × Int × Int × List EN.T × List EN.T × List EN.T) (fun (t : Go.Lg.Heap × Int × Int × List EN.T × List EN.T × List EN.T) => match t with | (H74, n, hand, l0, l1, l2) => ((w72 - n).toNat : Nat)) (fun (t : Go.Lg.Heap × Int × Int × List EN.T × List EN.T × List EN.T) => match t with | (H74, n, hand, l0, l1, l2) => ([(3, .y (.one (sv MV bb nn cc mv))), (9, .y (.one (.ptr c4 0))), (14, xi aq), (19, .y (.one (.ptr nw 0))), (20, xi (gap S cls)), (22, xi n)] : Env)) (fun (t : Go.Lg.Heap × Int × Int × List EN.T × List EN.T × List EN.T) => match t with | (H74, n, hand, l0, l1, l2) => (H74 : Go.Lg.Heap))
       (fun (t : Go.Lg.Heap × Int × Int × List EN.T × List EN.T × List EN.T) => match t with | (H74, n, hand, l0, l1, l2) => (On [pts c4 (.obj [rowC k5 0 S.length 0 S.length false, vi hand, .ptr q6 0, .ptr q7 0, .ptr q8 0]), pts k5 (rowO NI true 0 S), ringP EN q6 64 l0, ringP EN q7 64 l1, ringP EN q8 64 l2, pts nw (.obj [vi px.1, vi px.2.1])] H74 ∧ (0 ≤ n) ∧ (0 ≤ hand) ∧ (hand < (S.length : Int)) ∧ ((l0.length : Int) ≤ 64) ∧ ((l1.length : Int) ≤ 64) ∧ ((l2.length : Int) ≤ 64) ∧ (Wait S cls px hand l0 l1 l2 (gap S cls) n w72) : Prop)) (H67, 0, hand, l0, l1, l2) (by kernel_rfl) (⟨(On.pick [1, 2, 3, 4, 5, 6] [0] (by kernel_rfl) hs68), by omega, by omega, by omega, by omega, by omega, by omega, (by rw [← hw72]; exact Wait.start ⟨by omega, by omega⟩ hz9 ⟨by omega, by omega⟩ w3)⟩) ?_
     rintro ⟨H74, n, hand, l0, l1, l2⟩ ⟨hs75, g1, g3, g4, b0, b1, b2, hw⟩
     show Wp _ _ _ _ [(3, .y (.one (sv MV bb nn cc mv))), (9, .y (.one (.ptr c4 0))), (14, xi aq), (19, .y (.one (.ptr nw 0))), (20, xi (gap S cls)), (22, xi n)] H74 _
     have hlt := hw.lt
     refine Wp.seq ?_
     refine rSq [(2, xi (aq + 1), H74), (4, xi w72, H74), (5, xb true, H74)] [(3, .y (.one (sv MV bb nn cc mv))), (9, .y (.one (.ptr c4 0))), (14, xi aq), (19, .y (.one (.ptr nw 0))), (20, xi (gap S cls)), (22, xi n), (115, xb true)] H74
       (cast (Jai (Ja (vals := [xi aq, xi 1]) (H := H74) (op := .binOp .add 3 (.tmp 0) (.tmp 1) 3) (ty := 0) (r := xi (IntKind.wrap .i64 (aq + 1))) (v := xi (aq + 1)) (by kernel_rfl) (congrArg (fun z => xi z) ((wrap64 (by omega)).trans (by omega)))) (Jai (Ja (vals := [xi (aq + 1), xi (gap S cls)]) (H := H74) (op := .binOp .mul 3 (.tmp 0) (.tmp 1) 3) (ty := 0) (r := xi (IntKind.wrap .i64 ((aq + 1) * (gap S cls)))) (v := xi w72) (by kernel_rfl) (congrArg (fun z => xi z) ((wrap64 (by rw [hw72]; omega)).trans hw72))) (Jai (Ja (vals := [xi n, xi w72]) (H := H74) (op := .binOp .lss 3 (.tmp 0) (.tmp 1) 3) (ty := 0) (r := xb (decide ((n : Int) < w72))) (v := xb true) (by kernel_rfl) (congrArg (fun z => xb z) (decide_eq_true (by omega)))) trivial))) (by kernel_rfl)) (by kernel_rfl) ?_
     refine Wp.condT (by kernel_rfl) ?_
     refine Wp.skip ?_
     refine Wp.seq ?_
     refine Wp.block ?_
     refine Wp.meet 1 (T := Go.Lg.Heap × Bool × List EN.T × List EN.T × List EN.T) (fun (t : Go.Lg.Heap × Bool × List EN.T × List EN.T × List EN.T) => match t with | (H76, tb, l0, l1, l2) => ([(3, .y (.one (sv MV bb nn cc mv))), (9, .y (.one (.ptr c4 0))), (14, xi aq), (19, .y (.one (.ptr nw 0))), (20, xi (gap S cls)), (22, xi n), (130, xb tb)] : Env)) (fun (t : Go.Lg.Heap × Bool × List EN.T × List EN.T × List EN.T) => match t with | (H76, tb, l0, l1, l2) => (H76 : Go.Lg.Heap)) (fun (t : Go.Lg.Heap × Bool × List EN.T × List EN.T × List EN.T) => match t with | (H76, tb, l0, l1, l2) => (On [pts c4 (.obj [rowC k5 0 S.length 0 S.length false, vi hand, .ptr q6 0, .ptr q7 0, .ptr q8 0]), pts k5 (rowO NI true 0 S), ringP EN q6 64 l0, ringP EN q7 64 l1, ringP EN q8 64 l2, pts nw (.obj [vi px.1, vi px.2.1])] H76 ∧ ((l0.length : Int) ≤ 64) ∧ ((l1.length : Int) ≤ 64) ∧ ((l2.length : Int) ≤ 64) ∧ (Wait S cls px hand l0 l1 l2 (gap S cls) n w72) : Prop)) ?_ ?_
     ·
      rintro ⟨H76, tb, l0, l1, l2⟩ ⟨hs77, b0, b1, b2, hw⟩
      show Wp _ _ _ _ [(3, .y (.one (sv MV bb nn cc mv))), (9, .y (.one (.ptr c4 0))), (14, xi aq), (19, .y (.one (.ptr nw 0))), (20, xi (gap S cls)), (22, xi n), (130, xb tb)] H76 _
      obtain ⟨_, H89, hr90, ⟨hz81, hz82, hz83, hz84, rfl, hs91⟩ | ⟨x79, hx80, hz84, rfl, hs91⟩ | ⟨x79, hx80, hz84, rfl, hs91⟩ | ⟨x79, hx80, hz84, rfl, hs91⟩⟩ := pick_all _ (H76 : Go.Lg.Heap) (On.call [0, 1, 2, 3, 4] [5] (by kernel_rfl) hs77) (c := c4) (ks := k5) (q0 := q6) (q1 := q7) (q2 := q8) (S := S) (hand := hand) (l0 := l0) (l1 := l1) (l2 := l2) (by omega) (by omega) (by first | rfl | omega | (simp; done) | (simp; omega)) (by first | rfl | omega | (simp; done) | (simp; omega)) (by first | rfl | omega | (simp; done) | (simp; omega)) hz9 (by omega) (by omega)
      ·
       exact (Wait.none hw hz81 hz82 hz83).elim
      ·
       have hs92 : On [pts nw (.obj [vi px.1, vi px.2.1]), pts c4 (.obj [rowC k5 0 S.length 0 S.length false, vi ((hand + 1) % (S.length : Int)), .ptr q6 0, .ptr q7 0, .ptr q8 0]), pts k5 (rowO NI true 0 S), ringP EN q6 64 (l0.drop 1), ringP EN q7 64 l1, ringP EN q8 64 l2] H89 := On.flat hs91
       have hl86 := some_lt hx80
       have hl86d : ((l0.drop 1).length : Int) = l0.length - 1 := by simp only [List.length_drop]; omega
       have hh85 := hand_ok (S := S) (hand := hand) (by omega)
       obtain ⟨n93, hn93⟩ : ∃ n, n = List.length (H89 : Go.Lg.Heap) := ⟨_, rfl⟩
       refine rSq [(1, .tup [.agg [vi x79.1.1, vi x79.1.2.1, vb x79.2.1], .one (vi 0), .one (vi 0)], H89), (6, .y (.one (.ptr n93 0)), (H89 ++ [.obj [vi 0, vi 0, vb false]])), (7, .tup [], (List.set (α := O) (H89 ++ [.obj [vi 0, vi 0, vb false]]) n93 (.obj [vi x79.1.1, vi x79.1.2.1, vb x79.2.1])))] [(3, .y (.one (sv MV bb nn cc mv))), (9, .y (.one (.ptr c4 0))), (14, xi aq), (19, .y (.one (.ptr nw 0))), (20, xi (gap S cls)), (22, xi n), (23, .y (.one (.ptr n93 0))), (25, xi 0)] (List.set (α := O) (H89 ++ [.obj [vi 0, vi 0, vb false]]) n93 (.obj [vi x79.1.1, vi x79.1.2.1, vb x79.2.1]))
         (cast (Jai (Jc (H := H76) (g := 13) (vals := [.y (.one (.ptr c4 0))]) (xs0 := [.one (.ptr c4 0)]) (res := [.agg [vi x79.1.1, vi x79.1.2.1, vb x79.2.1], .one (vi 0), .one (vi 0)]) (ats := #[]) (ty := 0) (v := .tup [.agg [vi x79.1.1, vi x79.1.2.1, vb x79.2.1], .one (vi 0), .one (vi 0)]) (H' := H89) [.tmp 0] (by kernel_rfl) (by kernel_rfl) hr90 (by kernel_rfl)) (Jai (Jg (H := H89) (t := 40) (ty := 0) (n := n93) (cs := [vi 0, vi 0, vb false]) hn93 (by kernel_rfl)) (Jai (Je (H := (H89 ++ [.obj [vi 0, vi 0, vb false]])) (t := 40) (ty := 0) (id := n93) (off := 0) (cs := [vi 0, vi 0, vb false]) (cs' := [vi x79.1.1, vi x79.1.2.1, vb x79.2.1]) (v := .agg [vi x79.1.1, vi x79.1.2.1, vb x79.2.1]) (On.at (On.new' hn93 (.obj [vi 0, vi 0, vb false]) hs92) 6 rfl) (by kernel_rfl) (by kernel_rfl) (by kernel_rfl)) trivial))) (by kernel_rfl)) (by kernel_rfl) ?_
       refine Wp.gen (cs := [pts nw (.obj [vi px.1, vi px.2.1]), pts c4 (.obj [rowC k5 0 S.length 0 S.length false, vi ((hand + 1) % (S.length : Int)), .ptr q6 0, .ptr q7 0, .ptr q8 0]), pts k5 (rowO NI true 0 S), ringP EN q6 64 (l0.drop 1), ringP EN q7 64 l1, ringP EN q8 64 l2, pts n93 (.obj [vi x79.1.1, vi x79.1.2.1, vb x79.2.1])]) (On.put (.obj [vi x79.1.1, vi x79.1.2.1, vb x79.2.1]) (On.new' hn93 (.obj [vi 0, vi 0, vb false]) hs92) 6 rfl) ?_
       intro H94 hs95
       refine Wp.seq ?_
       refine rSq [] [(3, .y (.one (sv MV bb nn cc mv))), (9, .y (.one (.ptr c4 0))), (14, xi aq), (19, .y (.one (.ptr nw 0))), (20, xi (gap S cls)), (22, xi n), (23, .y (.one (.ptr n93 0))), (162, xb false)] H94
         (cast trivial (by kernel_rfl)) (by kernel_rfl) ?_
       refine Wp.condF (by kernel_rfl) ?_
       refine Wp.skip ?_
       rcases Bool.eq_false_or_eq_true ((eqb PN x79.1 px)) with c96 | c96
       ·
        refine rSq [(1, .y (.agg [vi x79.1.1, vi x79.1.2.1]), H94), (2, .y (.agg [vi px.1, vi px.2.1]), H94), (3, xb true, H94)] [(3, .y (.one (sv MV bb nn cc mv))), (9, .y (.one (.ptr c4 0))), (14, xi aq), (19, .y (.one (.ptr nw 0))), (20, xi (gap S cls)), (22, xi n), (166, xb true)] H94
          (cast (Jai (Jb (H := H94) (t := 38) (ty := 0) (id := n93) (off := 0) (n := 2) (cs := [vi x79.1.1, vi x79.1.2.1, vb x79.2.1]) (cs' := [vi x79.1.1, vi x79.1.2.1]) (v := .agg [vi x79.1.1, vi x79.1.2.1]) (On.at hs95 6 rfl) (by kernel_rfl) (by kernel_rfl) (by kernel_rfl) (by kernel_rfl)) (Jai (Jb (H := H94) (t := 38) (ty := 0) (id := nw) (off := 0) (n := 2) (cs := [vi px.1, vi px.2.1]) (cs' := [vi px.1, vi px.2.1]) (v := .agg [vi px.1, vi px.2.1]) (On.at hs95 0 rfl) (by kernel_rfl) (by kernel_rfl) (by kernel_rfl) (by kernel_rfl)) (Jai (Ji (H := H94) (s := PN) (t := 38) (u := 38) (ty := 0) (x := x79.1) (y := px) (r := true) (by kernel_rfl) c96) trivial))) (by kernel_rfl)) (by kernel_rfl) ?_
        refine Wp.condT (by kernel_rfl) ?_
        refine rSq [(0, xb true, H94)] [(8, xb true)] H94
          (cast (Jai (Jf (H := H94) (g := 11) (vals := []) (xs0 := []) (xs1 := []) (res := [.one (vb true)]) (ats := #[]) (ty := 0) (v := xb true) [] (by kernel_rfl) (by kernel_rfl) (snap_nil) fn11 (by kernel_rfl)) trivial) (by kernel_rfl)) (by kernel_rfl) ?_
        refine Wp.ret ?_
        refine ⟨Or.inr rfl, [.one (vb true)], (by kernel_rfl), ?_⟩
        exact (by kernel_rfl)
       ·
        refine rSq [(1, .y (.agg [vi x79.1.1, vi x79.1.2.1]), H94), (2, .y (.agg [vi px.1, vi px.2.1]), H94), (3, xb false, H94)] [(3, .y (.one (sv MV bb nn cc mv))), (9, .y (.one (.ptr c4 0))), (14, xi aq), (19, .y (.one (.ptr nw 0))), (20, xi (gap S cls)), (22, xi n), (166, xb false)] H94
          (cast (Jai (Jb (H := H94) (t := 38) (ty := 0) (id := n93) (off := 0) (n := 2) (cs := [vi x79.1.1, vi x79.1.2.1, vb x79.2.1]) (cs' := [vi x79.1.1, vi x79.1.2.1]) (v := .agg [vi x79.1.1, vi x79.1.2.1]) (On.at hs95 6 rfl) (by kernel_rfl) (by kernel_rfl) (by kernel_rfl) (by kernel_rfl)) (Jai (Jb (H := H94) (t := 38) (ty := 0) (id := nw) (off := 0) (n := 2) (cs := [vi px.1, vi px.2.1]) (cs' := [vi px.1, vi px.2.1]) (v := .agg [vi px.1, vi px.2.1]) (On.at hs95 0 rfl) (by kernel_rfl) (by kernel_rfl) (by kernel_rfl) (by kernel_rfl)) (Jai (Ji (H := H94) (s := PN) (t := 38) (u := 38) (ty := 0) (x := x79.1) (y := px) (r := false) (by kernel_rfl) c96) trivial))) (by kernel_rfl)) (by kernel_rfl) ?_
        refine Wp.condF (by kernel_rfl) ?_
        refine Wp.skip ?_
        refine Wp.region [(1, xi (n + 1), H94)] [(3, .y (.one (sv MV bb nn cc mv))), (9, .y (.one (.ptr c4 0))), (14, xi aq), (19, .y (.one (.ptr nw 0))), (20, xi (gap S cls)), (22, xi (n + 1))] H94
          (cast (Jai (Ja (vals := [xi n, xi 1]) (H := H94) (op := .binOp .add 3 (.tmp 0) (.tmp 1) 3) (ty := 0) (r := xi (IntKind.wrap .i64 (n + 1))) (v := xi (n + 1)) (by kernel_rfl) (congrArg (fun z => xi z) ((wrap64 (by omega)).trans (by omega)))) trivial) (by kernel_rfl)) (by kernel_rfl) ?_
        exact ⟨(H94, (n + 1), ((hand + 1) % (S.length : Int)), (l0.drop 1), l1, l2), by kernel_rfl, (⟨(On.pick [1, 2, 3, 4, 5, 0] [6] (by kernel_rfl) hs95), by omega, by omega, by omega, by omega, by omega, by omega, hw.pick0 ⟨by omega, by omega⟩ hz9 hx80 c96 hz84⟩), (by show (_ : Nat) < _; simp only []; omega)⟩
      ·
       have hs97 : On [pts nw (.obj [vi px.1, vi px.2.1]), pts c4 (.obj [rowC k5 0 S.length 0 S.length false, vi ((hand + 1) % (S.length : Int)), .ptr q6 0, .ptr q7 0, .ptr q8 0]), pts k5 (rowO NI true 0 S), ringP EN q6 64 l0, ringP EN q7 64 (l1.drop 1), ringP EN q8 64 l2] H89 := On.flat hs91
       have hl87 := some_lt hx80
       have hl87d : ((l1.drop 1).length : Int) = l1.length - 1 := by simp only [List.length_drop]; omega
       have hh85 := hand_ok (S := S) (hand := hand) (by omega)
       obtain ⟨n98, hn98⟩ : ∃ n, n = List.length (H89 : Go.Lg.Heap) := ⟨_, rfl⟩
       refine rSq [(1, .tup [.agg [vi x79.1.1, vi x79.1.2.1, vb x79.2.1], .one (vi 1), .one (vi 0)], H89), (6, .y (.one (.ptr n98 0)), (H89 ++ [.obj [vi 0, vi 0, vb false]])), (7, .tup [], (List.set (α := O) (H89 ++ [.obj [vi 0, vi 0, vb false]]) n98 (.obj [vi x79.1.1, vi x79.1.2.1, vb x79.2.1])))] [(3, .y (.one (sv MV bb nn cc mv))), (9, .y (.one (.ptr c4 0))), (14, xi aq), (19, .y (.one (.ptr nw 0))), (20, xi (gap S cls)), (22, xi n), (23, .y (.one (.ptr n98 0))), (25, xi 0)] (List.set (α := O) (H89 ++ [.obj [vi 0, vi 0, vb false]]) n98 (.obj [vi x79.1.1, vi x79.1.2.1, vb x79.2.1]))
         (cast (Jai (Jc (H := H76) (g := 13) (vals := [.y (.one (.ptr c4 0))]) (xs0 := [.one (.ptr c4 0)]) (res := [.agg [vi x79.1.1, vi x79.1.2.1, vb x79.2.1], .one (vi 1), .one (vi 0)]) (ats := #[]) (ty := 0) (v := .tup [.agg [vi x79.1.1, vi x79.1.2.1, vb x79.2.1], .one (vi 1), .one (vi 0)]) (H' := H89) [.tmp 0] (by kernel_rfl) (by kernel_rfl) hr90 (by kernel_rfl)) (Jai (Jg (H := H89) (t := 40) (ty := 0) (n := n98) (cs := [vi 0, vi 0, vb false]) hn98 (by kernel_rfl)) (Jai (Je (H := (H89 ++ [.obj [vi 0, vi 0, vb false]])) (t := 40) (ty := 0) (id := n98) (off := 0) (cs := [vi 0, vi 0, vb false]) (cs' := [vi x79.1.1, vi x79.1.2.1, vb x79.2.1]) (v := .agg [vi x79.1.1, vi x79.1.2.1, vb x79.2.1]) (On.at (On.new' hn98 (.obj [vi 0, vi 0, vb false]) hs97) 6 rfl) (by kernel_rfl) (by kernel_rfl) (by kernel_rfl)) trivial))) (by kernel_rfl)) (by kernel_rfl) ?_
       refine Wp.gen (cs := [pts nw (.obj [vi px.1, vi px.2.1]), pts c4 (.obj [rowC k5 0 S.length 0 S.length false, vi ((hand + 1) % (S.length : Int)), .ptr q6 0, .ptr q7 0, .ptr q8 0]), pts k5 (rowO NI true 0 S), ringP EN q6 64 l0, ringP EN q7 64 (l1.drop 1), ringP EN q8 64 l2, pts n98 (.obj [vi x79.1.1, vi x79.1.2.1, vb x79.2.1])]) (On.put (.obj [vi x79.1.1, vi x79.1.2.1, vb x79.2.1]) (On.new' hn98 (.obj [vi 0, vi 0, vb false]) hs97) 6 rfl) ?_
       intro H99 hs100
       refine Wp.seq ?_
       refine rSq [] [(3, .y (.one (sv MV bb nn cc mv))), (9, .y (.one (.ptr c4 0))), (14, xi aq), (19, .y (.one (.ptr nw 0))), (20, xi (gap S cls)), (22, xi n), (23, .y (.one (.ptr n98 0))), (162, xb false)] H99
         (cast trivial (by kernel_rfl)) (by kernel_rfl) ?_
       refine Wp.condF (by kernel_rfl) ?_
       refine Wp.skip ?_
       rcases Bool.eq_false_or_eq_true ((eqb PN x79.1 px)) with c101 | c101
       ·
        refine rSq [(1, .y (.agg [vi x79.1.1, vi x79.1.2.1]), H99), (2, .y (.agg [vi px.1, vi px.2.1]), H99), (3, xb true, H99)] [(3, .y (.one (sv MV bb nn cc mv))), (9, .y (.one (.ptr c4 0))), (14, xi aq), (19, .y (.one (.ptr nw 0))), (20, xi (gap S cls)), (22, xi n), (166, xb true)] H99
          (cast (Jai (Jb (H := H99) (t := 38) (ty := 0) (id := n98) (off := 0) (n := 2) (cs := [vi x79.1.1, vi x79.1.2.1, vb x79.2.1]) (cs' := [vi x79.1.1, vi x79.1.2.1]) (v := .agg [vi x79.1.1, vi x79.1.2.1]) (On.at hs100 6 rfl) (by kernel_rfl) (by kernel_rfl) (by kernel_rfl) (by kernel_rfl)) (Jai (Jb (H := H99) (t := 38) (ty := 0) (id := nw) (off := 0) (n := 2) (cs := [vi px.1, vi px.2.1]) (cs' := [vi px.1, vi px.2.1]) (v := .agg [vi px.1, vi px.2.1]) (On.at hs100 0 rfl) (by kernel_rfl) (by kernel_rfl) (by kernel_rfl) (by kernel_rfl)) (Jai (Ji (H := H99) (s := PN) (t := 38) (u := 38) (ty := 0) (x := x79.1) (y := px) (r := true) (by kernel_rfl) c101) trivial))) (by kernel_rfl)) (by kernel_rfl) ?_
        refine Wp.condT (by kernel_rfl) ?_
        refine rSq [(0, xb true, H99)] [(8, xb true)] H99
          (cast (Jai (Jf (H := H99) (g := 11) (vals := []) (xs0 := []) (xs1 := []) (res := [.one (vb true)]) (ats := #[]) (ty := 0) (v := xb true) [] (by kernel_rfl) (by kernel_rfl) (snap_nil) fn11 (by kernel_rfl)) trivial) (by kernel_rfl)) (by kernel_rfl) ?_
        refine Wp.ret ?_
        refine ⟨Or.inr rfl, [.one (vb true)], (by kernel_rfl), ?_⟩
        exact (by kernel_rfl)
       ·
        refine rSq [(1, .y (.agg [vi x79.1.1, vi x79.1.2.1]), H99), (2, .y (.agg [vi px.1, vi px.2.1]), H99), (3, xb false, H99)] [(3, .y (.one (sv MV bb nn cc mv))), (9, .y (.one (.ptr c4 0))), (14, xi aq), (19, .y (.one (.ptr nw 0))), (20, xi (gap S cls)), (22, xi n), (166, xb false)] H99
          (cast (Jai (Jb (H := H99) (t := 38) (ty := 0) (id := n98) (off := 0) (n := 2) (cs := [vi x79.1.1, vi x79.1.2.1, vb x79.2.1]) (cs' := [vi x79.1.1, vi x79.1.2.1]) (v := .agg [vi x79.1.1, vi x79.1.2.1]) (On.at hs100 6 rfl) (by kernel_rfl) (by kernel_rfl) (by kernel_rfl) (by kernel_rfl)) (Jai (Jb (H := H99) (t := 38) (ty := 0) (id := nw) (off := 0) (n := 2) (cs := [vi px.1, vi px.2.1]) (cs' := [vi px.1, vi px.2.1]) (v := .agg [vi px.1, vi px.2.1]) (On.at hs100 0 rfl) (by kernel_rfl) (by kernel_rfl) (by kernel_rfl) (by kernel_rfl)) (Jai (Ji (H := H99) (s := PN) (t := 38) (u := 38) (ty := 0) (x := x79.1) (y := px) (r := false) (by kernel_rfl) c101) trivial))) (by kernel_rfl)) (by kernel_rfl) ?_
        refine Wp.condF (by kernel_rfl) ?_
        refine Wp.skip ?_
        refine Wp.region [(1, xi (n + 1), H99)] [(3, .y (.one (sv MV bb nn cc mv))), (9, .y (.one (.ptr c4 0))), (14, xi aq), (19, .y (.one (.ptr nw 0))), (20, xi (gap S cls)), (22, xi (n + 1))] H99
          (cast (Jai (Ja (vals := [xi n, xi 1]) (H := H99) (op := .binOp .add 3 (.tmp 0) (.tmp 1) 3) (ty := 0) (r := xi (IntKind.wrap .i64 (n + 1))) (v := xi (n + 1)) (by kernel_rfl) (congrArg (fun z => xi z) ((wrap64 (by omega)).trans (by omega)))) trivial) (by kernel_rfl)) (by kernel_rfl) ?_
        exact ⟨(H99, (n + 1), ((hand + 1) % (S.length : Int)), l0, (l1.drop 1), l2), by kernel_rfl, (⟨(On.pick [1, 2, 3, 4, 5, 0] [6] (by kernel_rfl) hs100), by omega, by omega, by omega, by omega, by omega, by omega, hw.pick1 ⟨by omega, by omega⟩ hz9 hx80 c101 hz84⟩), (by show (_ : Nat) < _; simp only []; omega)⟩
      ·
       have hs102 : On [pts nw (.obj [vi px.1, vi px.2.1]), pts c4 (.obj [rowC k5 0 S.length 0 S.length false, vi ((hand + 1) % (S.length : Int)), .ptr q6 0, .ptr q7 0, .ptr q8 0]), pts k5 (rowO NI true 0 S), ringP EN q6 64 l0, ringP EN q7 64 l1, ringP EN q8 64 (l2.drop 1)] H89 := On.flat hs91
       have hl88 := some_lt hx80
       have hl88d : ((l2.drop 1).length : Int) = l2.length - 1 := by simp only [List.length_drop]; omega
       have hh85 := hand_ok (S := S) (hand := hand) (by omega)
       obtain ⟨n103, hn103⟩ : ∃ n, n = List.length (H89 : Go.Lg.Heap) := ⟨_, rfl⟩
       refine rSq [(1, .tup [.agg [vi x79.1.1, vi x79.1.2.1, vb x79.2.1], .one (vi 2), .one (vi 0)], H89), (6, .y (.one (.ptr n103 0)), (H89 ++ [.obj [vi 0, vi 0, vb false]])), (7, .tup [], (List.set (α := O) (H89 ++ [.obj [vi 0, vi 0, vb false]]) n103 (.obj [vi x79.1.1, vi x79.1.2.1, vb x79.2.1])))] [(3, .y (.one (sv MV bb nn cc mv))), (9, .y (.one (.ptr c4 0))), (14, xi aq), (19, .y (.one (.ptr nw 0))), (20, xi (gap S cls)), (22, xi n), (23, .y (.one (.ptr n103 0))), (25, xi 0)] (List.set (α := O) (H89 ++ [.obj [vi 0, vi 0, vb false]]) n103 (.obj [vi x79.1.1, vi x79.1.2.1, vb x79.2.1]))
         (cast (Jai (Jc (H := H76) (g := 13) (vals := [.y (.one (.ptr c4 0))]) (xs0 := [.one (.ptr c4 0)]) (res := [.agg [vi x79.1.1, vi x79.1.2.1, vb x79.2.1], .one (vi 2), .one (vi 0)]) (ats := #[]) (ty := 0) (v := .tup [.agg [vi x79.1.1, vi x79.1.2.1, vb x79.2.1], .one (vi 2), .one (vi 0)]) (H' := H89) [.tmp 0] (by kernel_rfl) (by kernel_rfl) hr90 (by kernel_rfl)) (Jai (Jg (H := H89) (t := 40) (ty := 0) (n := n103) (cs := [vi 0, vi 0, vb false]) hn103 (by kernel_rfl)) (Jai (Je (H := (H89 ++ [.obj [vi 0, vi 0, vb false]])) (t := 40) (ty := 0) (id := n103) (off := 0) (cs := [vi 0, vi 0, vb false]) (cs' := [vi x79.1.1, vi x79.1.2.1, vb x79.2.1]) (v := .agg [vi x79.1.1, vi x79.1.2.1, vb x79.2.1]) (On.at (On.new' hn103 (.obj [vi 0, vi 0, vb false]) hs102) 6 rfl) (by kernel_rfl) (by kernel_rfl) (by kernel_rfl)) trivial))) (by kernel_rfl)) (by kernel_rfl) ?_
       refine Wp.gen (cs := [pts nw (.obj [vi px.1, vi px.2.1]), pts c4 (.obj [rowC k5 0 S.length 0 S.length false, vi ((hand + 1) % (S.length : Int)), .ptr q6 0, .ptr q7 0, .ptr q8 0]), pts k5 (rowO NI true 0 S), ringP EN q6 64 l0, ringP EN q7 64 l1, ringP EN q8 64 (l2.drop 1), pts n103 (.obj [vi x79.1.1, vi x79.1.2.1, vb x79.2.1])]) (On.put (.obj [vi x79.1.1, vi x79.1.2.1, vb x79.2.1]) (On.new' hn103 (.obj [vi 0, vi 0, vb false]) hs102) 6 rfl) ?_
       intro H104 hs105
       refine Wp.seq ?_
       refine rSq [] [(3, .y (.one (sv MV bb nn cc mv))), (9, .y (.one (.ptr c4 0))), (14, xi aq), (19, .y (.one (.ptr nw 0))), (20, xi (gap S cls)), (22, xi n), (23, .y (.one (.ptr n103 0))), (162, xb false)] H104
         (cast trivial (by kernel_rfl)) (by kernel_rfl) ?_
       refine Wp.condF (by kernel_rfl) ?_
       refine Wp.skip ?_
       rcases Bool.eq_false_or_eq_true ((eqb PN x79.1 px)) with c106 | c106
       ·
        refine rSq [(1, .y (.agg [vi x79.1.1, vi x79.1.2.1]), H104), (2, .y (.agg [vi px.1, vi px.2.1]), H104), (3, xb true, H104)] [(3, .y (.one (sv MV bb nn cc mv))), (9, .y (.one (.ptr c4 0))), (14, xi aq), (19, .y (.one (.ptr nw 0))), (20, xi (gap S cls)), (22, xi n), (166, xb true)] H104
          (cast (Jai (Jb (H := H104) (t := 38) (ty := 0) (id := n103) (off := 0) (n := 2) (cs := [vi x79.1.1, vi x79.1.2.1, vb x79.2.1]) (cs' := [vi x79.1.1, vi x79.1.2.1]) (v := .agg [vi x79.1.1, vi x79.1.2.1]) (On.at hs105 6 rfl) (by kernel_rfl) (by kernel_rfl) (by kernel_rfl) (by kernel_rfl)) (Jai (Jb (H := H104) (t := 38) (ty := 0) (id := nw) (off := 0) (n := 2) (cs := [vi px.1, vi px.2.1]) (cs' := [vi px.1, vi px.2.1]) (v := .agg [vi px.1, vi px.2.1]) (On.at hs105 0 rfl) (by kernel_rfl) (by kernel_rfl) (by kernel_rfl) (by kernel_rfl)) (Jai (Ji (H := H104) (s := PN) (t := 38) (u := 38) (ty := 0) (x := x79.1) (y := px) (r := true) (by kernel_rfl) c106) trivial))) (by kernel_rfl)) (by kernel_rfl) ?_
        refine Wp.condT (by kernel_rfl) ?_
        refine rSq [(0, xb true, H104)] [(8, xb true)] H104
          (cast (Jai (Jf (H := H104) (g := 11) (vals := []) (xs0 := []) (xs1 := []) (res := [.one (vb true)]) (ats := #[]) (ty := 0) (v := xb true) [] (by kernel_rfl) (by kernel_rfl) (snap_nil) fn11 (by kernel_rfl)) trivial) (by kernel_rfl)) (by kernel_rfl) ?_
        refine Wp.ret ?_
        refine ⟨Or.inr rfl, [.one (vb true)], (by kernel_rfl), ?_⟩
        exact (by kernel_rfl)
       ·
        refine rSq [(1, .y (.agg [vi x79.1.1, vi x79.1.2.1]), H104), (2, .y (.agg [vi px.1, vi px.2.1]), H104), (3, xb false, H104)] [(3, .y (.one (sv MV bb nn cc mv))), (9, .y (.one (.ptr c4 0))), (14, xi aq), (19, .y (.one (.ptr nw 0))), (20, xi (gap S cls)), (22, xi n), (166, xb false)] H104
          (cast (Jai (Jb (H := H104) (t := 38) (ty := 0) (id := n103) (off := 0) (n := 2) (cs := [vi x79.1.1, vi x79.1.2.1, vb x79.2.1]) (cs' := [vi x79.1.1, vi x79.1.2.1]) (v := .agg [vi x79.1.1, vi x79.1.2.1]) (On.at hs105 6 rfl) (by kernel_rfl) (by kernel_rfl) (by kernel_rfl) (by kernel_rfl)) (Jai (Jb (H := H104) (t := 38) (ty := 0) (id := nw) (off := 0) (n := 2) (cs := [vi px.1, vi px.2.1]) (cs' := [vi px.1, vi px.2.1]) (v := .agg [vi px.1, vi px.2.1]) (On.at hs105 0 rfl) (by kernel_rfl) (by kernel_rfl) (by kernel_rfl) (by kernel_rfl)) (Jai (Ji (H := H104) (s := PN) (t := 38) (u := 38) (ty := 0) (x := x79.1) (y := px) (r := false) (by kernel_rfl) c106) trivial))) (by kernel_rfl)) (by kernel_rfl) ?_
        refine Wp.condF (by kernel_rfl) ?_
        refine Wp.skip ?_
        refine Wp.region [(1, xi (n + 1), H104)] [(3, .y (.one (sv MV bb nn cc mv))), (9, .y (.one (.ptr c4 0))), (14, xi aq), (19, .y (.one (.ptr nw 0))), (20, xi (gap S cls)), (22, xi (n + 1))] H104
          (cast (Jai (Ja (vals := [xi n, xi 1]) (H := H104) (op := .binOp .add 3 (.tmp 0) (.tmp 1) 3) (ty := 0) (r := xi (IntKind.wrap .i64 (n + 1))) (v := xi (n + 1)) (by kernel_rfl) (congrArg (fun z => xi z) ((wrap64 (by omega)).trans (by omega)))) trivial) (by kernel_rfl)) (by kernel_rfl) ?_
        exact ⟨(H104, (n + 1), ((hand + 1) % (S.length : Int)), l0, l1, (l2.drop 1)), by kernel_rfl, (⟨(On.pick [1, 2, 3, 4, 5, 0] [6] (by kernel_rfl) hs105), by omega, by omega, by omega, by omega, by omega, by omega, hw.pick2 ⟨by omega, by omega⟩ hz9 hx80 c106 hz84⟩), (by show (_ : Nat) < _; simp only []; omega)⟩
     ·
      intro hm78
      refine Wp.seq ?_
      by_cases c107 : (n : Int) < (mv.length : Int)
      ·
       obtain ⟨x108, hx108⟩ : ∃ x, mv[(n : Int).toNat]? = some x := get_of (by omega)
       obtain ⟨z109, p110, y111, u112⟩ := x108
       rcases Bool.eq_false_or_eq_true ((eqb PN p110 px)) with c113 | c113
       ·
        refine rSq [(3, xb true, H74), (7, .y (.one (.rd ([vi z109, vi p110.1, vi p110.2.1, vb y111] ++ (mv.drop ((n : Int).toNat + 1)).flatMap (enc MV)))), H74), (10, .y (.agg [vi px.1, vi px.2.1]), H74), (11, xb false, H74)] [(3, .y (.one (sv MV bb nn cc mv))), (9, .y (.one (.ptr c4 0))), (14, xi aq), (19, .y (.one (.ptr nw 0))), (20, xi (gap S cls)), (22, xi n), (130, xb false)] H74
          (cast (Jai (Ja (vals := [xi n, xi (mv.length : Int)]) (H := H74) (op := .binOp .lss 3 (.tmp 0) (.tmp 1) 3) (ty := 0) (r := xb (decide ((n : Int) < (mv.length : Int)))) (v := xb true) (by kernel_rfl) (congrArg (fun z => xb z) (decide_eq_true (by omega)))) (Jai (Jd (H := H74) (s := MV) (b := bb) (nil := nn) (capd := cc) (t := 46) (el := 50) (i := n) Try.underlying46 (by kernel_rfl) (by kernel_rfl) (by omega) hx108) (Jai (Jb (H := H74) (t := 38) (ty := 0) (id := nw) (off := 0) (n := 2) (cs := [vi px.1, vi px.2.1]) (cs' := [vi px.1, vi px.2.1]) (v := .agg [vi px.1, vi px.2.1]) (On.at hs75 5 rfl) (by kernel_rfl) (by kernel_rfl) (by kernel_rfl) (by kernel_rfl)) (Jai (Jd1 (H := H74) (s := PN) (t := 38) (u := 38) (ty := 0) (x := p110) (y := px) (r := false) (by kernel_rfl) c113) trivial)))) (by kernel_rfl)) (by kernel_rfl) ?_
        refine Wp.condF (by kernel_rfl) ?_
        refine Wp.skip ?_
        exact hm78 (H74, false, l0, l1, l2) ⟨(On.pick [0, 1, 2, 3, 4, 5] [] (by kernel_rfl) hs75), by omega, by omega, by omega, hw⟩
       ·
        refine rSq [(3, xb true, H74), (7, .y (.one (.rd ([vi z109, vi p110.1, vi p110.2.1, vb y111] ++ (mv.drop ((n : Int).toNat + 1)).flatMap (enc MV)))), H74), (10, .y (.agg [vi px.1, vi px.2.1]), H74), (11, xb true, H74)] [(3, .y (.one (sv MV bb nn cc mv))), (9, .y (.one (.ptr c4 0))), (14, xi aq), (19, .y (.one (.ptr nw 0))), (20, xi (gap S cls)), (22, xi n), (130, xb true)] H74
          (cast (Jai (Ja (vals := [xi n, xi (mv.length : Int)]) (H := H74) (op := .binOp .lss 3 (.tmp 0) (.tmp 1) 3) (ty := 0) (r := xb (decide ((n : Int) < (mv.length : Int)))) (v := xb true) (by kernel_rfl) (congrArg (fun z => xb z) (decide_eq_true (by omega)))) (Jai (Jd (H := H74) (s := MV) (b := bb) (nil := nn) (capd := cc) (t := 46) (el := 50) (i := n) Try.underlying46 (by kernel_rfl) (by kernel_rfl) (by omega) hx108) (Jai (Jb (H := H74) (t := 38) (ty := 0) (id := nw) (off := 0) (n := 2) (cs := [vi px.1, vi px.2.1]) (cs' := [vi px.1, vi px.2.1]) (v := .agg [vi px.1, vi px.2.1]) (On.at hs75 5 rfl) (by kernel_rfl) (by kernel_rfl) (by kernel_rfl) (by kernel_rfl)) (Jai (Jd1 (H := H74) (s := PN) (t := 38) (u := 38) (ty := 0) (x := p110) (y := px) (r := true) (by kernel_rfl) c113) trivial)))) (by kernel_rfl)) (by kernel_rfl) ?_
        refine Wp.condT (by kernel_rfl) ?_
        rcases Bool.eq_false_or_eq_true (y111) with c114 | c114
        ·
         refine rSq [(2, .y (.one (.rd ([vi z109, vi p110.1, vi p110.2.1, vb y111] ++ (mv.drop ((n : Int).toNat + 1)).flatMap (enc MV)))), H74), (4, xb true, H74)] [(3, .y (.one (sv MV bb nn cc mv))), (9, .y (.one (.ptr c4 0))), (14, xi aq), (19, .y (.one (.ptr nw 0))), (20, xi (gap S cls)), (22, xi n), (130, xb true), (135, xb true)] H74
           (cast (Jai (Jd (H := H74) (s := MV) (b := bb) (nil := nn) (capd := cc) (t := 46) (el := 50) (i := n) Try.underlying46 (by kernel_rfl) (by kernel_rfl) (by omega) hx108) (Jai (Ja (vals := [.y (.one (.rd ([vb y111] ++ (mv.drop ((n : Int).toNat + 1)).flatMap (enc MV))))]) (H := H74) (op := .load 4 (.tmp 0)) (ty := 0) (r := xb y111) (v := xb true) (by kernel_rfl) (congrArg (fun z => xb z) (c114))) trivial)) (by kernel_rfl)) (by kernel_rfl) ?_
         refine Wp.condT (by kernel_rfl) ?_
         have hz115 := posI_bd p110 l0
         have hz117 := posI_bd p110 l1
         have hz120 := posI_bd p110 l2
         obtain ⟨_, H133, hr134, ⟨hz124, hz125, hz126, rfl, hs135⟩ | ⟨hz124, rfl, hs135⟩ | ⟨hz124, rfl, hs135⟩ | ⟨hz124, rfl, hs135⟩⟩ := drop_all _ (H74 : Go.Lg.Heap) (On.call [0, 1, 2, 3, 4] [5] (by kernel_rfl) hs75) (c := c4) (ks := k5) (q0 := q6) (q1 := q7) (q2 := q8) (S := S) (hand := hand) (l0 := l0) (l1 := l1) (l2 := l2) (p := p110) (by omega) (by omega) (by first | rfl | omega | (simp; done) | (simp; omega)) (by first | rfl | omega | (simp; done) | (simp; omega)) (by first | rfl | omega | (simp; done) | (simp; omega))
         ·
          have hs136 : On [pts nw (.obj [vi px.1, vi px.2.1]), pts c4 (.obj [rowC k5 0 S.length 0 S.length false, vi hand, .ptr q6 0, .ptr q7 0, .ptr q8 0]), pts k5 (rowO NI true 0 S), ringP EN q6 64 l0, ringP EN q7 64 l1, ringP EN q8 64 l2] H133 := On.flat hs135
          refine rKq [(3, .y (.one (.rd ([vi z109, vi p110.1, vi p110.2.1, vb y111] ++ (mv.drop ((n : Int).toNat + 1)).flatMap (enc MV)))), H74), (6, .tup [.one (vi 0), .one (vi 0), .one (vi 3)], H133)] [(3, .y (.one (sv MV bb nn cc mv))), (9, .y (.one (.ptr c4 0))), (14, xi aq), (19, .y (.one (.ptr nw 0))), (20, xi (gap S cls)), (22, xi n), (130, xb true)] H133
            (cast (Jai (Jd (H := H74) (s := MV) (b := bb) (nil := nn) (capd := cc) (t := 46) (el := 50) (i := n) Try.underlying46 (by kernel_rfl) (by kernel_rfl) (by omega) hx108) (Jai (Jc (H := H74) (g := 16) (vals := [.y (.one (.ptr c4 0)), .y (.agg [vi p110.1, vi p110.2.1])]) (xs0 := [.one (.ptr c4 0), .agg [vi p110.1, vi p110.2.1]]) (res := [.one (vi 0), .one (vi 0), .one (vi 3)]) (ats := #[]) (ty := 0) (v := .tup [.one (vi 0), .one (vi 0), .one (vi 3)]) (H' := H133) [.tmp 0, .tmp 1] (by kernel_rfl) (by kernel_rfl) hr134 (by kernel_rfl)) trivial)) (by kernel_rfl)) (by kernel_rfl) ?_
          refine Wp.gen (cs := [pts nw (.obj [vi px.1, vi px.2.1]), pts c4 (.obj [rowC k5 0 S.length 0 S.length false, vi hand, .ptr q6 0, .ptr q7 0, .ptr q8 0]), pts k5 (rowO NI true 0 S), ringP EN q6 64 l0, ringP EN q7 64 l1, ringP EN q8 64 l2]) hs136 ?_
          intro H137 hs138
          refine Wp.skip ?_
          exact hm78 (H137, true, l0, l1, l2) ⟨(On.pick [1, 2, 3, 4, 5, 0] [] (by kernel_rfl) hs138), by omega, by omega, by omega, hw⟩
         ·
          have hs139 : On [pts nw (.obj [vi px.1, vi px.2.1]), pts c4 (.obj [rowC k5 0 S.length 0 S.length false, vi hand, .ptr q6 0, .ptr q7 0, .ptr q8 0]), pts k5 (rowO NI true 0 S), ringP EN q6 64 (l0.take ((posI p110 l0) : Int).toNat ++ l0.drop ((posI p110 l0) + 1 : Int).toNat), ringP EN q7 64 l1, ringP EN q8 64 l2] H133 := On.flat hs135
          have hl127 : ((l0.take ((posI p110 l0) : Int).toNat ++ l0.drop ((posI p110 l0) + 1 : Int).toNat).length : Int) = l0.length - 1 := by simp only [List.length_append, List.length_take, List.length_drop]; omega
          have hw128 := hw.mono (LeP.cut hz124 c113) LeP.refl LeP.refl
          refine rKq [(3, .y (.one (.rd ([vi z109, vi p110.1, vi p110.2.1, vb y111] ++ (mv.drop ((n : Int).toNat + 1)).flatMap (enc MV)))), H74), (6, .tup [.one (vi 0), .one (vi (posI p110 l0)), .one (vi 0)], H133)] [(3, .y (.one (sv MV bb nn cc mv))), (9, .y (.one (.ptr c4 0))), (14, xi aq), (19, .y (.one (.ptr nw 0))), (20, xi (gap S cls)), (22, xi n), (130, xb true)] H133
            (cast (Jai (Jd (H := H74) (s := MV) (b := bb) (nil := nn) (capd := cc) (t := 46) (el := 50) (i := n) Try.underlying46 (by kernel_rfl) (by kernel_rfl) (by omega) hx108) (Jai (Jc (H := H74) (g := 16) (vals := [.y (.one (.ptr c4 0)), .y (.agg [vi p110.1, vi p110.2.1])]) (xs0 := [.one (.ptr c4 0), .agg [vi p110.1, vi p110.2.1]]) (res := [.one (vi 0), .one (vi (posI p110 l0)), .one (vi 0)]) (ats := #[]) (ty := 0) (v := .tup [.one (vi 0), .one (vi (posI p110 l0)), .one (vi 0)]) (H' := H133) [.tmp 0, .tmp 1] (by kernel_rfl) (by kernel_rfl) hr134 (by kernel_rfl)) trivial)) (by kernel_rfl)) (by kernel_rfl) ?_
          refine Wp.gen (cs := [pts nw (.obj [vi px.1, vi px.2.1]), pts c4 (.obj [rowC k5 0 S.length 0 S.length false, vi hand, .ptr q6 0, .ptr q7 0, .ptr q8 0]), pts k5 (rowO NI true 0 S), ringP EN q6 64 (l0.take ((posI p110 l0) : Int).toNat ++ l0.drop ((posI p110 l0) + 1 : Int).toNat), ringP EN q7 64 l1, ringP EN q8 64 l2]) hs139 ?_
          intro H140 hs141
          refine Wp.skip ?_
          exact hm78 (H140, true, (l0.take ((posI p110 l0) : Int).toNat ++ l0.drop ((posI p110 l0) + 1 : Int).toNat), l1, l2) ⟨(On.pick [1, 2, 3, 4, 5, 0] [] (by kernel_rfl) hs141), by omega, by omega, by omega, hw128⟩
         ·
          have hs142 : On [pts nw (.obj [vi px.1, vi px.2.1]), pts c4 (.obj [rowC k5 0 S.length 0 S.length false, vi hand, .ptr q6 0, .ptr q7 0, .ptr q8 0]), pts k5 (rowO NI true 0 S), ringP EN q6 64 l0, ringP EN q7 64 (l1.take ((posI p110 l1) : Int).toNat ++ l1.drop ((posI p110 l1) + 1 : Int).toNat), ringP EN q8 64 l2] H133 := On.flat hs135
          have hl129 : ((l1.take ((posI p110 l1) : Int).toNat ++ l1.drop ((posI p110 l1) + 1 : Int).toNat).length : Int) = l1.length - 1 := by simp only [List.length_append, List.length_take, List.length_drop]; omega
          have hw130 := hw.mono LeP.refl (LeP.cut hz124 c113) LeP.refl
          refine rKq [(3, .y (.one (.rd ([vi z109, vi p110.1, vi p110.2.1, vb y111] ++ (mv.drop ((n : Int).toNat + 1)).flatMap (enc MV)))), H74), (6, .tup [.one (vi 1), .one (vi (posI p110 l1)), .one (vi 0)], H133)] [(3, .y (.one (sv MV bb nn cc mv))), (9, .y (.one (.ptr c4 0))), (14, xi aq), (19, .y (.one (.ptr nw 0))), (20, xi (gap S cls)), (22, xi n), (130, xb true)] H133
            (cast (Jai (Jd (H := H74) (s := MV) (b := bb) (nil := nn) (capd := cc) (t := 46) (el := 50) (i := n) Try.underlying46 (by kernel_rfl) (by kernel_rfl) (by omega) hx108) (Jai (Jc (H := H74) (g := 16) (vals := [.y (.one (.ptr c4 0)), .y (.agg [vi p110.1, vi p110.2.1])]) (xs0 := [.one (.ptr c4 0), .agg [vi p110.1, vi p110.2.1]]) (res := [.one (vi 1), .one (vi (posI p110 l1)), .one (vi 0)]) (ats := #[]) (ty := 0) (v := .tup [.one (vi 1), .one (vi (posI p110 l1)), .one (vi 0)]) (H' := H133) [.tmp 0, .tmp 1] (by kernel_rfl) (by kernel_rfl) hr134 (by kernel_rfl)) trivial)) (by kernel_rfl)) (by kernel_rfl) ?_
          refine Wp.gen (cs := [pts nw (.obj [vi px.1, vi px.2.1]), pts c4 (.obj [rowC k5 0 S.length 0 S.length false, vi hand, .ptr q6 0, .ptr q7 0, .ptr q8 0]), pts k5 (rowO NI true 0 S), ringP EN q6 64 l0, ringP EN q7 64 (l1.take ((posI p110 l1) : Int).toNat ++ l1.drop ((posI p110 l1) + 1 : Int).toNat), ringP EN q8 64 l2]) hs142 ?_
          intro H143 hs144
          refine Wp.skip ?_
          exact hm78 (H143, true, l0, (l1.take ((posI p110 l1) : Int).toNat ++ l1.drop ((posI p110 l1) + 1 : Int).toNat), l2) ⟨(On.pick [1, 2, 3, 4, 5, 0] [] (by kernel_rfl) hs144), by omega, by omega, by omega, hw130⟩
         ·
          have hs145 : On [pts nw (.obj [vi px.1, vi px.2.1]), pts c4 (.obj [rowC k5 0 S.length 0 S.length false, vi hand, .ptr q6 0, .ptr q7 0, .ptr q8 0]), pts k5 (rowO NI true 0 S), ringP EN q6 64 l0, ringP EN q7 64 l1, ringP EN q8 64 (l2.take ((posI p110 l2) : Int).toNat ++ l2.drop ((posI p110 l2) + 1 : Int).toNat)] H133 := On.flat hs135
          have hl131 : ((l2.take ((posI p110 l2) : Int).toNat ++ l2.drop ((posI p110 l2) + 1 : Int).toNat).length : Int) = l2.length - 1 := by simp only [List.length_append, List.length_take, List.length_drop]; omega
          have hw132 := hw.mono LeP.refl LeP.refl (LeP.cut hz124 c113)
          refine rKq [(3, .y (.one (.rd ([vi z109, vi p110.1, vi p110.2.1, vb y111] ++ (mv.drop ((n : Int).toNat + 1)).flatMap (enc MV)))), H74), (6, .tup [.one (vi 2), .one (vi (posI p110 l2)), .one (vi 0)], H133)] [(3, .y (.one (sv MV bb nn cc mv))), (9, .y (.one (.ptr c4 0))), (14, xi aq), (19, .y (.one (.ptr nw 0))), (20, xi (gap S cls)), (22, xi n), (130, xb true)] H133
            (cast (Jai (Jd (H := H74) (s := MV) (b := bb) (nil := nn) (capd := cc) (t := 46) (el := 50) (i := n) Try.underlying46 (by kernel_rfl) (by kernel_rfl) (by omega) hx108) (Jai (Jc (H := H74) (g := 16) (vals := [.y (.one (.ptr c4 0)), .y (.agg [vi p110.1, vi p110.2.1])]) (xs0 := [.one (.ptr c4 0), .agg [vi p110.1, vi p110.2.1]]) (res := [.one (vi 2), .one (vi (posI p110 l2)), .one (vi 0)]) (ats := #[]) (ty := 0) (v := .tup [.one (vi 2), .one (vi (posI p110 l2)), .one (vi 0)]) (H' := H133) [.tmp 0, .tmp 1] (by kernel_rfl) (by kernel_rfl) hr134 (by kernel_rfl)) trivial)) (by kernel_rfl)) (by kernel_rfl) ?_
          refine Wp.gen (cs := [pts nw (.obj [vi px.1, vi px.2.1]), pts c4 (.obj [rowC k5 0 S.length 0 S.length false, vi hand, .ptr q6 0, .ptr q7 0, .ptr q8 0]), pts k5 (rowO NI true 0 S), ringP EN q6 64 l0, ringP EN q7 64 l1, ringP EN q8 64 (l2.take ((posI p110 l2) : Int).toNat ++ l2.drop ((posI p110 l2) + 1 : Int).toNat)]) hs145 ?_
          intro H146 hs147
          refine Wp.skip ?_
          exact hm78 (H146, true, l0, l1, (l2.take ((posI p110 l2) : Int).toNat ++ l2.drop ((posI p110 l2) + 1 : Int).toNat)) ⟨(On.pick [1, 2, 3, 4, 5, 0] [] (by kernel_rfl) hs147), by omega, by omega, by omega, hw132⟩
        ·
         refine rSq [(2, .y (.one (.rd ([vi z109, vi p110.1, vi p110.2.1, vb y111] ++ (mv.drop ((n : Int).toNat + 1)).flatMap (enc MV)))), H74), (4, xb false, H74)] [(3, .y (.one (sv MV bb nn cc mv))), (9, .y (.one (.ptr c4 0))), (14, xi aq), (19, .y (.one (.ptr nw 0))), (20, xi (gap S cls)), (22, xi n), (130, xb true), (135, xb false)] H74
           (cast (Jai (Jd (H := H74) (s := MV) (b := bb) (nil := nn) (capd := cc) (t := 46) (el := 50) (i := n) Try.underlying46 (by kernel_rfl) (by kernel_rfl) (by omega) hx108) (Jai (Ja (vals := [.y (.one (.rd ([vb y111] ++ (mv.drop ((n : Int).toNat + 1)).flatMap (enc MV))))]) (H := H74) (op := .load 4 (.tmp 0)) (ty := 0) (r := xb y111) (v := xb false) (by kernel_rfl) (congrArg (fun z => xb z) (c114))) trivial)) (by kernel_rfl)) (by kernel_rfl) ?_
         refine Wp.condF (by kernel_rfl) ?_
         have hz148 := posI_bd p110 l0
         have hz150 := posI_bd p110 l1
         have hz153 := posI_bd p110 l2
         obtain ⟨_, H168, hr169, ⟨hz157, rfl, hs170⟩ | ⟨hz157, rfl, hs170⟩ | ⟨rfl, hz158, hz159, hz160, hz161, rfl, hs170⟩ | ⟨rfl, hz158, hz159, hz160, hz161, rfl, hs170⟩ | ⟨rfl, hz158, hz159, hz160, hz161, rfl, hs170⟩⟩ := push_all _ (H74 : Go.Lg.Heap) (On.call [0, 1, 2, 3, 4] [5] (by kernel_rfl) hs75) (c := c4) (ks := k5) (q0 := q6) (q1 := q7) (q2 := q8) (S := S) (hand := hand) (l0 := l0) (l1 := l1) (l2 := l2) (kk := z109) (p := p110) (by omega) (by omega) (by first | rfl | omega | (simp; done) | (simp; omega)) (by first | rfl | omega | (simp; done) | (simp; omega)) (by first | rfl | omega | (simp; done) | (simp; omega))
         ·
          have hs171 : On [pts nw (.obj [vi px.1, vi px.2.1]), pts c4 (.obj [rowC k5 0 S.length 0 S.length false, vi hand, .ptr q6 0, .ptr q7 0, .ptr q8 0]), pts k5 (rowO NI true 0 S), ringP EN q6 64 l0, ringP EN q7 64 l1, ringP EN q8 64 l2] H168 := On.flat hs170
          refine rKq [(3, .y (.one (.rd ([vi z109, vi p110.1, vi p110.2.1, vb y111] ++ (mv.drop ((n : Int).toNat + 1)).flatMap (enc MV)))), H74), (8, .y (.one (.rd ([vi z109, vi p110.1, vi p110.2.1, vb y111] ++ (mv.drop ((n : Int).toNat + 1)).flatMap (enc MV)))), H74), (11, xi 1, H168)] [(3, .y (.one (sv MV bb nn cc mv))), (9, .y (.one (.ptr c4 0))), (14, xi aq), (19, .y (.one (.ptr nw 0))), (20, xi (gap S cls)), (22, xi n), (130, xb true)] H168
            (cast (Jai (Jd (H := H74) (s := MV) (b := bb) (nil := nn) (capd := cc) (t := 46) (el := 50) (i := n) Try.underlying46 (by kernel_rfl) (by kernel_rfl) (by omega) hx108) (Jai (Jd (H := H74) (s := MV) (b := bb) (nil := nn) (capd := cc) (t := 46) (el := 50) (i := n) Try.underlying46 (by kernel_rfl) (by kernel_rfl) (by omega) hx108) (Jai (Jc (H := H74) (g := 17) (vals := [.y (.one (.ptr c4 0)), xi z109, .y (.agg [vi p110.1, vi p110.2.1])]) (xs0 := [.one (.ptr c4 0), .one (vi z109), .agg [vi p110.1, vi p110.2.1]]) (res := [.one (vi 1)]) (ats := #[]) (ty := 0) (v := xi 1) (H' := H168) [.tmp 0, .tmp 1, .tmp 2] (by kernel_rfl) (by kernel_rfl) hr169 (by kernel_rfl)) trivial))) (by kernel_rfl)) (by kernel_rfl) ?_
          refine Wp.gen (cs := [pts nw (.obj [vi px.1, vi px.2.1]), pts c4 (.obj [rowC k5 0 S.length 0 S.length false, vi hand, .ptr q6 0, .ptr q7 0, .ptr q8 0]), pts k5 (rowO NI true 0 S), ringP EN q6 64 l0, ringP EN q7 64 l1, ringP EN q8 64 l2]) hs171 ?_
          intro H172 hs173
          refine Wp.skip ?_
          exact hm78 (H172, true, l0, l1, l2) ⟨(On.pick [1, 2, 3, 4, 5, 0] [] (by kernel_rfl) hs173), by omega, by omega, by omega, hw⟩
         ·
          have hs174 : On [pts nw (.obj [vi px.1, vi px.2.1]), pts c4 (.obj [rowC k5 0 S.length 0 S.length false, vi hand, .ptr q6 0, .ptr q7 0, .ptr q8 0]), pts k5 (rowO NI true 0 S), ringP EN q6 64 l0, ringP EN q7 64 l1, ringP EN q8 64 l2] H168 := On.flat hs170
          refine rKq [(3, .y (.one (.rd ([vi z109, vi p110.1, vi p110.2.1, vb y111] ++ (mv.drop ((n : Int).toNat + 1)).flatMap (enc MV)))), H74), (8, .y (.one (.rd ([vi z109, vi p110.1, vi p110.2.1, vb y111] ++ (mv.drop ((n : Int).toNat + 1)).flatMap (enc MV)))), H74), (11, xi 2, H168)] [(3, .y (.one (sv MV bb nn cc mv))), (9, .y (.one (.ptr c4 0))), (14, xi aq), (19, .y (.one (.ptr nw 0))), (20, xi (gap S cls)), (22, xi n), (130, xb true)] H168
            (cast (Jai (Jd (H := H74) (s := MV) (b := bb) (nil := nn) (capd := cc) (t := 46) (el := 50) (i := n) Try.underlying46 (by kernel_rfl) (by kernel_rfl) (by omega) hx108) (Jai (Jd (H := H74) (s := MV) (b := bb) (nil := nn) (capd := cc) (t := 46) (el := 50) (i := n) Try.underlying46 (by kernel_rfl) (by kernel_rfl) (by omega) hx108) (Jai (Jc (H := H74) (g := 17) (vals := [.y (.one (.ptr c4 0)), xi z109, .y (.agg [vi p110.1, vi p110.2.1])]) (xs0 := [.one (.ptr c4 0), .one (vi z109), .agg [vi p110.1, vi p110.2.1]]) (res := [.one (vi 2)]) (ats := #[]) (ty := 0) (v := xi 2) (H' := H168) [.tmp 0, .tmp 1, .tmp 2] (by kernel_rfl) (by kernel_rfl) hr169 (by kernel_rfl)) trivial))) (by kernel_rfl)) (by kernel_rfl) ?_
          refine Wp.gen (cs := [pts nw (.obj [vi px.1, vi px.2.1]), pts c4 (.obj [rowC k5 0 S.length 0 S.length false, vi hand, .ptr q6 0, .ptr q7 0, .ptr q8 0]), pts k5 (rowO NI true 0 S), ringP EN q6 64 l0, ringP EN q7 64 l1, ringP EN q8 64 l2]) hs174 ?_
          intro H175 hs176
          refine Wp.skip ?_
          exact hm78 (H175, true, l0, l1, l2) ⟨(On.pick [1, 2, 3, 4, 5, 0] [] (by kernel_rfl) hs176), by omega, by omega, by omega, hw⟩
         ·
          have hs177 : On [pts nw (.obj [vi px.1, vi px.2.1]), pts c4 (.obj [rowC k5 0 S.length 0 S.length false, vi hand, .ptr q6 0, .ptr q7 0, .ptr q8 0]), pts k5 (rowO NI true 0 S), ringP EN q6 64 (l0 ++ [(p110, (false, ()))]), ringP EN q7 64 l1, ringP EN q8 64 l2] H168 := On.flat hs170
          have hl162 : ((l0 ++ [(p110, (false, ()))]).length : Int) = l0.length + 1 := by simp
          have hw165 := hw.mono (LeP.app (m := [(p110, (false, ()))])) (LeP.refl) (LeP.refl)
          refine rKq [(3, .y (.one (.rd ([vi 0, vi p110.1, vi p110.2.1, vb y111] ++ (mv.drop ((n : Int).toNat + 1)).flatMap (enc MV)))), H74), (8, .y (.one (.rd ([vi 0, vi p110.1, vi p110.2.1, vb y111] ++ (mv.drop ((n : Int).toNat + 1)).flatMap (enc MV)))), H74), (11, xi 0, H168)] [(3, .y (.one (sv MV bb nn cc mv))), (9, .y (.one (.ptr c4 0))), (14, xi aq), (19, .y (.one (.ptr nw 0))), (20, xi (gap S cls)), (22, xi n), (130, xb true)] H168
            (cast (Jai (Jd (H := H74) (s := MV) (b := bb) (nil := nn) (capd := cc) (t := 46) (el := 50) (i := n) Try.underlying46 (by kernel_rfl) (by kernel_rfl) (by omega) hx108) (Jai (Jd (H := H74) (s := MV) (b := bb) (nil := nn) (capd := cc) (t := 46) (el := 50) (i := n) Try.underlying46 (by kernel_rfl) (by kernel_rfl) (by omega) hx108) (Jai (Jc (H := H74) (g := 17) (vals := [.y (.one (.ptr c4 0)), xi 0, .y (.agg [vi p110.1, vi p110.2.1])]) (xs0 := [.one (.ptr c4 0), .one (vi 0), .agg [vi p110.1, vi p110.2.1]]) (res := [.one (vi 0)]) (ats := #[]) (ty := 0) (v := xi 0) (H' := H168) [.tmp 0, .tmp 1, .tmp 2] (by kernel_rfl) (by kernel_rfl) hr169 (by kernel_rfl)) trivial))) (by kernel_rfl)) (by kernel_rfl) ?_
          refine Wp.gen (cs := [pts nw (.obj [vi px.1, vi px.2.1]), pts c4 (.obj [rowC k5 0 S.length 0 S.length false, vi hand, .ptr q6 0, .ptr q7 0, .ptr q8 0]), pts k5 (rowO NI true 0 S), ringP EN q6 64 (l0 ++ [(p110, (false, ()))]), ringP EN q7 64 l1, ringP EN q8 64 l2]) hs177 ?_
          intro H178 hs179
          refine Wp.skip ?_
          exact hm78 (H178, true, (l0 ++ [(p110, (false, ()))]), l1, l2) ⟨(On.pick [1, 2, 3, 4, 5, 0] [] (by kernel_rfl) hs179), by omega, by omega, by omega, hw165⟩
         ·
          have hs180 : On [pts nw (.obj [vi px.1, vi px.2.1]), pts c4 (.obj [rowC k5 0 S.length 0 S.length false, vi hand, .ptr q6 0, .ptr q7 0, .ptr q8 0]), pts k5 (rowO NI true 0 S), ringP EN q6 64 l0, ringP EN q7 64 (l1 ++ [(p110, (false, ()))]), ringP EN q8 64 l2] H168 := On.flat hs170
          have hl163 : ((l1 ++ [(p110, (false, ()))]).length : Int) = l1.length + 1 := by simp
          have hw166 := hw.mono (LeP.refl) (LeP.app (m := [(p110, (false, ()))])) (LeP.refl)
          refine rKq [(3, .y (.one (.rd ([vi 1, vi p110.1, vi p110.2.1, vb y111] ++ (mv.drop ((n : Int).toNat + 1)).flatMap (enc MV)))), H74), (8, .y (.one (.rd ([vi 1, vi p110.1, vi p110.2.1, vb y111] ++ (mv.drop ((n : Int).toNat + 1)).flatMap (enc MV)))), H74), (11, xi 0, H168)] [(3, .y (.one (sv MV bb nn cc mv))), (9, .y (.one (.ptr c4 0))), (14, xi aq), (19, .y (.one (.ptr nw 0))), (20, xi (gap S cls)), (22, xi n), (130, xb true)] H168
            (cast (Jai (Jd (H := H74) (s := MV) (b := bb) (nil := nn) (capd := cc) (t := 46) (el := 50) (i := n) Try.underlying46 (by kernel_rfl) (by kernel_rfl) (by omega) hx108) (Jai (Jd (H := H74) (s := MV) (b := bb) (nil := nn) (capd := cc) (t := 46) (el := 50) (i := n) Try.underlying46 (by kernel_rfl) (by kernel_rfl) (by omega) hx108) (Jai (Jc (H := H74) (g := 17) (vals := [.y (.one (.ptr c4 0)), xi 1, .y (.agg [vi p110.1, vi p110.2.1])]) (xs0 := [.one (.ptr c4 0), .one (vi 1), .agg [vi p110.1, vi p110.2.1]]) (res := [.one (vi 0)]) (ats := #[]) (ty := 0) (v := xi 0) (H' := H168) [.tmp 0, .tmp 1, .tmp 2] (by kernel_rfl) (by kernel_rfl) hr169 (by kernel_rfl)) trivial))) (by kernel_rfl)) (by kernel_rfl) ?_
          refine Wp.gen (cs := [pts nw (.obj [vi px.1, vi px.2.1]), pts c4 (.obj [rowC k5 0 S.length 0 S.length false, vi hand, .ptr q6 0, .ptr q7 0, .ptr q8 0]), pts k5 (rowO NI true 0 S), ringP EN q6 64 l0, ringP EN q7 64 (l1 ++ [(p110, (false, ()))]), ringP EN q8 64 l2]) hs180 ?_
          intro H181 hs182
          refine Wp.skip ?_
          exact hm78 (H181, true, l0, (l1 ++ [(p110, (false, ()))]), l2) ⟨(On.pick [1, 2, 3, 4, 5, 0] [] (by kernel_rfl) hs182), by omega, by omega, by omega, hw166⟩
         ·
          have hs183 : On [pts nw (.obj [vi px.1, vi px.2.1]), pts c4 (.obj [rowC k5 0 S.length 0 S.length false, vi hand, .ptr q6 0, .ptr q7 0, .ptr q8 0]), pts k5 (rowO NI true 0 S), ringP EN q6 64 l0, ringP EN q7 64 l1, ringP EN q8 64 (l2 ++ [(p110, (false, ()))])] H168 := On.flat hs170
          have hl164 : ((l2 ++ [(p110, (false, ()))]).length : Int) = l2.length + 1 := by simp
          have hw167 := hw.mono (LeP.refl) (LeP.refl) (LeP.app (m := [(p110, (false, ()))]))
          refine rKq [(3, .y (.one (.rd ([vi 2, vi p110.1, vi p110.2.1, vb y111] ++ (mv.drop ((n : Int).toNat + 1)).flatMap (enc MV)))), H74), (8, .y (.one (.rd ([vi 2, vi p110.1, vi p110.2.1, vb y111] ++ (mv.drop ((n : Int).toNat + 1)).flatMap (enc MV)))), H74), (11, xi 0, H168)] [(3, .y (.one (sv MV bb nn cc mv))), (9, .y (.one (.ptr c4 0))), (14, xi aq), (19, .y (.one (.ptr nw 0))), (20, xi (gap S cls)), (22, xi n), (130, xb true)] H168
            (cast (Jai (Jd (H := H74) (s := MV) (b := bb) (nil := nn) (capd := cc) (t := 46) (el := 50) (i := n) Try.underlying46 (by kernel_rfl) (by kernel_rfl) (by omega) hx108) (Jai (Jd (H := H74) (s := MV) (b := bb) (nil := nn) (capd := cc) (t := 46) (el := 50) (i := n) Try.underlying46 (by kernel_rfl) (by kernel_rfl) (by omega) hx108) (Jai (Jc (H := H74) (g := 17) (vals := [.y (.one (.ptr c4 0)), xi 2, .y (.agg [vi p110.1, vi p110.2.1])]) (xs0 := [.one (.ptr c4 0), .one (vi 2), .agg [vi p110.1, vi p110.2.1]]) (res := [.one (vi 0)]) (ats := #[]) (ty := 0) (v := xi 0) (H' := H168) [.tmp 0, .tmp 1, .tmp 2] (by kernel_rfl) (by kernel_rfl) hr169 (by kernel_rfl)) trivial))) (by kernel_rfl)) (by kernel_rfl) ?_
          refine Wp.gen (cs := [pts nw (.obj [vi px.1, vi px.2.1]), pts c4 (.obj [rowC k5 0 S.length 0 S.length false, vi hand, .ptr q6 0, .ptr q7 0, .ptr q8 0]), pts k5 (rowO NI true 0 S), ringP EN q6 64 l0, ringP EN q7 64 l1, ringP EN q8 64 (l2 ++ [(p110, (false, ()))])]) hs183 ?_
          intro H184 hs185
          refine Wp.skip ?_
          exact hm78 (H184, true, l0, l1, (l2 ++ [(p110, (false, ()))])) ⟨(On.pick [1, 2, 3, 4, 5, 0] [] (by kernel_rfl) hs185), by omega, by omega, by omega, hw167⟩
      ·
       refine rSq [(3, xb false, H74)] [(3, .y (.one (sv MV bb nn cc mv))), (9, .y (.one (.ptr c4 0))), (14, xi aq), (19, .y (.one (.ptr nw 0))), (20, xi (gap S cls)), (22, xi n), (130, xb false)] H74
         (cast (Jai (Ja (vals := [xi n, xi (mv.length : Int)]) (H := H74) (op := .binOp .lss 3 (.tmp 0) (.tmp 1) 3) (ty := 0) (r := xb (decide ((n : Int) < (mv.length : Int)))) (v := xb false) (by kernel_rfl) (congrArg (fun z => xb z) (decide_eq_false (by omega)))) trivial) (by kernel_rfl)) (by kernel_rfl) ?_
       refine Wp.condF (by kernel_rfl) ?_
       refine Wp.skip ?_
       exact hm78 (H74, false, l0, l1, l2) ⟨(On.pick [0, 1, 2, 3, 4, 5] [] (by kernel_rfl) hs75), by omega, by omega, by omega, hw⟩
    ·
     intro hm69
     rcases w1 with ⟨rfl, wa, wb⟩ | ⟨rfl, wa, wb⟩ | ⟨rfl, wa, wb⟩
     ·
      obtain ⟨x186, hx186⟩ : ∃ x, l0[(aq : Int).toNat]? = some x := get_of (by omega)
      obtain ⟨n187, hn187⟩ : ∃ n, n = List.length (H44 : Go.Lg.Heap) := ⟨_, rfl⟩
      refine rSq [(2, .y (.one (sv EN aa0 nn0 pp0 l0)), H44), (4, .y (.one (.rd ([vi x186.1.1, vi x186.1.2.1, vb x186.2.1] ++ (l0.drop ((aq : Int).toNat + 1)).flatMap (enc EN)))), H44), (7, .y (.one (.ptr n187 0)), (H44 ++ [.obj [vi 0, vi 0]])), (8, .tup [], (List.set (α := O) (H44 ++ [.obj [vi 0, vi 0]]) n187 (.obj [vi x186.1.1, vi x186.1.2.1])))] [(0, .y (.one (sv NI b nn9 cp S))), (3, .y (.one (sv MV bb nn cc mv))), (9, .y (.one (.ptr c4 0))), (13, xi 0), (14, xi aq), (19, .y (.one (.ptr n187 0)))] (List.set (α := O) (H44 ++ [.obj [vi 0, vi 0]]) n187 (.obj [vi x186.1.1, vi x186.1.2.1]))
        (cast (Jai (Jb (H := H44) (t := 23) (ty := 0) (id := n1) (off := 0) (n := 1) (cs := [sv EN aa0 nn0 pp0 l0, sv EN aa1 nn1 pp1 l1, sv EN aa2 nn2 pp2 l2]) (cs' := [sv EN aa0 nn0 pp0 l0]) (v := .one (sv EN aa0 nn0 pp0 l0)) (On.at hs45 0 rfl) (by kernel_rfl) (by kernel_rfl) (by kernel_rfl) (by kernel_rfl)) (Jai (Jd (H := H44) (s := EN) (b := aa0) (nil := nn0) (capd := pp0) (t := 23) (el := 40) (i := aq) Try.underlying23 (by kernel_rfl) (by kernel_rfl) (by omega) hx186) (Jai (Jg (H := H44) (t := 38) (ty := 0) (n := n187) (cs := [vi 0, vi 0]) hn187 (by kernel_rfl)) (Jai (Je (H := (H44 ++ [.obj [vi 0, vi 0]])) (t := 38) (ty := 0) (id := n187) (off := 0) (cs := [vi 0, vi 0]) (cs' := [vi x186.1.1, vi x186.1.2.1]) (v := .agg [vi x186.1.1, vi x186.1.2.1]) (On.at (On.new' hn187 (.obj [vi 0, vi 0]) hs45) 6 rfl) (by kernel_rfl) (by kernel_rfl) (by kernel_rfl)) trivial)))) (by kernel_rfl)) (by kernel_rfl) ?_
      refine Wp.gen (cs := [pts n1 (.obj [sv EN aa0 nn0 pp0 l0, sv EN aa1 nn1 pp1 l1, sv EN aa2 nn2 pp2 l2]), pts c4 (.obj [rowC k5 0 S.length 0 S.length false, vi hand, .ptr q6 0, .ptr q7 0, .ptr q8 0]), pts k5 (rowO NI true 0 S), ringP EN q6 64 l0, ringP EN q7 64 l1, ringP EN q8 64 l2, pts n187 (.obj [vi x186.1.1, vi x186.1.2.1])]) (On.put (.obj [vi x186.1.1, vi x186.1.2.1]) (On.new' hn187 (.obj [vi 0, vi 0]) hs45) 6 rfl) ?_
      intro H188 hs189
      exact hm69 (H188, n187, x186.1) ⟨(On.pick [0, 1, 2, 3, 4, 5, 6] [] (by kernel_rfl) hs189), (by have h9 := posI_of hx186 (show x186.1 = x186.1 from rfl); exact ⟨h9.1, (show posI x186.1 l0 ≤ aq by omega)⟩)⟩
     ·
      obtain ⟨x190, hx190⟩ : ∃ x, l1[(aq : Int).toNat]? = some x := get_of (by omega)
      obtain ⟨n191, hn191⟩ : ∃ n, n = List.length (H44 : Go.Lg.Heap) := ⟨_, rfl⟩
      refine rSq [(2, .y (.one (sv EN aa1 nn1 pp1 l1)), H44), (4, .y (.one (.rd ([vi x190.1.1, vi x190.1.2.1, vb x190.2.1] ++ (l1.drop ((aq : Int).toNat + 1)).flatMap (enc EN)))), H44), (7, .y (.one (.ptr n191 0)), (H44 ++ [.obj [vi 0, vi 0]])), (8, .tup [], (List.set (α := O) (H44 ++ [.obj [vi 0, vi 0]]) n191 (.obj [vi x190.1.1, vi x190.1.2.1])))] [(0, .y (.one (sv NI b nn9 cp S))), (3, .y (.one (sv MV bb nn cc mv))), (9, .y (.one (.ptr c4 0))), (13, xi 1), (14, xi aq), (19, .y (.one (.ptr n191 0)))] (List.set (α := O) (H44 ++ [.obj [vi 0, vi 0]]) n191 (.obj [vi x190.1.1, vi x190.1.2.1]))
        (cast (Jai (Jb (H := H44) (t := 23) (ty := 0) (id := n1) (off := 1) (n := 1) (cs := [sv EN aa0 nn0 pp0 l0, sv EN aa1 nn1 pp1 l1, sv EN aa2 nn2 pp2 l2]) (cs' := [sv EN aa1 nn1 pp1 l1]) (v := .one (sv EN aa1 nn1 pp1 l1)) (On.at hs45 0 rfl) (by kernel_rfl) (by kernel_rfl) (by kernel_rfl) (by kernel_rfl)) (Jai (Jd (H := H44) (s := EN) (b := aa1) (nil := nn1) (capd := pp1) (t := 23) (el := 40) (i := aq) Try.underlying23 (by kernel_rfl) (by kernel_rfl) (by omega) hx190) (Jai (Jg (H := H44) (t := 38) (ty := 0) (n := n191) (cs := [vi 0, vi 0]) hn191 (by kernel_rfl)) (Jai (Je (H := (H44 ++ [.obj [vi 0, vi 0]])) (t := 38) (ty := 0) (id := n191) (off := 0) (cs := [vi 0, vi 0]) (cs' := [vi x190.1.1, vi x190.1.2.1]) (v := .agg [vi x190.1.1, vi x190.1.2.1]) (On.at (On.new' hn191 (.obj [vi 0, vi 0]) hs45) 6 rfl) (by kernel_rfl) (by kernel_rfl) (by kernel_rfl)) trivial)))) (by kernel_rfl)) (by kernel_rfl) ?_
      refine Wp.gen (cs := [pts n1 (.obj [sv EN aa0 nn0 pp0 l0, sv EN aa1 nn1 pp1 l1, sv EN aa2 nn2 pp2 l2]), pts c4 (.obj [rowC k5 0 S.length 0 S.length false, vi hand, .ptr q6 0, .ptr q7 0, .ptr q8 0]), pts k5 (rowO NI true 0 S), ringP EN q6 64 l0, ringP EN q7 64 l1, ringP EN q8 64 l2, pts n191 (.obj [vi x190.1.1, vi x190.1.2.1])]) (On.put (.obj [vi x190.1.1, vi x190.1.2.1]) (On.new' hn191 (.obj [vi 0, vi 0]) hs45) 6 rfl) ?_
      intro H192 hs193
      exact hm69 (H192, n191, x190.1) ⟨(On.pick [0, 1, 2, 3, 4, 5, 6] [] (by kernel_rfl) hs193), (by have h9 := posI_of hx190 (show x190.1 = x190.1 from rfl); exact ⟨h9.1, (show posI x190.1 l1 ≤ aq by omega)⟩)⟩
     ·
      obtain ⟨x194, hx194⟩ : ∃ x, l2[(aq : Int).toNat]? = some x := get_of (by omega)
      obtain ⟨n195, hn195⟩ : ∃ n, n = List.length (H44 : Go.Lg.Heap) := ⟨_, rfl⟩
      refine rSq [(2, .y (.one (sv EN aa2 nn2 pp2 l2)), H44), (4, .y (.one (.rd ([vi x194.1.1, vi x194.1.2.1, vb x194.2.1] ++ (l2.drop ((aq : Int).toNat + 1)).flatMap (enc EN)))), H44), (7, .y (.one (.ptr n195 0)), (H44 ++ [.obj [vi 0, vi 0]])), (8, .tup [], (List.set (α := O) (H44 ++ [.obj [vi 0, vi 0]]) n195 (.obj [vi x194.1.1, vi x194.1.2.1])))] [(0, .y (.one (sv NI b nn9 cp S))), (3, .y (.one (sv MV bb nn cc mv))), (9, .y (.one (.ptr c4 0))), (13, xi 2), (14, xi aq), (19, .y (.one (.ptr n195 0)))] (List.set (α := O) (H44 ++ [.obj [vi 0, vi 0]]) n195 (.obj [vi x194.1.1, vi x194.1.2.1]))
        (cast (Jai (Jb (H := H44) (t := 23) (ty := 0) (id := n1) (off := 2) (n := 1) (cs := [sv EN aa0 nn0 pp0 l0, sv EN aa1 nn1 pp1 l1, sv EN aa2 nn2 pp2 l2]) (cs' := [sv EN aa2 nn2 pp2 l2]) (v := .one (sv EN aa2 nn2 pp2 l2)) (On.at hs45 0 rfl) (by kernel_rfl) (by kernel_rfl) (by kernel_rfl) (by kernel_rfl)) (Jai (Jd (H := H44) (s := EN) (b := aa2) (nil := nn2) (capd := pp2) (t := 23) (el := 40) (i := aq) Try.underlying23 (by kernel_rfl) (by kernel_rfl) (by omega) hx194) (Jai (Jg (H := H44) (t := 38) (ty := 0) (n := n195) (cs := [vi 0, vi 0]) hn195 (by kernel_rfl)) (Jai (Je (H := (H44 ++ [.obj [vi 0, vi 0]])) (t := 38) (ty := 0) (id := n195) (off := 0) (cs := [vi 0, vi 0]) (cs' := [vi x194.1.1, vi x194.1.2.1]) (v := .agg [vi x194.1.1, vi x194.1.2.1]) (On.at (On.new' hn195 (.obj [vi 0, vi 0]) hs45) 6 rfl) (by kernel_rfl) (by kernel_rfl) (by kernel_rfl)) trivial)))) (by kernel_rfl)) (by kernel_rfl) ?_
      refine Wp.gen (cs := [pts n1 (.obj [sv EN aa0 nn0 pp0 l0, sv EN aa1 nn1 pp1 l1, sv EN aa2 nn2 pp2 l2]), pts c4 (.obj [rowC k5 0 S.length 0 S.length false, vi hand, .ptr q6 0, .ptr q7 0, .ptr q8 0]), pts k5 (rowO NI true 0 S), ringP EN q6 64 l0, ringP EN q7 64 l1, ringP EN q8 64 l2, pts n195 (.obj [vi x194.1.1, vi x194.1.2.1])]) (On.put (.obj [vi x194.1.1, vi x194.1.2.1]) (On.new' hn195 (.obj [vi 0, vi 0]) hs45) 6 rfl) ?_
      intro H196 hs197
      exact hm69 (H196, n195, x194.1) ⟨(On.pick [0, 1, 2, 3, 4, 5, 6] [] (by kernel_rfl) hs197), (by have h9 := posI_of hx194 (show x194.1 = x194.1 from rfl); exact ⟨h9.1, (show posI x194.1 l2 ≤ aq by omega)⟩)⟩
  ·
   intro hm46
   refine rSq [] [(0, .y (.one (sv NI b nn9 cp S))), (3, .y (.one (sv MV bb nn cc mv))), (6, .y (.one (.ptr n1 0))), (9, .y (.one (.ptr c4 0))), (13, xi (-1)), (14, xi (-1))] H42
     (cast trivial (by kernel_rfl)) (by kernel_rfl) ?_
   refine Wp.seq ?_
   refine rSq [] [(0, .y (.one (sv NI b nn9 cp S))), (3, .y (.one (sv MV bb nn cc mv))), (6, .y (.one (.ptr n1 0))), (9, .y (.one (.ptr c4 0))), (13, xi (-1)), (14, xi (-1)), (15, xi 0)] H42
     (cast trivial (by kernel_rfl)) (by kernel_rfl) ?_
   refine Wp.block ?_
   refine Wp.loopU [(0, .y (.one (sv NI b nn9 cp S))), (3, .y (.one (sv MV bb nn cc mv))), (6, .y (.one (.ptr n1 0))), (9, .y (.one (.ptr c4 0))), (13, xi (-1)), (14, xi (-1)), (15, xi 0)] (some ([0, 3, 6, 9, 13, 14, 15], false)) (List.length H42) (by kernel_rfl) ?_
   refine WpL.step ?_
   refine Wp.seq ?_
   refine rSq [] [(0, .y (.one (sv NI b nn9 cp S))), (3, .y (.one (sv MV bb nn cc mv))), (6, .y (.one (.ptr n1 0))), (9, .y (.one (.ptr c4 0))), (13, xi (-1)), (14, xi (-1)), (15, xi 0), (57, xb true)] H42
     (cast trivial (by kernel_rfl)) (by kernel_rfl) ?_
   refine Wp.condT (by kernel_rfl) ?_
   refine Wp.skip ?_
   refine Wp.seq ?_
   refine Wp.block ?_
   by_cases c198 : (0 : Int) < (l0.length : Int)
   ·
    refine rSq [(2, .y (.one (sv EN aa0 nn0 pp0 l0)), H42), (4, xb true, H42)] [(0, .y (.one (sv NI b nn9 cp S))), (3, .y (.one (sv MV bb nn cc mv))), (6, .y (.one (.ptr n1 0))), (9, .y (.one (.ptr c4 0))), (13, xi (-1)), (14, xi (-1)), (15, xi 0), (77, xb true)] H42
      (cast (Jai (Jb (H := H42) (t := 23) (ty := 0) (id := n1) (off := 0) (n := 1) (cs := [sv EN aa0 nn0 pp0 l0, sv EN aa1 nn1 pp1 l1, sv EN aa2 nn2 pp2 l2]) (cs' := [sv EN aa0 nn0 pp0 l0]) (v := .one (sv EN aa0 nn0 pp0 l0)) (On.at hs43 0 rfl) (by kernel_rfl) (by kernel_rfl) (by kernel_rfl) (by kernel_rfl)) (Jai (Ja (vals := [xi (l0.length : Int), xi 0]) (H := H42) (op := .binOp .gtr 3 (.tmp 0) (.tmp 1) 3) (ty := 0) (r := xb (decide (((l0.length : Int) : Int) > 0))) (v := xb true) (by kernel_rfl) (congrArg (fun z => xb z) (decide_eq_true (by omega)))) trivial)) (by kernel_rfl)) (by kernel_rfl) ?_
    refine Wp.condT (by kernel_rfl) ?_
    refine rSq [] [(0, .y (.one (sv NI b nn9 cp S))), (3, .y (.one (sv MV bb nn cc mv))), (6, .y (.one (.ptr n1 0))), (9, .y (.one (.ptr c4 0))), (13, xi 0), (15, xi 0)] H42
      (cast trivial (by kernel_rfl)) (by kernel_rfl) ?_
    refine Wp.region [(2, .y (.one (sv EN aa0 nn0 pp0 l0)), H42), (4, xi ((l0.length : Int) - 1), H42)] [(0, .y (.one (sv NI b nn9 cp S))), (3, .y (.one (sv MV bb nn cc mv))), (6, .y (.one (.ptr n1 0))), (9, .y (.one (.ptr c4 0))), (13, xi 0), (14, xi ((l0.length : Int) - 1)), (15, xi 0)] H42
      (cast (Jai (Jb (H := H42) (t := 23) (ty := 0) (id := n1) (off := 0) (n := 1) (cs := [sv EN aa0 nn0 pp0 l0, sv EN aa1 nn1 pp1 l1, sv EN aa2 nn2 pp2 l2]) (cs' := [sv EN aa0 nn0 pp0 l0]) (v := .one (sv EN aa0 nn0 pp0 l0)) (On.at hs43 0 rfl) (by kernel_rfl) (by kernel_rfl) (by kernel_rfl) (by kernel_rfl)) (Jai (Ja (vals := [xi (l0.length : Int), xi 1]) (H := H42) (op := .binOp .sub 3 (.tmp 0) (.tmp 1) 3) (ty := 0) (r := xi (IntKind.wrap .i64 ((l0.length : Int) - 1))) (v := xi ((l0.length : Int) - 1)) (by kernel_rfl) (congrArg (fun z => xi z) ((wrap64 (by omega)).trans (by omega)))) trivial)) (by kernel_rfl)) (by kernel_rfl) ?_
    refine Wp.region [] [(0, .y (.one (sv NI b nn9 cp S))), (3, .y (.one (sv MV bb nn cc mv))), (6, .y (.one (.ptr n1 0))), (9, .y (.one (.ptr c4 0))), (13, xi 0), (14, xi ((l0.length : Int) - 1)), (15, xi 1)] H42
      (cast trivial (by kernel_rfl)) (by kernel_rfl) ?_
    refine ⟨[(0, .y (.one (sv NI b nn9 cp S))), (3, .y (.one (sv MV bb nn cc mv))), (6, .y (.one (.ptr n1 0))), (9, .y (.one (.ptr c4 0))), (13, xi 0), (14, xi ((l0.length : Int) - 1)), (15, xi 1)], H42, by kernel_rfl, ?_⟩
    refine WpL.step ?_
    refine Wp.seq ?_
    refine rSq [] [(0, .y (.one (sv NI b nn9 cp S))), (3, .y (.one (sv MV bb nn cc mv))), (6, .y (.one (.ptr n1 0))), (9, .y (.one (.ptr c4 0))), (13, xi 0), (14, xi ((l0.length : Int) - 1)), (15, xi 1), (57, xb true)] H42
      (cast trivial (by kernel_rfl)) (by kernel_rfl) ?_
    refine Wp.condT (by kernel_rfl) ?_
    refine Wp.skip ?_
    refine Wp.seq ?_
    refine Wp.block ?_
    by_cases c199 : (0 : Int) < (l1.length : Int)
    ·
     by_cases c200 : ((l0.length : Int) : Int) < (l1.length : Int)
     ·
      refine rSq [(2, .y (.one (sv EN aa1 nn1 pp1 l1)), H42), (4, xb true, H42), (7, xb false, H42), (11, .y (.one (sv EN aa1 nn1 pp1 l1)), H42), (14, xi (l0.length : Int), H42), (15, xb true, H42)] [(0, .y (.one (sv NI b nn9 cp S))), (3, .y (.one (sv MV bb nn cc mv))), (6, .y (.one (.ptr n1 0))), (9, .y (.one (.ptr c4 0))), (13, xi 0), (14, xi ((l0.length : Int) - 1)), (15, xi 1), (77, xb true)] H42
        (cast (Jai (Jb (H := H42) (t := 23) (ty := 0) (id := n1) (off := 1) (n := 1) (cs := [sv EN aa0 nn0 pp0 l0, sv EN aa1 nn1 pp1 l1, sv EN aa2 nn2 pp2 l2]) (cs' := [sv EN aa1 nn1 pp1 l1]) (v := .one (sv EN aa1 nn1 pp1 l1)) (On.at hs43 0 rfl) (by kernel_rfl) (by kernel_rfl) (by kernel_rfl) (by kernel_rfl)) (Jai (Ja (vals := [xi (l1.length : Int), xi 0]) (H := H42) (op := .binOp .gtr 3 (.tmp 0) (.tmp 1) 3) (ty := 0) (r := xb (decide (((l1.length : Int) : Int) > 0))) (v := xb true) (by kernel_rfl) (congrArg (fun z => xb z) (decide_eq_true (by omega)))) (Jai (Ja (vals := [xi ((l0.length : Int) - 1), xi 0]) (H := H42) (op := .binOp .lss 3 (.tmp 0) (.tmp 1) 3) (ty := 0) (r := xb (decide ((((l0.length : Int) - 1) : Int) < 0))) (v := xb false) (by kernel_rfl) (congrArg (fun z => xb z) (decide_eq_false (by omega)))) (Jai (Jb (H := H42) (t := 23) (ty := 0) (id := n1) (off := 1) (n := 1) (cs := [sv EN aa0 nn0 pp0 l0, sv EN aa1 nn1 pp1 l1, sv EN aa2 nn2 pp2 l2]) (cs' := [sv EN aa1 nn1 pp1 l1]) (v := .one (sv EN aa1 nn1 pp1 l1)) (On.at hs43 0 rfl) (by kernel_rfl) (by kernel_rfl) (by kernel_rfl) (by kernel_rfl)) (Jai (Ja (vals := [xi ((l0.length : Int) - 1), xi 1]) (H := H42) (op := .binOp .add 3 (.tmp 0) (.tmp 1) 3) (ty := 0) (r := xi (IntKind.wrap .i64 (((l0.length : Int) - 1) + 1))) (v := xi (l0.length : Int)) (by kernel_rfl) (congrArg (fun z => xi z) ((wrap64 (by omega)).trans (by omega)))) (Jai (Ja (vals := [xi (l1.length : Int), xi (l0.length : Int)]) (H := H42) (op := .binOp .gtr 3 (.tmp 0) (.tmp 1) 3) (ty := 0) (r := xb (decide (((l1.length : Int) : Int) > (l0.length : Int)))) (v := xb true) (by kernel_rfl) (congrArg (fun z => xb z) (decide_eq_true (by omega)))) trivial)))))) (by kernel_rfl)) (by kernel_rfl) ?_
      refine Wp.condT (by kernel_rfl) ?_
      refine rSq [] [(0, .y (.one (sv NI b nn9 cp S))), (3, .y (.one (sv MV bb nn cc mv))), (6, .y (.one (.ptr n1 0))), (9, .y (.one (.ptr c4 0))), (13, xi 1), (15, xi 1)] H42
        (cast trivial (by kernel_rfl)) (by kernel_rfl) ?_
      refine Wp.region [(2, .y (.one (sv EN aa1 nn1 pp1 l1)), H42), (4, xi ((l1.length : Int) - 1), H42)] [(0, .y (.one (sv NI b nn9 cp S))), (3, .y (.one (sv MV bb nn cc mv))), (6, .y (.one (.ptr n1 0))), (9, .y (.one (.ptr c4 0))), (13, xi 1), (14, xi ((l1.length : Int) - 1)), (15, xi 1)] H42
        (cast (Jai (Jb (H := H42) (t := 23) (ty := 0) (id := n1) (off := 1) (n := 1) (cs := [sv EN aa0 nn0 pp0 l0, sv EN aa1 nn1 pp1 l1, sv EN aa2 nn2 pp2 l2]) (cs' := [sv EN aa1 nn1 pp1 l1]) (v := .one (sv EN aa1 nn1 pp1 l1)) (On.at hs43 0 rfl) (by kernel_rfl) (by kernel_rfl) (by kernel_rfl) (by kernel_rfl)) (Jai (Ja (vals := [xi (l1.length : Int), xi 1]) (H := H42) (op := .binOp .sub 3 (.tmp 0) (.tmp 1) 3) (ty := 0) (r := xi (IntKind.wrap .i64 ((l1.length : Int) - 1))) (v := xi ((l1.length : Int) - 1)) (by kernel_rfl) (congrArg (fun z => xi z) ((wrap64 (by omega)).trans (by omega)))) trivial)) (by kernel_rfl)) (by kernel_rfl) ?_
      refine Wp.region [] [(0, .y (.one (sv NI b nn9 cp S))), (3, .y (.one (sv MV bb nn cc mv))), (6, .y (.one (.ptr n1 0))), (9, .y (.one (.ptr c4 0))), (13, xi 1), (14, xi ((l1.length : Int) - 1)), (15, xi 2)] H42
        (cast trivial (by kernel_rfl)) (by kernel_rfl) ?_
      refine ⟨[(0, .y (.one (sv NI b nn9 cp S))), (3, .y (.one (sv MV bb nn cc mv))), (6, .y (.one (.ptr n1 0))), (9, .y (.one (.ptr c4 0))), (13, xi 1), (14, xi ((l1.length : Int) - 1)), (15, xi 2)], H42, by kernel_rfl, ?_⟩
      refine WpL.step ?_
      refine Wp.seq ?_
      refine rSq [] [(0, .y (.one (sv NI b nn9 cp S))), (3, .y (.one (sv MV bb nn cc mv))), (6, .y (.one (.ptr n1 0))), (9, .y (.one (.ptr c4 0))), (13, xi 1), (14, xi ((l1.length : Int) - 1)), (15, xi 2), (57, xb true)] H42
        (cast trivial (by kernel_rfl)) (by kernel_rfl) ?_
      refine Wp.condT (by kernel_rfl) ?_
      refine Wp.skip ?_
      refine Wp.seq ?_
      refine Wp.block ?_
      by_cases c201 : (0 : Int) < (l2.length : Int)
      ·
       by_cases c202 : ((l1.length : Int) : Int) < (l2.length : Int)
       ·
        refine rSq [(2, .y (.one (sv EN aa2 nn2 pp2 l2)), H42), (4, xb true, H42), (7, xb false, H42), (11, .y (.one (sv EN aa2 nn2 pp2 l2)), H42), (14, xi (l1.length : Int), H42), (15, xb true, H42)] [(0, .y (.one (sv NI b nn9 cp S))), (3, .y (.one (sv MV bb nn cc mv))), (6, .y (.one (.ptr n1 0))), (9, .y (.one (.ptr c4 0))), (13, xi 1), (14, xi ((l1.length : Int) - 1)), (15, xi 2), (77, xb true)] H42
          (cast (Jai (Jb (H := H42) (t := 23) (ty := 0) (id := n1) (off := 2) (n := 1) (cs := [sv EN aa0 nn0 pp0 l0, sv EN aa1 nn1 pp1 l1, sv EN aa2 nn2 pp2 l2]) (cs' := [sv EN aa2 nn2 pp2 l2]) (v := .one (sv EN aa2 nn2 pp2 l2)) (On.at hs43 0 rfl) (by kernel_rfl) (by kernel_rfl) (by kernel_rfl) (by kernel_rfl)) (Jai (Ja (vals := [xi (l2.length : Int), xi 0]) (H := H42) (op := .binOp .gtr 3 (.tmp 0) (.tmp 1) 3) (ty := 0) (r := xb (decide (((l2.length : Int) : Int) > 0))) (v := xb true) (by kernel_rfl) (congrArg (fun z => xb z) (decide_eq_true (by omega)))) (Jai (Ja (vals := [xi ((l1.length : Int) - 1), xi 0]) (H := H42) (op := .binOp .lss 3 (.tmp 0) (.tmp 1) 3) (ty := 0) (r := xb (decide ((((l1.length : Int) - 1) : Int) < 0))) (v := xb false) (by kernel_rfl) (congrArg (fun z => xb z) (decide_eq_false (by omega)))) (Jai (Jb (H := H42) (t := 23) (ty := 0) (id := n1) (off := 2) (n := 1) (cs := [sv EN aa0 nn0 pp0 l0, sv EN aa1 nn1 pp1 l1, sv EN aa2 nn2 pp2 l2]) (cs' := [sv EN aa2 nn2 pp2 l2]) (v := .one (sv EN aa2 nn2 pp2 l2)) (On.at hs43 0 rfl) (by kernel_rfl) (by kernel_rfl) (by kernel_rfl) (by kernel_rfl)) (Jai (Ja (vals := [xi ((l1.length : Int) - 1), xi 1]) (H := H42) (op := .binOp .add 3 (.tmp 0) (.tmp 1) 3) (ty := 0) (r := xi (IntKind.wrap .i64 (((l1.length : Int) - 1) + 1))) (v := xi (l1.length : Int)) (by kernel_rfl) (congrArg (fun z => xi z) ((wrap64 (by omega)).trans (by omega)))) (Jai (Ja (vals := [xi (l2.length : Int), xi (l1.length : Int)]) (H := H42) (op := .binOp .gtr 3 (.tmp 0) (.tmp 1) 3) (ty := 0) (r := xb (decide (((l2.length : Int) : Int) > (l1.length : Int)))) (v := xb true) (by kernel_rfl) (congrArg (fun z => xb z) (decide_eq_true (by omega)))) trivial)))))) (by kernel_rfl)) (by kernel_rfl) ?_
        refine Wp.condT (by kernel_rfl) ?_
        refine rSq [] [(0, .y (.one (sv NI b nn9 cp S))), (3, .y (.one (sv MV bb nn cc mv))), (6, .y (.one (.ptr n1 0))), (9, .y (.one (.ptr c4 0))), (13, xi 2), (15, xi 2)] H42
          (cast trivial (by kernel_rfl)) (by kernel_rfl) ?_
        refine Wp.region [(2, .y (.one (sv EN aa2 nn2 pp2 l2)), H42), (4, xi ((l2.length : Int) - 1), H42)] [(0, .y (.one (sv NI b nn9 cp S))), (3, .y (.one (sv MV bb nn cc mv))), (6, .y (.one (.ptr n1 0))), (9, .y (.one (.ptr c4 0))), (13, xi 2), (14, xi ((l2.length : Int) - 1)), (15, xi 2)] H42
          (cast (Jai (Jb (H := H42) (t := 23) (ty := 0) (id := n1) (off := 2) (n := 1) (cs := [sv EN aa0 nn0 pp0 l0, sv EN aa1 nn1 pp1 l1, sv EN aa2 nn2 pp2 l2]) (cs' := [sv EN aa2 nn2 pp2 l2]) (v := .one (sv EN aa2 nn2 pp2 l2)) (On.at hs43 0 rfl) (by kernel_rfl) (by kernel_rfl) (by kernel_rfl) (by kernel_rfl)) (Jai (Ja (vals := [xi (l2.length : Int), xi 1]) (H := H42) (op := .binOp .sub 3 (.tmp 0) (.tmp 1) 3) (ty := 0) (r := xi (IntKind.wrap .i64 ((l2.length : Int) - 1))) (v := xi ((l2.length : Int) - 1)) (by kernel_rfl) (congrArg (fun z => xi z) ((wrap64 (by omega)).trans (by omega)))) trivial)) (by kernel_rfl)) (by kernel_rfl) ?_
        refine Wp.region [] [(0, .y (.one (sv NI b nn9 cp S))), (3, .y (.one (sv MV bb nn cc mv))), (6, .y (.one (.ptr n1 0))), (9, .y (.one (.ptr c4 0))), (13, xi 2), (14, xi ((l2.length : Int) - 1)), (15, xi 3)] H42
          (cast trivial (by kernel_rfl)) (by kernel_rfl) ?_
        refine ⟨[(0, .y (.one (sv NI b nn9 cp S))), (3, .y (.one (sv MV bb nn cc mv))), (6, .y (.one (.ptr n1 0))), (9, .y (.one (.ptr c4 0))), (13, xi 2), (14, xi ((l2.length : Int) - 1)), (15, xi 3)], H42, by kernel_rfl, ?_⟩
        refine WpL.step ?_
        refine Wp.seq ?_
        refine rSq [] [(0, .y (.one (sv NI b nn9 cp S))), (3, .y (.one (sv MV bb nn cc mv))), (6, .y (.one (.ptr n1 0))), (9, .y (.one (.ptr c4 0))), (13, xi 2), (14, xi ((l2.length : Int) - 1)), (15, xi 3), (57, xb false)] H42
          (cast trivial (by kernel_rfl)) (by kernel_rfl) ?_
        refine Wp.condF (by kernel_rfl) ?_
        refine Wp.exit ?_
        refine Eq.mpr (if_pos rfl) ?_
        exact hm46 (H42, 2, ((l2.length : Int) - 1)) ⟨(On.pick [0, 1, 2, 3, 4, 5] [] (by kernel_rfl) hs43), .inr (.inr (.inr (⟨rfl, by omega, by omega⟩)))⟩
       ·
        refine rSq [(2, .y (.one (sv EN aa2 nn2 pp2 l2)), H42), (4, xb true, H42), (7, xb false, H42), (11, .y (.one (sv EN aa2 nn2 pp2 l2)), H42), (14, xi (l1.length : Int), H42), (15, xb false, H42)] [(0, .y (.one (sv NI b nn9 cp S))), (3, .y (.one (sv MV bb nn cc mv))), (6, .y (.one (.ptr n1 0))), (9, .y (.one (.ptr c4 0))), (13, xi 1), (14, xi ((l1.length : Int) - 1)), (15, xi 2), (77, xb false)] H42
          (cast (Jai (Jb (H := H42) (t := 23) (ty := 0) (id := n1) (off := 2) (n := 1) (cs := [sv EN aa0 nn0 pp0 l0, sv EN aa1 nn1 pp1 l1, sv EN aa2 nn2 pp2 l2]) (cs' := [sv EN aa2 nn2 pp2 l2]) (v := .one (sv EN aa2 nn2 pp2 l2)) (On.at hs43 0 rfl) (by kernel_rfl) (by kernel_rfl) (by kernel_rfl) (by kernel_rfl)) (Jai (Ja (vals := [xi (l2.length : Int), xi 0]) (H := H42) (op := .binOp .gtr 3 (.tmp 0) (.tmp 1) 3) (ty := 0) (r := xb (decide (((l2.length : Int) : Int) > 0))) (v := xb true) (by kernel_rfl) (congrArg (fun z => xb z) (decide_eq_true (by omega)))) (Jai (Ja (vals := [xi ((l1.length : Int) - 1), xi 0]) (H := H42) (op := .binOp .lss 3 (.tmp 0) (.tmp 1) 3) (ty := 0) (r := xb (decide ((((l1.length : Int) - 1) : Int) < 0))) (v := xb false) (by kernel_rfl) (congrArg (fun z => xb z) (decide_eq_false (by omega)))) (Jai (Jb (H := H42) (t := 23) (ty := 0) (id := n1) (off := 2) (n := 1) (cs := [sv EN aa0 nn0 pp0 l0, sv EN aa1 nn1 pp1 l1, sv EN aa2 nn2 pp2 l2]) (cs' := [sv EN aa2 nn2 pp2 l2]) (v := .one (sv EN aa2 nn2 pp2 l2)) (On.at hs43 0 rfl) (by kernel_rfl) (by kernel_rfl) (by kernel_rfl) (by kernel_rfl)) (Jai (Ja (vals := [xi ((l1.length : Int) - 1), xi 1]) (H := H42) (op := .binOp .add 3 (.tmp 0) (.tmp 1) 3) (ty := 0) (r := xi (IntKind.wrap .i64 (((l1.length : Int) - 1) + 1))) (v := xi (l1.length : Int)) (by kernel_rfl) (congrArg (fun z => xi z) ((wrap64 (by omega)).trans (by omega)))) (Jai (Ja (vals := [xi (l2.length : Int), xi (l1.length : Int)]) (H := H42) (op := .binOp .gtr 3 (.tmp 0) (.tmp 1) 3) (ty := 0) (r := xb (decide (((l2.length : Int) : Int) > (l1.length : Int)))) (v := xb false) (by kernel_rfl) (congrArg (fun z => xb z) (decide_eq_false (by omega)))) trivial)))))) (by kernel_rfl)) (by kernel_rfl) ?_
        refine Wp.condF (by kernel_rfl) ?_
        refine Wp.skip ?_
        refine Wp.region [] [(0, .y (.one (sv NI b nn9 cp S))), (3, .y (.one (sv MV bb nn cc mv))), (6, .y (.one (.ptr n1 0))), (9, .y (.one (.ptr c4 0))), (13, xi 1), (14, xi ((l1.length : Int) - 1)), (15, xi 3)] H42
          (cast trivial (by kernel_rfl)) (by kernel_rfl) ?_
        refine ⟨[(0, .y (.one (sv NI b nn9 cp S))), (3, .y (.one (sv MV bb nn cc mv))), (6, .y (.one (.ptr n1 0))), (9, .y (.one (.ptr c4 0))), (13, xi 1), (14, xi ((l1.length : Int) - 1)), (15, xi 3)], H42, by kernel_rfl, ?_⟩
        refine WpL.step ?_
        refine Wp.seq ?_
        refine rSq [] [(0, .y (.one (sv NI b nn9 cp S))), (3, .y (.one (sv MV bb nn cc mv))), (6, .y (.one (.ptr n1 0))), (9, .y (.one (.ptr c4 0))), (13, xi 1), (14, xi ((l1.length : Int) - 1)), (15, xi 3), (57, xb false)] H42
          (cast trivial (by kernel_rfl)) (by kernel_rfl) ?_
        refine Wp.condF (by kernel_rfl) ?_
        refine Wp.exit ?_
        refine Eq.mpr (if_pos rfl) ?_
        exact hm46 (H42, 1, ((l1.length : Int) - 1)) ⟨(On.pick [0, 1, 2, 3, 4, 5] [] (by kernel_rfl) hs43), .inr (.inr (.inl ⟨rfl, by omega, by omega⟩))⟩
      ·
       refine rSq [(2, .y (.one (sv EN aa2 nn2 pp2 l2)), H42), (4, xb false, H42)] [(0, .y (.one (sv NI b nn9 cp S))), (3, .y (.one (sv MV bb nn cc mv))), (6, .y (.one (.ptr n1 0))), (9, .y (.one (.ptr c4 0))), (13, xi 1), (14, xi ((l1.length : Int) - 1)), (15, xi 2), (77, xb false)] H42
         (cast (Jai (Jb (H := H42) (t := 23) (ty := 0) (id := n1) (off := 2) (n := 1) (cs := [sv EN aa0 nn0 pp0 l0, sv EN aa1 nn1 pp1 l1, sv EN aa2 nn2 pp2 l2]) (cs' := [sv EN aa2 nn2 pp2 l2]) (v := .one (sv EN aa2 nn2 pp2 l2)) (On.at hs43 0 rfl) (by kernel_rfl) (by kernel_rfl) (by kernel_rfl) (by kernel_rfl)) (Jai (Ja (vals := [xi (l2.length : Int), xi 0]) (H := H42) (op := .binOp .gtr 3 (.tmp 0) (.tmp 1) 3) (ty := 0) (r := xb (decide (((l2.length : Int) : Int) > 0))) (v := xb false) (by kernel_rfl) (congrArg (fun z => xb z) (decide_eq_false (by omega)))) trivial)) (by kernel_rfl)) (by kernel_rfl) ?_
       refine Wp.condF (by kernel_rfl) ?_
       refine Wp.skip ?_
       refine Wp.region [] [(0, .y (.one (sv NI b nn9 cp S))), (3, .y (.one (sv MV bb nn cc mv))), (6, .y (.one (.ptr n1 0))), (9, .y (.one (.ptr c4 0))), (13, xi 1), (14, xi ((l1.length : Int) - 1)), (15, xi 3)] H42
         (cast trivial (by kernel_rfl)) (by kernel_rfl) ?_
       refine ⟨[(0, .y (.one (sv NI b nn9 cp S))), (3, .y (.one (sv MV bb nn cc mv))), (6, .y (.one (.ptr n1 0))), (9, .y (.one (.ptr c4 0))), (13, xi 1), (14, xi ((l1.length : Int) - 1)), (15, xi 3)], H42, by kernel_rfl, ?_⟩
       refine WpL.step ?_
       refine Wp.seq ?_
       refine rSq [] [(0, .y (.one (sv NI b nn9 cp S))), (3, .y (.one (sv MV bb nn cc mv))), (6, .y (.one (.ptr n1 0))), (9, .y (.one (.ptr c4 0))), (13, xi 1), (14, xi ((l1.length : Int) - 1)), (15, xi 3), (57, xb false)] H42
         (cast trivial (by kernel_rfl)) (by kernel_rfl) ?_
       refine Wp.condF (by kernel_rfl) ?_
       refine Wp.exit ?_
       refine Eq.mpr (if_pos rfl) ?_
       exact hm46 (H42, 1, ((l1.length : Int) - 1)) ⟨(On.pick [0, 1, 2, 3, 4, 5] [] (by kernel_rfl) hs43), .inr (.inr (.inl ⟨rfl, by omega, by omega⟩))⟩
     ·
      refine rSq [(2, .y (.one (sv EN aa1 nn1 pp1 l1)), H42), (4, xb true, H42), (7, xb false, H42), (11, .y (.one (sv EN aa1 nn1 pp1 l1)), H42), (14, xi (l0.length : Int), H42), (15, xb false, H42)] [(0, .y (.one (sv NI b nn9 cp S))), (3, .y (.one (sv MV bb nn cc mv))), (6, .y (.one (.ptr n1 0))), (9, .y (.one (.ptr c4 0))), (13, xi 0), (14, xi ((l0.length : Int) - 1)), (15, xi 1), (77, xb false)] H42
        (cast (Jai (Jb (H := H42) (t := 23) (ty := 0) (id := n1) (off := 1) (n := 1) (cs := [sv EN aa0 nn0 pp0 l0, sv EN aa1 nn1 pp1 l1, sv EN aa2 nn2 pp2 l2]) (cs' := [sv EN aa1 nn1 pp1 l1]) (v := .one (sv EN aa1 nn1 pp1 l1)) (On.at hs43 0 rfl) (by kernel_rfl) (by kernel_rfl) (by kernel_rfl) (by kernel_rfl)) (Jai (Ja (vals := [xi (l1.length : Int), xi 0]) (H := H42) (op := .binOp .gtr 3 (.tmp 0) (.tmp 1) 3) (ty := 0) (r := xb (decide (((l1.length : Int) : Int) > 0))) (v := xb true) (by kernel_rfl) (congrArg (fun z => xb z) (decide_eq_true (by omega)))) (Jai (Ja (vals := [xi ((l0.length : Int) - 1), xi 0]) (H := H42) (op := .binOp .lss 3 (.tmp 0) (.tmp 1) 3) (ty := 0) (r := xb (decide ((((l0.length : Int) - 1) : Int) < 0))) (v := xb false) (by kernel_rfl) (congrArg (fun z => xb z) (decide_eq_false (by omega)))) (Jai (Jb (H := H42) (t := 23) (ty := 0) (id := n1) (off := 1) (n := 1) (cs := [sv EN aa0 nn0 pp0 l0, sv EN aa1 nn1 pp1 l1, sv EN aa2 nn2 pp2 l2]) (cs' := [sv EN aa1 nn1 pp1 l1]) (v := .one (sv EN aa1 nn1 pp1 l1)) (On.at hs43 0 rfl) (by kernel_rfl) (by kernel_rfl) (by kernel_rfl) (by kernel_rfl)) (Jai (Ja (vals := [xi ((l0.length : Int) - 1), xi 1]) (H := H42) (op := .binOp .add 3 (.tmp 0) (.tmp 1) 3) (ty := 0) (r := xi (IntKind.wrap .i64 (((l0.length : Int) - 1) + 1))) (v := xi (l0.length : Int)) (by kernel_rfl) (congrArg (fun z => xi z) ((wrap64 (by omega)).trans (by omega)))) (Jai (Ja (vals := [xi (l1.length : Int), xi (l0.length : Int)]) (H := H42) (op := .binOp .gtr 3 (.tmp 0) (.tmp 1) 3) (ty := 0) (r := xb (decide (((l1.length : Int) : Int) > (l0.length : Int)))) (v := xb false) (by kernel_rfl) (congrArg (fun z => xb z) (decide_eq_false (by omega)))) trivial)))))) (by kernel_rfl)) (by kernel_rfl) ?_
      refine Wp.condF (by kernel_rfl) ?_
      refine Wp.skip ?_
      refine Wp.region [] [(0, .y (.one (sv NI b nn9 cp S))), (3, .y (.one (sv MV bb nn cc mv))), (6, .y (.one (.ptr n1 0))), (9, .y (.one (.ptr c4 0))), (13, xi 0), (14, xi ((l0.length : Int) - 1)), (15, xi 2)] H42
        (cast trivial (by kernel_rfl)) (by kernel_rfl) ?_
      refine ⟨[(0, .y (.one (sv NI b nn9 cp S))), (3, .y (.one (sv MV bb nn cc mv))), (6, .y (.one (.ptr n1 0))), (9, .y (.one (.ptr c4 0))), (13, xi 0), (14, xi ((l0.length : Int) - 1)), (15, xi 2)], H42, by kernel_rfl, ?_⟩
      refine WpL.step ?_
      refine Wp.seq ?_
      refine rSq [] [(0, .y (.one (sv NI b nn9 cp S))), (3, .y (.one (sv MV bb nn cc mv))), (6, .y (.one (.ptr n1 0))), (9, .y (.one (.ptr c4 0))), (13, xi 0), (14, xi ((l0.length : Int) - 1)), (15, xi 2), (57, xb true)] H42
        (cast trivial (by kernel_rfl)) (by kernel_rfl) ?_
      refine Wp.condT (by kernel_rfl) ?_
      refine Wp.skip ?_
      refine Wp.seq ?_
      refine Wp.block ?_
      by_cases c203 : (0 : Int) < (l2.length : Int)
      ·
       by_cases c204 : ((l0.length : Int) : Int) < (l2.length : Int)
       ·
        refine rSq [(2, .y (.one (sv EN aa2 nn2 pp2 l2)), H42), (4, xb true, H42), (7, xb false, H42), (11, .y (.one (sv EN aa2 nn2 pp2 l2)), H42), (14, xi (l0.length : Int), H42), (15, xb true, H42)] [(0, .y (.one (sv NI b nn9 cp S))), (3, .y (.one (sv MV bb nn cc mv))), (6, .y (.one (.ptr n1 0))), (9, .y (.one (.ptr c4 0))), (13, xi 0), (14, xi ((l0.length : Int) - 1)), (15, xi 2), (77, xb true)] H42
          (cast (Jai (Jb (H := H42) (t := 23) (ty := 0) (id := n1) (off := 2) (n := 1) (cs := [sv EN aa0 nn0 pp0 l0, sv EN aa1 nn1 pp1 l1, sv EN aa2 nn2 pp2 l2]) (cs' := [sv EN aa2 nn2 pp2 l2]) (v := .one (sv EN aa2 nn2 pp2 l2)) (On.at hs43 0 rfl) (by kernel_rfl) (by kernel_rfl) (by kernel_rfl) (by kernel_rfl)) (Jai (Ja (vals := [xi (l2.length : Int), xi 0]) (H := H42) (op := .binOp .gtr 3 (.tmp 0) (.tmp 1) 3) (ty := 0) (r := xb (decide (((l2.length : Int) : Int) > 0))) (v := xb true) (by kernel_rfl) (congrArg (fun z => xb z) (decide_eq_true (by omega)))) (Jai (Ja (vals := [xi ((l0.length : Int) - 1), xi 0]) (H := H42) (op := .binOp .lss 3 (.tmp 0) (.tmp 1) 3) (ty := 0) (r := xb (decide ((((l0.length : Int) - 1) : Int) < 0))) (v := xb false) (by kernel_rfl) (congrArg (fun z => xb z) (decide_eq_false (by omega)))) (Jai (Jb (H := H42) (t := 23) (ty := 0) (id := n1) (off := 2) (n := 1) (cs := [sv EN aa0 nn0 pp0 l0, sv EN aa1 nn1 pp1 l1, sv EN aa2 nn2 pp2 l2]) (cs' := [sv EN aa2 nn2 pp2 l2]) (v := .one (sv EN aa2 nn2 pp2 l2)) (On.at hs43 0 rfl) (by kernel_rfl) (by kernel_rfl) (by kernel_rfl) (by kernel_rfl)) (Jai (Ja (vals := [xi ((l0.length : Int) - 1), xi 1]) (H := H42) (op := .binOp .add 3 (.tmp 0) (.tmp 1) 3) (ty := 0) (r := xi (IntKind.wrap .i64 (((l0.length : Int) - 1) + 1))) (v := xi (l0.length : Int)) (by kernel_rfl) (congrArg (fun z => xi z) ((wrap64 (by omega)).trans (by omega)))) (Jai (Ja (vals := [xi (l2.length : Int), xi (l0.length : Int)]) (H := H42) (op := .binOp .gtr 3 (.tmp 0) (.tmp 1) 3) (ty := 0) (r := xb (decide (((l2.length : Int) : Int) > (l0.length : Int)))) (v := xb true) (by kernel_rfl) (congrArg (fun z => xb z) (decide_eq_true (by omega)))) trivial)))))) (by kernel_rfl)) (by kernel_rfl) ?_
        refine Wp.condT (by kernel_rfl) ?_
        refine rSq [] [(0, .y (.one (sv NI b nn9 cp S))), (3, .y (.one (sv MV bb nn cc mv))), (6, .y (.one (.ptr n1 0))), (9, .y (.one (.ptr c4 0))), (13, xi 2), (15, xi 2)] H42
          (cast trivial (by kernel_rfl)) (by kernel_rfl) ?_
        refine Wp.region [(2, .y (.one (sv EN aa2 nn2 pp2 l2)), H42), (4, xi ((l2.length : Int) - 1), H42)] [(0, .y (.one (sv NI b nn9 cp S))), (3, .y (.one (sv MV bb nn cc mv))), (6, .y (.one (.ptr n1 0))), (9, .y (.one (.ptr c4 0))), (13, xi 2), (14, xi ((l2.length : Int) - 1)), (15, xi 2)] H42
          (cast (Jai (Jb (H := H42) (t := 23) (ty := 0) (id := n1) (off := 2) (n := 1) (cs := [sv EN aa0 nn0 pp0 l0, sv EN aa1 nn1 pp1 l1, sv EN aa2 nn2 pp2 l2]) (cs' := [sv EN aa2 nn2 pp2 l2]) (v := .one (sv EN aa2 nn2 pp2 l2)) (On.at hs43 0 rfl) (by kernel_rfl) (by kernel_rfl) (by kernel_rfl) (by kernel_rfl)) (Jai (Ja (vals := [xi (l2.length : Int), xi 1]) (H := H42) (op := .binOp .sub 3 (.tmp 0) (.tmp 1) 3) (ty := 0) (r := xi (IntKind.wrap .i64 ((l2.length : Int) - 1))) (v := xi ((l2.length : Int) - 1)) (by kernel_rfl) (congrArg (fun z => xi z) ((wrap64 (by omega)).trans (by omega)))) trivial)) (by kernel_rfl)) (by kernel_rfl) ?_
        refine Wp.region [] [(0, .y (.one (sv NI b nn9 cp S))), (3, .y (.one (sv MV bb nn cc mv))), (6, .y (.one (.ptr n1 0))), (9, .y (.one (.ptr c4 0))), (13, xi 2), (14, xi ((l2.length : Int) - 1)), (15, xi 3)] H42
          (cast trivial (by kernel_rfl)) (by kernel_rfl) ?_
        refine ⟨[(0, .y (.one (sv NI b nn9 cp S))), (3, .y (.one (sv MV bb nn cc mv))), (6, .y (.one (.ptr n1 0))), (9, .y (.one (.ptr c4 0))), (13, xi 2), (14, xi ((l2.length : Int) - 1)), (15, xi 3)], H42, by kernel_rfl, ?_⟩
        refine WpL.step ?_
        refine Wp.seq ?_
        refine rSq [] [(0, .y (.one (sv NI b nn9 cp S))), (3, .y (.one (sv MV bb nn cc mv))), (6, .y (.one (.ptr n1 0))), (9, .y (.one (.ptr c4 0))), (13, xi 2), (14, xi ((l2.length : Int) - 1)), (15, xi 3), (57, xb false)] H42
          (cast trivial (by kernel_rfl)) (by kernel_rfl) ?_
        refine Wp.condF (by kernel_rfl) ?_
        refine Wp.exit ?_
        refine Eq.mpr (if_pos rfl) ?_
        exact hm46 (H42, 2, ((l2.length : Int) - 1)) ⟨(On.pick [0, 1, 2, 3, 4, 5] [] (by kernel_rfl) hs43), .inr (.inr (.inr (⟨rfl, by omega, by omega⟩)))⟩
       ·
        refine rSq [(2, .y (.one (sv EN aa2 nn2 pp2 l2)), H42), (4, xb true, H42), (7, xb false, H42), (11, .y (.one (sv EN aa2 nn2 pp2 l2)), H42), (14, xi (l0.length : Int), H42), (15, xb false, H42)] [(0, .y (.one (sv NI b nn9 cp S))), (3, .y (.one (sv MV bb nn cc mv))), (6, .y (.one (.ptr n1 0))), (9, .y (.one (.ptr c4 0))), (13, xi 0), (14, xi ((l0.length : Int) - 1)), (15, xi 2), (77, xb false)] H42
          (cast (Jai (Jb (H := H42) (t := 23) (ty := 0) (id := n1) (off := 2) (n := 1) (cs := [sv EN aa0 nn0 pp0 l0, sv EN aa1 nn1 pp1 l1, sv EN aa2 nn2 pp2 l2]) (cs' := [sv EN aa2 nn2 pp2 l2]) (v := .one (sv EN aa2 nn2 pp2 l2)) (On.at hs43 0 rfl) (by kernel_rfl) (by kernel_rfl) (by kernel_rfl) (by kernel_rfl)) (Jai (Ja (vals := [xi (l2.length : Int), xi 0]) (H := H42) (op := .binOp .gtr 3 (.tmp 0) (.tmp 1) 3) (ty := 0) (r := xb (decide (((l2.length : Int) : Int) > 0))) (v := xb true) (by kernel_rfl) (congrArg (fun z => xb z) (decide_eq_true (by omega)))) (Jai (Ja (vals := [xi ((l0.length : Int) - 1), xi 0]) (H := H42) (op := .binOp .lss 3 (.tmp 0) (.tmp 1) 3) (ty := 0) (r := xb (decide ((((l0.length : Int) - 1) : Int) < 0))) (v := xb false) (by kernel_rfl) (congrArg (fun z => xb z) (decide_eq_false (by omega)))) (Jai (Jb (H := H42) (t := 23) (ty := 0) (id := n1) (off := 2) (n := 1) (cs := [sv EN aa0 nn0 pp0 l0, sv EN aa1 nn1 pp1 l1, sv EN aa2 nn2 pp2 l2]) (cs' := [sv EN aa2 nn2 pp2 l2]) (v := .one (sv EN aa2 nn2 pp2 l2)) (On.at hs43 0 rfl) (by kernel_rfl) (by kernel_rfl) (by kernel_rfl) (by kernel_rfl)) (Jai (Ja (vals := [xi ((l0.length : Int) - 1), xi 1]) (H := H42) (op := .binOp .add 3 (.tmp 0) (.tmp 1) 3) (ty := 0) (r := xi (IntKind.wrap .i64 (((l0.length : Int) - 1) + 1))) (v := xi (l0.length : Int)) (by kernel_rfl) (congrArg (fun z => xi z) ((wrap64 (by omega)).trans (by omega)))) (Jai (Ja (vals := [xi (l2.length : Int), xi (l0.length : Int)]) (H := H42) (op := .binOp .gtr 3 (.tmp 0) (.tmp 1) 3) (ty := 0) (r := xb (decide (((l2.length : Int) : Int) > (l0.length : Int)))) (v := xb false) (by kernel_rfl) (congrArg (fun z => xb z) (decide_eq_false (by omega)))) trivial)))))) (by kernel_rfl)) (by kernel_rfl) ?_
        refine Wp.condF (by kernel_rfl) ?_
        refine Wp.skip ?_
        refine Wp.region [] [(0, .y (.one (sv NI b nn9 cp S))), (3, .y (.one (sv MV bb nn cc mv))), (6, .y (.one (.ptr n1 0))), (9, .y (.one (.ptr c4 0))), (13, xi 0), (14, xi ((l0.length : Int) - 1)), (15, xi 3)] H42
          (cast trivial (by kernel_rfl)) (by kernel_rfl) ?_
        refine ⟨[(0, .y (.one (sv NI b nn9 cp S))), (3, .y (.one (sv MV bb nn cc mv))), (6, .y (.one (.ptr n1 0))), (9, .y (.one (.ptr c4 0))), (13, xi 0), (14, xi ((l0.length : Int) - 1)), (15, xi 3)], H42, by kernel_rfl, ?_⟩
        refine WpL.step ?_
        refine Wp.seq ?_
        refine rSq [] [(0, .y (.one (sv NI b nn9 cp S))), (3, .y (.one (sv MV bb nn cc mv))), (6, .y (.one (.ptr n1 0))), (9, .y (.one (.ptr c4 0))), (13, xi 0), (14, xi ((l0.length : Int) - 1)), (15, xi 3), (57, xb false)] H42
          (cast trivial (by kernel_rfl)) (by kernel_rfl) ?_
        refine Wp.condF (by kernel_rfl) ?_
        refine Wp.exit ?_
        refine Eq.mpr (if_pos rfl) ?_
        exact hm46 (H42, 0, ((l0.length : Int) - 1)) ⟨(On.pick [0, 1, 2, 3, 4, 5] [] (by kernel_rfl) hs43), .inr (.inl ⟨rfl, by omega, by omega⟩)⟩
      ·
       refine rSq [(2, .y (.one (sv EN aa2 nn2 pp2 l2)), H42), (4, xb false, H42)] [(0, .y (.one (sv NI b nn9 cp S))), (3, .y (.one (sv MV bb nn cc mv))), (6, .y (.one (.ptr n1 0))), (9, .y (.one (.ptr c4 0))), (13, xi 0), (14, xi ((l0.length : Int) - 1)), (15, xi 2), (77, xb false)] H42
         (cast (Jai (Jb (H := H42) (t := 23) (ty := 0) (id := n1) (off := 2) (n := 1) (cs := [sv EN aa0 nn0 pp0 l0, sv EN aa1 nn1 pp1 l1, sv EN aa2 nn2 pp2 l2]) (cs' := [sv EN aa2 nn2 pp2 l2]) (v := .one (sv EN aa2 nn2 pp2 l2)) (On.at hs43 0 rfl) (by kernel_rfl) (by kernel_rfl) (by kernel_rfl) (by kernel_rfl)) (Jai (Ja (vals := [xi (l2.length : Int), xi 0]) (H := H42) (op := .binOp .gtr 3 (.tmp 0) (.tmp 1) 3) (ty := 0) (r := xb (decide (((l2.length : Int) : Int) > 0))) (v := xb false) (by kernel_rfl) (congrArg (fun z => xb z) (decide_eq_false (by omega)))) trivial)) (by kernel_rfl)) (by kernel_rfl) ?_
       refine Wp.condF (by kernel_rfl) ?_
       refine Wp.skip ?_
       refine Wp.region [] [(0, .y (.one (sv NI b nn9 cp S))), (3, .y (.one (sv MV bb nn cc mv))), (6, .y (.one (.ptr n1 0))), (9, .y (.one (.ptr c4 0))), (13, xi 0), (14, xi ((l0.length : Int) - 1)), (15, xi 3)] H42
         (cast trivial (by kernel_rfl)) (by kernel_rfl) ?_
       refine ⟨[(0, .y (.one (sv NI b nn9 cp S))), (3, .y (.one (sv MV bb nn cc mv))), (6, .y (.one (.ptr n1 0))), (9, .y (.one (.ptr c4 0))), (13, xi 0), (14, xi ((l0.length : Int) - 1)), (15, xi 3)], H42, by kernel_rfl, ?_⟩
       refine WpL.step ?_
       refine Wp.seq ?_
       refine rSq [] [(0, .y (.one (sv NI b nn9 cp S))), (3, .y (.one (sv MV bb nn cc mv))), (6, .y (.one (.ptr n1 0))), (9, .y (.one (.ptr c4 0))), (13, xi 0), (14, xi ((l0.length : Int) - 1)), (15, xi 3), (57, xb false)] H42
         (cast trivial (by kernel_rfl)) (by kernel_rfl) ?_
       refine Wp.condF (by kernel_rfl) ?_
       refine Wp.exit ?_
       refine Eq.mpr (if_pos rfl) ?_
       exact hm46 (H42, 0, ((l0.length : Int) - 1)) ⟨(On.pick [0, 1, 2, 3, 4, 5] [] (by kernel_rfl) hs43), .inr (.inl ⟨rfl, by omega, by omega⟩)⟩
    ·
     refine rSq [(2, .y (.one (sv EN aa1 nn1 pp1 l1)), H42), (4, xb false, H42)] [(0, .y (.one (sv NI b nn9 cp S))), (3, .y (.one (sv MV bb nn cc mv))), (6, .y (.one (.ptr n1 0))), (9, .y (.one (.ptr c4 0))), (13, xi 0), (14, xi ((l0.length : Int) - 1)), (15, xi 1), (77, xb false)] H42
       (cast (Jai (Jb (H := H42) (t := 23) (ty := 0) (id := n1) (off := 1) (n := 1) (cs := [sv EN aa0 nn0 pp0 l0, sv EN aa1 nn1 pp1 l1, sv EN aa2 nn2 pp2 l2]) (cs' := [sv EN aa1 nn1 pp1 l1]) (v := .one (sv EN aa1 nn1 pp1 l1)) (On.at hs43 0 rfl) (by kernel_rfl) (by kernel_rfl) (by kernel_rfl) (by kernel_rfl)) (Jai (Ja (vals := [xi (l1.length : Int), xi 0]) (H := H42) (op := .binOp .gtr 3 (.tmp 0) (.tmp 1) 3) (ty := 0) (r := xb (decide (((l1.length : Int) : Int) > 0))) (v := xb false) (by kernel_rfl) (congrArg (fun z => xb z) (decide_eq_false (by omega)))) trivial)) (by kernel_rfl)) (by kernel_rfl) ?_
     refine Wp.condF (by kernel_rfl) ?_
     refine Wp.skip ?_
     refine Wp.region [] [(0, .y (.one (sv NI b nn9 cp S))), (3, .y (.one (sv MV bb nn cc mv))), (6, .y (.one (.ptr n1 0))), (9, .y (.one (.ptr c4 0))), (13, xi 0), (14, xi ((l0.length : Int) - 1)), (15, xi 2)] H42
       (cast trivial (by kernel_rfl)) (by kernel_rfl) ?_
     refine ⟨[(0, .y (.one (sv NI b nn9 cp S))), (3, .y (.one (sv MV bb nn cc mv))), (6, .y (.one (.ptr n1 0))), (9, .y (.one (.ptr c4 0))), (13, xi 0), (14, xi ((l0.length : Int) - 1)), (15, xi 2)], H42, by kernel_rfl, ?_⟩
     refine WpL.step ?_
     refine Wp.seq ?_
     refine rSq [] [(0, .y (.one (sv NI b nn9 cp S))), (3, .y (.one (sv MV bb nn cc mv))), (6, .y (.one (.ptr n1 0))), (9, .y (.one (.ptr c4 0))), (13, xi 0), (14, xi ((l0.length : Int) - 1)), (15, xi 2), (57, xb true)] H42
       (cast trivial (by kernel_rfl)) (by kernel_rfl) ?_
     refine Wp.condT (by kernel_rfl) ?_
     refine Wp.skip ?_
     refine Wp.seq ?_
     refine Wp.block ?_
     by_cases c205 : (0 : Int) < (l2.length : Int)
     ·
      by_cases c206 : ((l0.length : Int) : Int) < (l2.length : Int)
      ·
       refine rSq [(2, .y (.one (sv EN aa2 nn2 pp2 l2)), H42), (4, xb true, H42), (7, xb false, H42), (11, .y (.one (sv EN aa2 nn2 pp2 l2)), H42), (14, xi (l0.length : Int), H42), (15, xb true, H42)] [(0, .y (.one (sv NI b nn9 cp S))), (3, .y (.one (sv MV bb nn cc mv))), (6, .y (.one (.ptr n1 0))), (9, .y (.one (.ptr c4 0))), (13, xi 0), (14, xi ((l0.length : Int) - 1)), (15, xi 2), (77, xb true)] H42
         (cast (Jai (Jb (H := H42) (t := 23) (ty := 0) (id := n1) (off := 2) (n := 1) (cs := [sv EN aa0 nn0 pp0 l0, sv EN aa1 nn1 pp1 l1, sv EN aa2 nn2 pp2 l2]) (cs' := [sv EN aa2 nn2 pp2 l2]) (v := .one (sv EN aa2 nn2 pp2 l2)) (On.at hs43 0 rfl) (by kernel_rfl) (by kernel_rfl) (by kernel_rfl) (by kernel_rfl)) (Jai (Ja (vals := [xi (l2.length : Int), xi 0]) (H := H42) (op := .binOp .gtr 3 (.tmp 0) (.tmp 1) 3) (ty := 0) (r := xb (decide (((l2.length : Int) : Int) > 0))) (v := xb true) (by kernel_rfl) (congrArg (fun z => xb z) (decide_eq_true (by omega)))) (Jai (Ja (vals := [xi ((l0.length : Int) - 1), xi 0]) (H := H42) (op := .binOp .lss 3 (.tmp 0) (.tmp 1) 3) (ty := 0) (r := xb (decide ((((l0.length : Int) - 1) : Int) < 0))) (v := xb false) (by kernel_rfl) (congrArg (fun z => xb z) (decide_eq_false (by omega)))) (Jai (Jb (H := H42) (t := 23) (ty := 0) (id := n1) (off := 2) (n := 1) (cs := [sv EN aa0 nn0 pp0 l0, sv EN aa1 nn1 pp1 l1, sv EN aa2 nn2 pp2 l2]) (cs' := [sv EN aa2 nn2 pp2 l2]) (v := .one (sv EN aa2 nn2 pp2 l2)) (On.at hs43 0 rfl) (by kernel_rfl) (by kernel_rfl) (by kernel_rfl) (by kernel_rfl)) (Jai (Ja (vals := [xi ((l0.length : Int) - 1), xi 1]) (H := H42) (op := .binOp .add 3 (.tmp 0) (.tmp 1) 3) (ty := 0) (r := xi (IntKind.wrap .i64 (((l0.length : Int) - 1) + 1))) (v := xi (l0.length : Int)) (by kernel_rfl) (congrArg (fun z => xi z) ((wrap64 (by omega)).trans (by omega)))) (Jai (Ja (vals := [xi (l2.length : Int), xi (l0.length : Int)]) (H := H42) (op := .binOp .gtr 3 (.tmp 0) (.tmp 1) 3) (ty := 0) (r := xb (decide (((l2.length : Int) : Int) > (l0.length : Int)))) (v := xb true) (by kernel_rfl) (congrArg (fun z => xb z) (decide_eq_true (by omega)))) trivial)))))) (by kernel_rfl)) (by kernel_rfl) ?_
       refine Wp.condT (by kernel_rfl) ?_
       refine rSq [] [(0, .y (.one (sv NI b nn9 cp S))), (3, .y (.one (sv MV bb nn cc mv))), (6, .y (.one (.ptr n1 0))), (9, .y (.one (.ptr c4 0))), (13, xi 2), (15, xi 2)] H42
         (cast trivial (by kernel_rfl)) (by kernel_rfl) ?_
       refine Wp.region [(2, .y (.one (sv EN aa2 nn2 pp2 l2)), H42), (4, xi ((l2.length : Int) - 1), H42)] [(0, .y (.one (sv NI b nn9 cp S))), (3, .y (.one (sv MV bb nn cc mv))), (6, .y (.one (.ptr n1 0))), (9, .y (.one (.ptr c4 0))), (13, xi 2), (14, xi ((l2.length : Int) - 1)), (15, xi 2)] H42
         (cast (Jai (Jb (H := H42) (t := 23) (ty := 0) (id := n1) (off := 2) (n := 1) (cs := [sv EN aa0 nn0 pp0 l0, sv EN aa1 nn1 pp1 l1, sv EN aa2 nn2 pp2 l2]) (cs' := [sv EN aa2 nn2 pp2 l2]) (v := .one (sv EN aa2 nn2 pp2 l2)) (On.at hs43 0 rfl) (by kernel_rfl) (by kernel_rfl) (by kernel_rfl) (by kernel_rfl)) (Jai (Ja (vals := [xi (l2.length : Int), xi 1]) (H := H42) (op := .binOp .sub 3 (.tmp 0) (.tmp 1) 3) (ty := 0) (r := xi (IntKind.wrap .i64 ((l2.length : Int) - 1))) (v := xi ((l2.length : Int) - 1)) (by kernel_rfl) (congrArg (fun z => xi z) ((wrap64 (by omega)).trans (by omega)))) trivial)) (by kernel_rfl)) (by kernel_rfl) ?_
       refine Wp.region [] [(0, .y (.one (sv NI b nn9 cp S))), (3, .y (.one (sv MV bb nn cc mv))), (6, .y (.one (.ptr n1 0))), (9, .y (.one (.ptr c4 0))), (13, xi 2), (14, xi ((l2.length : Int) - 1)), (15, xi 3)] H42
         (cast trivial (by kernel_rfl)) (by kernel_rfl) ?_
       refine ⟨[(0, .y (.one (sv NI b nn9 cp S))), (3, .y (.one (sv MV bb nn cc mv))), (6, .y (.one (.ptr n1 0))), (9, .y (.one (.ptr c4 0))), (13, xi 2), (14, xi ((l2.length : Int) - 1)), (15, xi 3)], H42, by kernel_rfl, ?_⟩
       refine WpL.step ?_
       refine Wp.seq ?_
       refine rSq [] [(0, .y (.one (sv NI b nn9 cp S))), (3, .y (.one (sv MV bb nn cc mv))), (6, .y (.one (.ptr n1 0))), (9, .y (.one (.ptr c4 0))), (13, xi 2), (14, xi ((l2.length : Int) - 1)), (15, xi 3), (57, xb false)] H42
         (cast trivial (by kernel_rfl)) (by kernel_rfl) ?_
       refine Wp.condF (by kernel_rfl) ?_
       refine Wp.exit ?_
       refine Eq.mpr (if_pos rfl) ?_
       exact hm46 (H42, 2, ((l2.length : Int) - 1)) ⟨(On.pick [0, 1, 2, 3, 4, 5] [] (by kernel_rfl) hs43), .inr (.inr (.inr (⟨rfl, by omega, by omega⟩)))⟩
      ·
       refine rSq [(2, .y (.one (sv EN aa2 nn2 pp2 l2)), H42), (4, xb true, H42), (7, xb false, H42), (11, .y (.one (sv EN aa2 nn2 pp2 l2)), H42), (14, xi (l0.length : Int), H42), (15, xb false, H42)] [(0, .y (.one (sv NI b nn9 cp S))), (3, .y (.one (sv MV bb nn cc mv))), (6, .y (.one (.ptr n1 0))), (9, .y (.one (.ptr c4 0))), (13, xi 0), (14, xi ((l0.length : Int) - 1)), (15, xi 2), (77, xb false)] H42
         (cast (Jai (Jb (H := H42) (t := 23) (ty := 0) (id := n1) (off := 2) (n := 1) (cs := [sv EN aa0 nn0 pp0 l0, sv EN aa1 nn1 pp1 l1, sv EN aa2 nn2 pp2 l2]) (cs' := [sv EN aa2 nn2 pp2 l2]) (v := .one (sv EN aa2 nn2 pp2 l2)) (On.at hs43 0 rfl) (by kernel_rfl) (by kernel_rfl) (by kernel_rfl) (by kernel_rfl)) (Jai (Ja (vals := [xi (l2.length : Int), xi 0]) (H := H42) (op := .binOp .gtr 3 (.tmp 0) (.tmp 1) 3) (ty := 0) (r := xb (decide (((l2.length : Int) : Int) > 0))) (v := xb true) (by kernel_rfl) (congrArg (fun z => xb z) (decide_eq_true (by omega)))) (Jai (Ja (vals := [xi ((l0.length : Int) - 1), xi 0]) (H := H42) (op := .binOp .lss 3 (.tmp 0) (.tmp 1) 3) (ty := 0) (r := xb (decide ((((l0.length : Int) - 1) : Int) < 0))) (v := xb false) (by kernel_rfl) (congrArg (fun z => xb z) (decide_eq_false (by omega)))) (Jai (Jb (H := H42) (t := 23) (ty := 0) (id := n1) (off := 2) (n := 1) (cs := [sv EN aa0 nn0 pp0 l0, sv EN aa1 nn1 pp1 l1, sv EN aa2 nn2 pp2 l2]) (cs' := [sv EN aa2 nn2 pp2 l2]) (v := .one (sv EN aa2 nn2 pp2 l2)) (On.at hs43 0 rfl) (by kernel_rfl) (by kernel_rfl) (by kernel_rfl) (by kernel_rfl)) (Jai (Ja (vals := [xi ((l0.length : Int) - 1), xi 1]) (H := H42) (op := .binOp .add 3 (.tmp 0) (.tmp 1) 3) (ty := 0) (r := xi (IntKind.wrap .i64 (((l0.length : Int) - 1) + 1))) (v := xi (l0.length : Int)) (by kernel_rfl) (congrArg (fun z => xi z) ((wrap64 (by omega)).trans (by omega)))) (Jai (Ja (vals := [xi (l2.length : Int), xi (l0.length : Int)]) (H := H42) (op := .binOp .gtr 3 (.tmp 0) (.tmp 1) 3) (ty := 0) (r := xb (decide (((l2.length : Int) : Int) > (l0.length : Int)))) (v := xb false) (by kernel_rfl) (congrArg (fun z => xb z) (decide_eq_false (by omega)))) trivial)))))) (by kernel_rfl)) (by kernel_rfl) ?_
       refine Wp.condF (by kernel_rfl) ?_
       refine Wp.skip ?_
       refine Wp.region [] [(0, .y (.one (sv NI b nn9 cp S))), (3, .y (.one (sv MV bb nn cc mv))), (6, .y (.one (.ptr n1 0))), (9, .y (.one (.ptr c4 0))), (13, xi 0), (14, xi ((l0.length : Int) - 1)), (15, xi 3)] H42
         (cast trivial (by kernel_rfl)) (by kernel_rfl) ?_
       refine ⟨[(0, .y (.one (sv NI b nn9 cp S))), (3, .y (.one (sv MV bb nn cc mv))), (6, .y (.one (.ptr n1 0))), (9, .y (.one (.ptr c4 0))), (13, xi 0), (14, xi ((l0.length : Int) - 1)), (15, xi 3)], H42, by kernel_rfl, ?_⟩
       refine WpL.step ?_
       refine Wp.seq ?_
       refine rSq [] [(0, .y (.one (sv NI b nn9 cp S))), (3, .y (.one (sv MV bb nn cc mv))), (6, .y (.one (.ptr n1 0))), (9, .y (.one (.ptr c4 0))), (13, xi 0), (14, xi ((l0.length : Int) - 1)), (15, xi 3), (57, xb false)] H42
         (cast trivial (by kernel_rfl)) (by kernel_rfl) ?_
       refine Wp.condF (by kernel_rfl) ?_
       refine Wp.exit ?_
       refine Eq.mpr (if_pos rfl) ?_
       exact hm46 (H42, 0, ((l0.length : Int) - 1)) ⟨(On.pick [0, 1, 2, 3, 4, 5] [] (by kernel_rfl) hs43), .inr (.inl ⟨rfl, by omega, by omega⟩)⟩
     ·
      refine rSq [(2, .y (.one (sv EN aa2 nn2 pp2 l2)), H42), (4, xb false, H42)] [(0, .y (.one (sv NI b nn9 cp S))), (3, .y (.one (sv MV bb nn cc mv))), (6, .y (.one (.ptr n1 0))), (9, .y (.one (.ptr c4 0))), (13, xi 0), (14, xi ((l0.length : Int) - 1)), (15, xi 2), (77, xb false)] H42
        (cast (Jai (Jb (H := H42) (t := 23) (ty := 0) (id := n1) (off := 2) (n := 1) (cs := [sv EN aa0 nn0 pp0 l0, sv EN aa1 nn1 pp1 l1, sv EN aa2 nn2 pp2 l2]) (cs' := [sv EN aa2 nn2 pp2 l2]) (v := .one (sv EN aa2 nn2 pp2 l2)) (On.at hs43 0 rfl) (by kernel_rfl) (by kernel_rfl) (by kernel_rfl) (by kernel_rfl)) (Jai (Ja (vals := [xi (l2.length : Int), xi 0]) (H := H42) (op := .binOp .gtr 3 (.tmp 0) (.tmp 1) 3) (ty := 0) (r := xb (decide (((l2.length : Int) : Int) > 0))) (v := xb false) (by kernel_rfl) (congrArg (fun z => xb z) (decide_eq_false (by omega)))) trivial)) (by kernel_rfl)) (by kernel_rfl) ?_
      refine Wp.condF (by kernel_rfl) ?_
      refine Wp.skip ?_
      refine Wp.region [] [(0, .y (.one (sv NI b nn9 cp S))), (3, .y (.one (sv MV bb nn cc mv))), (6, .y (.one (.ptr n1 0))), (9, .y (.one (.ptr c4 0))), (13, xi 0), (14, xi ((l0.length : Int) - 1)), (15, xi 3)] H42
        (cast trivial (by kernel_rfl)) (by kernel_rfl) ?_
      refine ⟨[(0, .y (.one (sv NI b nn9 cp S))), (3, .y (.one (sv MV bb nn cc mv))), (6, .y (.one (.ptr n1 0))), (9, .y (.one (.ptr c4 0))), (13, xi 0), (14, xi ((l0.length : Int) - 1)), (15, xi 3)], H42, by kernel_rfl, ?_⟩
      refine WpL.step ?_
      refine Wp.seq ?_
      refine rSq [] [(0, .y (.one (sv NI b nn9 cp S))), (3, .y (.one (sv MV bb nn cc mv))), (6, .y (.one (.ptr n1 0))), (9, .y (.one (.ptr c4 0))), (13, xi 0), (14, xi ((l0.length : Int) - 1)), (15, xi 3), (57, xb false)] H42
        (cast trivial (by kernel_rfl)) (by kernel_rfl) ?_
      refine Wp.condF (by kernel_rfl) ?_
      refine Wp.exit ?_
      refine Eq.mpr (if_pos rfl) ?_
      exact hm46 (H42, 0, ((l0.length : Int) - 1)) ⟨(On.pick [0, 1, 2, 3, 4, 5] [] (by kernel_rfl) hs43), .inr (.inl ⟨rfl, by omega, by omega⟩)⟩
   ·
    refine rSq [(2, .y (.one (sv EN aa0 nn0 pp0 l0)), H42), (4, xb false, H42)] [(0, .y (.one (sv NI b nn9 cp S))), (3, .y (.one (sv MV bb nn cc mv))), (6, .y (.one (.ptr n1 0))), (9, .y (.one (.ptr c4 0))), (13, xi (-1)), (14, xi (-1)), (15, xi 0), (77, xb false)] H42
      (cast (Jai (Jb (H := H42) (t := 23) (ty := 0) (id := n1) (off := 0) (n := 1) (cs := [sv EN aa0 nn0 pp0 l0, sv EN aa1 nn1 pp1 l1, sv EN aa2 nn2 pp2 l2]) (cs' := [sv EN aa0 nn0 pp0 l0]) (v := .one (sv EN aa0 nn0 pp0 l0)) (On.at hs43 0 rfl) (by kernel_rfl) (by kernel_rfl) (by kernel_rfl) (by kernel_rfl)) (Jai (Ja (vals := [xi (l0.length : Int), xi 0]) (H := H42) (op := .binOp .gtr 3 (.tmp 0) (.tmp 1) 3) (ty := 0) (r := xb (decide (((l0.length : Int) : Int) > 0))) (v := xb false) (by kernel_rfl) (congrArg (fun z => xb z) (decide_eq_false (by omega)))) trivial)) (by kernel_rfl)) (by kernel_rfl) ?_
    refine Wp.condF (by kernel_rfl) ?_
    refine Wp.skip ?_
    refine Wp.region [] [(0, .y (.one (sv NI b nn9 cp S))), (3, .y (.one (sv MV bb nn cc mv))), (6, .y (.one (.ptr n1 0))), (9, .y (.one (.ptr c4 0))), (13, xi (-1)), (14, xi (-1)), (15, xi 1)] H42
      (cast trivial (by kernel_rfl)) (by kernel_rfl) ?_
    refine ⟨[(0, .y (.one (sv NI b nn9 cp S))), (3, .y (.one (sv MV bb nn cc mv))), (6, .y (.one (.ptr n1 0))), (9, .y (.one (.ptr c4 0))), (13, xi (-1)), (14, xi (-1)), (15, xi 1)], H42, by kernel_rfl, ?_⟩
    refine WpL.step ?_
    refine Wp.seq ?_
    refine rSq [] [(0, .y (.one (sv NI b nn9 cp S))), (3, .y (.one (sv MV bb nn cc mv))), (6, .y (.one (.ptr n1 0))), (9, .y (.one (.ptr c4 0))), (13, xi (-1)), (14, xi (-1)), (15, xi 1), (57, xb true)] H42
      (cast trivial (by kernel_rfl)) (by kernel_rfl) ?_
    refine Wp.condT (by kernel_rfl) ?_
    refine Wp.skip ?_
    refine Wp.seq ?_
    refine Wp.block ?_
    by_cases c207 : (0 : Int) < (l1.length : Int)
    ·
     refine rSq [(2, .y (.one (sv EN aa1 nn1 pp1 l1)), H42), (4, xb true, H42)] [(0, .y (.one (sv NI b nn9 cp S))), (3, .y (.one (sv MV bb nn cc mv))), (6, .y (.one (.ptr n1 0))), (9, .y (.one (.ptr c4 0))), (13, xi (-1)), (14, xi (-1)), (15, xi 1), (77, xb true)] H42
       (cast (Jai (Jb (H := H42) (t := 23) (ty := 0) (id := n1) (off := 1) (n := 1) (cs := [sv EN aa0 nn0 pp0 l0, sv EN aa1 nn1 pp1 l1, sv EN aa2 nn2 pp2 l2]) (cs' := [sv EN aa1 nn1 pp1 l1]) (v := .one (sv EN aa1 nn1 pp1 l1)) (On.at hs43 0 rfl) (by kernel_rfl) (by kernel_rfl) (by kernel_rfl) (by kernel_rfl)) (Jai (Ja (vals := [xi (l1.length : Int), xi 0]) (H := H42) (op := .binOp .gtr 3 (.tmp 0) (.tmp 1) 3) (ty := 0) (r := xb (decide (((l1.length : Int) : Int) > 0))) (v := xb true) (by kernel_rfl) (congrArg (fun z => xb z) (decide_eq_true (by omega)))) trivial)) (by kernel_rfl)) (by kernel_rfl) ?_
     refine Wp.condT (by kernel_rfl) ?_
     refine rSq [] [(0, .y (.one (sv NI b nn9 cp S))), (3, .y (.one (sv MV bb nn cc mv))), (6, .y (.one (.ptr n1 0))), (9, .y (.one (.ptr c4 0))), (13, xi 1), (15, xi 1)] H42
       (cast trivial (by kernel_rfl)) (by kernel_rfl) ?_
     refine Wp.region [(2, .y (.one (sv EN aa1 nn1 pp1 l1)), H42), (4, xi ((l1.length : Int) - 1), H42)] [(0, .y (.one (sv NI b nn9 cp S))), (3, .y (.one (sv MV bb nn cc mv))), (6, .y (.one (.ptr n1 0))), (9, .y (.one (.ptr c4 0))), (13, xi 1), (14, xi ((l1.length : Int) - 1)), (15, xi 1)] H42
       (cast (Jai (Jb (H := H42) (t := 23) (ty := 0) (id := n1) (off := 1) (n := 1) (cs := [sv EN aa0 nn0 pp0 l0, sv EN aa1 nn1 pp1 l1, sv EN aa2 nn2 pp2 l2]) (cs' := [sv EN aa1 nn1 pp1 l1]) (v := .one (sv EN aa1 nn1 pp1 l1)) (On.at hs43 0 rfl) (by kernel_rfl) (by kernel_rfl) (by kernel_rfl) (by kernel_rfl)) (Jai (Ja (vals := [xi (l1.length : Int), xi 1]) (H := H42) (op := .binOp .sub 3 (.tmp 0) (.tmp 1) 3) (ty := 0) (r := xi (IntKind.wrap .i64 ((l1.length : Int) - 1))) (v := xi ((l1.length : Int) - 1)) (by kernel_rfl) (congrArg (fun z => xi z) ((wrap64 (by omega)).trans (by omega)))) trivial)) (by kernel_rfl)) (by kernel_rfl) ?_
     refine Wp.region [] [(0, .y (.one (sv NI b nn9 cp S))), (3, .y (.one (sv MV bb nn cc mv))), (6, .y (.one (.ptr n1 0))), (9, .y (.one (.ptr c4 0))), (13, xi 1), (14, xi ((l1.length : Int) - 1)), (15, xi 2)] H42
       (cast trivial (by kernel_rfl)) (by kernel_rfl) ?_
     refine ⟨[(0, .y (.one (sv NI b nn9 cp S))), (3, .y (.one (sv MV bb nn cc mv))), (6, .y (.one (.ptr n1 0))), (9, .y (.one (.ptr c4 0))), (13, xi 1), (14, xi ((l1.length : Int) - 1)), (15, xi 2)], H42, by kernel_rfl, ?_⟩
     refine WpL.step ?_
     refine Wp.seq ?_
     refine rSq [] [(0, .y (.one (sv NI b nn9 cp S))), (3, .y (.one (sv MV bb nn cc mv))), (6, .y (.one (.ptr n1 0))), (9, .y (.one (.ptr c4 0))), (13, xi 1), (14, xi ((l1.length : Int) - 1)), (15, xi 2), (57, xb true)] H42
       (cast trivial (by kernel_rfl)) (by kernel_rfl) ?_
     refine Wp.condT (by kernel_rfl) ?_
     refine Wp.skip ?_
     refine Wp.seq ?_
     refine Wp.block ?_
     by_cases c208 : (0 : Int) < (l2.length : Int)
     ·
      by_cases c209 : ((l1.length : Int) : Int) < (l2.length : Int)
      ·
       refine rSq [(2, .y (.one (sv EN aa2 nn2 pp2 l2)), H42), (4, xb true, H42), (7, xb false, H42), (11, .y (.one (sv EN aa2 nn2 pp2 l2)), H42), (14, xi (l1.length : Int), H42), (15, xb true, H42)] [(0, .y (.one (sv NI b nn9 cp S))), (3, .y (.one (sv MV bb nn cc mv))), (6, .y (.one (.ptr n1 0))), (9, .y (.one (.ptr c4 0))), (13, xi 1), (14, xi ((l1.length : Int) - 1)), (15, xi 2), (77, xb true)] H42
         (cast (Jai (Jb (H := H42) (t := 23) (ty := 0) (id := n1) (off := 2) (n := 1) (cs := [sv EN aa0 nn0 pp0 l0, sv EN aa1 nn1 pp1 l1, sv EN aa2 nn2 pp2 l2]) (cs' := [sv EN aa2 nn2 pp2 l2]) (v := .one (sv EN aa2 nn2 pp2 l2)) (On.at hs43 0 rfl) (by kernel_rfl) (by kernel_rfl) (by kernel_rfl) (by kernel_rfl)) (Jai (Ja (vals := [xi (l2.length : Int), xi 0]) (H := H42) (op := .binOp .gtr 3 (.tmp 0) (.tmp 1) 3) (ty := 0) (r := xb (decide (((l2.length : Int) : Int) > 0))) (v := xb true) (by kernel_rfl) (congrArg (fun z => xb z) (decide_eq_true (by omega)))) (Jai (Ja (vals := [xi ((l1.length : Int) - 1), xi 0]) (H := H42) (op := .binOp .lss 3 (.tmp 0) (.tmp 1) 3) (ty := 0) (r := xb (decide ((((l1.length : Int) - 1) : Int) < 0))) (v := xb false) (by kernel_rfl) (congrArg (fun z => xb z) (decide_eq_false (by omega)))) (Jai (Jb (H := H42) (t := 23) (ty := 0) (id := n1) (off := 2) (n := 1) (cs := [sv EN aa0 nn0 pp0 l0, sv EN aa1 nn1 pp1 l1, sv EN aa2 nn2 pp2 l2]) (cs' := [sv EN aa2 nn2 pp2 l2]) (v := .one (sv EN aa2 nn2 pp2 l2)) (On.at hs43 0 rfl) (by kernel_rfl) (by kernel_rfl) (by kernel_rfl) (by kernel_rfl)) (Jai (Ja (vals := [xi ((l1.length : Int) - 1), xi 1]) (H := H42) (op := .binOp .add 3 (.tmp 0) (.tmp 1) 3) (ty := 0) (r := xi (IntKind.wrap .i64 (((l1.length : Int) - 1) + 1))) (v := xi (l1.length : Int)) (by kernel_rfl) (congrArg (fun z => xi z) ((wrap64 (by omega)).trans (by omega)))) (Jai (Ja (vals := [xi (l2.length : Int), xi (l1.length : Int)]) (H := H42) (op := .binOp .gtr 3 (.tmp 0) (.tmp 1) 3) (ty := 0) (r := xb (decide (((l2.length : Int) : Int) > (l1.length : Int)))) (v := xb true) (by kernel_rfl) (congrArg (fun z => xb z) (decide_eq_true (by omega)))) trivial)))))) (by kernel_rfl)) (by kernel_rfl) ?_
       refine Wp.condT (by kernel_rfl) ?_
       refine rSq [] [(0, .y (.one (sv NI b nn9 cp S))), (3, .y (.one (sv MV bb nn cc mv))), (6, .y (.one (.ptr n1 0))), (9, .y (.one (.ptr c4 0))), (13, xi 2), (15, xi 2)] H42
         (cast trivial (by kernel_rfl)) (by kernel_rfl) ?_
       refine Wp.region [(2, .y (.one (sv EN aa2 nn2 pp2 l2)), H42), (4, xi ((l2.length : Int) - 1), H42)] [(0, .y (.one (sv NI b nn9 cp S))), (3, .y (.one (sv MV bb nn cc mv))), (6, .y (.one (.ptr n1 0))), (9, .y (.one (.ptr c4 0))), (13, xi 2), (14, xi ((l2.length : Int) - 1)), (15, xi 2)] H42
         (cast (Jai (Jb (H := H42) (t := 23) (ty := 0) (id := n1) (off := 2) (n := 1) (cs := [sv EN aa0 nn0 pp0 l0, sv EN aa1 nn1 pp1 l1, sv EN aa2 nn2 pp2 l2]) (cs' := [sv EN aa2 nn2 pp2 l2]) (v := .one (sv EN aa2 nn2 pp2 l2)) (On.at hs43 0 rfl) (by kernel_rfl) (by kernel_rfl) (by kernel_rfl) (by kernel_rfl)) (Jai (Ja (vals := [xi (l2.length : Int), xi 1]) (H := H42) (op := .binOp .sub 3 (.tmp 0) (.tmp 1) 3) (ty := 0) (r := xi (IntKind.wrap .i64 ((l2.length : Int) - 1))) (v := xi ((l2.length : Int) - 1)) (by kernel_rfl) (congrArg (fun z => xi z) ((wrap64 (by omega)).trans (by omega)))) trivial)) (by kernel_rfl)) (by kernel_rfl) ?_
       refine Wp.region [] [(0, .y (.one (sv NI b nn9 cp S))), (3, .y (.one (sv MV bb nn cc mv))), (6, .y (.one (.ptr n1 0))), (9, .y (.one (.ptr c4 0))), (13, xi 2), (14, xi ((l2.length : Int) - 1)), (15, xi 3)] H42
         (cast trivial (by kernel_rfl)) (by kernel_rfl) ?_
       refine ⟨[(0, .y (.one (sv NI b nn9 cp S))), (3, .y (.one (sv MV bb nn cc mv))), (6, .y (.one (.ptr n1 0))), (9, .y (.one (.ptr c4 0))), (13, xi 2), (14, xi ((l2.length : Int) - 1)), (15, xi 3)], H42, by kernel_rfl, ?_⟩
       refine WpL.step ?_
       refine Wp.seq ?_
       refine rSq [] [(0, .y (.one (sv NI b nn9 cp S))), (3, .y (.one (sv MV bb nn cc mv))), (6, .y (.one (.ptr n1 0))), (9, .y (.one (.ptr c4 0))), (13, xi 2), (14, xi ((l2.length : Int) - 1)), (15, xi 3), (57, xb false)] H42
         (cast trivial (by kernel_rfl)) (by kernel_rfl) ?_
       refine Wp.condF (by kernel_rfl) ?_
       refine Wp.exit ?_
       refine Eq.mpr (if_pos rfl) ?_
       exact hm46 (H42, 2, ((l2.length : Int) - 1)) ⟨(On.pick [0, 1, 2, 3, 4, 5] [] (by kernel_rfl) hs43), .inr (.inr (.inr (⟨rfl, by omega, by omega⟩)))⟩
      ·
       refine rSq [(2, .y (.one (sv EN aa2 nn2 pp2 l2)), H42), (4, xb true, H42), (7, xb false, H42), (11, .y (.one (sv EN aa2 nn2 pp2 l2)), H42), (14, xi (l1.length : Int), H42), (15, xb false, H42)] [(0, .y (.one (sv NI b nn9 cp S))), (3, .y (.one (sv MV bb nn cc mv))), (6, .y (.one (.ptr n1 0))), (9, .y (.one (.ptr c4 0))), (13, xi 1), (14, xi ((l1.length : Int) - 1)), (15, xi 2), (77, xb false)] H42
         (cast (Jai (Jb (H := H42) (t := 23) (ty := 0) (id := n1) (off := 2) (n := 1) (cs := [sv EN aa0 nn0 pp0 l0, sv EN aa1 nn1 pp1 l1, sv EN aa2 nn2 pp2 l2]) (cs' := [sv EN aa2 nn2 pp2 l2]) (v := .one (sv EN aa2 nn2 pp2 l2)) (On.at hs43 0 rfl) (by kernel_rfl) (by kernel_rfl) (by kernel_rfl) (by kernel_rfl)) (Jai (Ja (vals := [xi (l2.length : Int), xi 0]) (H := H42) (op := .binOp .gtr 3 (.tmp 0) (.tmp 1) 3) (ty := 0) (r := xb (decide (((l2.length : Int) : Int) > 0))) (v := xb true) (by kernel_rfl) (congrArg (fun z => xb z) (decide_eq_true (by omega)))) (Jai (Ja (vals := [xi ((l1.length : Int) - 1), xi 0]) (H := H42) (op := .binOp .lss 3 (.tmp 0) (.tmp 1) 3) (ty := 0) (r := xb (decide ((((l1.length : Int) - 1) : Int) < 0))) (v := xb false) (by kernel_rfl) (congrArg (fun z => xb z) (decide_eq_false (by omega)))) (Jai (Jb (H := H42) (t := 23) (ty := 0) (id := n1) (off := 2) (n := 1) (cs := [sv EN aa0 nn0 pp0 l0, sv EN aa1 nn1 pp1 l1, sv EN aa2 nn2 pp2 l2]) (cs' := [sv EN aa2 nn2 pp2 l2]) (v := .one (sv EN aa2 nn2 pp2 l2)) (On.at hs43 0 rfl) (by kernel_rfl) (by kernel_rfl) (by kernel_rfl) (by kernel_rfl)) (Jai (Ja (vals := [xi ((l1.length : Int) - 1), xi 1]) (H := H42) (op := .binOp .add 3 (.tmp 0) (.tmp 1) 3) (ty := 0) (r := xi (IntKind.wrap .i64 (((l1.length : Int) - 1) + 1))) (v := xi (l1.length : Int)) (by kernel_rfl) (congrArg (fun z => xi z) ((wrap64 (by omega)).trans (by omega)))) (Jai (Ja (vals := [xi (l2.length : Int), xi (l1.length : Int)]) (H := H42) (op := .binOp .gtr 3 (.tmp 0) (.tmp 1) 3) (ty := 0) (r := xb (decide (((l2.length : Int) : Int) > (l1.length : Int)))) (v := xb false) (by kernel_rfl) (congrArg (fun z => xb z) (decide_eq_false (by omega)))) trivial)))))) (by kernel_rfl)) (by kernel_rfl) ?_
       refine Wp.condF (by kernel_rfl) ?_
       refine Wp.skip ?_
       refine Wp.region [] [(0, .y (.one (sv NI b nn9 cp S))), (3, .y (.one (sv MV bb nn cc mv))), (6, .y (.one (.ptr n1 0))), (9, .y (.one (.ptr c4 0))), (13, xi 1), (14, xi ((l1.length : Int) - 1)), (15, xi 3)] H42
         (cast trivial (by kernel_rfl)) (by kernel_rfl) ?_
       refine ⟨[(0, .y (.one (sv NI b nn9 cp S))), (3, .y (.one (sv MV bb nn cc mv))), (6, .y (.one (.ptr n1 0))), (9, .y (.one (.ptr c4 0))), (13, xi 1), (14, xi ((l1.length : Int) - 1)), (15, xi 3)], H42, by kernel_rfl, ?_⟩
       refine WpL.step ?_
       refine Wp.seq ?_
       refine rSq [] [(0, .y (.one (sv NI b nn9 cp S))), (3, .y (.one (sv MV bb nn cc mv))), (6, .y (.one (.ptr n1 0))), (9, .y (.one (.ptr c4 0))), (13, xi 1), (14, xi ((l1.length : Int) - 1)), (15, xi 3), (57, xb false)] H42
         (cast trivial (by kernel_rfl)) (by kernel_rfl) ?_
       refine Wp.condF (by kernel_rfl) ?_
       refine Wp.exit ?_
       refine Eq.mpr (if_pos rfl) ?_
       exact hm46 (H42, 1, ((l1.length : Int) - 1)) ⟨(On.pick [0, 1, 2, 3, 4, 5] [] (by kernel_rfl) hs43), .inr (.inr (.inl ⟨rfl, by omega, by omega⟩))⟩
     ·
      refine rSq [(2, .y (.one (sv EN aa2 nn2 pp2 l2)), H42), (4, xb false, H42)] [(0, .y (.one (sv NI b nn9 cp S))), (3, .y (.one (sv MV bb nn cc mv))), (6, .y (.one (.ptr n1 0))), (9, .y (.one (.ptr c4 0))), (13, xi 1), (14, xi ((l1.length : Int) - 1)), (15, xi 2), (77, xb false)] H42
        (cast (Jai (Jb (H := H42) (t := 23) (ty := 0) (id := n1) (off := 2) (n := 1) (cs := [sv EN aa0 nn0 pp0 l0, sv EN aa1 nn1 pp1 l1, sv EN aa2 nn2 pp2 l2]) (cs' := [sv EN aa2 nn2 pp2 l2]) (v := .one (sv EN aa2 nn2 pp2 l2)) (On.at hs43 0 rfl) (by kernel_rfl) (by kernel_rfl) (by kernel_rfl) (by kernel_rfl)) (Jai (Ja (vals := [xi (l2.length : Int), xi 0]) (H := H42) (op := .binOp .gtr 3 (.tmp 0) (.tmp 1) 3) (ty := 0) (r := xb (decide (((l2.length : Int) : Int) > 0))) (v := xb false) (by kernel_rfl) (congrArg (fun z => xb z) (decide_eq_false (by omega)))) trivial)) (by kernel_rfl)) (by kernel_rfl) ?_
      refine Wp.condF (by kernel_rfl) ?_
      refine Wp.skip ?_
      refine Wp.region [] [(0, .y (.one (sv NI b nn9 cp S))), (3, .y (.one (sv MV bb nn cc mv))), (6, .y (.one (.ptr n1 0))), (9, .y (.one (.ptr c4 0))), (13, xi 1), (14, xi ((l1.length : Int) - 1)), (15, xi 3)] H42
        (cast trivial (by kernel_rfl)) (by kernel_rfl) ?_
      refine ⟨[(0, .y (.one (sv NI b nn9 cp S))), (3, .y (.one (sv MV bb nn cc mv))), (6, .y (.one (.ptr n1 0))), (9, .y (.one (.ptr c4 0))), (13, xi 1), (14, xi ((l1.length : Int) - 1)), (15, xi 3)], H42, by kernel_rfl, ?_⟩
      refine WpL.step ?_
      refine Wp.seq ?_
      refine rSq [] [(0, .y (.one (sv NI b nn9 cp S))), (3, .y (.one (sv MV bb nn cc mv))), (6, .y (.one (.ptr n1 0))), (9, .y (.one (.ptr c4 0))), (13, xi 1), (14, xi ((l1.length : Int) - 1)), (15, xi 3), (57, xb false)] H42
        (cast trivial (by kernel_rfl)) (by kernel_rfl) ?_
      refine Wp.condF (by kernel_rfl) ?_
      refine Wp.exit ?_
      refine Eq.mpr (if_pos rfl) ?_
      exact hm46 (H42, 1, ((l1.length : Int) - 1)) ⟨(On.pick [0, 1, 2, 3, 4, 5] [] (by kernel_rfl) hs43), .inr (.inr (.inl ⟨rfl, by omega, by omega⟩))⟩
    ·
     refine rSq [(2, .y (.one (sv EN aa1 nn1 pp1 l1)), H42), (4, xb false, H42)] [(0, .y (.one (sv NI b nn9 cp S))), (3, .y (.one (sv MV bb nn cc mv))), (6, .y (.one (.ptr n1 0))), (9, .y (.one (.ptr c4 0))), (13, xi (-1)), (14, xi (-1)), (15, xi 1), (77, xb false)] H42
       (cast (Jai (Jb (H := H42) (t := 23) (ty := 0) (id := n1) (off := 1) (n := 1) (cs := [sv EN aa0 nn0 pp0 l0, sv EN aa1 nn1 pp1 l1, sv EN aa2 nn2 pp2 l2]) (cs' := [sv EN aa1 nn1 pp1 l1]) (v := .one (sv EN aa1 nn1 pp1 l1)) (On.at hs43 0 rfl) (by kernel_rfl) (by kernel_rfl) (by kernel_rfl) (by kernel_rfl)) (Jai (Ja (vals := [xi (l1.length : Int), xi 0]) (H := H42) (op := .binOp .gtr 3 (.tmp 0) (.tmp 1) 3) (ty := 0) (r := xb (decide (((l1.length : Int) : Int) > 0))) (v := xb false) (by kernel_rfl) (congrArg (fun z => xb z) (decide_eq_false (by omega)))) trivial)) (by kernel_rfl)) (by kernel_rfl) ?_
     refine Wp.condF (by kernel_rfl) ?_
     refine Wp.skip ?_
     refine Wp.region [] [(0, .y (.one (sv NI b nn9 cp S))), (3, .y (.one (sv MV bb nn cc mv))), (6, .y (.one (.ptr n1 0))), (9, .y (.one (.ptr c4 0))), (13, xi (-1)), (14, xi (-1)), (15, xi 2)] H42
       (cast trivial (by kernel_rfl)) (by kernel_rfl) ?_
     refine ⟨[(0, .y (.one (sv NI b nn9 cp S))), (3, .y (.one (sv MV bb nn cc mv))), (6, .y (.one (.ptr n1 0))), (9, .y (.one (.ptr c4 0))), (13, xi (-1)), (14, xi (-1)), (15, xi 2)], H42, by kernel_rfl, ?_⟩
     refine WpL.step ?_
     refine Wp.seq ?_
     refine rSq [] [(0, .y (.one (sv NI b nn9 cp S))), (3, .y (.one (sv MV bb nn cc mv))), (6, .y (.one (.ptr n1 0))), (9, .y (.one (.ptr c4 0))), (13, xi (-1)), (14, xi (-1)), (15, xi 2), (57, xb true)] H42
       (cast trivial (by kernel_rfl)) (by kernel_rfl) ?_
     refine Wp.condT (by kernel_rfl) ?_
     refine Wp.skip ?_
     refine Wp.seq ?_
     refine Wp.block ?_
     by_cases c210 : (0 : Int) < (l2.length : Int)
     ·
      refine rSq [(2, .y (.one (sv EN aa2 nn2 pp2 l2)), H42), (4, xb true, H42)] [(0, .y (.one (sv NI b nn9 cp S))), (3, .y (.one (sv MV bb nn cc mv))), (6, .y (.one (.ptr n1 0))), (9, .y (.one (.ptr c4 0))), (13, xi (-1)), (14, xi (-1)), (15, xi 2), (77, xb true)] H42
        (cast (Jai (Jb (H := H42) (t := 23) (ty := 0) (id := n1) (off := 2) (n := 1) (cs := [sv EN aa0 nn0 pp0 l0, sv EN aa1 nn1 pp1 l1, sv EN aa2 nn2 pp2 l2]) (cs' := [sv EN aa2 nn2 pp2 l2]) (v := .one (sv EN aa2 nn2 pp2 l2)) (On.at hs43 0 rfl) (by kernel_rfl) (by kernel_rfl) (by kernel_rfl) (by kernel_rfl)) (Jai (Ja (vals := [xi (l2.length : Int), xi 0]) (H := H42) (op := .binOp .gtr 3 (.tmp 0) (.tmp 1) 3) (ty := 0) (r := xb (decide (((l2.length : Int) : Int) > 0))) (v := xb true) (by kernel_rfl) (congrArg (fun z => xb z) (decide_eq_true (by omega)))) trivial)) (by kernel_rfl)) (by kernel_rfl) ?_
      refine Wp.condT (by kernel_rfl) ?_
      refine rSq [] [(0, .y (.one (sv NI b nn9 cp S))), (3, .y (.one (sv MV bb nn cc mv))), (6, .y (.one (.ptr n1 0))), (9, .y (.one (.ptr c4 0))), (13, xi 2), (15, xi 2)] H42
        (cast trivial (by kernel_rfl)) (by kernel_rfl) ?_
      refine Wp.region [(2, .y (.one (sv EN aa2 nn2 pp2 l2)), H42), (4, xi ((l2.length : Int) - 1), H42)] [(0, .y (.one (sv NI b nn9 cp S))), (3, .y (.one (sv MV bb nn cc mv))), (6, .y (.one (.ptr n1 0))), (9, .y (.one (.ptr c4 0))), (13, xi 2), (14, xi ((l2.length : Int) - 1)), (15, xi 2)] H42
        (cast (Jai (Jb (H := H42) (t := 23) (ty := 0) (id := n1) (off := 2) (n := 1) (cs := [sv EN aa0 nn0 pp0 l0, sv EN aa1 nn1 pp1 l1, sv EN aa2 nn2 pp2 l2]) (cs' := [sv EN aa2 nn2 pp2 l2]) (v := .one (sv EN aa2 nn2 pp2 l2)) (On.at hs43 0 rfl) (by kernel_rfl) (by kernel_rfl) (by kernel_rfl) (by kernel_rfl)) (Jai (Ja (vals := [xi (l2.length : Int), xi 1]) (H := H42) (op := .binOp .sub 3 (.tmp 0) (.tmp 1) 3) (ty := 0) (r := xi (IntKind.wrap .i64 ((l2.length : Int) - 1))) (v := xi ((l2.length : Int) - 1)) (by kernel_rfl) (congrArg (fun z => xi z) ((wrap64 (by omega)).trans (by omega)))) trivial)) (by kernel_rfl)) (by kernel_rfl) ?_
      refine Wp.region [] [(0, .y (.one (sv NI b nn9 cp S))), (3, .y (.one (sv MV bb nn cc mv))), (6, .y (.one (.ptr n1 0))), (9, .y (.one (.ptr c4 0))), (13, xi 2), (14, xi ((l2.length : Int) - 1)), (15, xi 3)] H42
        (cast trivial (by kernel_rfl)) (by kernel_rfl) ?_
      refine ⟨[(0, .y (.one (sv NI b nn9 cp S))), (3, .y (.one (sv MV bb nn cc mv))), (6, .y (.one (.ptr n1 0))), (9, .y (.one (.ptr c4 0))), (13, xi 2), (14, xi ((l2.length : Int) - 1)), (15, xi 3)], H42, by kernel_rfl, ?_⟩
      refine WpL.step ?_
      refine Wp.seq ?_
      refine rSq [] [(0, .y (.one (sv NI b nn9 cp S))), (3, .y (.one (sv MV bb nn cc mv))), (6, .y (.one (.ptr n1 0))), (9, .y (.one (.ptr c4 0))), (13, xi 2), (14, xi ((l2.length : Int) - 1)), (15, xi 3), (57, xb false)] H42
        (cast trivial (by kernel_rfl)) (by kernel_rfl) ?_
      refine Wp.condF (by kernel_rfl) ?_
      refine Wp.exit ?_
      refine Eq.mpr (if_pos rfl) ?_
      exact hm46 (H42, 2, ((l2.length : Int) - 1)) ⟨(On.pick [0, 1, 2, 3, 4, 5] [] (by kernel_rfl) hs43), .inr (.inr (.inr (⟨rfl, by omega, by omega⟩)))⟩
     ·
      refine rSq [(2, .y (.one (sv EN aa2 nn2 pp2 l2)), H42), (4, xb false, H42)] [(0, .y (.one (sv NI b nn9 cp S))), (3, .y (.one (sv MV bb nn cc mv))), (6, .y (.one (.ptr n1 0))), (9, .y (.one (.ptr c4 0))), (13, xi (-1)), (14, xi (-1)), (15, xi 2), (77, xb false)] H42
        (cast (Jai (Jb (H := H42) (t := 23) (ty := 0) (id := n1) (off := 2) (n := 1) (cs := [sv EN aa0 nn0 pp0 l0, sv EN aa1 nn1 pp1 l1, sv EN aa2 nn2 pp2 l2]) (cs' := [sv EN aa2 nn2 pp2 l2]) (v := .one (sv EN aa2 nn2 pp2 l2)) (On.at hs43 0 rfl) (by kernel_rfl) (by kernel_rfl) (by kernel_rfl) (by kernel_rfl)) (Jai (Ja (vals := [xi (l2.length : Int), xi 0]) (H := H42) (op := .binOp .gtr 3 (.tmp 0) (.tmp 1) 3) (ty := 0) (r := xb (decide (((l2.length : Int) : Int) > 0))) (v := xb false) (by kernel_rfl) (congrArg (fun z => xb z) (decide_eq_false (by omega)))) trivial)) (by kernel_rfl)) (by kernel_rfl) ?_
      refine Wp.condF (by kernel_rfl) ?_
      refine Wp.skip ?_
      refine Wp.region [] [(0, .y (.one (sv NI b nn9 cp S))), (3, .y (.one (sv MV bb nn cc mv))), (6, .y (.one (.ptr n1 0))), (9, .y (.one (.ptr c4 0))), (13, xi (-1)), (14, xi (-1)), (15, xi 3)] H42
        (cast trivial (by kernel_rfl)) (by kernel_rfl) ?_
      refine ⟨[(0, .y (.one (sv NI b nn9 cp S))), (3, .y (.one (sv MV bb nn cc mv))), (6, .y (.one (.ptr n1 0))), (9, .y (.one (.ptr c4 0))), (13, xi (-1)), (14, xi (-1)), (15, xi 3)], H42, by kernel_rfl, ?_⟩
      refine WpL.step ?_
      refine Wp.seq ?_
      refine rSq [] [(0, .y (.one (sv NI b nn9 cp S))), (3, .y (.one (sv MV bb nn cc mv))), (6, .y (.one (.ptr n1 0))), (9, .y (.one (.ptr c4 0))), (13, xi (-1)), (14, xi (-1)), (15, xi 3), (57, xb false)] H42
        (cast trivial (by kernel_rfl)) (by kernel_rfl) ?_
      refine Wp.condF (by kernel_rfl) ?_
      refine Wp.exit ?_
      refine Eq.mpr (if_pos rfl) ?_
      exact hm46 (H42, (-1), (-1)) ⟨(On.pick [0, 1, 2, 3, 4, 5] [] (by kernel_rfl) hs43), .inl ⟨rfl, by omega, by omega, by omega⟩⟩
end Go.Proofs.Ytjdnhbnpdbpgbaa
