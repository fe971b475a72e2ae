/- Lemmas. -/
import Derived.Test.YtbkdpmkjcoaapaaR28SB
namespace Go.Proofs.Ytbkdpmkjcoaapaa
open Go.Lg
set_option linter.unusedVariables false
set_option maxRecDepth 100000
set_option maxHeartbeats 8000000
set_option linter.unusedSimpArgs false
theorem may_ok (r tk : Int) (hr0 : 0 ≤ r) (hr1 : r ≤ 64) (ht0 : 1 ≤ tk) (ht1 : tk ≤ 1048576)  : PureC pg an 16 [.agg [vi 1, vi r, vi tk, kids]] [.one (vb true)] := by
 refine rOF Try.func16 rfl ?_
 obtain ⟨n1, hn1⟩ := lX []
 refine rSz [(1, yp n1)] ([] ++ [.obj [vi 1, vi r, vi tk, kids]]) (zL 0 (qB 25 [vi 1, vi r, vi tk, kids] hn1)) ?_
 refine wS ?_
 refine rSz [(1, yp n1), (38, xb false)] ([] ++ [.obj [vi 1, vi r, vi tk, kids]]) (zA 1 (qL 3 0 (.one (vi 1)) (On.at (On.new' hn1 (.obj [vi 1, vi r, vi tk, kids]) (On.nil [])) 0 rfl)) (zA 5 (qL 3 0 (.one (vi 1)) (On.at (On.new' hn1 (.obj [vi 1, vi r, vi tk, kids]) (On.nil [])) 0 rfl)) (zA 10 (qL 3 1 (.one (vi r)) (On.at (On.new' hn1 (.obj [vi 1, vi r, vi tk, kids]) (On.nil [])) 0 rfl)) (zA 11 (qlssF ([] ++ [.obj [vi 1, vi r, vi tk, kids]]) r 0) (zA 15 (qL 3 1 (.one (vi r)) (On.at (On.new' hn1 (.obj [vi 1, vi r, vi tk, kids]) (On.nil [])) 0 rfl)) (zA 16 (qgtrF ([] ++ [.obj [vi 1, vi r, vi tk, kids]]) r 64) (zA 20 (qL 3 2 (.one (vi tk)) (On.at (On.new' hn1 (.obj [vi 1, vi r, vi tk, kids]) (On.nil [])) 0 rfl)) (zA 21 (qlssF ([] ++ [.obj [vi 1, vi r, vi tk, kids]]) tk 1) (zA 25 (qL 3 2 (.one (vi tk)) (On.at (On.new' hn1 (.obj [vi 1, vi r, vi tk, kids]) (On.nil [])) 0 rfl)) (zA 26 (qgtrF ([] ++ [.obj [vi 1, vi r, vi tk, kids]]) tk 1048576) (zL 30 (qL 23 3 (.one (kids)) (On.at (On.new' hn1 (.obj [vi 1, vi r, vi tk, kids]) (On.nil [])) 0 rfl))))))))))))) ?_
 refine wFk ?_
 subst hn1
 exact Wp.closed 200 (by kernel_rfl)
theorem may_bad (r tk : Int) (hb : r < 0 ∨ 64 < r ∨ tk < 1 ∨ 1048576 < tk)  : PureC pg an 16 [.agg [vi 1, vi r, vi tk, kids]] [.one (vb false)] := by
 refine rOF Try.func16 rfl ?_
 obtain ⟨n1, hn1⟩ := lX []
 refine rSz [(1, yp n1)] ([] ++ [.obj [vi 1, vi r, vi tk, kids]]) (zL 0 (qB 25 [vi 1, vi r, vi tk, kids] hn1)) ?_
 refine wS ?_
 by_cases c2 : (r : Int) < 0
 ·
  refine rSz [(1, yp n1), (38, xb true)] ([] ++ [.obj [vi 1, vi r, vi tk, kids]]) (zA 1 (qL 3 0 (.one (vi 1)) (On.at (On.new' hn1 (.obj [vi 1, vi r, vi tk, kids]) (On.nil [])) 0 rfl)) (zA 5 (qL 3 0 (.one (vi 1)) (On.at (On.new' hn1 (.obj [vi 1, vi r, vi tk, kids]) (On.nil [])) 0 rfl)) (zA 10 (qL 3 1 (.one (vi r)) (On.at (On.new' hn1 (.obj [vi 1, vi r, vi tk, kids]) (On.nil [])) 0 rfl)) (zL 11 (qlssT ([] ++ [.obj [vi 1, vi r, vi tk, kids]]) r 0))))) ?_
  refine wTa ?_
  refine rs0 [(2, xb false)] ?_
  refine wE ?_
  refine ⟨Or.inr rfl, [.one (vb false)], (by kernel_rfl), ?_⟩
  exact (by kernel_rfl)
 by_cases c3 : (64 : Int) < r
 ·
  refine rSz [(1, yp n1), (38, xb true)] ([] ++ [.obj [vi 1, vi r, vi tk, kids]]) (zA 1 (qL 3 0 (.one (vi 1)) (On.at (On.new' hn1 (.obj [vi 1, vi r, vi tk, kids]) (On.nil [])) 0 rfl)) (zA 5 (qL 3 0 (.one (vi 1)) (On.at (On.new' hn1 (.obj [vi 1, vi r, vi tk, kids]) (On.nil [])) 0 rfl)) (zA 10 (qL 3 1 (.one (vi r)) (On.at (On.new' hn1 (.obj [vi 1, vi r, vi tk, kids]) (On.nil [])) 0 rfl)) (zA 11 (qlssF ([] ++ [.obj [vi 1, vi r, vi tk, kids]]) r 0) (zA 15 (qL 3 1 (.one (vi r)) (On.at (On.new' hn1 (.obj [vi 1, vi r, vi tk, kids]) (On.nil [])) 0 rfl)) (zL 16 (qgtrT ([] ++ [.obj [vi 1, vi r, vi tk, kids]]) r 64))))))) ?_
  refine wTa ?_
  refine rs0 [(2, xb false)] ?_
  refine wE ?_
  refine ⟨Or.inr rfl, [.one (vb false)], (by kernel_rfl), ?_⟩
  exact (by kernel_rfl)
 by_cases c4 : (tk : Int) < 1
 ·
  refine rSz [(1, yp n1), (38, xb true)] ([] ++ [.obj [vi 1, vi r, vi tk, kids]]) (zA 1 (qL 3 0 (.one (vi 1)) (On.at (On.new' hn1 (.obj [vi 1, vi r, vi tk, kids]) (On.nil [])) 0 rfl)) (zA 5 (qL 3 0 (.one (vi 1)) (On.at (On.new' hn1 (.obj [vi 1, vi r, vi tk, kids]) (On.nil [])) 0 rfl)) (zA 10 (qL 3 1 (.one (vi r)) (On.at (On.new' hn1 (.obj [vi 1, vi r, vi tk, kids]) (On.nil [])) 0 rfl)) (zA 11 (qlssF ([] ++ [.obj [vi 1, vi r, vi tk, kids]]) r 0) (zA 15 (qL 3 1 (.one (vi r)) (On.at (On.new' hn1 (.obj [vi 1, vi r, vi tk, kids]) (On.nil [])) 0 rfl)) (zA 16 (qgtrF ([] ++ [.obj [vi 1, vi r, vi tk, kids]]) r 64) (zA 20 (qL 3 2 (.one (vi tk)) (On.at (On.new' hn1 (.obj [vi 1, vi r, vi tk, kids]) (On.nil [])) 0 rfl)) (zL 21 (qlssT ([] ++ [.obj [vi 1, vi r, vi tk, kids]]) tk 1))))))))) ?_
  refine wTa ?_
  refine rs0 [(2, xb false)] ?_
  refine wE ?_
  refine ⟨Or.inr rfl, [.one (vb false)], (by kernel_rfl), ?_⟩
  exact (by kernel_rfl)
 by_cases c5 : (1048576 : Int) < tk
 ·
  refine rSz [(1, yp n1), (38, xb true)] ([] ++ [.obj [vi 1, vi r, vi tk, kids]]) (zA 1 (qL 3 0 (.one (vi 1)) (On.at (On.new' hn1 (.obj [vi 1, vi r, vi tk, kids]) (On.nil [])) 0 rfl)) (zA 5 (qL 3 0 (.one (vi 1)) (On.at (On.new' hn1 (.obj [vi 1, vi r, vi tk, kids]) (On.nil [])) 0 rfl)) (zA 10 (qL 3 1 (.one (vi r)) (On.at (On.new' hn1 (.obj [vi 1, vi r, vi tk, kids]) (On.nil [])) 0 rfl)) (zA 11 (qlssF ([] ++ [.obj [vi 1, vi r, vi tk, kids]]) r 0) (zA 15 (qL 3 1 (.one (vi r)) (On.at (On.new' hn1 (.obj [vi 1, vi r, vi tk, kids]) (On.nil [])) 0 rfl)) (zA 16 (qgtrF ([] ++ [.obj [vi 1, vi r, vi tk, kids]]) r 64) (zA 20 (qL 3 2 (.one (vi tk)) (On.at (On.new' hn1 (.obj [vi 1, vi r, vi tk, kids]) (On.nil [])) 0 rfl)) (zA 21 (qlssF ([] ++ [.obj [vi 1, vi r, vi tk, kids]]) tk 1) (zA 25 (qL 3 2 (.one (vi tk)) (On.at (On.new' hn1 (.obj [vi 1, vi r, vi tk, kids]) (On.nil [])) 0 rfl)) (zL 26 (qgtrT ([] ++ [.obj [vi 1, vi r, vi tk, kids]]) tk 1048576))))))))))) ?_
  refine wTa ?_
  refine rs0 [(2, xb false)] ?_
  refine wE ?_
  refine ⟨Or.inr rfl, [.one (vb false)], (by kernel_rfl), ?_⟩
  exact (by kernel_rfl)
 refine rSz [(1, yp n1), (38, xb false)] ([] ++ [.obj [vi 1, vi r, vi tk, kids]]) (zA 1 (qL 3 0 (.one (vi 1)) (On.at (On.new' hn1 (.obj [vi 1, vi r, vi tk, kids]) (On.nil [])) 0 rfl)) (zA 5 (qL 3 0 (.one (vi 1)) (On.at (On.new' hn1 (.obj [vi 1, vi r, vi tk, kids]) (On.nil [])) 0 rfl)) (zA 10 (qL 3 1 (.one (vi r)) (On.at (On.new' hn1 (.obj [vi 1, vi r, vi tk, kids]) (On.nil [])) 0 rfl)) (zA 11 (qlssF ([] ++ [.obj [vi 1, vi r, vi tk, kids]]) r 0) (zA 15 (qL 3 1 (.one (vi r)) (On.at (On.new' hn1 (.obj [vi 1, vi r, vi tk, kids]) (On.nil [])) 0 rfl)) (zA 16 (qgtrF ([] ++ [.obj [vi 1, vi r, vi tk, kids]]) r 64) (zA 20 (qL 3 2 (.one (vi tk)) (On.at (On.new' hn1 (.obj [vi 1, vi r, vi tk, kids]) (On.nil [])) 0 rfl)) (zA 21 (qlssF ([] ++ [.obj [vi 1, vi r, vi tk, kids]]) tk 1) (zA 25 (qL 3 2 (.one (vi tk)) (On.at (On.new' hn1 (.obj [vi 1, vi r, vi tk, kids]) (On.nil [])) 0 rfl)) (zA 26 (qgtrF ([] ++ [.obj [vi 1, vi r, vi tk, kids]]) tk 1048576) (zL 30 (qL 23 3 (.one (kids)) (On.at (On.new' hn1 (.obj [vi 1, vi r, vi tk, kids]) (On.nil [])) 0 rfl))))))))))))) ?_
 refine wFk ?_
 subst hn1
 exfalso; omega
theorem rcheck_bad (r tk : Int) (hb : r < 0 ∨ 64 < r ∨ tk < 1 ∨ 1048576 < tk)  : PureC pg an 18 [.agg [vi 1, vi r, vi tk, kids]] [.one (vb false)] := by
 refine rOF Try.func18 rfl ?_
 obtain ⟨n1, hn1⟩ := lX []
 refine rSz [(1, yp n1)] ([] ++ [.obj [vi 1, vi r, vi tk, kids]]) (zL 0 (qB 25 [vi 1, vi r, vi tk, kids] hn1)) ?_
 refine wS ?_
 by_cases c2 : (r : Int) < 0
 ·
  refine rSz [(1, yp n1), (39, xb true)] ([] ++ [.obj [vi 1, vi r, vi tk, kids]]) (zA 1 (qL 3 0 (.one (vi 1)) (On.at (On.new' hn1 (.obj [vi 1, vi r, vi tk, kids]) (On.nil [])) 0 rfl)) (zA 5 (qL 3 0 (.one (vi 1)) (On.at (On.new' hn1 (.obj [vi 1, vi r, vi tk, kids]) (On.nil [])) 0 rfl)) (zA 10 (qL 3 1 (.one (vi r)) (On.at (On.new' hn1 (.obj [vi 1, vi r, vi tk, kids]) (On.nil [])) 0 rfl)) (zL 11 (qlssT ([] ++ [.obj [vi 1, vi r, vi tk, kids]]) r 0))))) ?_
  refine wTa ?_
  refine rs0 [(2, xb false)] ?_
  refine wE ?_
  refine ⟨Or.inr rfl, [.one (vb false)], (by kernel_rfl), ?_⟩
  exact (by kernel_rfl)
 by_cases c3 : (64 : Int) < r
 ·
  refine rSz [(1, yp n1), (39, xb true)] ([] ++ [.obj [vi 1, vi r, vi tk, kids]]) (zA 1 (qL 3 0 (.one (vi 1)) (On.at (On.new' hn1 (.obj [vi 1, vi r, vi tk, kids]) (On.nil [])) 0 rfl)) (zA 5 (qL 3 0 (.one (vi 1)) (On.at (On.new' hn1 (.obj [vi 1, vi r, vi tk, kids]) (On.nil [])) 0 rfl)) (zA 10 (qL 3 1 (.one (vi r)) (On.at (On.new' hn1 (.obj [vi 1, vi r, vi tk, kids]) (On.nil [])) 0 rfl)) (zA 11 (qlssF ([] ++ [.obj [vi 1, vi r, vi tk, kids]]) r 0) (zA 15 (qL 3 1 (.one (vi r)) (On.at (On.new' hn1 (.obj [vi 1, vi r, vi tk, kids]) (On.nil [])) 0 rfl)) (zL 16 (qgtrT ([] ++ [.obj [vi 1, vi r, vi tk, kids]]) r 64))))))) ?_
  refine wTa ?_
  refine rs0 [(2, xb false)] ?_
  refine wE ?_
  refine ⟨Or.inr rfl, [.one (vb false)], (by kernel_rfl), ?_⟩
  exact (by kernel_rfl)
 by_cases c4 : (tk : Int) < 1
 ·
  refine rSz [(1, yp n1), (39, xb true)] ([] ++ [.obj [vi 1, vi r, vi tk, kids]]) (zA 1 (qL 3 0 (.one (vi 1)) (On.at (On.new' hn1 (.obj [vi 1, vi r, vi tk, kids]) (On.nil [])) 0 rfl)) (zA 5 (qL 3 0 (.one (vi 1)) (On.at (On.new' hn1 (.obj [vi 1, vi r, vi tk, kids]) (On.nil [])) 0 rfl)) (zA 10 (qL 3 1 (.one (vi r)) (On.at (On.new' hn1 (.obj [vi 1, vi r, vi tk, kids]) (On.nil [])) 0 rfl)) (zA 11 (qlssF ([] ++ [.obj [vi 1, vi r, vi tk, kids]]) r 0) (zA 15 (qL 3 1 (.one (vi r)) (On.at (On.new' hn1 (.obj [vi 1, vi r, vi tk, kids]) (On.nil [])) 0 rfl)) (zA 16 (qgtrF ([] ++ [.obj [vi 1, vi r, vi tk, kids]]) r 64) (zA 20 (qL 3 2 (.one (vi tk)) (On.at (On.new' hn1 (.obj [vi 1, vi r, vi tk, kids]) (On.nil [])) 0 rfl)) (zL 21 (qlssT ([] ++ [.obj [vi 1, vi r, vi tk, kids]]) tk 1))))))))) ?_
  refine wTa ?_
  refine rs0 [(2, xb false)] ?_
  refine wE ?_
  refine ⟨Or.inr rfl, [.one (vb false)], (by kernel_rfl), ?_⟩
  exact (by kernel_rfl)
 by_cases c5 : (1048576 : Int) < tk
 ·
  refine rSz [(1, yp n1), (39, xb true)] ([] ++ [.obj [vi 1, vi r, vi tk, kids]]) (zA 1 (qL 3 0 (.one (vi 1)) (On.at (On.new' hn1 (.obj [vi 1, vi r, vi tk, kids]) (On.nil [])) 0 rfl)) (zA 5 (qL 3 0 (.one (vi 1)) (On.at (On.new' hn1 (.obj [vi 1, vi r, vi tk, kids]) (On.nil [])) 0 rfl)) (zA 10 (qL 3 1 (.one (vi r)) (On.at (On.new' hn1 (.obj [vi 1, vi r, vi tk, kids]) (On.nil [])) 0 rfl)) (zA 11 (qlssF ([] ++ [.obj [vi 1, vi r, vi tk, kids]]) r 0) (zA 15 (qL 3 1 (.one (vi r)) (On.at (On.new' hn1 (.obj [vi 1, vi r, vi tk, kids]) (On.nil [])) 0 rfl)) (zA 16 (qgtrF ([] ++ [.obj [vi 1, vi r, vi tk, kids]]) r 64) (zA 20 (qL 3 2 (.one (vi tk)) (On.at (On.new' hn1 (.obj [vi 1, vi r, vi tk, kids]) (On.nil [])) 0 rfl)) (zA 21 (qlssF ([] ++ [.obj [vi 1, vi r, vi tk, kids]]) tk 1) (zA 25 (qL 3 2 (.one (vi tk)) (On.at (On.new' hn1 (.obj [vi 1, vi r, vi tk, kids]) (On.nil [])) 0 rfl)) (zL 26 (qgtrT ([] ++ [.obj [vi 1, vi r, vi tk, kids]]) tk 1048576))))))))))) ?_
  refine wTa ?_
  refine rs0 [(2, xb false)] ?_
  refine wE ?_
  refine ⟨Or.inr rfl, [.one (vb false)], (by kernel_rfl), ?_⟩
  exact (by kernel_rfl)
 refine rSz [(1, yp n1), (39, xb false)] ([] ++ [.obj [vi 1, vi r, vi tk, kids]]) (zA 1 (qL 3 0 (.one (vi 1)) (On.at (On.new' hn1 (.obj [vi 1, vi r, vi tk, kids]) (On.nil [])) 0 rfl)) (zA 5 (qL 3 0 (.one (vi 1)) (On.at (On.new' hn1 (.obj [vi 1, vi r, vi tk, kids]) (On.nil [])) 0 rfl)) (zA 10 (qL 3 1 (.one (vi r)) (On.at (On.new' hn1 (.obj [vi 1, vi r, vi tk, kids]) (On.nil [])) 0 rfl)) (zA 11 (qlssF ([] ++ [.obj [vi 1, vi r, vi tk, kids]]) r 0) (zA 15 (qL 3 1 (.one (vi r)) (On.at (On.new' hn1 (.obj [vi 1, vi r, vi tk, kids]) (On.nil [])) 0 rfl)) (zA 16 (qgtrF ([] ++ [.obj [vi 1, vi r, vi tk, kids]]) r 64) (zA 20 (qL 3 2 (.one (vi tk)) (On.at (On.new' hn1 (.obj [vi 1, vi r, vi tk, kids]) (On.nil [])) 0 rfl)) (zA 21 (qlssF ([] ++ [.obj [vi 1, vi r, vi tk, kids]]) tk 1) (zA 25 (qL 3 2 (.one (vi tk)) (On.at (On.new' hn1 (.obj [vi 1, vi r, vi tk, kids]) (On.nil [])) 0 rfl)) (zA 26 (qgtrF ([] ++ [.obj [vi 1, vi r, vi tk, kids]]) tk 1048576) (zL 30 (qL 23 3 (.one (kids)) (On.at (On.new' hn1 (.obj [vi 1, vi r, vi tk, kids]) (On.nil [])) 0 rfl))))))))))))) ?_
 refine wFk ?_
 subst hn1
 exfalso; omega
end Go.Proofs.Ytbkdpmkjcoaapaa
