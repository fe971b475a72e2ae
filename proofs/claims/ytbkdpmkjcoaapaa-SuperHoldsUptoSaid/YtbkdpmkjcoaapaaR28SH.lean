/- Lemmas. -/
import Derived.Test.YtbkdpmkjcoaapaaR28SG
namespace Go.Proofs.Ytbkdpmkjcoaapaa
open Go.Lg
set_option linter.unusedVariables false
set_option maxRecDepth 100000
set_option maxHeartbeats 8000000
set_option linter.unusedSimpArgs false
theorem newbad (R : HP) (H : HH) (r tk : Int) (hs : On [R] H) (hb : r < 0 ∨ 64 < r ∨ tk < 1 ∨ 1048576 < tk) : ∃ rs H', Runs pg an 6 [.agg [vi 1, vi r, vi tk, kids]] H rs H' ∧ rs = [.one (.sc (.pointer none)), .one (nilC), .one (vi 280)] ∧ On [R] H' := by
 refine rOF Try.func6 rfl ?_
 obtain ⟨n1, hn1⟩ := lX H
 refine rGz [(1, yp n1)] (On.new' hn1 (.obj [vi 1, vi r, vi tk, kids]) hs) (zL 0 (qB 25 [vi 1, vi r, vi tk, kids] hn1)) fun H2 hs3 => ?_
 refine wS ?_
 refine rSz [(1, yp n1), (10, xb true)] H2 (zA 0 (qL 25 0 (.agg [vi 1, vi r, vi tk, kids]) (On.at hs3 1 rfl)) (zL 1 (qP1 H2 (may_bad r tk hb)))) ?_
 refine wTa ?_
 refine rs0 [(2, .y (.one (.sc (.pointer none)))), (3, .y (.one (nilC))), (4, xi 280)] ?_
 refine wE ?_
 refine ⟨Or.inr rfl, [.one (.sc (.pointer none)), .one (nilC), .one (vi 280)], (by kernel_rfl), ?_⟩
 exact ⟨rfl, (On.pick [0] [1] (by kernel_rfl) hs3)⟩
abbrev zR : List C := [vi 0, vi 0, vi 0, nilC, nilC, nilC, vi 0, vb false]
theorem rnew_bad (r tk : Int) (hb : r < 0 ∨ 64 < r ∨ tk < 1 ∨ 1048576 < tk)  : PureC pg an 7 [.agg [vi 1, vi r, vi tk, kids]] [.agg zR, .one (nilC), .one (vi 280)] := by
 refine rOF Try.func7 rfl ?_
 obtain ⟨n1, hn1⟩ := lX []
 obtain ⟨n2, hn2⟩ := lX ([] ++ [.obj [vi 1, vi r, vi tk, kids]])
 refine rGz [(1, yp n1), (2, yp n2)] (On.new' hn2 (.obj [vi 0, vi 0, vi 0, nilC, nilC, nilC, vi 0, vb false]) (On.new' hn1 (.obj [vi 1, vi r, vi tk, kids]) (On.nil []))) (zA 0 (qB 25 [vi 1, vi r, vi tk, kids] hn1) (zL 1 (qO 34 [vi 0, vi 0, vi 0, nilC, nilC, nilC, vi 0, vb false] hn2))) fun H3 hs4 => ?_
 obtain ⟨n5, hn5⟩ := lX H3
 refine rGz [(1, yp n1), (2, yp n2), (5, yp n5)] (On.new' hn5 (.obj [vi 0, vi 0, vi 0, nilC, nilC, nilC, vi 0, vb false]) hs4) (zL 0 (qO 34 [vi 0, vi 0, vi 0, nilC, nilC, nilC, vi 0, vb false] hn5)) fun H6 hs7 => ?_
 refine rs0 [(1, yp n1), (2, yp n2), (5, yp n5), (6, .y (.one (nilC)))] ?_
 refine wS ?_
 refine rSz [(1, yp n1), (2, yp n2), (5, yp n5), (6, .y (.one (nilC))), (10, xb true)] H6 (zA 0 (qL 25 0 (.agg [vi 1, vi r, vi tk, kids]) (On.at hs7 0 rfl)) (zL 1 (qP1 H6 (rcheck_bad r tk hb)))) ?_
 refine wTa ?_
 refine rGz [(2, yp n2), (3, .y (.one (nilC))), (4, xi 280)] (On.put (.obj [vi 0, vi 0, vi 0, nilC, nilC, nilC, vi 0, vb false]) hs7 1 rfl) (zA 0 (qL 34 0 (.agg [vi 0, vi 0, vi 0, nilC, nilC, nilC, vi 0, vb false]) (On.at hs7 2 rfl)) (zL 2 (qS 34 0 (.agg [vi 0, vi 0, vi 0, nilC, nilC, nilC, vi 0, vb false]) (On.at hs7 1 rfl)))) fun H8 hs9 => ?_
 refine wE ?_
 refine ⟨Or.inr rfl, [.agg [vi 0, vi 0, vi 0, nilC, nilC, nilC, vi 0, vb false], .one (nilC), .one (vi 280)], (rC (On.at hs9 1 rfl)), ?_⟩
 exact (by kernel_rfl)
end Go.Proofs.Ytbkdpmkjcoaapaa
