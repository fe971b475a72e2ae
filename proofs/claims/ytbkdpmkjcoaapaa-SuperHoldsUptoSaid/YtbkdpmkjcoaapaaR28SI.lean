/- Lemmas. -/
import Derived.Test.YtbkdpmkjcoaapaaR28SH
namespace Go.Proofs.Ytbkdpmkjcoaapaa
open Go.Lg
set_option linter.unusedVariables false
set_option maxRecDepth 100000
set_option maxHeartbeats 8000000
set_option linter.unusedSimpArgs false
theorem law_bad (r tk : Int) (gn : Bool) (gl : List Int) (hb : r < 0 ∨ 64 < r ∨ tk < 1 ∨ 1048576 < tk)  : PureC pg an 3 [.one (vi r), .one (vi tk), .one (sv NI false gn gn gl)] [.one (vb true)] := by
 refine rOF Try.func3 rfl ?_
 refine rs0 [(0, xi r), (1, xi tk), (2, .y (.one (sv NI false gn gn gl)))] ?_
 obtain ⟨n1, hn1⟩ := lX []
 refine rGz [(0, xi r), (1, xi tk), (2, .y (.one (sv NI false gn gn gl))), (7, yp n1)] (On.put (.obj [vi 1, vi 1, vi 5, kids]) (On.new' hn1 (.obj [vi 0, vi 0, vi 0, nilC]) (On.nil [])) 0 rfl) (zA 0 (qP1 [] fn5) (zA 1 (qO 25 [vi 0, vi 0, vi 0, nilC] hn1) (zL 2 (qS 25 0 (.agg [vi 1, vi 1, vi 5, kids]) (On.at (On.new' hn1 (.obj [vi 0, vi 0, vi 0, nilC]) (On.nil [])) 0 rfl))))) fun H2 hs3 => ?_
 refine rGz [(0, xi r), (1, xi tk), (2, .y (.one (sv NI false gn gn gl))), (7, yp n1)] (On.put (.obj [vi 1, vi r, vi 5, kids]) hs3 0 rfl) (zL 2 (qS 3 1 (.one (vi r)) (On.at hs3 0 rfl))) fun H4 hs5 => ?_
 refine rGz [(0, xi r), (1, xi tk), (2, .y (.one (sv NI false gn gn gl))), (7, yp n1)] (On.put (.obj [vi 1, vi r, vi tk, kids]) hs5 0 rfl) (zL 2 (qS 3 2 (.one (vi tk)) (On.at hs5 0 rfl))) fun H6 hs7 => ?_
 obtain ⟨_, H8, hr9, ⟨rfl, hs10⟩⟩ := newbad _ (H6 : HH) (On.call [] [0] (by kernel_rfl) hs7) (r := r) (tk := tk) hb
 have hs11 : On [pts n1 (.obj [vi 1, vi r, vi tk, kids])] H8 := On.flat hs10
 refine rGz [(0, xi r), (1, xi tk), (2, .y (.one (sv NI false gn gn gl))), (7, yp n1), (8, .y (.one (.sc (.pointer none)))), (10, xi 280)] hs11 (zA 0 (qL 25 0 (.agg [vi 1, vi r, vi tk, kids]) (On.at hs7 0 rfl)) (zL 1 (qC1 hr9))) fun H12 hs13 => ?_
 refine wS ?_
 refine rs0 [(0, xi r), (1, xi tk), (2, .y (.one (sv NI false gn gn gl))), (7, yp n1), (8, .y (.one (.sc (.pointer none)))), (10, xi 280), (37, xb true)] ?_
 refine wTa ?_
 obtain ⟨n14, hn14⟩ := lX H12
 refine rGz [(8, .y (.one (.sc (.pointer none)))), (10, xi 280), (13, xi 280)] (On.put (.obj [vi 0, vi 0, vi 0, nilC, nilC, nilC, vi 0, vb false]) (On.new' hn14 (.obj [vi 0, vi 0, vi 0, nilC, nilC, nilC, vi 0, vb false]) hs13) 1 rfl) (zA 0 (qL 25 0 (.agg [vi 1, vi r, vi tk, kids]) (On.at hs13 0 rfl)) (zA 1 (qP1 H12 (rnew_bad r tk hb)) (zA 6 (qO 34 [vi 0, vi 0, vi 0, nilC, nilC, nilC, vi 0, vb false] hn14) (zL 7 (qS 34 0 (.agg [vi 0, vi 0, vi 0, nilC, nilC, nilC, vi 0, vb false]) (On.at (On.new' hn14 (.obj [vi 0, vi 0, vi 0, nilC, nilC, nilC, vi 0, vb false]) hs13) 1 rfl)))))) fun H15 hs16 => ?_
 refine rSz [(6, xb true)] H15 (zL 8 (Jo (H := H15) (g := 8) (vals := []) (xs0 := []) (xs1 := []) (res := [.one (vb true)]) (ats := #[]) (ty := 0) (v := xb true) [] (by kernel_rfl) (by kernel_rfl) (snap_nil) fn8 (by kernel_rfl))) ?_
 refine wE ?_
 refine ⟨Or.inr rfl, [.one (vb true)], (by kernel_rfl), ?_⟩
 exact (by kernel_rfl)
end Go.Proofs.Ytbkdpmkjcoaapaa
