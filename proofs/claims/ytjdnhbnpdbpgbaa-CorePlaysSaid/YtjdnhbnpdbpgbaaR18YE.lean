/- Lemmas. -/
import Derived.Test.YtjdnhbnpdbpgbaaR18YB
import Derived.Test.YtjdnhbnpdbpgbaaR18G
namespace Go.Proofs.Ytjdnhbnpdbpgbaa
open Go.Lg
set_option linter.unusedVariables false
set_option maxRecDepth 100000
set_option maxHeartbeats 8000000
set_option linter.unusedSimpArgs false
theorem rnew_bad (b nil cp0 : Bool) (S : List Int) (hsl : (S.length : Int) ≤ 4611686018427387904) (hok : okW S = false)  : PureC pg an 19 [.one (sv NI b nil cp0 S)] [.agg [nilC, vi 0, nilC, nilC, nilC], .one (vi 20)] := by
 refine rOF Try.func19 rfl ?_
 obtain ⟨n1, hn1⟩ := lX []
 refine rGz [(0, .y (.one (sv NI b nil cp0 S))), (2, yp n1)] (On.new' hn1 (.obj [nilC, vi 0, nilC, nilC, nilC]) (On.nil [])) (zL 0 (qO 31 [nilC, vi 0, nilC, nilC, nilC] hn1)) fun H2 hs3 => ?_
 obtain ⟨n4, hn4⟩ := lX H2
 refine rGz [(0, .y (.one (sv NI b nil cp0 S))), (2, yp n1), (4, yp n4)] (On.new' hn4 (.obj [nilC, vi 0, nilC, nilC, nilC]) hs3) (zL 0 (qO 31 [nilC, vi 0, nilC, nilC, nilC] hn4)) fun H5 hs6 => ?_
 refine wS ?_
 refine rSz [(0, .y (.one (sv NI b nil cp0 S))), (2, yp n1), (4, yp n4), (5, xi 20)] H5 (zL 1 (Jh (H := H5) (g := 37) (x := .one (sv NI b nil cp0 S)) (res := [.one (vi 20)]) (by have := rcheck b nil cp0 S (by omega); rw [hok] at this; exact this) (by kernel_rfl) (by kernel_rfl))) ?_
 refine rs0 [(0, .y (.one (sv NI b nil cp0 S))), (2, yp n1), (4, yp n4), (5, xi 20), (9, xb true)] ?_
 refine wTa ?_
 refine rGz [(2, yp n1), (3, xi 20)] (On.put (.obj [nilC, vi 0, nilC, nilC, nilC]) hs6 0 rfl) (zA 0 (qA 31 (On.at hs6 1 rfl)) (zL 2 (qS 31 0 (.agg [nilC, vi 0, nilC, nilC, nilC]) (On.at hs6 0 rfl)))) fun H7 hs8 => ?_
 refine wE ?_
 refine ⟨Or.inr rfl, [.agg [nilC, vi 0, nilC, nilC, nilC], .one (vi 20)], (rC (On.at hs8 0 rfl)), ?_⟩
 exact (by kernel_rfl)
theorem rnew_ok (b nil cp0 : Bool) (S : List Int) (hsl : (S.length : Int) ≤ 4611686018427387904) (hok : okW S = true) (hS : 3 ≤ (S.length : Int)) (hT : (S.length : Int) ≤ 64)  : ∃ cp : Bool, PureC pg an 19 [.one (sv NI b nil cp0 S)] [.agg [sv NI false false cp S, vi 0, nilC, nilC, nilC], .one (vi 0)] := by
 refine pE1 (rOF Try.func19 rfl ?_)
 obtain ⟨n1, hn1⟩ := lX []
 refine rGz [(0, .y (.one (sv NI b nil cp0 S))), (2, yp n1)] (On.new' hn1 (.obj [nilC, vi 0, nilC, nilC, nilC]) (On.nil [])) (zL 0 (qO 31 [nilC, vi 0, nilC, nilC, nilC] hn1)) fun H2 hs3 => ?_
 obtain ⟨n4, hn4⟩ := lX H2
 refine rGz [(0, .y (.one (sv NI b nil cp0 S))), (2, yp n1), (4, yp n4)] (On.new' hn4 (.obj [nilC, vi 0, nilC, nilC, nilC]) hs3) (zL 0 (qO 31 [nilC, vi 0, nilC, nilC, nilC] hn4)) fun H5 hs6 => ?_
 refine wS ?_
 refine rSz [(0, .y (.one (sv NI b nil cp0 S))), (2, yp n1), (4, yp n4), (5, xi 0)] H5 (zL 1 (Jh (H := H5) (g := 37) (x := .one (sv NI b nil cp0 S)) (res := [.one (vi 0)]) (by have := rcheck b nil cp0 S (by omega); rw [hok] at this; exact this) (by kernel_rfl) (by kernel_rfl))) ?_
 refine rs0 [(0, .y (.one (sv NI b nil cp0 S))), (2, yp n1), (4, yp n4), (5, xi 0), (9, xb false)] ?_
 refine wFk ?_
 obtain ⟨n7, hn7⟩ := lX H5
 refine rGz [(2, yp n1), (4, yp n4)] (On.put (.obj [rff n7 S, vi 0, nilC, nilC, nilC]) (On.new' hn7 (rowO NI true 0 S) hs6) 1 rfl) (zA 1 (qL 22 0 (.one (nilC)) (On.at hs6 1 rfl)) (zA 3 (Jm (H := H5) (s := NI) (t := 22) (u := 22) (el := 3) (by_ := 8) (z := [vi 0]) (ty := 0) (b' := false) (nil' := true) (pu := true) (puy := true) (m := S.length) (n' := S.length) (k := n7) (nl := 0) (l := ([] : List Int)) (lm := S) (l' := S) (y := sv NI b nil cp0 S) hn7 (by first | rfl | omega | (simp only [ek_]; omega) | (simp; done) | (simp; omega)) (by kernel_rfl) (slCells_slO (H := H5) (s := NI) (b := b) (nil := nil) (capd := cp0) (l := S) (n := S.length) (by first | rfl | omega | (simp only [ek_]; omega) | (simp; done) | (simp; omega))) (by kernel_rfl) (by kernel_rfl) (by kernel_rfl) (by kernel_rfl) (by kernel_rfl) (by kernel_rfl) (by kernel_rfl) (by first | rfl | omega | (simp only [ek_]; omega) | (simp; done) | (simp; omega)) (by first | rfl | omega | (simp only [ek_]; omega) | (simp; done) | (simp; omega)) (by omega) (by omega) (ea_ _) (by first | rfl | omega | (simp only [ej_, ek_]; omega) | (simp; done) | (simp; omega))) (zL 5 (qS 22 0 (.one (rff n7 S)) (On.at (On.new' hn7 (rowO NI true 0 S) hs6) 1 rfl))))) fun H8 hs9 => ?_
 refine rGz [(2, yp n1), (3, xi 0)] (On.put (.obj [rff n7 S, vi 0, nilC, nilC, nilC]) hs9 0 rfl) (zA 0 (qA 31 (On.at hs9 1 rfl)) (zL 1 (qS 31 0 (.agg [rff n7 S, vi 0, nilC, nilC, nilC]) (On.at hs9 0 rfl)))) fun H10 hs11 => ?_
 refine wE ?_
 refine ⟨Or.inr rfl, [.agg [rff n7 S, vi 0, nilC, nilC, nilC], .one (vi 0)], (rC (On.at hs11 0 rfl)), ?_⟩
 exact ⟨false, (back_cons (back_agg (mapM_cons' (backC_rowO (On.at hs11 2 rfl) (by first | rfl | omega | (simp only [ek_]; omega) | (simp; done) | (simp; omega)) (dt0 rfl (Nat.le_refl _))) (mapM_cons' (by kernel_rfl) (mapM_cons' (by kernel_rfl) (mapM_cons' (by kernel_rfl) (mapM_cons' (by kernel_rfl) mapM_nil')))))) (back_cons (by kernel_rfl) rfl))⟩
end Go.Proofs.Ytjdnhbnpdbpgbaa
