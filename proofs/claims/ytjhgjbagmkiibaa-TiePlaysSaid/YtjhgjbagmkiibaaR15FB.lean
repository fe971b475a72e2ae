/- Lemmas. -/
import Derived.Test.YtjhgjbagmkiibaaR15EY
import Derived.Test.YtjhgjbagmkiibaaR15EG
import Derived.Test.YtjhgjbagmkiibaaR15EW
section
namespace Go.Proofs.Ytjhgjbagmkiibaa.E
open Go.Lg
set_option linter.unusedVariables false
set_option maxRecDepth 100000
set_option maxHeartbeats 8000000
set_option linter.unusedSimpArgs false
theorem dlink_ok (rn rp : Bool) (L : List PR.T) (M : List TI.T) (D : List TT5.T) (a b : PD.T) (hI : TieInv L M) (hD : allOf L M = D)  : ∃ n : Bool, ∃ p : Bool, PureC pg an 45 [.agg [vb true, sv TT5 false rn rp D], .agg [vi a.1, vi a.2.1], .agg [vi b.1, vi b.2.1]] [.agg [vb true, sv TT5 false n p (allOf (linkL L M a b) M)], .one (vi (linkE L M a b))] := by
 have hDl : (D.length : Int) = (L.length : Int) + (M.length : Int) := by rw [← hD]; exact allLen _ _
 have hz0 := hI.sz
 refine pE2 (rOF Try.func45 rfl ?_)
 obtain ⟨n1, hn1⟩ := lX []
 obtain ⟨n2, hn2⟩ := lX ([] ++ [.obj [vb true, sv TT5 false rn rp D]])
 obtain ⟨n3, hn3⟩ := lX (([] ++ [.obj [vb true, sv TT5 false rn rp D]]) ++ [.obj [vi a.1, vi a.2.1]])
 obtain ⟨n4, hn4⟩ := lX ((([] ++ [.obj [vb true, sv TT5 false rn rp D]]) ++ [.obj [vi a.1, vi a.2.1]]) ++ [.obj [vi b.1, vi b.2.1]])
 refine rGz [(3, yp n1), (4, yp n2), (5, yp n3), (6, yp n4)] (On.new' hn4 (.obj [vb false, nilC]) (On.new' hn3 (.obj [vi b.1, vi b.2.1]) (On.new' hn2 (.obj [vi a.1, vi a.2.1]) (On.new' hn1 (.obj [vb true, sv TT5 false rn rp D]) (On.nil []))))) (zA 0 (qB 48 [vb true, sv TT5 false rn rp D] hn1) (zA 1 (qB 24 [vi a.1, vi a.2.1] hn2) (zA 2 (qB 24 [vi b.1, vi b.2.1] hn3) (zL 3 (qO 48 [vb false, nilC] hn4))))) fun H5 hs6 => ?_
 refine wS ?_
 rcases Bool.eq_false_or_eq_true ((badP a b)) with c7 | c7
 ·
  refine rSz [(3, yp n1), (4, yp n2), (5, yp n3), (6, yp n4), (16, xb true)] H5 (zA 1 (qL 4 0 (.one (vb true)) (On.at hs6 0 rfl)) (zA 4 (qL 24 0 (.agg [vi a.1, vi a.2.1]) (On.at hs6 1 rfl)) (zA 5 (qL 24 0 (.agg [vi b.1, vi b.2.1]) (On.at hs6 2 rfl)) (zL 6 (Jd (H := H5) (g := 57) (x := .agg [vi a.1, vi a.2.1]) (y := .agg [vi b.1, vi b.2.1]) (res := [.one (vb false)]) (by have h9 := rpair_ok a b; rw [c7] at h9; exact h9) (by kernel_rfl) (by kernel_rfl)))))) ?_
  refine wTa ?_
  refine rGz [(6, yp n4), (7, xi 1)] (On.put (.obj [vb true, sv TT5 false rn rp D]) hs6 3 rfl) (zA 0 (qA 48 (On.at hs6 0 rfl)) (zL 1 (qS 48 0 (.agg [vb true, sv TT5 false rn rp D]) (On.at hs6 3 rfl)))) fun H8 hs9 => ?_
  refine wE ?_
  refine ⟨Or.inr rfl, [.agg [vb true, sv TT5 false rn rp D], .one (vi 1)], (rC (On.at hs9 3 rfl)), ?_⟩
  have hE : linkE L M a b = 1 := by unfold linkE; simp only [c7, if_true, if_false, Bool.false_eq_true]
  have hL2 : linkL L M a b = L := by unfold linkL; simp only [c7, if_true, if_false, Bool.false_eq_true]
  have hT : allOf (linkL L M a b) M = D := by rw [hL2, hD]
  exact ⟨rn, rp, Eq.trans (b := some [.agg [vb true, sv TT5 false rn rp D], .one (vi 1)]) (by kernel_rfl) (congrArg some (by rw [hE, hT]))⟩
 refine rSz [(3, yp n1), (4, yp n2), (5, yp n3), (6, yp n4), (16, xb false)] H5 (zA 1 (qL 4 0 (.one (vb true)) (On.at hs6 0 rfl)) (zA 4 (qL 24 0 (.agg [vi a.1, vi a.2.1]) (On.at hs6 1 rfl)) (zA 5 (qL 24 0 (.agg [vi b.1, vi b.2.1]) (On.at hs6 2 rfl)) (zL 6 (Jd (H := H5) (g := 57) (x := .agg [vi a.1, vi a.2.1]) (y := .agg [vi b.1, vi b.2.1]) (res := [.one (vb true)]) (by have h9 := rpair_ok a b; rw [c7] at h9; exact h9) (by kernel_rfl) (by kernel_rfl)))))) ?_
 refine wFk ?_
 refine wS ?_
 obtain ⟨q10, hq11⟩ : ∃ q, q = pairOf a b := ⟨_, rfl⟩
 rcases Bool.eq_false_or_eq_true ((memB TT5 (0, q10) D)) with c12 | c12
 ·
  refine rSz [(3, yp n1), (4, yp n2), (5, yp n3), (6, yp n4), (22, xb true)] H5 (zA 0 (qA 48 (On.at hs6 0 rfl)) (zA 1 (qL 24 0 (.agg [vi a.1, vi a.2.1]) (On.at hs6 1 rfl)) (zA 2 (qL 24 0 (.agg [vi b.1, vi b.2.1]) (On.at hs6 2 rfl)) (zA 3 (qP2 H5 (rlink_q a b q10 hq11)) (zL 4 (Jd (H := H5) (g := 58) (x := .agg [vb true, sv TT5 false rn rp D]) (y := .agg [vi 0, vi q10.1.1, vi q10.1.2.1, vi q10.2.1.1, vi q10.2.1.2.1]) (res := [.one (vb true)]) (by have h9 := has_ok false rn rp D (by first | rfl | omega | (simp only [ek_]; omega) | (simp; done) | (simp; omega)) (0, q10); rw [c12] at h9; exact h9) (by kernel_rfl) (by kernel_rfl))))))) ?_
  refine wTa ?_
  refine rGz [(6, yp n4), (7, xi 0)] (On.put (.obj [vb true, sv TT5 false rn rp D]) hs6 3 rfl) (zA 0 (qA 48 (On.at hs6 0 rfl)) (zL 1 (qS 48 0 (.agg [vb true, sv TT5 false rn rp D]) (On.at hs6 3 rfl)))) fun H13 hs14 => ?_
  refine wE ?_
  refine ⟨Or.inr rfl, [.agg [vb true, sv TT5 false rn rp D], .one (vi 0)], (rC (On.at hs14 3 rfl)), ?_⟩
  have hm : memB PR q10 L = true := by rw [← has_is hI, hD]; exact c12
  have hE : linkE L M a b = 0 := by unfold linkE; rw [← hq11]; simp only [c7, c12, hm, if_true, if_false, Bool.false_eq_true]
  have hL2 : linkL L M a b = L := by unfold linkL; rw [← hq11]; simp only [c7, c12, hm, if_true, if_false, Bool.false_eq_true]
  have hT : allOf (linkL L M a b) M = D := by rw [hL2, hD]
  exact ⟨rn, rp, Eq.trans (b := some [.agg [vb true, sv TT5 false rn rp D], .one (vi 0)]) (by kernel_rfl) (congrArg some (by rw [hE, hT]))⟩
 refine rSz [(3, yp n1), (4, yp n2), (5, yp n3), (6, yp n4), (22, xb false)] H5 (zA 0 (qA 48 (On.at hs6 0 rfl)) (zA 1 (qL 24 0 (.agg [vi a.1, vi a.2.1]) (On.at hs6 1 rfl)) (zA 2 (qL 24 0 (.agg [vi b.1, vi b.2.1]) (On.at hs6 2 rfl)) (zA 3 (qP2 H5 (rlink_q a b q10 hq11)) (zL 4 (Jd (H := H5) (g := 58) (x := .agg [vb true, sv TT5 false rn rp D]) (y := .agg [vi 0, vi q10.1.1, vi q10.1.2.1, vi q10.2.1.1, vi q10.2.1.2.1]) (res := [.one (vb false)]) (by have h9 := has_ok false rn rp D (by first | rfl | omega | (simp only [ek_]; omega) | (simp; done) | (simp; omega)) (0, q10); rw [c12] at h9; exact h9) (by kernel_rfl) (by kernel_rfl))))))) ?_
 refine wFk ?_
 refine wS ?_
 rcases ile (1024) ((D.length : Int)) with c15 | c15
 ·
  refine rSz [(3, yp n1), (4, yp n2), (5, yp n3), (6, yp n4), (27, xb true)] H5 (zA 1 (qL 35 1 (.one (sv TT5 false rn rp D)) (On.at hs6 0 rfl)) (zL 3 (qgeqT H5 (D.length : Int) 1024))) ?_
  refine wTa ?_
  refine rGz [(6, yp n4), (7, xi 150)] (On.put (.obj [vb true, sv TT5 false rn rp D]) hs6 3 rfl) (zA 0 (qA 48 (On.at hs6 0 rfl)) (zL 1 (qS 48 0 (.agg [vb true, sv TT5 false rn rp D]) (On.at hs6 3 rfl)))) fun H16 hs17 => ?_
  refine wE ?_
  refine ⟨Or.inr rfl, [.agg [vb true, sv TT5 false rn rp D], .one (vi 150)], (rC (On.at hs17 3 rfl)), ?_⟩
  have hm : memB PR q10 L = false := by rw [← has_is hI, hD]; exact c12
  have hf : (1024 : Int) ≤ (L.length : Int) + (M.length : Int) := by omega
  have hE : linkE L M a b = 150 := by unfold linkE; rw [← hq11]; simp only [c7, c12, hm, hf, if_true, if_false, Bool.false_eq_true]
  have hL2 : linkL L M a b = L := by unfold linkL; rw [← hq11]; simp only [c7, c12, hm, hf, if_true, if_false, Bool.false_eq_true]
  have hT : allOf (linkL L M a b) M = D := by rw [hL2, hD]
  exact ⟨rn, rp, Eq.trans (b := some [.agg [vb true, sv TT5 false rn rp D], .one (vi 150)]) (by kernel_rfl) (congrArg some (by rw [hE, hT]))⟩
 refine rSz [(3, yp n1), (4, yp n2), (5, yp n3), (6, yp n4), (27, xb false)] H5 (zA 1 (qL 35 1 (.one (sv TT5 false rn rp D)) (On.at hs6 0 rfl)) (zL 3 (qgeqF H5 (D.length : Int) 1024))) ?_
 refine wFk ?_
 obtain ⟨n18, p19, hp20⟩ := put_ok false rn rp D (by first | rfl | omega | (simp only [ek_]; omega) | (simp; done) | (simp; omega)) (0, q10)
 refine rGz [(6, yp n4), (7, xi 0)] (On.put (.obj [vb true, sv TT5 false n18 p19 (insT (0, q10) D)]) hs6 3 rfl) (zA 0 (qA 48 (On.at hs6 0 rfl)) (zA 1 (qL 24 0 (.agg [vi a.1, vi a.2.1]) (On.at hs6 1 rfl)) (zA 2 (qL 24 0 (.agg [vi b.1, vi b.2.1]) (On.at hs6 2 rfl)) (zA 3 (qP2 H5 (rlink_q a b q10 hq11)) (zA 4 (qP2 H5 hp20) (zL 5 (qS 48 0 (.agg [vb true, sv TT5 false n18 p19 (insT (0, q10) D)]) (On.at hs6 3 rfl)))))))) fun H21 hs22 => ?_
 refine wE ?_
 refine ⟨Or.inr rfl, [.agg [vb true, sv TT5 false n18 p19 (insT (0, q10) D)], .one (vi 0)], (rC (On.at hs22 3 rfl)), ?_⟩
 have hm : memB PR q10 L = false := by rw [← has_is hI, hD]; exact c12
 have hf : ¬ ((1024 : Int) ≤ (L.length : Int) + (M.length : Int)) := by omega
 have hE : linkE L M a b = 0 := by unfold linkE; rw [← hq11]; simp only [c7, c12, hm, hf, if_true, if_false, Bool.false_eq_true]
 have hL2 : linkL L M a b = lins L q10 := by unfold linkL; rw [← hq11]; simp only [c7, c12, hm, hf, if_true, if_false, Bool.false_eq_true]
 have hT : allOf (linkL L M a b) M = (insT (0, q10) D) := by have hi := inv_link hI a b; rw [hL2] at hi ⊢; rw [put_link hI hm hi, hD] <;> rfl
 exact ⟨n18, p19, Eq.trans (b := some [.agg [vb true, sv TT5 false n18 p19 (insT (0, q10) D)], .one (vi 0)]) (by kernel_rfl) (congrArg some (by rw [hE, hT]))⟩
theorem dunlink_ok (rn rp : Bool) (L : List PR.T) (M : List TI.T) (D : List TT5.T) (a b : PD.T) (hI : TieInv L M) (hD : allOf L M = D)  : ∃ n : Bool, ∃ p : Bool, PureC pg an 46 [.agg [vb true, sv TT5 false rn rp D], .agg [vi a.1, vi a.2.1], .agg [vi b.1, vi b.2.1]] [.agg [vb true, sv TT5 false n p (allOf (unlinkL L a b) M)], .one (vi (unlinkE L a b))] := by
 have hDl : (D.length : Int) = (L.length : Int) + (M.length : Int) := by rw [← hD]; exact allLen _ _
 have hz0 := hI.sz
 refine pE2 (rOF Try.func46 rfl ?_)
 obtain ⟨n1, hn1⟩ := lX []
 obtain ⟨n2, hn2⟩ := lX ([] ++ [.obj [vb true, sv TT5 false rn rp D]])
 obtain ⟨n3, hn3⟩ := lX (([] ++ [.obj [vb true, sv TT5 false rn rp D]]) ++ [.obj [vi a.1, vi a.2.1]])
 obtain ⟨n4, hn4⟩ := lX ((([] ++ [.obj [vb true, sv TT5 false rn rp D]]) ++ [.obj [vi a.1, vi a.2.1]]) ++ [.obj [vi b.1, vi b.2.1]])
 refine rGz [(3, yp n1), (4, yp n2), (5, yp n3), (6, yp n4)] (On.new' hn4 (.obj [vb false, nilC]) (On.new' hn3 (.obj [vi b.1, vi b.2.1]) (On.new' hn2 (.obj [vi a.1, vi a.2.1]) (On.new' hn1 (.obj [vb true, sv TT5 false rn rp D]) (On.nil []))))) (zA 0 (qB 48 [vb true, sv TT5 false rn rp D] hn1) (zA 1 (qB 24 [vi a.1, vi a.2.1] hn2) (zA 2 (qB 24 [vi b.1, vi b.2.1] hn3) (zL 3 (qO 48 [vb false, nilC] hn4))))) fun H5 hs6 => ?_
 refine wS ?_
 rcases Bool.eq_false_or_eq_true ((badP a b)) with c7 | c7
 ·
  refine rSz [(3, yp n1), (4, yp n2), (5, yp n3), (6, yp n4), (16, xb true)] H5 (zA 1 (qL 4 0 (.one (vb true)) (On.at hs6 0 rfl)) (zA 4 (qL 24 0 (.agg [vi a.1, vi a.2.1]) (On.at hs6 1 rfl)) (zA 5 (qL 24 0 (.agg [vi b.1, vi b.2.1]) (On.at hs6 2 rfl)) (zL 6 (Jd (H := H5) (g := 57) (x := .agg [vi a.1, vi a.2.1]) (y := .agg [vi b.1, vi b.2.1]) (res := [.one (vb false)]) (by have h9 := rpair_ok a b; rw [c7] at h9; exact h9) (by kernel_rfl) (by kernel_rfl)))))) ?_
  refine wTa ?_
  refine rGz [(6, yp n4), (7, xi 1)] (On.put (.obj [vb true, sv TT5 false rn rp D]) hs6 3 rfl) (zA 0 (qA 48 (On.at hs6 0 rfl)) (zL 1 (qS 48 0 (.agg [vb true, sv TT5 false rn rp D]) (On.at hs6 3 rfl)))) fun H8 hs9 => ?_
  refine wE ?_
  refine ⟨Or.inr rfl, [.agg [vb true, sv TT5 false rn rp D], .one (vi 1)], (rC (On.at hs9 3 rfl)), ?_⟩
  have hE : unlinkE L a b = 1 := by unfold unlinkE; simp only [c7, if_true, if_false, Bool.false_eq_true]
  have hL2 : unlinkL L a b = L := by unfold unlinkL; simp only [c7, if_true, if_false, Bool.false_eq_true]
  have hT : allOf (unlinkL L a b) M = D := by rw [hL2, hD]
  exact ⟨rn, rp, Eq.trans (b := some [.agg [vb true, sv TT5 false rn rp D], .one (vi 1)]) (by kernel_rfl) (congrArg some (by rw [hE, hT]))⟩
 refine rSz [(3, yp n1), (4, yp n2), (5, yp n3), (6, yp n4), (16, xb false)] H5 (zA 1 (qL 4 0 (.one (vb true)) (On.at hs6 0 rfl)) (zA 4 (qL 24 0 (.agg [vi a.1, vi a.2.1]) (On.at hs6 1 rfl)) (zA 5 (qL 24 0 (.agg [vi b.1, vi b.2.1]) (On.at hs6 2 rfl)) (zL 6 (Jd (H := H5) (g := 57) (x := .agg [vi a.1, vi a.2.1]) (y := .agg [vi b.1, vi b.2.1]) (res := [.one (vb true)]) (by have h9 := rpair_ok a b; rw [c7] at h9; exact h9) (by kernel_rfl) (by kernel_rfl)))))) ?_
 refine wFk ?_
 refine wS ?_
 obtain ⟨q10, hq11⟩ : ∃ q, q = pairOf a b := ⟨_, rfl⟩
 rcases Bool.eq_false_or_eq_true ((memB TT5 (0, q10) D)) with c12 | c12
 ·
  refine rSz [(3, yp n1), (4, yp n2), (5, yp n3), (6, yp n4), (23, xb false)] H5 (zA 0 (qA 48 (On.at hs6 0 rfl)) (zA 1 (qL 24 0 (.agg [vi a.1, vi a.2.1]) (On.at hs6 1 rfl)) (zA 2 (qL 24 0 (.agg [vi b.1, vi b.2.1]) (On.at hs6 2 rfl)) (zA 3 (qP2 H5 (rlink_q a b q10 hq11)) (zL 4 (Jd (H := H5) (g := 58) (x := .agg [vb true, sv TT5 false rn rp D]) (y := .agg [vi 0, vi q10.1.1, vi q10.1.2.1, vi q10.2.1.1, vi q10.2.1.2.1]) (res := [.one (vb true)]) (by have h9 := has_ok false rn rp D (by first | rfl | omega | (simp only [ek_]; omega) | (simp; done) | (simp; omega)) (0, q10); rw [c12] at h9; exact h9) (by kernel_rfl) (by kernel_rfl))))))) ?_
  refine wFk ?_
  obtain ⟨n13, p14, hp15⟩ := less_ok false rn rp D (by first | rfl | omega | (simp only [ek_]; omega) | (simp; done) | (simp; omega)) (0, q10)
  refine rGz [(6, yp n4), (7, xi 0)] (On.put (.obj [vb true, sv TT5 false n13 p14 (lessT D (0, q10))]) hs6 3 rfl) (zA 0 (qA 48 (On.at hs6 0 rfl)) (zA 1 (qL 24 0 (.agg [vi a.1, vi a.2.1]) (On.at hs6 1 rfl)) (zA 2 (qL 24 0 (.agg [vi b.1, vi b.2.1]) (On.at hs6 2 rfl)) (zA 3 (qP2 H5 (rlink_q a b q10 hq11)) (zA 4 (qP2 H5 hp15) (zL 5 (qS 48 0 (.agg [vb true, sv TT5 false n13 p14 (lessT D (0, q10))]) (On.at hs6 3 rfl)))))))) fun H16 hs17 => ?_
  refine wE ?_
  refine ⟨Or.inr rfl, [.agg [vb true, sv TT5 false n13 p14 (lessT D (0, q10))], .one (vi 0)], (rC (On.at hs17 3 rfl)), ?_⟩
  have hm : memB PR q10 L = true := by rw [← has_is hI, hD]; exact c12
  have hE : unlinkE L a b = 0 := by unfold unlinkE; rw [← hq11]; simp only [c7, c12, hm, if_true, if_false, Bool.false_eq_true]
  have hL2 : unlinkL L a b = ldel L q10 := by unfold unlinkL; rw [← hq11]; simp only [c7, c12, hm, if_true, if_false, Bool.false_eq_true]
  have hT : allOf (unlinkL L a b) M = (lessT D (0, q10)) := by rw [hL2, less_link hI, hD] <;> rfl
  exact ⟨n13, p14, Eq.trans (b := some [.agg [vb true, sv TT5 false n13 p14 (lessT D (0, q10))], .one (vi 0)]) (by kernel_rfl) (congrArg some (by rw [hE, hT]))⟩
 refine rSz [(3, yp n1), (4, yp n2), (5, yp n3), (6, yp n4), (23, xb true)] H5 (zA 0 (qA 48 (On.at hs6 0 rfl)) (zA 1 (qL 24 0 (.agg [vi a.1, vi a.2.1]) (On.at hs6 1 rfl)) (zA 2 (qL 24 0 (.agg [vi b.1, vi b.2.1]) (On.at hs6 2 rfl)) (zA 3 (qP2 H5 (rlink_q a b q10 hq11)) (zL 4 (Jd (H := H5) (g := 58) (x := .agg [vb true, sv TT5 false rn rp D]) (y := .agg [vi 0, vi q10.1.1, vi q10.1.2.1, vi q10.2.1.1, vi q10.2.1.2.1]) (res := [.one (vb false)]) (by have h9 := has_ok false rn rp D (by first | rfl | omega | (simp only [ek_]; omega) | (simp; done) | (simp; omega)) (0, q10); rw [c12] at h9; exact h9) (by kernel_rfl) (by kernel_rfl))))))) ?_
 refine wTa ?_
 refine rGz [(6, yp n4), (7, xi 3)] (On.put (.obj [vb true, sv TT5 false rn rp D]) hs6 3 rfl) (zA 0 (qA 48 (On.at hs6 0 rfl)) (zL 1 (qS 48 0 (.agg [vb true, sv TT5 false rn rp D]) (On.at hs6 3 rfl)))) fun H18 hs19 => ?_
 refine wE ?_
 refine ⟨Or.inr rfl, [.agg [vb true, sv TT5 false rn rp D], .one (vi 3)], (rC (On.at hs19 3 rfl)), ?_⟩
 have hm : memB PR q10 L = false := by rw [← has_is hI, hD]; exact c12
 have hE : unlinkE L a b = 3 := by unfold unlinkE; rw [← hq11]; simp only [c7, c12, hm, if_true, if_false, Bool.false_eq_true]
 have hL2 : unlinkL L a b = L := by unfold unlinkL; rw [← hq11]; simp only [c7, c12, hm, if_true, if_false, Bool.false_eq_true]
 have hT : allOf (unlinkL L a b) M = D := by rw [hL2, hD]
 exact ⟨rn, rp, Eq.trans (b := some [.agg [vb true, sv TT5 false rn rp D], .one (vi 3)]) (by kernel_rfl) (congrArg some (by rw [hE, hT]))⟩
theorem dmon_ok (rn rp : Bool) (L : List PR.T) (M : List TI.T) (D : List TT5.T) (r : Int) (a b : PD.T) (hI : TieInv L M) (hD : allOf L M = D)  : ∃ n : Bool, ∃ p : Bool, PureC pg an 47 [.agg [vb true, sv TT5 false rn rp D], .one (vi r), .agg [vi a.1, vi a.2.1], .agg [vi b.1, vi b.2.1]] [.agg [vb true, sv TT5 false n p (allOf L (monM L M r a b))], .one (vi (monE L M r a b))] := by
 have hDl : (D.length : Int) = (L.length : Int) + (M.length : Int) := by rw [← hD]; exact allLen _ _
 have hz0 := hI.sz
 refine pE2 (rOF Try.func47 rfl ?_)
 obtain ⟨n1, hn1⟩ := lX []
 obtain ⟨n2, hn2⟩ := lX ([] ++ [.obj [vb true, sv TT5 false rn rp D]])
 obtain ⟨n3, hn3⟩ := lX (([] ++ [.obj [vb true, sv TT5 false rn rp D]]) ++ [.obj [vi a.1, vi a.2.1]])
 obtain ⟨n4, hn4⟩ := lX ((([] ++ [.obj [vb true, sv TT5 false rn rp D]]) ++ [.obj [vi a.1, vi a.2.1]]) ++ [.obj [vi b.1, vi b.2.1]])
 refine rGz [(1, xi r), (4, yp n1), (6, yp n2), (7, yp n3), (8, yp n4)] (On.new' hn4 (.obj [vb false, nilC]) (On.new' hn3 (.obj [vi b.1, vi b.2.1]) (On.new' hn2 (.obj [vi a.1, vi a.2.1]) (On.new' hn1 (.obj [vb true, sv TT5 false rn rp D]) (On.nil []))))) (zA 0 (qB 48 [vb true, sv TT5 false rn rp D] hn1) (zA 1 (qB 24 [vi a.1, vi a.2.1] hn2) (zA 2 (qB 24 [vi b.1, vi b.2.1] hn3) (zL 3 (qO 48 [vb false, nilC] hn4))))) fun H5 hs6 => ?_
 obtain ⟨y7, hy8⟩ : ∃ y, y = findT D r := ⟨_, rfl⟩
 rcases Bool.eq_false_or_eq_true ((hasR D r)) with c9 | c9
 ·
  obtain ⟨n10, hn10⟩ := lX H5
  refine rGz [(1, xi r), (4, yp n1), (6, yp n2), (7, yp n3), (8, yp n4), (11, xb true)] (On.put (.obj [vi y7.1, vi y7.2.1.1, vi y7.2.1.2.1, vi y7.2.2.1.1, vi y7.2.2.1.2.1]) (On.new' hn10 (.obj [vi 0, vi 0, vi 0, vi 0, vi 0]) hs6) 4 rfl) (zA 0 (qA 48 (On.at hs6 0 rfl)) (zA 2 (Jd (H := H5) (g := 62) (x := .agg [vb true, sv TT5 false rn rp D]) (y := .one (vi r)) (res := [.agg [vi y7.1, vi y7.2.1.1, vi y7.2.1.2.1, vi y7.2.2.1.1, vi y7.2.2.1.2.1], .one (vb true)]) (by have h9 := find_ok false rn rp D (by first | rfl | omega | (simp only [ek_]; omega) | (simp; done) | (simp; omega)) r y7 hy8; rw [c9] at h9; exact h9) (by kernel_rfl) (by kernel_rfl)) (zA 6 (qO 41 [vi 0, vi 0, vi 0, vi 0, vi 0] hn10) (zL 7 (qS 41 0 (.agg [vi y7.1, vi y7.2.1.1, vi y7.2.1.2.1, vi y7.2.2.1.1, vi y7.2.2.1.2.1]) (On.at (On.new' hn10 (.obj [vi 0, vi 0, vi 0, vi 0, vi 0]) hs6) 4 rfl)))))) fun H11 hs12 => ?_
  refine wS ?_
  rcases Bool.eq_false_or_eq_true ((mayP a)) with c13 | c13
  ·
   rcases Bool.eq_false_or_eq_true ((mayP b)) with c14 | c14
   ·
    rcases ilt (r) (1) with c15 | c15
    ·
     refine rSz [(1, xi r), (4, yp n1), (6, yp n2), (7, yp n3), (8, yp n4), (41, xb true)] H11 (zA 1 (qL 4 0 (.one (vb true)) (On.at hs12 0 rfl)) (zA 4 (qL 24 0 (.agg [vi a.1, vi a.2.1]) (On.at hs12 1 rfl)) (zA 5 (Jc (H := H11) (g := 54) (x := .agg [vi a.1, vi a.2.1]) (res := [.one (vb true)]) (by have h9 := rpid_ok a; rw [c13] at h9; exact h9) (by kernel_rfl) (by kernel_rfl)) (zA 9 (qL 24 0 (.agg [vi b.1, vi b.2.1]) (On.at hs12 2 rfl)) (zA 10 (Jc (H := H11) (g := 54) (x := .agg [vi b.1, vi b.2.1]) (res := [.one (vb true)]) (by have h9 := rpid_ok b; rw [c14] at h9; exact h9) (by kernel_rfl) (by kernel_rfl)) (zL 15 (qlssT H11 r 1))))))) ?_
     refine wTa ?_
     refine rGz [(8, yp n4), (9, xi 1)] (On.put (.obj [vb true, sv TT5 false rn rp D]) hs12 3 rfl) (zA 0 (qA 48 (On.at hs12 0 rfl)) (zL 1 (qS 48 0 (.agg [vb true, sv TT5 false rn rp D]) (On.at hs12 3 rfl)))) fun H16 hs17 => ?_
     refine wE ?_
     refine ⟨Or.inr rfl, [.agg [vb true, sv TT5 false rn rp D], .one (vi 1)], (rC (On.at hs17 3 rfl)), ?_⟩
     have hk : keyB r M = true := by rw [← hasR_is hI, hD]; exact c9
     have g0 : ¬ ((1 : Int) ≤ r) := by omega
     have g1 : r ≤ (4611686018427387903 : Int) := by omega
     have hE : monE L M r a b = 1 := by unfold monE monX; simp only [c9, c13, c14, hk, g0, g1, if_true, if_false, Bool.false_eq_true, ite_self]
     have hL2 : monM L M r a b = M := by unfold monM monX; simp only [c9, c13, c14, hk, g0, g1, if_true, if_false, Bool.false_eq_true, ite_self]
     have hT : allOf L (monM L M r a b) = D := by rw [hL2, hD]
     exact ⟨rn, rp, Eq.trans (b := some [.agg [vb true, sv TT5 false rn rp D], .one (vi 1)]) (by kernel_rfl) (congrArg some (by rw [hE, hT]))⟩
    rcases ilt (4611686018427387903) (r) with c18 | c18
    ·
     refine rSz [(1, xi r), (4, yp n1), (6, yp n2), (7, yp n3), (8, yp n4), (41, xb true)] H11 (zA 1 (qL 4 0 (.one (vb true)) (On.at hs12 0 rfl)) (zA 4 (qL 24 0 (.agg [vi a.1, vi a.2.1]) (On.at hs12 1 rfl)) (zA 5 (Jc (H := H11) (g := 54) (x := .agg [vi a.1, vi a.2.1]) (res := [.one (vb true)]) (by have h9 := rpid_ok a; rw [c13] at h9; exact h9) (by kernel_rfl) (by kernel_rfl)) (zA 9 (qL 24 0 (.agg [vi b.1, vi b.2.1]) (On.at hs12 2 rfl)) (zA 10 (Jc (H := H11) (g := 54) (x := .agg [vi b.1, vi b.2.1]) (res := [.one (vb true)]) (by have h9 := rpid_ok b; rw [c14] at h9; exact h9) (by kernel_rfl) (by kernel_rfl)) (zA 15 (qlssF H11 r 1) (zL 19 (qgtrT H11 r 4611686018427387903)))))))) ?_
     refine wTa ?_
     refine rGz [(8, yp n4), (9, xi 1)] (On.put (.obj [vb true, sv TT5 false rn rp D]) hs12 3 rfl) (zA 0 (qA 48 (On.at hs12 0 rfl)) (zL 1 (qS 48 0 (.agg [vb true, sv TT5 false rn rp D]) (On.at hs12 3 rfl)))) fun H19 hs20 => ?_
     refine wE ?_
     refine ⟨Or.inr rfl, [.agg [vb true, sv TT5 false rn rp D], .one (vi 1)], (rC (On.at hs20 3 rfl)), ?_⟩
     have hk : keyB r M = true := by rw [← hasR_is hI, hD]; exact c9
     have g0 : (1 : Int) ≤ r := by omega
     have g1 : ¬ (r ≤ (4611686018427387903 : Int)) := by omega
     have hE : monE L M r a b = 1 := by unfold monE monX; simp only [c9, c13, c14, hk, g0, g1, if_true, if_false, Bool.false_eq_true, ite_self]
     have hL2 : monM L M r a b = M := by unfold monM monX; simp only [c9, c13, c14, hk, g0, g1, if_true, if_false, Bool.false_eq_true, ite_self]
     have hT : allOf L (monM L M r a b) = D := by rw [hL2, hD]
     exact ⟨rn, rp, Eq.trans (b := some [.agg [vb true, sv TT5 false rn rp D], .one (vi 1)]) (by kernel_rfl) (congrArg some (by rw [hE, hT]))⟩
    refine rSz [(1, xi r), (4, yp n1), (6, yp n2), (7, yp n3), (8, yp n4), (41, xb true)] H11 (zA 1 (qL 4 0 (.one (vb true)) (On.at hs12 0 rfl)) (zA 4 (qL 24 0 (.agg [vi a.1, vi a.2.1]) (On.at hs12 1 rfl)) (zA 5 (Jc (H := H11) (g := 54) (x := .agg [vi a.1, vi a.2.1]) (res := [.one (vb true)]) (by have h9 := rpid_ok a; rw [c13] at h9; exact h9) (by kernel_rfl) (by kernel_rfl)) (zA 9 (qL 24 0 (.agg [vi b.1, vi b.2.1]) (On.at hs12 2 rfl)) (zA 10 (Jc (H := H11) (g := 54) (x := .agg [vi b.1, vi b.2.1]) (res := [.one (vb true)]) (by have h9 := rpid_ok b; rw [c14] at h9; exact h9) (by kernel_rfl) (by kernel_rfl)) (zA 15 (qlssF H11 r 1) (zL 19 (qgtrF H11 r 4611686018427387903)))))))) ?_
    refine wTa ?_
    refine rGz [(8, yp n4), (9, xi 1)] (On.put (.obj [vb true, sv TT5 false rn rp D]) hs12 3 rfl) (zA 0 (qA 48 (On.at hs12 0 rfl)) (zL 1 (qS 48 0 (.agg [vb true, sv TT5 false rn rp D]) (On.at hs12 3 rfl)))) fun H21 hs22 => ?_
    refine wE ?_
    refine ⟨Or.inr rfl, [.agg [vb true, sv TT5 false rn rp D], .one (vi 1)], (rC (On.at hs22 3 rfl)), ?_⟩
    have hk : keyB r M = true := by rw [← hasR_is hI, hD]; exact c9
    have g0 : (1 : Int) ≤ r := by omega
    have g1 : r ≤ (4611686018427387903 : Int) := by omega
    have hE : monE L M r a b = 1 := by unfold monE monX; simp only [c9, c13, c14, hk, g0, g1, if_true, if_false, Bool.false_eq_true, ite_self]
    have hL2 : monM L M r a b = M := by unfold monM monX; simp only [c9, c13, c14, hk, g0, g1, if_true, if_false, Bool.false_eq_true, ite_self]
    have hT : allOf L (monM L M r a b) = D := by rw [hL2, hD]
    exact ⟨rn, rp, Eq.trans (b := some [.agg [vb true, sv TT5 false rn rp D], .one (vi 1)]) (by kernel_rfl) (congrArg some (by rw [hE, hT]))⟩
   refine rSz [(1, xi r), (4, yp n1), (6, yp n2), (7, yp n3), (8, yp n4), (41, xb true)] H11 (zA 1 (qL 4 0 (.one (vb true)) (On.at hs12 0 rfl)) (zA 4 (qL 24 0 (.agg [vi a.1, vi a.2.1]) (On.at hs12 1 rfl)) (zA 5 (Jc (H := H11) (g := 54) (x := .agg [vi a.1, vi a.2.1]) (res := [.one (vb true)]) (by have h9 := rpid_ok a; rw [c13] at h9; exact h9) (by kernel_rfl) (by kernel_rfl)) (zA 9 (qL 24 0 (.agg [vi b.1, vi b.2.1]) (On.at hs12 2 rfl)) (zL 10 (Jc (H := H11) (g := 54) (x := .agg [vi b.1, vi b.2.1]) (res := [.one (vb false)]) (by have h9 := rpid_ok b; rw [c14] at h9; exact h9) (by kernel_rfl) (by kernel_rfl))))))) ?_
   refine wTa ?_
   refine rGz [(8, yp n4), (9, xi 1)] (On.put (.obj [vb true, sv TT5 false rn rp D]) hs12 3 rfl) (zA 0 (qA 48 (On.at hs12 0 rfl)) (zL 1 (qS 48 0 (.agg [vb true, sv TT5 false rn rp D]) (On.at hs12 3 rfl)))) fun H23 hs24 => ?_
   refine wE ?_
   refine ⟨Or.inr rfl, [.agg [vb true, sv TT5 false rn rp D], .one (vi 1)], (rC (On.at hs24 3 rfl)), ?_⟩
   have hk : keyB r M = true := by rw [← hasR_is hI, hD]; exact c9
   have hE : monE L M r a b = 1 := by unfold monE monX; simp only [c9, c13, c14, hk, if_true, if_false, Bool.false_eq_true, ite_self]
   have hL2 : monM L M r a b = M := by unfold monM monX; simp only [c9, c13, c14, hk, if_true, if_false, Bool.false_eq_true, ite_self]
   have hT : allOf L (monM L M r a b) = D := by rw [hL2, hD]
   exact ⟨rn, rp, Eq.trans (b := some [.agg [vb true, sv TT5 false rn rp D], .one (vi 1)]) (by kernel_rfl) (congrArg some (by rw [hE, hT]))⟩
  refine rSz [(1, xi r), (4, yp n1), (6, yp n2), (7, yp n3), (8, yp n4), (41, xb true)] H11 (zA 1 (qL 4 0 (.one (vb true)) (On.at hs12 0 rfl)) (zA 4 (qL 24 0 (.agg [vi a.1, vi a.2.1]) (On.at hs12 1 rfl)) (zL 5 (Jc (H := H11) (g := 54) (x := .agg [vi a.1, vi a.2.1]) (res := [.one (vb false)]) (by have h9 := rpid_ok a; rw [c13] at h9; exact h9) (by kernel_rfl) (by kernel_rfl))))) ?_
  refine wTa ?_
  refine rGz [(8, yp n4), (9, xi 1)] (On.put (.obj [vb true, sv TT5 false rn rp D]) hs12 3 rfl) (zA 0 (qA 48 (On.at hs12 0 rfl)) (zL 1 (qS 48 0 (.agg [vb true, sv TT5 false rn rp D]) (On.at hs12 3 rfl)))) fun H25 hs26 => ?_
  refine wE ?_
  refine ⟨Or.inr rfl, [.agg [vb true, sv TT5 false rn rp D], .one (vi 1)], (rC (On.at hs26 3 rfl)), ?_⟩
  have hk : keyB r M = true := by rw [← hasR_is hI, hD]; exact c9
  have hE : monE L M r a b = 1 := by unfold monE monX; simp only [c9, c13, hk, if_true, if_false, Bool.false_eq_true, ite_self]
  have hL2 : monM L M r a b = M := by unfold monM monX; simp only [c9, c13, hk, if_true, if_false, Bool.false_eq_true, ite_self]
  have hT : allOf L (monM L M r a b) = D := by rw [hL2, hD]
  exact ⟨rn, rp, Eq.trans (b := some [.agg [vb true, sv TT5 false rn rp D], .one (vi 1)]) (by kernel_rfl) (congrArg some (by rw [hE, hT]))⟩
 obtain ⟨n27, hn27⟩ := lX H5
 refine rGz [(1, xi r), (4, yp n1), (6, yp n2), (7, yp n3), (8, yp n4), (11, xb false)] (On.put (.obj [vi y7.1, vi y7.2.1.1, vi y7.2.1.2.1, vi y7.2.2.1.1, vi y7.2.2.1.2.1]) (On.new' hn27 (.obj [vi 0, vi 0, vi 0, vi 0, vi 0]) hs6) 4 rfl) (zA 0 (qA 48 (On.at hs6 0 rfl)) (zA 2 (Jd (H := H5) (g := 62) (x := .agg [vb true, sv TT5 false rn rp D]) (y := .one (vi r)) (res := [.agg [vi y7.1, vi y7.2.1.1, vi y7.2.1.2.1, vi y7.2.2.1.1, vi y7.2.2.1.2.1], .one (vb false)]) (by have h9 := find_ok false rn rp D (by first | rfl | omega | (simp only [ek_]; omega) | (simp; done) | (simp; omega)) r y7 hy8; rw [c9] at h9; exact h9) (by kernel_rfl) (by kernel_rfl)) (zA 6 (qO 41 [vi 0, vi 0, vi 0, vi 0, vi 0] hn27) (zL 7 (qS 41 0 (.agg [vi y7.1, vi y7.2.1.1, vi y7.2.1.2.1, vi y7.2.2.1.1, vi y7.2.2.1.2.1]) (On.at (On.new' hn27 (.obj [vi 0, vi 0, vi 0, vi 0, vi 0]) hs6) 4 rfl)))))) fun H28 hs29 => ?_
 refine wS ?_
 rcases Bool.eq_false_or_eq_true ((mayP a)) with c30 | c30
 ·
  rcases Bool.eq_false_or_eq_true ((mayP b)) with c31 | c31
  ·
   rcases ilt (r) (1) with c32 | c32
   ·
    refine rSz [(1, xi r), (4, yp n1), (6, yp n2), (7, yp n3), (8, yp n4), (41, xb true)] H28 (zA 1 (qL 4 0 (.one (vb true)) (On.at hs29 0 rfl)) (zA 4 (qL 24 0 (.agg [vi a.1, vi a.2.1]) (On.at hs29 1 rfl)) (zA 5 (Jc (H := H28) (g := 54) (x := .agg [vi a.1, vi a.2.1]) (res := [.one (vb true)]) (by have h9 := rpid_ok a; rw [c30] at h9; exact h9) (by kernel_rfl) (by kernel_rfl)) (zA 9 (qL 24 0 (.agg [vi b.1, vi b.2.1]) (On.at hs29 2 rfl)) (zA 10 (Jc (H := H28) (g := 54) (x := .agg [vi b.1, vi b.2.1]) (res := [.one (vb true)]) (by have h9 := rpid_ok b; rw [c31] at h9; exact h9) (by kernel_rfl) (by kernel_rfl)) (zL 15 (qlssT H28 r 1))))))) ?_
    refine wTa ?_
    refine rGz [(8, yp n4), (9, xi 1)] (On.put (.obj [vb true, sv TT5 false rn rp D]) hs29 3 rfl) (zA 0 (qA 48 (On.at hs29 0 rfl)) (zL 1 (qS 48 0 (.agg [vb true, sv TT5 false rn rp D]) (On.at hs29 3 rfl)))) fun H33 hs34 => ?_
    refine wE ?_
    refine ⟨Or.inr rfl, [.agg [vb true, sv TT5 false rn rp D], .one (vi 1)], (rC (On.at hs34 3 rfl)), ?_⟩
    have hk : keyB r M = false := by rw [← hasR_is hI, hD]; exact c9
    have g0 : ¬ ((1 : Int) ≤ r) := by omega
    have g1 : r ≤ (4611686018427387903 : Int) := by omega
    have hE : monE L M r a b = 1 := by unfold monE monX; simp only [c9, c30, c31, hk, g0, g1, if_true, if_false, Bool.false_eq_true, ite_self]
    have hL2 : monM L M r a b = M := by unfold monM monX; simp only [c9, c30, c31, hk, g0, g1, if_true, if_false, Bool.false_eq_true, ite_self]
    have hT : allOf L (monM L M r a b) = D := by rw [hL2, hD]
    exact ⟨rn, rp, Eq.trans (b := some [.agg [vb true, sv TT5 false rn rp D], .one (vi 1)]) (by kernel_rfl) (congrArg some (by rw [hE, hT]))⟩
   rcases ilt (4611686018427387903) (r) with c35 | c35
   ·
    refine rSz [(1, xi r), (4, yp n1), (6, yp n2), (7, yp n3), (8, yp n4), (41, xb true)] H28 (zA 1 (qL 4 0 (.one (vb true)) (On.at hs29 0 rfl)) (zA 4 (qL 24 0 (.agg [vi a.1, vi a.2.1]) (On.at hs29 1 rfl)) (zA 5 (Jc (H := H28) (g := 54) (x := .agg [vi a.1, vi a.2.1]) (res := [.one (vb true)]) (by have h9 := rpid_ok a; rw [c30] at h9; exact h9) (by kernel_rfl) (by kernel_rfl)) (zA 9 (qL 24 0 (.agg [vi b.1, vi b.2.1]) (On.at hs29 2 rfl)) (zA 10 (Jc (H := H28) (g := 54) (x := .agg [vi b.1, vi b.2.1]) (res := [.one (vb true)]) (by have h9 := rpid_ok b; rw [c31] at h9; exact h9) (by kernel_rfl) (by kernel_rfl)) (zA 15 (qlssF H28 r 1) (zL 19 (qgtrT H28 r 4611686018427387903)))))))) ?_
    refine wTa ?_
    refine rGz [(8, yp n4), (9, xi 1)] (On.put (.obj [vb true, sv TT5 false rn rp D]) hs29 3 rfl) (zA 0 (qA 48 (On.at hs29 0 rfl)) (zL 1 (qS 48 0 (.agg [vb true, sv TT5 false rn rp D]) (On.at hs29 3 rfl)))) fun H36 hs37 => ?_
    refine wE ?_
    refine ⟨Or.inr rfl, [.agg [vb true, sv TT5 false rn rp D], .one (vi 1)], (rC (On.at hs37 3 rfl)), ?_⟩
    have hk : keyB r M = false := by rw [← hasR_is hI, hD]; exact c9
    have g0 : (1 : Int) ≤ r := by omega
    have g1 : ¬ (r ≤ (4611686018427387903 : Int)) := by omega
    have hE : monE L M r a b = 1 := by unfold monE monX; simp only [c9, c30, c31, hk, g0, g1, if_true, if_false, Bool.false_eq_true, ite_self]
    have hL2 : monM L M r a b = M := by unfold monM monX; simp only [c9, c30, c31, hk, g0, g1, if_true, if_false, Bool.false_eq_true, ite_self]
    have hT : allOf L (monM L M r a b) = D := by rw [hL2, hD]
    exact ⟨rn, rp, Eq.trans (b := some [.agg [vb true, sv TT5 false rn rp D], .one (vi 1)]) (by kernel_rfl) (congrArg some (by rw [hE, hT]))⟩
   refine rSz [(1, xi r), (4, yp n1), (6, yp n2), (7, yp n3), (8, yp n4), (41, xb false)] H28 (zA 1 (qL 4 0 (.one (vb true)) (On.at hs29 0 rfl)) (zA 4 (qL 24 0 (.agg [vi a.1, vi a.2.1]) (On.at hs29 1 rfl)) (zA 5 (Jc (H := H28) (g := 54) (x := .agg [vi a.1, vi a.2.1]) (res := [.one (vb true)]) (by have h9 := rpid_ok a; rw [c30] at h9; exact h9) (by kernel_rfl) (by kernel_rfl)) (zA 9 (qL 24 0 (.agg [vi b.1, vi b.2.1]) (On.at hs29 2 rfl)) (zA 10 (Jc (H := H28) (g := 54) (x := .agg [vi b.1, vi b.2.1]) (res := [.one (vb true)]) (by have h9 := rpid_ok b; rw [c31] at h9; exact h9) (by kernel_rfl) (by kernel_rfl)) (zA 15 (qlssF H28 r 1) (zL 19 (qgtrF H28 r 4611686018427387903)))))))) ?_
   refine wFk ?_
   refine wS ?_
   rcases ile (1024) ((D.length : Int)) with c38 | c38
   ·
    refine rSz [(1, xi r), (4, yp n1), (6, yp n2), (7, yp n3), (8, yp n4), (46, xb true)] H28 (zA 1 (qL 35 1 (.one (sv TT5 false rn rp D)) (On.at hs29 0 rfl)) (zL 3 (qgeqT H28 (D.length : Int) 1024))) ?_
    refine wTa ?_
    refine rGz [(8, yp n4), (9, xi 150)] (On.put (.obj [vb true, sv TT5 false rn rp D]) hs29 3 rfl) (zA 0 (qA 48 (On.at hs29 0 rfl)) (zL 1 (qS 48 0 (.agg [vb true, sv TT5 false rn rp D]) (On.at hs29 3 rfl)))) fun H39 hs40 => ?_
    refine wE ?_
    refine ⟨Or.inr rfl, [.agg [vb true, sv TT5 false rn rp D], .one (vi 150)], (rC (On.at hs40 3 rfl)), ?_⟩
    have hk : keyB r M = false := by rw [← hasR_is hI, hD]; exact c9
    have g0 : (1 : Int) ≤ r := by omega
    have g1 : r ≤ (4611686018427387903 : Int) := by omega
    have g2 : (1024 : Int) ≤ (L.length : Int) + (M.length : Int) := by omega
    have hE : monE L M r a b = 150 := by unfold monE monX; simp only [c9, c30, c31, hk, g0, g1, g2, if_true, if_false, Bool.false_eq_true, ite_self]
    have hL2 : monM L M r a b = M := by unfold monM monX; simp only [c9, c30, c31, hk, g0, g1, g2, if_true, if_false, Bool.false_eq_true, ite_self]
    have hT : allOf L (monM L M r a b) = D := by rw [hL2, hD]
    exact ⟨rn, rp, Eq.trans (b := some [.agg [vb true, sv TT5 false rn rp D], .one (vi 150)]) (by kernel_rfl) (congrArg some (by rw [hE, hT]))⟩
   refine rSz [(1, xi r), (4, yp n1), (6, yp n2), (7, yp n3), (8, yp n4), (46, xb false)] H28 (zA 1 (qL 35 1 (.one (sv TT5 false rn rp D)) (On.at hs29 0 rfl)) (zL 3 (qgeqF H28 (D.length : Int) 1024))) ?_
   refine wFk ?_
   obtain ⟨n41, p42, hp43⟩ := put_ok false rn rp D (by first | rfl | omega | (simp only [ek_]; omega) | (simp; done) | (simp; omega)) (r, (a, (b, ())))
   refine rGz [(8, yp n4), (9, xi 0)] (On.put (.obj [vb true, sv TT5 false n41 p42 (insT (r, (a, (b, ()))) D)]) hs29 3 rfl) (zA 0 (qA 48 (On.at hs29 0 rfl)) (zA 2 (qL 24 0 (.agg [vi a.1, vi a.2.1]) (On.at hs29 1 rfl)) (zA 3 (qL 24 0 (.agg [vi b.1, vi b.2.1]) (On.at hs29 2 rfl)) (zA 5 (qP2 H28 hp43) (zL 6 (qS 48 0 (.agg [vb true, sv TT5 false n41 p42 (insT (r, (a, (b, ()))) D)]) (On.at hs29 3 rfl))))))) fun H44 hs45 => ?_
   refine wE ?_
   refine ⟨Or.inr rfl, [.agg [vb true, sv TT5 false n41 p42 (insT (r, (a, (b, ()))) D)], .one (vi 0)], (rC (On.at hs45 3 rfl)), ?_⟩
   have hk : keyB r M = false := by rw [← hasR_is hI, hD]; exact c9
   have g0 : (1 : Int) ≤ r := by omega
   have g1 : r ≤ (4611686018427387903 : Int) := by omega
   have g2 : ¬ ((1024 : Int) ≤ (L.length : Int) + (M.length : Int)) := by omega
   have hE : monE L M r a b = 0 := by unfold monE monX; simp only [c9, c30, c31, hk, g0, g1, g2, if_true, if_false, Bool.false_eq_true, ite_self]
   have hL2 : monM L M r a b = mins M r (a, (b, ())) := by unfold monM monX; simp only [c9, c30, c31, hk, g0, g1, g2, if_true, if_false, Bool.false_eq_true, ite_self]
   have hT : allOf L (monM L M r a b) = (insT (r, (a, (b, ()))) D) := by rw [hL2, put_mon hI (by omega) hk, hD] <;> rfl
   exact ⟨n41, p42, Eq.trans (b := some [.agg [vb true, sv TT5 false n41 p42 (insT (r, (a, (b, ()))) D)], .one (vi 0)]) (by kernel_rfl) (congrArg some (by rw [hE, hT]))⟩
  refine rSz [(1, xi r), (4, yp n1), (6, yp n2), (7, yp n3), (8, yp n4), (41, xb true)] H28 (zA 1 (qL 4 0 (.one (vb true)) (On.at hs29 0 rfl)) (zA 4 (qL 24 0 (.agg [vi a.1, vi a.2.1]) (On.at hs29 1 rfl)) (zA 5 (Jc (H := H28) (g := 54) (x := .agg [vi a.1, vi a.2.1]) (res := [.one (vb true)]) (by have h9 := rpid_ok a; rw [c30] at h9; exact h9) (by kernel_rfl) (by kernel_rfl)) (zA 9 (qL 24 0 (.agg [vi b.1, vi b.2.1]) (On.at hs29 2 rfl)) (zL 10 (Jc (H := H28) (g := 54) (x := .agg [vi b.1, vi b.2.1]) (res := [.one (vb false)]) (by have h9 := rpid_ok b; rw [c31] at h9; exact h9) (by kernel_rfl) (by kernel_rfl))))))) ?_
  refine wTa ?_
  refine rGz [(8, yp n4), (9, xi 1)] (On.put (.obj [vb true, sv TT5 false rn rp D]) hs29 3 rfl) (zA 0 (qA 48 (On.at hs29 0 rfl)) (zL 1 (qS 48 0 (.agg [vb true, sv TT5 false rn rp D]) (On.at hs29 3 rfl)))) fun H46 hs47 => ?_
  refine wE ?_
  refine ⟨Or.inr rfl, [.agg [vb true, sv TT5 false rn rp D], .one (vi 1)], (rC (On.at hs47 3 rfl)), ?_⟩
  have hk : keyB r M = false := by rw [← hasR_is hI, hD]; exact c9
  have hE : monE L M r a b = 1 := by unfold monE monX; simp only [c9, c30, c31, hk, if_true, if_false, Bool.false_eq_true, ite_self]
  have hL2 : monM L M r a b = M := by unfold monM monX; simp only [c9, c30, c31, hk, if_true, if_false, Bool.false_eq_true, ite_self]
  have hT : allOf L (monM L M r a b) = D := by rw [hL2, hD]
  exact ⟨rn, rp, Eq.trans (b := some [.agg [vb true, sv TT5 false rn rp D], .one (vi 1)]) (by kernel_rfl) (congrArg some (by rw [hE, hT]))⟩
 refine rSz [(1, xi r), (4, yp n1), (6, yp n2), (7, yp n3), (8, yp n4), (41, xb true)] H28 (zA 1 (qL 4 0 (.one (vb true)) (On.at hs29 0 rfl)) (zA 4 (qL 24 0 (.agg [vi a.1, vi a.2.1]) (On.at hs29 1 rfl)) (zL 5 (Jc (H := H28) (g := 54) (x := .agg [vi a.1, vi a.2.1]) (res := [.one (vb false)]) (by have h9 := rpid_ok a; rw [c30] at h9; exact h9) (by kernel_rfl) (by kernel_rfl))))) ?_
 refine wTa ?_
 refine rGz [(8, yp n4), (9, xi 1)] (On.put (.obj [vb true, sv TT5 false rn rp D]) hs29 3 rfl) (zA 0 (qA 48 (On.at hs29 0 rfl)) (zL 1 (qS 48 0 (.agg [vb true, sv TT5 false rn rp D]) (On.at hs29 3 rfl)))) fun H48 hs49 => ?_
 refine wE ?_
 refine ⟨Or.inr rfl, [.agg [vb true, sv TT5 false rn rp D], .one (vi 1)], (rC (On.at hs49 3 rfl)), ?_⟩
 have hk : keyB r M = false := by rw [← hasR_is hI, hD]; exact c9
 have hE : monE L M r a b = 1 := by unfold monE monX; simp only [c9, c30, hk, if_true, if_false, Bool.false_eq_true, ite_self]
 have hL2 : monM L M r a b = M := by unfold monM monX; simp only [c9, c30, hk, if_true, if_false, Bool.false_eq_true, ite_self]
 have hT : allOf L (monM L M r a b) = D := by rw [hL2, hD]
 exact ⟨rn, rp, Eq.trans (b := some [.agg [vb true, sv TT5 false rn rp D], .one (vi 1)]) (by kernel_rfl) (congrArg some (by rw [hE, hT]))⟩
theorem ddem_ok (rn rp : Bool) (L : List PR.T) (M : List TI.T) (D : List TT5.T) (r : Int) (hI : TieInv L M) (hD : allOf L M = D)  : ∃ n : Bool, ∃ p : Bool, PureC pg an 48 [.agg [vb true, sv TT5 false rn rp D], .one (vi r)] [.agg [vb true, sv TT5 false n p (allOf L (demM M r))], .one (vi (demE M r))] := by
 have hDl : (D.length : Int) = (L.length : Int) + (M.length : Int) := by rw [← hD]; exact allLen _ _
 have hz0 := hI.sz
 refine pE2 (rOF Try.func48 rfl ?_)
 obtain ⟨n1, hn1⟩ := lX []
 obtain ⟨n2, hn2⟩ := lX ([] ++ [.obj [vb true, sv TT5 false rn rp D]])
 refine rGz [(1, xi r), (2, yp n1), (4, yp n2)] (On.new' hn2 (.obj [vb false, nilC]) (On.new' hn1 (.obj [vb true, sv TT5 false rn rp D]) (On.nil []))) (zA 0 (qB 48 [vb true, sv TT5 false rn rp D] hn1) (zL 1 (qO 48 [vb false, nilC] hn2))) fun H3 hs4 => ?_
 refine wS ?_
 refine rSz [(1, xi r), (2, yp n1), (4, yp n2), (10, xb false)] H3 (zL 1 (qL 4 0 (.one (vb true)) (On.at hs4 0 rfl))) ?_
 refine wFk ?_
 obtain ⟨y5, hy6⟩ : ∃ y, y = findT D r := ⟨_, rfl⟩
 rcases Bool.eq_false_or_eq_true ((hasR D r)) with c7 | c7
 ·
  obtain ⟨n8, hn8⟩ := lX H3
  refine rGz [(2, yp n1), (4, yp n2), (6, yp n8), (7, xb true)] (On.put (.obj [vi y5.1, vi y5.2.1.1, vi y5.2.1.2.1, vi y5.2.2.1.1, vi y5.2.2.1.2.1]) (On.new' hn8 (.obj [vi 0, vi 0, vi 0, vi 0, vi 0]) hs4) 2 rfl) (zA 0 (qA 48 (On.at hs4 0 rfl)) (zA 2 (Jd (H := H3) (g := 62) (x := .agg [vb true, sv TT5 false rn rp D]) (y := .one (vi r)) (res := [.agg [vi y5.1, vi y5.2.1.1, vi y5.2.1.2.1, vi y5.2.2.1.1, vi y5.2.2.1.2.1], .one (vb true)]) (by have h9 := find_ok false rn rp D (by first | rfl | omega | (simp only [ek_]; omega) | (simp; done) | (simp; omega)) r y5 hy6; rw [c7] at h9; exact h9) (by kernel_rfl) (by kernel_rfl)) (zA 6 (qO 41 [vi 0, vi 0, vi 0, vi 0, vi 0] hn8) (zL 7 (qS 41 0 (.agg [vi y5.1, vi y5.2.1.1, vi y5.2.1.2.1, vi y5.2.2.1.1, vi y5.2.2.1.2.1]) (On.at (On.new' hn8 (.obj [vi 0, vi 0, vi 0, vi 0, vi 0]) hs4) 2 rfl)))))) fun H9 hs10 => ?_
  refine wS ?_
  refine rs0 [(2, yp n1), (4, yp n2), (6, yp n8), (19, xb false)] ?_
  refine wFk ?_
  obtain ⟨n11, p12, hp13⟩ := less_ok false rn rp D (by first | rfl | omega | (simp only [ek_]; omega) | (simp; done) | (simp; omega)) y5
  refine rGz [(4, yp n2), (5, xi 0)] (On.put (.obj [vb true, sv TT5 false n11 p12 (lessT D y5)]) hs10 1 rfl) (zA 0 (qA 48 (On.at hs10 0 rfl)) (zA 1 (qA 41 (On.at hs10 2 rfl)) (zA 2 (qP2 H9 hp13) (zL 3 (qS 48 0 (.agg [vb true, sv TT5 false n11 p12 (lessT D y5)]) (On.at hs10 1 rfl)))))) fun H14 hs15 => ?_
  refine wE ?_
  refine ⟨Or.inr rfl, [.agg [vb true, sv TT5 false n11 p12 (lessT D y5)], .one (vi 0)], (rC (On.at hs15 1 rfl)), ?_⟩
  have hk : keyB r M = true := by rw [← hasR_is hI, hD]; exact c7
  have hE : demE M r = 0 := by unfold demE; simp only [hk, if_true, if_false, Bool.false_eq_true]
  have hf := findT_is c7
  rw [← hy6] at hf
  have hT : allOf L (demM M r) = (lessT D y5) := by unfold demM; rw [hk, if_pos rfl, ← hf.2.2, less_mon hI (by rw [hD]; exact hf.1) (by rw [hf.2.2]; exact hf.2.1), hD] <;> rfl
  exact ⟨n11, p12, Eq.trans (b := some [.agg [vb true, sv TT5 false n11 p12 (lessT D y5)], .one (vi 0)]) (by kernel_rfl) (congrArg some (by rw [hE, hT]))⟩
 obtain ⟨n16, hn16⟩ := lX H3
 refine rGz [(2, yp n1), (4, yp n2), (6, yp n16), (7, xb false)] (On.put (.obj [vi y5.1, vi y5.2.1.1, vi y5.2.1.2.1, vi y5.2.2.1.1, vi y5.2.2.1.2.1]) (On.new' hn16 (.obj [vi 0, vi 0, vi 0, vi 0, vi 0]) hs4) 2 rfl) (zA 0 (qA 48 (On.at hs4 0 rfl)) (zA 2 (Jd (H := H3) (g := 62) (x := .agg [vb true, sv TT5 false rn rp D]) (y := .one (vi r)) (res := [.agg [vi y5.1, vi y5.2.1.1, vi y5.2.1.2.1, vi y5.2.2.1.1, vi y5.2.2.1.2.1], .one (vb false)]) (by have h9 := find_ok false rn rp D (by first | rfl | omega | (simp only [ek_]; omega) | (simp; done) | (simp; omega)) r y5 hy6; rw [c7] at h9; exact h9) (by kernel_rfl) (by kernel_rfl)) (zA 6 (qO 41 [vi 0, vi 0, vi 0, vi 0, vi 0] hn16) (zL 7 (qS 41 0 (.agg [vi y5.1, vi y5.2.1.1, vi y5.2.1.2.1, vi y5.2.2.1.1, vi y5.2.2.1.2.1]) (On.at (On.new' hn16 (.obj [vi 0, vi 0, vi 0, vi 0, vi 0]) hs4) 2 rfl)))))) fun H17 hs18 => ?_
 refine wS ?_
 refine rs0 [(2, yp n1), (4, yp n2), (6, yp n16), (19, xb true)] ?_
 refine wTa ?_
 refine rGz [(4, yp n2), (5, xi 3)] (On.put (.obj [vb true, sv TT5 false rn rp D]) hs18 1 rfl) (zA 0 (qA 48 (On.at hs18 0 rfl)) (zL 1 (qS 48 0 (.agg [vb true, sv TT5 false rn rp D]) (On.at hs18 1 rfl)))) fun H19 hs20 => ?_
 refine wE ?_
 refine ⟨Or.inr rfl, [.agg [vb true, sv TT5 false rn rp D], .one (vi 3)], (rC (On.at hs20 1 rfl)), ?_⟩
 have hk : keyB r M = false := by rw [← hasR_is hI, hD]; exact c7
 have hE : demE M r = 3 := by unfold demE; simp only [hk, if_true, if_false, Bool.false_eq_true]
 have hT : allOf L (demM M r) = D := by unfold demM; rw [hk, if_neg (by simp), hD]
 exact ⟨rn, rp, Eq.trans (b := some [.agg [vb true, sv TT5 false rn rp D], .one (vi 3)]) (by kernel_rfl) (congrArg some (by rw [hE, hT]))⟩
end Go.Proofs.Ytjhgjbagmkiibaa.E
end
section
namespace Go.Proofs.Ytjhgjbagmkiibaa.E
open Go.Lg
set_option linter.unusedVariables false
set_option maxRecDepth 100000
set_option maxHeartbeats 8000000
set_option linter.unusedSimpArgs false
theorem gone_yes {l : List TT5.T} {a : PD.T} {i : Int} {x : TT5.T} (h0 : 0 ≤ i) (hx : l[i.toNat]? = some x) (h1 : eqb PD x.2.1 a = false) (h2 : eqb PD x.2.2.1 a = false) : goneT (l.take i.toNat) a ++ [x] = goneT (l.take (i + 1).toNat) a := by
  unfold goneT
  rw [filt_yes h0 hx (by rw [h1, h2]; rfl)]
theorem gone_no {l : List TT5.T} {a : PD.T} {i : Int} {x : TT5.T} (h0 : 0 ≤ i) (hx : l[i.toNat]? = some x) (h : eqb PD x.2.1 a = true ∨ eqb PD x.2.2.1 a = true) : goneT (l.take i.toNat) a = goneT (l.take (i + 1).toNat) a := by
  unfold goneT
  refine (filt_no h0 hx ?_).symm
  rcases h with h | h
  · rw [h]; rfl
  · rw [h]; exact Bool.and_false _
theorem toldT_yes {l : List TT5.T} {a : PD.T} {i : Int} {x : TT5.T} (h0 : 0 ≤ i) (hx : l[i.toNat]? = some x) (h1 : ILt 0 x.1) (h2 : eqb PD x.2.2.1 a = true) (h3 : eqb PD x.2.1 a = false) : toldT (l.take i.toNat) a ++ [x] = toldT (l.take (i + 1).toNat) a := by
  unfold toldT
  rw [filt_yes h0 hx (by rw [h2, h3]; unfold isR; rw [decide_eq_true h1]; rfl)]
theorem toldT_no {l : List TT5.T} {a : PD.T} {i : Int} {x : TT5.T} (h0 : 0 ≤ i) (hx : l[i.toNat]? = some x) (h : ¬ ILt 0 x.1 ∨ eqb PD x.2.2.1 a = false ∨ eqb PD x.2.1 a = true) : toldT (l.take i.toNat) a = toldT (l.take (i + 1).toNat) a := by
  unfold toldT
  refine (filt_no h0 hx ?_).symm
  rcases h with h | h | h
  · unfold isR; rw [decide_eq_false h]; rfl
  · rw [h, Bool.and_false]; rfl
  · rw [h]; exact Bool.and_false _
theorem goneT_len (l : List TT5.T) (a : PD.T) {i : Int} (h0 : 0 ≤ i) : ((goneT (l.take i.toNat) a).length : Int) ≤ i := filt_len _ l h0
theorem toldT_len (l : List TT5.T) (a : PD.T) {i : Int} (h0 : 0 ≤ i) : ((toldT (l.take i.toNat) a).length : Int) ≤ i := filt_len _ l h0
theorem rgone_ok (rb rn rp : Bool) (l : List TT5.T) (hl : (l.length : Int) ≤ 1000000000) (a : PD.T)  : ∃ n : Bool, ∃ p : Bool, ∃ n2 : Bool, ∃ p2 : Bool, ∃ n3 : Bool, ∃ p3 : Bool, PureC pg an 49 [.agg [vb true, sv TT5 rb rn rp l], .agg [vi a.1, vi a.2.1]] [.agg [vb true, sv TT5 false n p (goneT l a)], .one (sv PD false n2 p2 (dlks l a)), .one (sv TT5 false n3 p3 (toldT l a))] := by
 refine pE6 (rOF Try.func49 rfl ?_)
 obtain ⟨n1, hn1⟩ := lX []
 obtain ⟨n2, hn2⟩ := lX ([] ++ [.obj [vb true, sv TT5 rb rn rp l]])
 obtain ⟨n3, hn3⟩ := lX (([] ++ [.obj [vb true, sv TT5 rb rn rp l]]) ++ [.obj [vi a.1, vi a.2.1]])
 refine rGz [(2, yp n1), (3, yp n2), (4, yp n3)] (On.new' hn3 (.obj [vb false, nilC]) (On.new' hn2 (.obj [vi a.1, vi a.2.1]) (On.new' hn1 (.obj [vb true, sv TT5 rb rn rp l]) (On.nil [])))) (zA 0 (qB 48 [vb true, sv TT5 rb rn rp l] hn1) (zA 1 (qB 24 [vi a.1, vi a.2.1] hn2) (zL 2 (qO 48 [vb false, nilC] hn3)))) fun H4 hs5 => ?_
 refine wS ?_
 refine rSz [(2, yp n1), (3, yp n2), (4, yp n3), (13, xb false)] H4 (zL 1 (qL 4 0 (.one (vb true)) (On.at hs5 0 rfl))) ?_
 refine wFk ?_
 obtain ⟨n6, hn6⟩ := lX H4
 refine rGz [(2, yp n1), (3, yp n2), (4, yp n3), (7, yp n6)] (On.put (.obj [vb true, nilC]) (On.new' hn6 (.obj [vb false, nilC]) hs5) 3 rfl) (zA 1 (qO 48 [vb false, nilC] hn6) (zL 2 (qS 48 0 (.agg [vb true, nilC]) (On.at (On.new' hn6 (.obj [vb false, nilC]) hs5) 3 rfl)))) fun H7 hs8 => ?_
 refine rs0 [(2, yp n1), (3, yp n2), (4, yp n3), (7, yp n6), (8, .y (.one (nilC)))] ?_
 refine wS ?_
 refine rs0 [(2, yp n1), (3, yp n2), (4, yp n3), (7, yp n6), (8, .y (.one (nilC))), (9, xi 0)] ?_
 refine wB ?_
 have hs9 : On [pts n1 (.obj [vb true, sv TT5 rb rn rp l]), pts n2 (.obj [vi a.1, vi a.2.1]), pts n3 (.obj [vb false, nilC]), pts n6 (.obj [vb true, nilC]), ownP TT5 (nilC) (goneT (l.take (0 : Int).toNat) a)] H7 := sH hs8 [] [0, 1, 2, 3] (fun _ _ => by rw [show (goneT (l.take (0 : Int).toNat) a) = ([] : List TT5.T) from by simp [goneT]]; exact .inl ⟨rfl, rfl⟩)
 have hs10 : On [pts n1 (.obj [vb true, sv TT5 rb rn rp l]), pts n2 (.obj [vi a.1, vi a.2.1]), pts n3 (.obj [vb false, nilC]), pts n6 (.obj [vb true, nilC]), ownP TT5 (nilC) (goneT (l.take (0 : Int).toNat) a), ownP TT5 ((nilC)) (toldT (l.take (0 : Int).toNat) a)] H7 := sH hs9 [] [0, 1, 2, 3, 4] (fun _ _ => by rw [show (toldT (l.take (0 : Int).toNat) a) = ([] : List TT5.T) from by simp [toldT]]; exact .inl ⟨rfl, rfl⟩)
 refine Wp.loop (T := HH × Int × C × C) (fun t => match t with | (H12, i, cvi, cvj) => (((l.length : Int) - i).toNat : Nat)) (fun t => match t with | (H12, i, cvi, cvj) => ([(2, yp n1), (3, yp n2), (4, yp n3), (7, yp n6), (8, .y (.one (cvj))), (9, xi i)] : Env)) (fun t => match t with | (H12, i, cvi, cvj) => (H12 : HH))
   (fun t => match t with | (H12, i, cvi, cvj) => (On [pts n1 (.obj [vb true, sv TT5 rb rn rp l]), pts n2 (.obj [vi a.1, vi a.2.1]), pts n3 (.obj [vb false, nilC]), pts n6 (.obj [vb true, cvi]), ownP TT5 cvi (goneT (l.take (i : Int).toNat) a), ownP TT5 cvj (toldT (l.take (i : Int).toNat) a)] H12 ∧ (0 ≤ i) ∧ (i ≤ (l.length : Int)) ∧ (((goneT (l.take (i : Int).toNat) a).length : Int) ≤ i) ∧ (((toldT (l.take (i : Int).toNat) a).length : Int) ≤ i) : Prop)) (H7, 0, (nilC), ((nilC))) (by kernel_rfl) (⟨(On.pick [0, 1, 2, 3, 4, 5] [] (by kernel_rfl) hs10), by omega, by omega, by simp [goneT], by simp [toldT]⟩) ?_
 rintro ⟨H12, i, cvi, cvj⟩ ⟨hs13, h1, h2, h3, h4⟩
 show Wp _ _ _ _ [(2, yp n1), (3, yp n2), (4, yp n3), (7, yp n6), (8, .y (.one (cvj))), (9, xi i)] H12 _
 refine wS ?_
 rcases ilt (i) ((l.length : Int)) with c14 | c14
 ·
  refine rSz [(2, yp n1), (3, yp n2), (4, yp n3), (7, yp n6), (8, .y (.one (cvj))), (9, xi i), (20, xb true)] H12 (zA 2 (qL 35 1 (.one (sv TT5 rb rn rp l)) (On.at hs13 0 rfl)) (zL 4 (qlssT H12 i (l.length : Int)))) ?_
  refine wTk ?_
  refine wS (wB ?_)
  obtain ⟨x15, hx15⟩ : ∃ x, l[(i : Int).toNat]? = some x := get_of (by omega)
  obtain ⟨n16, hn16⟩ := lX H12
  refine rGz [(2, yp n1), (3, yp n2), (4, yp n3), (7, yp n6), (8, .y (.one (cvj))), (9, xi i), (10, yp n16)] (On.put (.obj [vi x15.1, vi x15.2.1.1, vi x15.2.1.2.1, vi x15.2.2.1.1, vi x15.2.2.1.2.1]) (On.new' hn16 (.obj [vi 0, vi 0, vi 0, vi 0, vi 0]) hs13) 6 rfl) (zA 1 (qL 35 1 (.one (sv TT5 rb rn rp l)) (On.at hs13 0 rfl)) (zA 3 (Jb (H := H12) (s := TT5) (b := rb) (nil := rn) (capd := rp) (t := 35) (el := 41) (i := i) Try.underlying35 (by kernel_rfl) (by kernel_rfl) (by omega) hx15) (zA 5 (qO 41 [vi 0, vi 0, vi 0, vi 0, vi 0] hn16) (zL 6 (qS 41 0 (.agg [vi x15.1, vi x15.2.1.1, vi x15.2.1.2.1, vi x15.2.2.1.1, vi x15.2.2.1.2.1]) (On.at (On.new' hn16 (.obj [vi 0, vi 0, vi 0, vi 0, vi 0]) hs13) 6 rfl)))))) fun H17 hs18 => ?_
  refine wS ?_
  rcases Bool.eq_false_or_eq_true ((eqb PD x15.2.1 a)) with c19 | c19
  ·
   refine rSz [(2, yp n1), (3, yp n2), (4, yp n3), (7, yp n6), (8, .y (.one (cvj))), (9, xi i), (10, yp n16), (37, xb false)] H17 (zA 1 (qL 24 1 (.agg [vi x15.2.1.1, vi x15.2.1.2.1]) (On.at hs18 6 rfl)) (zA 2 (qL 24 0 (.agg [vi a.1, vi a.2.1]) (On.at hs18 1 rfl)) (zL 3 (Jg (H := H17) (s := PD) (t := 24) (u := 24) (ty := 0) (x := x15.2.1) (y := a) (r := false) (by kernel_rfl) c19)))) ?_
   refine wFk ?_
   rcases ilt (0) (x15.1) with c20 | c20
   ·
    rcases Bool.eq_false_or_eq_true ((eqb PD x15.2.2.1 a)) with c21 | c21
    ·
     refine rSz [(2, yp n1), (3, yp n2), (4, yp n3), (7, yp n6), (8, .y (.one (cvj))), (9, xi i), (10, yp n16), (58, xb false)] H17 (zA 1 (qL 3 0 (.one (vi x15.1)) (On.at hs18 6 rfl)) (zA 2 (qgtrT H17 x15.1 0) (zA 5 (qL 24 3 (.agg [vi x15.2.2.1.1, vi x15.2.2.1.2.1]) (On.at hs18 6 rfl)) (zA 6 (qL 24 0 (.agg [vi a.1, vi a.2.1]) (On.at hs18 1 rfl)) (zA 7 (Jh (H := H17) (s := PD) (t := 24) (u := 24) (ty := 0) (x := x15.2.2.1) (y := a) (r := true) (by kernel_rfl) c21) (zA 11 (qL 24 1 (.agg [vi x15.2.1.1, vi x15.2.1.2.1]) (On.at hs18 6 rfl)) (zA 12 (qL 24 0 (.agg [vi a.1, vi a.2.1]) (On.at hs18 1 rfl)) (zL 13 (Jg (H := H17) (s := PD) (t := 24) (u := 24) (ty := 0) (x := x15.2.1) (y := a) (r := false) (by kernel_rfl) c19))))))))) ?_
     refine wFk ?_
     refine rRz [(2, yp n1), (3, yp n2), (4, yp n3), (7, yp n6), (8, .y (.one (cvj))), (9, xi (i + 1))] H17 (zL 1 (qoAdd H17 i 1 (i + 1))) ?_
     exact ⟨(H17, (i + 1), cvi, cvj), by kernel_rfl, (⟨(On.pick [0, 1, 2, 3, 4, 5] [6] (by kernel_rfl) (On.mono (A' := ownP TT5 cvj (toldT (l.take (i + 1 : Int).toNat) a)) 5 rfl (fun _ x => by rw [← (show (toldT (l.take (i : Int).toNat) a) = (toldT (l.take (i + 1 : Int).toNat) a) from toldT_no (by omega) hx15 (.inr (.inr c19)))]; exact x) (On.mono (A' := ownP TT5 cvi (goneT (l.take (i + 1 : Int).toNat) a)) 4 rfl (fun _ x => by rw [← (show (goneT (l.take (i : Int).toNat) a) = (goneT (l.take (i + 1 : Int).toNat) a) from gone_no (by omega) hx15 (.inl c19))]; exact x) hs18))), by omega, by omega, goneT_len _ _ (by omega), toldT_len _ _ (by omega)⟩), (by show (_ : Nat) < _; simp only []; omega)⟩
    refine rSz [(2, yp n1), (3, yp n2), (4, yp n3), (7, yp n6), (8, .y (.one (cvj))), (9, xi i), (10, yp n16), (58, xb false)] H17 (zA 1 (qL 3 0 (.one (vi x15.1)) (On.at hs18 6 rfl)) (zA 2 (qgtrT H17 x15.1 0) (zA 5 (qL 24 3 (.agg [vi x15.2.2.1.1, vi x15.2.2.1.2.1]) (On.at hs18 6 rfl)) (zA 6 (qL 24 0 (.agg [vi a.1, vi a.2.1]) (On.at hs18 1 rfl)) (zL 7 (Jh (H := H17) (s := PD) (t := 24) (u := 24) (ty := 0) (x := x15.2.2.1) (y := a) (r := false) (by kernel_rfl) c21)))))) ?_
    refine wFk ?_
    refine rRz [(2, yp n1), (3, yp n2), (4, yp n3), (7, yp n6), (8, .y (.one (cvj))), (9, xi (i + 1))] H17 (zL 1 (qoAdd H17 i 1 (i + 1))) ?_
    exact ⟨(H17, (i + 1), cvi, cvj), by kernel_rfl, (⟨(On.pick [0, 1, 2, 3, 4, 5] [6] (by kernel_rfl) (On.mono (A' := ownP TT5 cvj (toldT (l.take (i + 1 : Int).toNat) a)) 5 rfl (fun _ x => by rw [← (show (toldT (l.take (i : Int).toNat) a) = (toldT (l.take (i + 1 : Int).toNat) a) from toldT_no (by omega) hx15 (.inr (.inl c21)))]; exact x) (On.mono (A' := ownP TT5 cvi (goneT (l.take (i + 1 : Int).toNat) a)) 4 rfl (fun _ x => by rw [← (show (goneT (l.take (i : Int).toNat) a) = (goneT (l.take (i + 1 : Int).toNat) a) from gone_no (by omega) hx15 (.inl c19))]; exact x) hs18))), by omega, by omega, goneT_len _ _ (by omega), toldT_len _ _ (by omega)⟩), (by show (_ : Nat) < _; simp only []; omega)⟩
   refine rSz [(2, yp n1), (3, yp n2), (4, yp n3), (7, yp n6), (8, .y (.one (cvj))), (9, xi i), (10, yp n16), (58, xb false)] H17 (zA 1 (qL 3 0 (.one (vi x15.1)) (On.at hs18 6 rfl)) (zL 2 (qgtrF H17 x15.1 0))) ?_
   refine wFk ?_
   refine rRz [(2, yp n1), (3, yp n2), (4, yp n3), (7, yp n6), (8, .y (.one (cvj))), (9, xi (i + 1))] H17 (zL 1 (qoAdd H17 i 1 (i + 1))) ?_
   exact ⟨(H17, (i + 1), cvi, cvj), by kernel_rfl, (⟨(On.pick [0, 1, 2, 3, 4, 5] [6] (by kernel_rfl) (On.mono (A' := ownP TT5 cvj (toldT (l.take (i + 1 : Int).toNat) a)) 5 rfl (fun _ x => by rw [← (show (toldT (l.take (i : Int).toNat) a) = (toldT (l.take (i + 1 : Int).toNat) a) from toldT_no (by omega) hx15 (.inl (by omega)))]; exact x) (On.mono (A' := ownP TT5 cvi (goneT (l.take (i + 1 : Int).toNat) a)) 4 rfl (fun _ x => by rw [← (show (goneT (l.take (i : Int).toNat) a) = (goneT (l.take (i + 1 : Int).toNat) a) from gone_no (by omega) hx15 (.inl c19))]; exact x) hs18))), by omega, by omega, goneT_len _ _ (by omega), toldT_len _ _ (by omega)⟩), (by show (_ : Nat) < _; simp only []; omega)⟩
  rcases Bool.eq_false_or_eq_true ((eqb PD x15.2.2.1 a)) with c22 | c22
  ·
   refine rSz [(2, yp n1), (3, yp n2), (4, yp n3), (7, yp n6), (8, .y (.one (cvj))), (9, xi i), (10, yp n16), (37, xb false)] H17 (zA 1 (qL 24 1 (.agg [vi x15.2.1.1, vi x15.2.1.2.1]) (On.at hs18 6 rfl)) (zA 2 (qL 24 0 (.agg [vi a.1, vi a.2.1]) (On.at hs18 1 rfl)) (zA 3 (Jg (H := H17) (s := PD) (t := 24) (u := 24) (ty := 0) (x := x15.2.1) (y := a) (r := true) (by kernel_rfl) c19) (zA 6 (qL 24 3 (.agg [vi x15.2.2.1.1, vi x15.2.2.1.2.1]) (On.at hs18 6 rfl)) (zA 7 (qL 24 0 (.agg [vi a.1, vi a.2.1]) (On.at hs18 1 rfl)) (zL 8 (Jg (H := H17) (s := PD) (t := 24) (u := 24) (ty := 0) (x := x15.2.2.1) (y := a) (r := false) (by kernel_rfl) c22))))))) ?_
   refine wFk ?_
   rcases ilt (0) (x15.1) with c23 | c23
   ·
    refine rSz [(2, yp n1), (3, yp n2), (4, yp n3), (7, yp n6), (8, .y (.one (cvj))), (9, xi i), (10, yp n16), (58, xb true)] H17 (zA 1 (qL 3 0 (.one (vi x15.1)) (On.at hs18 6 rfl)) (zA 2 (qgtrT H17 x15.1 0) (zA 5 (qL 24 3 (.agg [vi x15.2.2.1.1, vi x15.2.2.1.2.1]) (On.at hs18 6 rfl)) (zA 6 (qL 24 0 (.agg [vi a.1, vi a.2.1]) (On.at hs18 1 rfl)) (zA 7 (Jh (H := H17) (s := PD) (t := 24) (u := 24) (ty := 0) (x := x15.2.2.1) (y := a) (r := true) (by kernel_rfl) c22) (zA 11 (qL 24 1 (.agg [vi x15.2.1.1, vi x15.2.1.2.1]) (On.at hs18 6 rfl)) (zA 12 (qL 24 0 (.agg [vi a.1, vi a.2.1]) (On.at hs18 1 rfl)) (zL 13 (Jg (H := H17) (s := PD) (t := 24) (u := 24) (ty := 0) (x := x15.2.1) (y := a) (r := true) (by kernel_rfl) c19))))))))) ?_
    refine wTa ?_
    obtain ⟨cv24, H25, ho26, hs27⟩ := or_append_own (P := pg) (A := an) (s := TT5) (t := 35) (u := 35) (el := 41) (by_ := 40) (z := [vi 0, vi 0, vi 0, vi 0, vi 0]) (ty := 0) (y := .sl false false true [vi x15.1, vi x15.2.1.1, vi x15.2.1.2.1, vi x15.2.2.1.1, vi x15.2.2.1.2.1] 1) (lm := ([x15])) (m := 1) hs18 5 rfl ((slCells_slO (H := H17) (s := TT5) (b := false) (nil := false) (capd := true) (l := [x15]) (n := 1) (by first | rfl | omega | (simp only [ek_]; omega) | (simp; done) | (simp; omega)))) (by kernel_rfl) (by kernel_rfl) (by kernel_rfl) (by kernel_rfl) (by kernel_rfl) (by kernel_rfl) (by kernel_rfl) (by first | rfl | omega | (simp only [ek_]; omega) | (simp; done) | (simp; omega)) (by omega) (by omega)
    have hs27l : (((toldT (l.take (i : Int).toNat) a) ++ ([x15])).length : Int) = (((toldT (l.take (i : Int).toNat) a).length : Int) + 1) := by { first | omega | (simp only [ej_]; omega) | (simp; done) | (simp; omega) }
    refine rHz [(2, yp n1), (3, yp n2), (4, yp n3), (7, yp n6), (8, .y (.one (cv24))), (9, xi i)] hs27 (zA 1 (qA 41 (On.at hs18 6 rfl)) (zL 3 ho26)) fun H28 hs29 => ?_
    refine wK ?_
    refine rRz [(2, yp n1), (3, yp n2), (4, yp n3), (7, yp n6), (8, .y (.one (cv24))), (9, xi (i + 1))] H28 (zL 1 (qoAdd H28 i 1 (i + 1))) ?_
    exact ⟨(H28, (i + 1), cvi, cv24), by kernel_rfl, (⟨(On.pick [0, 1, 2, 3, 4, 6] [5] (by kernel_rfl) (On.mono (A' := ownP TT5 cv24 (toldT (l.take (i + 1 : Int).toNat) a)) 6 rfl (fun _ x => by rw [← (show ((toldT (l.take (i : Int).toNat) a) ++ ([x15])) = (toldT (l.take (i + 1 : Int).toNat) a) from toldT_yes (by omega) hx15 (by omega) c22 c19)]; exact x) (On.mono (A' := ownP TT5 cvi (goneT (l.take (i + 1 : Int).toNat) a)) 4 rfl (fun _ x => by rw [← (show (goneT (l.take (i : Int).toNat) a) = (goneT (l.take (i + 1 : Int).toNat) a) from gone_no (by omega) hx15 (.inr c22))]; exact x) hs29))), by omega, by omega, goneT_len _ _ (by omega), toldT_len _ _ (by omega)⟩), (by show (_ : Nat) < _; simp only []; omega)⟩
   refine rSz [(2, yp n1), (3, yp n2), (4, yp n3), (7, yp n6), (8, .y (.one (cvj))), (9, xi i), (10, yp n16), (58, xb false)] H17 (zA 1 (qL 3 0 (.one (vi x15.1)) (On.at hs18 6 rfl)) (zL 2 (qgtrF H17 x15.1 0))) ?_
   refine wFk ?_
   refine rRz [(2, yp n1), (3, yp n2), (4, yp n3), (7, yp n6), (8, .y (.one (cvj))), (9, xi (i + 1))] H17 (zL 1 (qoAdd H17 i 1 (i + 1))) ?_
   exact ⟨(H17, (i + 1), cvi, cvj), by kernel_rfl, (⟨(On.pick [0, 1, 2, 3, 4, 5] [6] (by kernel_rfl) (On.mono (A' := ownP TT5 cvj (toldT (l.take (i + 1 : Int).toNat) a)) 5 rfl (fun _ x => by rw [← (show (toldT (l.take (i : Int).toNat) a) = (toldT (l.take (i + 1 : Int).toNat) a) from toldT_no (by omega) hx15 (.inl (by omega)))]; exact x) (On.mono (A' := ownP TT5 cvi (goneT (l.take (i + 1 : Int).toNat) a)) 4 rfl (fun _ x => by rw [← (show (goneT (l.take (i : Int).toNat) a) = (goneT (l.take (i + 1 : Int).toNat) a) from gone_no (by omega) hx15 (.inr c22))]; exact x) hs18))), by omega, by omega, goneT_len _ _ (by omega), toldT_len _ _ (by omega)⟩), (by show (_ : Nat) < _; simp only []; omega)⟩
  refine rSz [(2, yp n1), (3, yp n2), (4, yp n3), (7, yp n6), (8, .y (.one (cvj))), (9, xi i), (10, yp n16), (37, xb true)] H17 (zA 1 (qL 24 1 (.agg [vi x15.2.1.1, vi x15.2.1.2.1]) (On.at hs18 6 rfl)) (zA 2 (qL 24 0 (.agg [vi a.1, vi a.2.1]) (On.at hs18 1 rfl)) (zA 3 (Jg (H := H17) (s := PD) (t := 24) (u := 24) (ty := 0) (x := x15.2.1) (y := a) (r := true) (by kernel_rfl) c19) (zA 6 (qL 24 3 (.agg [vi x15.2.2.1.1, vi x15.2.2.1.2.1]) (On.at hs18 6 rfl)) (zA 7 (qL 24 0 (.agg [vi a.1, vi a.2.1]) (On.at hs18 1 rfl)) (zL 8 (Jg (H := H17) (s := PD) (t := 24) (u := 24) (ty := 0) (x := x15.2.2.1) (y := a) (r := true) (by kernel_rfl) c22))))))) ?_
  refine wTa ?_
  obtain ⟨cv30, H31, ho32, hs33⟩ := or_append_own (P := pg) (A := an) (s := TT5) (t := 35) (u := 35) (el := 41) (by_ := 40) (z := [vi 0, vi 0, vi 0, vi 0, vi 0]) (ty := 0) (y := .sl false false true [vi x15.1, vi x15.2.1.1, vi x15.2.1.2.1, vi x15.2.2.1.1, vi x15.2.2.1.2.1] 1) (lm := ([x15])) (m := 1) hs18 4 rfl ((slCells_slO (H := H17) (s := TT5) (b := false) (nil := false) (capd := true) (l := [x15]) (n := 1) (by first | rfl | omega | (simp only [ek_]; omega) | (simp; done) | (simp; omega)))) (by kernel_rfl) (by kernel_rfl) (by kernel_rfl) (by kernel_rfl) (by kernel_rfl) (by kernel_rfl) (by kernel_rfl) (by first | rfl | omega | (simp only [ek_]; omega) | (simp; done) | (simp; omega)) (by omega) (by omega)
  have hs33l : (((goneT (l.take (i : Int).toNat) a) ++ ([x15])).length : Int) = (((goneT (l.take (i : Int).toNat) a).length : Int) + 1) := by { first | omega | (simp only [ej_]; omega) | (simp; done) | (simp; omega) }
  have hv34 : C.live cv30 = true := own_live hs33 6 rfl
  refine rHz [(2, yp n1), (3, yp n2), (4, yp n3), (7, yp n6), (8, .y (.one (cvj))), (9, xi i), (10, yp n16)] (On.put (.obj [vb true, cv30]) hs33 3 rfl) (zA 1 (qL 35 1 (.one (cvi)) (On.at hs18 3 rfl)) (zA 2 (qA 41 (On.at hs18 6 rfl)) (zA 4 ho32 (zL 6 (Jk (H := H31) (t := 35) (ty := 0) (id := n6) (off := 1) (cs := [vb true, cvi]) (cs' := [vb true, cv30]) (v := .one (cv30)) (On.at hs33 3 rfl) (by kernel_rfl) (live_cons hv34 live_nil) (by kernel_rfl) (by kernel_rfl)))))) fun H35 hs36 => ?_
  refine wK ?_
  rcases ilt (0) (x15.1) with c37 | c37
  ·
   refine rSz [(2, yp n1), (3, yp n2), (4, yp n3), (7, yp n6), (8, .y (.one (cvj))), (9, xi i), (10, yp n16), (58, xb false)] H35 (zA 1 (qL 3 0 (.one (vi x15.1)) (On.at hs36 5 rfl)) (zA 2 (qgtrT H35 x15.1 0) (zA 5 (qL 24 3 (.agg [vi x15.2.2.1.1, vi x15.2.2.1.2.1]) (On.at hs36 5 rfl)) (zA 6 (qL 24 0 (.agg [vi a.1, vi a.2.1]) (On.at hs36 1 rfl)) (zL 7 (Jh (H := H35) (s := PD) (t := 24) (u := 24) (ty := 0) (x := x15.2.2.1) (y := a) (r := false) (by kernel_rfl) c22)))))) ?_
   refine wFk ?_
   refine rRz [(2, yp n1), (3, yp n2), (4, yp n3), (7, yp n6), (8, .y (.one (cvj))), (9, xi (i + 1))] H35 (zL 1 (qoAdd H35 i 1 (i + 1))) ?_
   exact ⟨(H35, (i + 1), cv30, cvj), by kernel_rfl, (⟨(On.pick [0, 1, 2, 3, 6, 4] [5] (by kernel_rfl) (On.mono (A' := ownP TT5 cvj (toldT (l.take (i + 1 : Int).toNat) a)) 4 rfl (fun _ x => by rw [← (show (toldT (l.take (i : Int).toNat) a) = (toldT (l.take (i + 1 : Int).toNat) a) from toldT_no (by omega) hx15 (.inr (.inl c22)))]; exact x) (On.mono (A' := ownP TT5 cv30 (goneT (l.take (i + 1 : Int).toNat) a)) 6 rfl (fun _ x => by rw [← (show ((goneT (l.take (i : Int).toNat) a) ++ ([x15])) = (goneT (l.take (i + 1 : Int).toNat) a) from gone_yes (by omega) hx15 c19 c22)]; exact x) hs36))), by omega, by omega, goneT_len _ _ (by omega), toldT_len _ _ (by omega)⟩), (by show (_ : Nat) < _; simp only []; omega)⟩
  refine rSz [(2, yp n1), (3, yp n2), (4, yp n3), (7, yp n6), (8, .y (.one (cvj))), (9, xi i), (10, yp n16), (58, xb false)] H35 (zA 1 (qL 3 0 (.one (vi x15.1)) (On.at hs36 5 rfl)) (zL 2 (qgtrF H35 x15.1 0))) ?_
  refine wFk ?_
  refine rRz [(2, yp n1), (3, yp n2), (4, yp n3), (7, yp n6), (8, .y (.one (cvj))), (9, xi (i + 1))] H35 (zL 1 (qoAdd H35 i 1 (i + 1))) ?_
  exact ⟨(H35, (i + 1), cv30, cvj), by kernel_rfl, (⟨(On.pick [0, 1, 2, 3, 6, 4] [5] (by kernel_rfl) (On.mono (A' := ownP TT5 cvj (toldT (l.take (i + 1 : Int).toNat) a)) 4 rfl (fun _ x => by rw [← (show (toldT (l.take (i : Int).toNat) a) = (toldT (l.take (i + 1 : Int).toNat) a) from toldT_no (by omega) hx15 (.inl (by omega)))]; exact x) (On.mono (A' := ownP TT5 cv30 (goneT (l.take (i + 1 : Int).toNat) a)) 6 rfl (fun _ x => by rw [← (show ((goneT (l.take (i : Int).toNat) a) ++ ([x15])) = (goneT (l.take (i + 1 : Int).toNat) a) from gone_yes (by omega) hx15 c19 c22)]; exact x) hs36))), by omega, by omega, goneT_len _ _ (by omega), toldT_len _ _ (by omega)⟩), (by show (_ : Nat) < _; simp only []; omega)⟩
 refine rSz [(2, yp n1), (3, yp n2), (4, yp n3), (7, yp n6), (8, .y (.one (cvj))), (9, xi i), (20, xb false)] H12 (zA 2 (qL 35 1 (.one (sv TT5 rb rn rp l)) (On.at hs13 0 rfl)) (zL 4 (qlssF H12 i (l.length : Int)))) ?_
 refine wFa ?_
 refine wX ?_
 refine Eq.mpr (if_pos rfl) ?_
 obtain ⟨n38, p39, hp40⟩ := rlinks_ok rb rn rp l (by first | rfl | omega | (simp only [ek_]; omega) | (simp; done) | (simp; omega)) a
 have hl41 : ((dlks l a).length : Int) ≤ 2 * (l.length : Int) := dlks_len _ _
 have hv42 : C.live cvi = true := own_live hs13 4 rfl
 refine rGz [(4, yp n3), (5, .y (.one (sv PD false n38 p39 (dlks l a)))), (6, .y (.one (cvj)))] (On.put (.obj [vb true, cvi]) hs13 2 rfl) (zA 0 (qA 48 (On.at hs13 3 rfl)) (zA 1 (qA 48 (On.at hs13 0 rfl)) (zA 2 (qL 24 0 (.agg [vi a.1, vi a.2.1]) (On.at hs13 1 rfl)) (zA 3 (qP2 H12 hp40) (zL 5 (Jk (H := H12) (t := 48) (ty := 0) (id := n3) (off := 0) (cs := [vb false, nilC]) (cs' := [vb true, cvi]) (v := .agg [vb true, cvi]) (On.at hs13 2 rfl) (by kernel_rfl) (live_cons rfl (live_cons hv42 live_nil)) (by kernel_rfl) (by kernel_rfl))))))) fun H43 hs44 => ?_
 refine wE ?_
 refine ⟨Or.inr rfl, [.agg [vb true, cvi], .one (sv PD false n38 p39 (dlks l a)), .one (cvj)], (rC (On.at (On.mono (A' := ownP TT5 cvj (toldT l a)) 5 rfl (fun _ x => by rw [← (show (toldT (l.take (i : Int).toNat) a) = (toldT l a) from by rw [take_all (by omega)])]; exact x) (On.mono (A' := ownP TT5 cvi (goneT l a)) 4 rfl (fun _ x => by rw [← (show (goneT (l.take (i : Int).toNat) a) = (goneT l a) from by rw [take_all (by omega)])]; exact x) hs44)) 2 rfl)), ?_⟩
 obtain ⟨fn45, fp46, hf47⟩ := own_back (On.mono (A' := ownP TT5 cvj (toldT l a)) 5 rfl (fun _ x => by rw [← (show (toldT (l.take (i : Int).toNat) a) = (toldT l a) from by rw [take_all (by omega)])]; exact x) (On.mono (A' := ownP TT5 cvi (goneT l a)) 4 rfl (fun _ x => by rw [← (show (goneT (l.take (i : Int).toNat) a) = (goneT l a) from by rw [take_all (by omega)])]; exact x) hs44)) 4 rfl
 obtain ⟨fn48, fp49, hf50⟩ := own_back (On.mono (A' := ownP TT5 cvj (toldT l a)) 5 rfl (fun _ x => by rw [← (show (toldT (l.take (i : Int).toNat) a) = (toldT l a) from by rw [take_all (by omega)])]; exact x) (On.mono (A' := ownP TT5 cvi (goneT l a)) 4 rfl (fun _ x => by rw [← (show (goneT (l.take (i : Int).toNat) a) = (goneT l a) from by rw [take_all (by omega)])]; exact x) hs44)) 5 rfl
 exact ⟨fn45, fp46, n38, p39, fn48, fp49, (back_cons (back_agg (mapM_cons' (by kernel_rfl) (mapM_cons' hf47 mapM_nil'))) (back_cons (by kernel_rfl) (back_cons (back_one hf50) rfl)))⟩
theorem dgone_ok (rn rp : Bool) (L : List PR.T) (M : List TI.T) (D : List TT5.T) (a : PD.T) (hI : TieInv L M) (hD : allOf L M = D) : ∃ n p n2 p2 n3 p3 : Bool, PureC pg an 49 [.agg [vb true, sv TT5 false rn rp D], .agg [vi a.1, vi a.2.1]] [.agg [vb true, sv TT5 false n p (allOf (goneL L a) (goneM M a))], .one (sv PD false n2 p2 (isort ltD (lnkOf L a))), .one (sv TT5 false n3 p3 (toldG M a))] := by
  have hl := hI.len
  rw [hD] at hl
  obtain ⟨n, p, n2, p2, n3, p3, h⟩ := rgone_ok false rn rp D (by omega) a
  refine ⟨n, p, n2, p2, n3, p3, ?_⟩
  rw [gone_is hI, ← dlks_is hI, ← told_is hI, hD]
  exact h
end Go.Proofs.Ytjhgjbagmkiibaa.E
end
