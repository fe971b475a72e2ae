/- Lemmas. -/
import Derived.Test.YtjhgjbagmkiibaaR15TA
section
namespace Go.Proofs.Ytjhgjbagmkiibaa.E
open Go.Lg
set_option linter.unusedVariables false
set_option maxRecDepth 100000
set_option maxHeartbeats 8000000
set_option linter.unusedSimpArgs false
def mayP (a : PD.T) : Bool := decide (ILe 0 a.1 ∧ ILt a.1 256 ∧ ILe 1 a.2.1 ∧ ILe a.2.1 4611686018427387903)
theorem may_is {a : PD.T} (h : mayP a = true) : ILe 0 a.1 ∧ ILt a.1 256 ∧ ILe 1 a.2.1 ∧ ILe a.2.1 4611686018427387903 := of_decide_eq_true h
def ordP (a b : PD.T) : Int := cmpP (a.1, a.2.1) (b.1, b.2.1)
def pairOf (a b : PD.T) : PR.T := if 0 < ordP a b then (b, (a, ())) else (a, (b, ()))
theorem may_ok (a : PD.T)  : PureC pg an 32 [.agg [vi a.1, vi a.2.1]] [.one (vb (mayP a))] := by
 refine rOF Try.func32 rfl ?_
 obtain ⟨n1, hn1⟩ := lX []
 refine rGz [(1, yp n1)] (On.new' hn1 (.obj [vi a.1, vi a.2.1]) (On.nil [])) (zL 0 (qB 24 [vi a.1, vi a.2.1] hn1)) fun H2 hs3 => ?_
 rcases ile (0) (a.1) with c4 | c4
 ·
  rcases ilt (a.1) (256) with c5 | c5
  ·
   rcases ile (1) (a.2.1) with c6 | c6
   ·
    rcases ile (a.2.1) (4611686018427387903) with c7 | c7
    ·
     refine rSz [(2, xb true)] H2 (zA 1 (qL 3 0 (.one (vi a.1)) (On.at hs3 0 rfl)) (zA 2 (qgeqT H2 a.1 0) (zA 5 (qL 3 0 (.one (vi a.1)) (On.at hs3 0 rfl)) (zA 6 (qlssT H2 a.1 256) (zA 10 (qL 3 1 (.one (vi a.2.1)) (On.at hs3 0 rfl)) (zA 11 (qgeqT H2 a.2.1 1) (zA 15 (qL 3 1 (.one (vi a.2.1)) (On.at hs3 0 rfl)) (zL 16 (qleqT H2 a.2.1 4611686018427387903))))))))) ?_
     refine wE ?_
     refine ⟨Or.inr rfl, [.one (vb true)], (by kernel_rfl), ?_⟩
     exact congrArg (fun z => some [Y.one (vb z)]) (show true = mayP a by unfold mayP; exact (decide_eq_true ⟨by omega, by omega, by omega, by omega⟩).symm)
    refine rSz [(2, xb false)] H2 (zA 1 (qL 3 0 (.one (vi a.1)) (On.at hs3 0 rfl)) (zA 2 (qgeqT H2 a.1 0) (zA 5 (qL 3 0 (.one (vi a.1)) (On.at hs3 0 rfl)) (zA 6 (qlssT H2 a.1 256) (zA 10 (qL 3 1 (.one (vi a.2.1)) (On.at hs3 0 rfl)) (zA 11 (qgeqT H2 a.2.1 1) (zA 15 (qL 3 1 (.one (vi a.2.1)) (On.at hs3 0 rfl)) (zL 16 (qleqF H2 a.2.1 4611686018427387903))))))))) ?_
    refine wE ?_
    refine ⟨Or.inr rfl, [.one (vb false)], (by kernel_rfl), ?_⟩
    exact congrArg (fun z => some [Y.one (vb z)]) (show false = mayP a by unfold mayP; exact (decide_eq_false (by rintro ⟨g1, g2, g3, g4⟩; omega)).symm)
   refine rSz [(2, xb false)] H2 (zA 1 (qL 3 0 (.one (vi a.1)) (On.at hs3 0 rfl)) (zA 2 (qgeqT H2 a.1 0) (zA 5 (qL 3 0 (.one (vi a.1)) (On.at hs3 0 rfl)) (zA 6 (qlssT H2 a.1 256) (zA 10 (qL 3 1 (.one (vi a.2.1)) (On.at hs3 0 rfl)) (zL 11 (qgeqF H2 a.2.1 1))))))) ?_
   refine wE ?_
   refine ⟨Or.inr rfl, [.one (vb false)], (by kernel_rfl), ?_⟩
   exact congrArg (fun z => some [Y.one (vb z)]) (show false = mayP a by unfold mayP; exact (decide_eq_false (by rintro ⟨g1, g2, g3, g4⟩; omega)).symm)
  refine rSz [(2, xb false)] H2 (zA 1 (qL 3 0 (.one (vi a.1)) (On.at hs3 0 rfl)) (zA 2 (qgeqT H2 a.1 0) (zA 5 (qL 3 0 (.one (vi a.1)) (On.at hs3 0 rfl)) (zL 6 (qlssF H2 a.1 256))))) ?_
  refine wE ?_
  refine ⟨Or.inr rfl, [.one (vb false)], (by kernel_rfl), ?_⟩
  exact congrArg (fun z => some [Y.one (vb z)]) (show false = mayP a by unfold mayP; exact (decide_eq_false (by rintro ⟨g1, g2, g3, g4⟩; omega)).symm)
 refine rSz [(2, xb false)] H2 (zA 1 (qL 3 0 (.one (vi a.1)) (On.at hs3 0 rfl)) (zL 2 (qgeqF H2 a.1 0))) ?_
 refine wE ?_
 refine ⟨Or.inr rfl, [.one (vb false)], (by kernel_rfl), ?_⟩
 exact congrArg (fun z => some [Y.one (vb z)]) (show false = mayP a by unfold mayP; exact (decide_eq_false (by rintro ⟨g1, g2, g3, g4⟩; omega)).symm)
theorem order_ok (a b : PD.T) (ha0 : ILe 0 a.1) (ha1 : ILt a.1 256) (hb0 : ILe 0 b.1) (hb1 : ILt b.1 256)  : PureC pg an 31 [.agg [vi a.1, vi a.2.1], .agg [vi b.1, vi b.2.1]] [.one (vi (ordP a b))] := by
 refine rOF Try.func31 rfl ?_
 obtain ⟨n1, hn1⟩ := lX []
 obtain ⟨n2, hn2⟩ := lX ([] ++ [.obj [vi a.1, vi a.2.1]])
 refine rGz [(2, yp n1), (3, yp n2)] (On.new' hn2 (.obj [vi b.1, vi b.2.1]) (On.new' hn1 (.obj [vi a.1, vi a.2.1]) (On.nil []))) (zA 0 (qB 24 [vi a.1, vi a.2.1] hn1) (zL 1 (qB 24 [vi b.1, vi b.2.1] hn2))) fun H3 hs4 => ?_
 refine wS ?_
 rcases ieq (a.1) (b.1) with c5 | c5
 ·
  refine rSz [(2, yp n1), (3, yp n2), (9, xb false)] H3 (zA 1 (qL 3 0 (.one (vi a.1)) (On.at hs4 0 rfl)) (zA 3 (qL 3 0 (.one (vi b.1)) (On.at hs4 1 rfl)) (zL 4 (Ja (vals := [xi a.1, xi b.1]) (H := H3) (op := .binOp .neq 3 (.tmp 0) (.tmp 1) 3) (ty := 0) (r := xb (bneI (a.1) (b.1))) (v := xb false) (by kernel_rfl) (congrArg (fun z => xb z) (bne_f (by omega))))))) ?_
  refine wFk ?_
  refine wS (wB ?_)
  rcases ilt (a.2.1) (b.2.1) with c6 | c6
  ·
   refine rSz [(2, yp n1), (3, yp n2), (15, xb true)] H3 (zA 1 (qL 3 1 (.one (vi a.2.1)) (On.at hs4 0 rfl)) (zA 3 (qL 3 1 (.one (vi b.2.1)) (On.at hs4 1 rfl)) (zL 4 (qlssT H3 a.2.1 b.2.1)))) ?_
   refine wTa ?_
   refine rs0 [(4, xi (-1))] ?_
   refine wE ?_
   refine ⟨Or.inr rfl, [.one (vi (-1))], (by kernel_rfl), ?_⟩
   exact congrArg (fun z : Int => some [Y.one (vi z)]) (show (-1) = ordP a b by unfold ordP cmpP; dsimp only; split <;> (first | rfl | omega | (split <;> first | rfl | omega | (split <;> omega)) | (exfalso; omega)))
  refine rSz [(2, yp n1), (3, yp n2), (15, xb false)] H3 (zA 1 (qL 3 1 (.one (vi a.2.1)) (On.at hs4 0 rfl)) (zA 3 (qL 3 1 (.one (vi b.2.1)) (On.at hs4 1 rfl)) (zL 4 (qlssF H3 a.2.1 b.2.1)))) ?_
  refine wFa ?_
  rcases ilt (b.2.1) (a.2.1) with c7 | c7
  ·
   refine rSz [(21, xb true)] H3 (zA 1 (qL 3 1 (.one (vi a.2.1)) (On.at hs4 0 rfl)) (zA 3 (qL 3 1 (.one (vi b.2.1)) (On.at hs4 1 rfl)) (zL 4 (qgtrT H3 a.2.1 b.2.1)))) ?_
   refine wTa ?_
   refine rs0 [(4, xi 1)] ?_
   refine wE ?_
   refine ⟨Or.inr rfl, [.one (vi 1)], (by kernel_rfl), ?_⟩
   exact congrArg (fun z : Int => some [Y.one (vi z)]) (show 1 = ordP a b by unfold ordP cmpP; dsimp only; split <;> (first | rfl | omega | (split <;> first | rfl | omega | (split <;> omega)) | (exfalso; omega)))
  refine rSz [(21, xb false)] H3 (zA 1 (qL 3 1 (.one (vi a.2.1)) (On.at hs4 0 rfl)) (zA 3 (qL 3 1 (.one (vi b.2.1)) (On.at hs4 1 rfl)) (zL 4 (qgtrF H3 a.2.1 b.2.1)))) ?_
  refine wFk ?_
  refine rs0 [(4, xi 0)] ?_
  refine wE ?_
  refine ⟨Or.inr rfl, [.one (vi 0)], (by kernel_rfl), ?_⟩
  exact congrArg (fun z : Int => some [Y.one (vi z)]) (show 0 = ordP a b by unfold ordP cmpP; dsimp only; split <;> (first | rfl | omega | (split <;> first | rfl | omega | (split <;> omega)) | (exfalso; omega)))
 refine rSz [(2, yp n1), (3, yp n2), (9, xb true)] H3 (zA 1 (qL 3 0 (.one (vi a.1)) (On.at hs4 0 rfl)) (zA 3 (qL 3 0 (.one (vi b.1)) (On.at hs4 1 rfl)) (zL 4 (Ja (vals := [xi a.1, xi b.1]) (H := H3) (op := .binOp .neq 3 (.tmp 0) (.tmp 1) 3) (ty := 0) (r := xb (bneI (a.1) (b.1))) (v := xb true) (by kernel_rfl) (congrArg (fun z => xb z) (bne_t (by omega))))))) ?_
 refine wTa ?_
 refine rSz [(4, xi (a.1 - b.1))] H3 (zA 1 (qL 3 0 (.one (vi a.1)) (On.at hs4 0 rfl)) (zA 3 (qL 3 0 (.one (vi b.1)) (On.at hs4 1 rfl)) (zL 4 (qoSub H3 a.1 b.1 (a.1 - b.1))))) ?_
 refine wE ?_
 refine ⟨Or.inr rfl, [.one (vi (a.1 - b.1))], (by kernel_rfl), ?_⟩
 exact congrArg (fun z : Int => some [Y.one (vi z)]) (show (a.1 - b.1) = ordP a b by unfold ordP cmpP; dsimp only; split <;> (first | rfl | omega | (split <;> first | rfl | omega | (split <;> omega)) | (exfalso; omega)))
theorem paired_ok (a b : PD.T) (ha0 : ILe 0 a.1) (ha1 : ILt a.1 256) (hb0 : ILe 0 b.1) (hb1 : ILt b.1 256)  : PureC pg an 27 [.agg [vi a.1, vi a.2.1], .agg [vi b.1, vi b.2.1]] [.agg (enc PR (pairOf a b))] := by
 refine rOF Try.func27 rfl ?_
 obtain ⟨n1, hn1⟩ := lX []
 obtain ⟨n2, hn2⟩ := lX ([] ++ [.obj [vi a.1, vi a.2.1]])
 obtain ⟨n3, hn3⟩ := lX (([] ++ [.obj [vi a.1, vi a.2.1]]) ++ [.obj [vi b.1, vi b.2.1]])
 refine rGz [(2, yp n1), (3, yp n2), (4, yp n3)] (On.new' hn3 (.obj [vi 0, vi 0, vi 0, vi 0]) (On.new' hn2 (.obj [vi b.1, vi b.2.1]) (On.new' hn1 (.obj [vi a.1, vi a.2.1]) (On.nil [])))) (zA 0 (qB 24 [vi a.1, vi a.2.1] hn1) (zA 1 (qB 24 [vi b.1, vi b.2.1] hn2) (zL 2 (qO 67 [vi 0, vi 0, vi 0, vi 0] hn3)))) fun H4 hs5 => ?_
 refine wS ?_
 rcases ilt (0) ((ordP a b)) with c6 | c6
 ·
  refine rSz [(2, yp n1), (3, yp n2), (4, yp n3), (8, xb true)] H4 (zA 0 (qL 24 0 (.agg [vi a.1, vi a.2.1]) (On.at hs5 0 rfl)) (zA 1 (qL 24 0 (.agg [vi b.1, vi b.2.1]) (On.at hs5 1 rfl)) (zA 2 (qP2 H4 (order_ok a b (by omega) (by omega) (by omega) (by omega))) (zL 3 (qgtrT H4 (ordP a b) 0))))) ?_
  refine wTa ?_
  refine rGz [(4, yp n3)] (On.put (.obj [vi b.1, vi b.2.1, vi a.1, vi a.2.1]) hs5 2 rfl) (zA 0 (qL 24 0 (.agg [vi b.1, vi b.2.1]) (On.at hs5 1 rfl)) (zA 1 (qL 24 0 (.agg [vi a.1, vi a.2.1]) (On.at hs5 0 rfl)) (zL 3 (qS 67 0 (.agg [vi b.1, vi b.2.1, vi a.1, vi a.2.1]) (On.at hs5 2 rfl))))) fun H7 hs8 => ?_
  refine wE ?_
  refine ⟨Or.inr rfl, [.agg [vi b.1, vi b.2.1, vi a.1, vi a.2.1]], (rC (On.at hs8 2 rfl)), ?_⟩
  exact congrArg (fun z : PR.T => some [Y.agg (enc PR z)]) (show ((b, (a, ())) : PR.T) = pairOf a b by unfold pairOf; rw [if_pos (by omega)])
 refine rSz [(2, yp n1), (3, yp n2), (4, yp n3), (8, xb false)] H4 (zA 0 (qL 24 0 (.agg [vi a.1, vi a.2.1]) (On.at hs5 0 rfl)) (zA 1 (qL 24 0 (.agg [vi b.1, vi b.2.1]) (On.at hs5 1 rfl)) (zA 2 (qP2 H4 (order_ok a b (by omega) (by omega) (by omega) (by omega))) (zL 3 (qgtrF H4 (ordP a b) 0))))) ?_
 refine wFk ?_
 refine rGz [(4, yp n3)] (On.put (.obj [vi a.1, vi a.2.1, vi b.1, vi b.2.1]) hs5 2 rfl) (zA 0 (qL 24 0 (.agg [vi a.1, vi a.2.1]) (On.at hs5 0 rfl)) (zA 1 (qL 24 0 (.agg [vi b.1, vi b.2.1]) (On.at hs5 1 rfl)) (zL 3 (qS 67 0 (.agg [vi a.1, vi a.2.1, vi b.1, vi b.2.1]) (On.at hs5 2 rfl))))) fun H9 hs10 => ?_
 refine wE ?_
 refine ⟨Or.inr rfl, [.agg [vi a.1, vi a.2.1, vi b.1, vi b.2.1]], (rC (On.at hs10 2 rfl)), ?_⟩
 exact congrArg (fun z : PR.T => some [Y.agg (enc PR z)]) (show ((a, (b, ())) : PR.T) = pairOf a b by unfold pairOf; rw [if_neg (by omega)])
theorem paired_q (a b : PD.T) (q : PR.T) (hq : q = pairOf a b) (ha0 : ILe 0 a.1) (ha1 : ILt a.1 256) (hb0 : ILe 0 b.1) (hb1 : ILt b.1 256) : PureC pg an 27 [.agg [vi a.1, vi a.2.1], .agg [vi b.1, vi b.2.1]] [.agg [vi q.1.1, vi q.1.2.1, vi q.2.1.1, vi q.2.1.2.1]] := by
  have h := paired_ok a b ha0 ha1 hb0 hb1
  rw [← hq] at h
  exact h
end Go.Proofs.Ytjhgjbagmkiibaa.E
end
section
namespace Go.Proofs.Ytjhgjbagmkiibaa.E
open Go.Lg
set_option linter.unusedVariables false
set_option maxRecDepth 100000
set_option maxHeartbeats 8000000
set_option linter.unusedSimpArgs false
def badP (a b : PD.T) : Bool := !(mayP a && (mayP b && !(eqb PD a b)))
theorem bad_is {a b : PD.T} (h : badP a b = false) : mayP a = true ∧ mayP b = true ∧ eqb PD a b = false := by
  unfold badP at h
  simp only [Bool.not_eq_false', Bool.and_eq_true, Bool.not_eq_true'] at h
  exact ⟨h.1, h.2.1, h.2.2⟩
def linkE (L : List PR.T) (M : List TI.T) (a b : PD.T) : Int := if badP a b = true then 1 else if memB PR (pairOf a b) L = true then 0 else if (1024 : Int) ≤ (L.length : Int) + (M.length : Int) then 150 else 0
def linkL (L : List PR.T) (M : List TI.T) (a b : PD.T) : List PR.T := if badP a b = true then L else if memB PR (pairOf a b) L = true then L else if (1024 : Int) ≤ (L.length : Int) + (M.length : Int) then L else lins L (pairOf a b)
def unlinkE (L : List PR.T) (a b : PD.T) : Int := if badP a b = true then 1 else if memB PR (pairOf a b) L = true then 0 else 3
def unlinkL (L : List PR.T) (a b : PD.T) : List PR.T := if badP a b = true then L else if memB PR (pairOf a b) L = true then ldel L (pairOf a b) else L
theorem two_ok (R : HP) (H : HH) (tt l mo : Nat) (L : List PR.T) (M : List TI.T) (a b : PD.T) (hs : On [R, pts tt (.obj [.mp l, .mp mo]), pts l (lnkO L), pts mo (monO M)] H) : ∃ rs H', Runs pg an 26 [.one (.ptr tt 0), .agg [vi a.1, vi a.2.1], .agg [vi b.1, vi b.2.1]] H rs H' ∧ rs = [.one (vb (!badP a b))] ∧ On [R, pts tt (.obj [.mp l, .mp mo]), pts l (lnkO L), pts mo (monO M)] H' := by
 refine rOF Try.func26 rfl ?_
 obtain ⟨n1, hn1⟩ := lX H
 obtain ⟨n2, hn2⟩ := lX (H ++ [.obj [vi a.1, vi a.2.1]])
 refine rGz [(0, yp tt), (4, yp n1), (5, yp n2)] (On.new' hn2 (.obj [vi b.1, vi b.2.1]) (On.new' hn1 (.obj [vi a.1, vi a.2.1]) hs)) (zA 0 (qB 24 [vi a.1, vi a.2.1] hn1) (zL 1 (qB 24 [vi b.1, vi b.2.1] hn2))) fun H3 hs4 => ?_
 rcases Bool.eq_false_or_eq_true ((mayP a)) with c6 | c6
 ·
  obtain ⟨c6p, c6q, c6r, c6s⟩ := may_is c6
  rcases Bool.eq_false_or_eq_true ((mayP b)) with c9 | c9
  ·
   obtain ⟨c9p, c9q, c9r, c9s⟩ := may_is c9
   rcases Bool.eq_false_or_eq_true ((eqb PD a b)) with c12 | c12
   ·
    have hcall13 : Runs pg an 29 [.one (.ptr tt 0)] H3 [.one (vb true)] H3 := by
     refine runs_of ?_
     refine rOF Try.func29 rfl ?_
     refine rs0 [(0, yp tt)] ?_
     refine rSz [(2, xb true)] H3 (zL 6 (qL 58 0 (.one (.mp l)) (On.at hs4 1 rfl))) ?_
     refine wE ?_
     exact ⟨Or.inr rfl, [.one (vb true)], (by kernel_rfl), ⟨rfl, rfl⟩⟩
    refine rSz [(6, xb false)] H3 (zA 1 (qC1 hcall13) (zA 3 (qL 24 0 (.agg [vi a.1, vi a.2.1]) (On.at hs4 4 rfl)) (zA 4 (Jc (H := H3) (g := 32) (x := .agg [vi a.1, vi a.2.1]) (res := [.one (vb true)]) (by have h9 := may_ok a; rw [c6] at h9; exact h9) (by kernel_rfl) (by kernel_rfl)) (zA 7 (qL 24 0 (.agg [vi b.1, vi b.2.1]) (On.at hs4 5 rfl)) (zA 8 (Jc (H := H3) (g := 32) (x := .agg [vi b.1, vi b.2.1]) (res := [.one (vb true)]) (by have h9 := may_ok b; rw [c9] at h9; exact h9) (by kernel_rfl) (by kernel_rfl)) (zA 11 (qL 24 0 (.agg [vi a.1, vi a.2.1]) (On.at hs4 4 rfl)) (zA 12 (qL 24 0 (.agg [vi b.1, vi b.2.1]) (On.at hs4 5 rfl)) (zL 13 (Jg (H := H3) (s := PD) (t := 24) (u := 24) (ty := 0) (x := a) (y := b) (r := false) (by kernel_rfl) c12))))))))) ?_
    refine wE ?_
    refine ⟨Or.inr rfl, [.one (vb false)], (by kernel_rfl), ?_⟩
    exact ⟨congrArg (fun z => [Y.one (vb z)]) (show false = !badP a b by unfold badP; simp only [c6, c9, c12, Bool.not_true, Bool.not_false, Bool.and_true, Bool.and_false, Bool.true_and, Bool.false_and]), (On.pick [0, 1, 2, 3] [4, 5] (by kernel_rfl) hs4)⟩
   have hcall14 : Runs pg an 29 [.one (.ptr tt 0)] H3 [.one (vb true)] H3 := by
    refine runs_of ?_
    refine rOF Try.func29 rfl ?_
    refine rs0 [(0, yp tt)] ?_
    refine rSz [(2, xb true)] H3 (zL 6 (qL 58 0 (.one (.mp l)) (On.at hs4 1 rfl))) ?_
    refine wE ?_
    exact ⟨Or.inr rfl, [.one (vb true)], (by kernel_rfl), ⟨rfl, rfl⟩⟩
   refine rSz [(6, xb true)] H3 (zA 1 (qC1 hcall14) (zA 3 (qL 24 0 (.agg [vi a.1, vi a.2.1]) (On.at hs4 4 rfl)) (zA 4 (Jc (H := H3) (g := 32) (x := .agg [vi a.1, vi a.2.1]) (res := [.one (vb true)]) (by have h9 := may_ok a; rw [c6] at h9; exact h9) (by kernel_rfl) (by kernel_rfl)) (zA 7 (qL 24 0 (.agg [vi b.1, vi b.2.1]) (On.at hs4 5 rfl)) (zA 8 (Jc (H := H3) (g := 32) (x := .agg [vi b.1, vi b.2.1]) (res := [.one (vb true)]) (by have h9 := may_ok b; rw [c9] at h9; exact h9) (by kernel_rfl) (by kernel_rfl)) (zA 11 (qL 24 0 (.agg [vi a.1, vi a.2.1]) (On.at hs4 4 rfl)) (zA 12 (qL 24 0 (.agg [vi b.1, vi b.2.1]) (On.at hs4 5 rfl)) (zL 13 (Jg (H := H3) (s := PD) (t := 24) (u := 24) (ty := 0) (x := a) (y := b) (r := true) (by kernel_rfl) c12))))))))) ?_
   refine wE ?_
   refine ⟨Or.inr rfl, [.one (vb true)], (by kernel_rfl), ?_⟩
   exact ⟨congrArg (fun z => [Y.one (vb z)]) (show true = !badP a b by unfold badP; simp only [c6, c9, c12, Bool.not_true, Bool.not_false, Bool.and_true, Bool.and_false, Bool.true_and, Bool.false_and]), (On.pick [0, 1, 2, 3] [4, 5] (by kernel_rfl) hs4)⟩
  have hcall15 : Runs pg an 29 [.one (.ptr tt 0)] H3 [.one (vb true)] H3 := by
   refine runs_of ?_
   refine rOF Try.func29 rfl ?_
   refine rs0 [(0, yp tt)] ?_
   refine rSz [(2, xb true)] H3 (zL 6 (qL 58 0 (.one (.mp l)) (On.at hs4 1 rfl))) ?_
   refine wE ?_
   exact ⟨Or.inr rfl, [.one (vb true)], (by kernel_rfl), ⟨rfl, rfl⟩⟩
  refine rSz [(6, xb false)] H3 (zA 1 (qC1 hcall15) (zA 3 (qL 24 0 (.agg [vi a.1, vi a.2.1]) (On.at hs4 4 rfl)) (zA 4 (Jc (H := H3) (g := 32) (x := .agg [vi a.1, vi a.2.1]) (res := [.one (vb true)]) (by have h9 := may_ok a; rw [c6] at h9; exact h9) (by kernel_rfl) (by kernel_rfl)) (zA 7 (qL 24 0 (.agg [vi b.1, vi b.2.1]) (On.at hs4 5 rfl)) (zL 8 (Jc (H := H3) (g := 32) (x := .agg [vi b.1, vi b.2.1]) (res := [.one (vb false)]) (by have h9 := may_ok b; rw [c9] at h9; exact h9) (by kernel_rfl) (by kernel_rfl))))))) ?_
  refine wE ?_
  refine ⟨Or.inr rfl, [.one (vb false)], (by kernel_rfl), ?_⟩
  exact ⟨congrArg (fun z => [Y.one (vb z)]) (show false = !badP a b by unfold badP; simp only [c6, c9, Bool.not_true, Bool.not_false, Bool.and_true, Bool.and_false, Bool.true_and, Bool.false_and]), (On.pick [0, 1, 2, 3] [4, 5] (by kernel_rfl) hs4)⟩
 have hcall16 : Runs pg an 29 [.one (.ptr tt 0)] H3 [.one (vb true)] H3 := by
  refine runs_of ?_
  refine rOF Try.func29 rfl ?_
  refine rs0 [(0, yp tt)] ?_
  refine rSz [(2, xb true)] H3 (zL 6 (qL 58 0 (.one (.mp l)) (On.at hs4 1 rfl))) ?_
  refine wE ?_
  exact ⟨Or.inr rfl, [.one (vb true)], (by kernel_rfl), ⟨rfl, rfl⟩⟩
 refine rSz [(6, xb false)] H3 (zA 1 (qC1 hcall16) (zA 3 (qL 24 0 (.agg [vi a.1, vi a.2.1]) (On.at hs4 4 rfl)) (zL 4 (Jc (H := H3) (g := 32) (x := .agg [vi a.1, vi a.2.1]) (res := [.one (vb false)]) (by have h9 := may_ok a; rw [c6] at h9; exact h9) (by kernel_rfl) (by kernel_rfl))))) ?_
 refine wE ?_
 refine ⟨Or.inr rfl, [.one (vb false)], (by kernel_rfl), ?_⟩
 exact ⟨congrArg (fun z => [Y.one (vb z)]) (show false = !badP a b by unfold badP; simp only [c6, Bool.not_true, Bool.not_false, Bool.and_true, Bool.and_false, Bool.true_and, Bool.false_and]), (On.pick [0, 1, 2, 3] [4, 5] (by kernel_rfl) hs4)⟩
theorem link_ok (R : HP) (H : HH) (tt l mo : Nat) (L : List PR.T) (M : List TI.T) (a b : PD.T) (hs : On [R, pts tt (.obj [.mp l, .mp mo]), pts l (lnkO L), pts mo (monO M)] H) (hT : okTies L M = true) : ∃ rs H', Runs pg an 8 [.one (.ptr tt 0), .agg [vi a.1, vi a.2.1], .agg [vi b.1, vi b.2.1]] H rs H' ∧ rs = [.one (vi (linkE L M a b))] ∧ On [R, pts tt (.obj [.mp l, .mp mo]), pts l (lnkO (linkL L M a b)), pts mo (monO M)] H' := by
 obtain ⟨hLo, hL, hU, nL, nM⟩ := okTies_is hT
 have hLM := okTies_sum hT
 refine rOF Try.func8 rfl ?_
 obtain ⟨n1, hn1⟩ := lX H
 obtain ⟨n2, hn2⟩ := lX (H ++ [.obj [vi a.1, vi a.2.1]])
 refine rGz [(0, yp tt), (4, yp n1), (5, yp n2)] (On.new' hn2 (.obj [vi b.1, vi b.2.1]) (On.new' hn1 (.obj [vi a.1, vi a.2.1]) hs)) (zA 0 (qB 24 [vi a.1, vi a.2.1] hn1) (zL 1 (qB 24 [vi b.1, vi b.2.1] hn2))) fun H3 hs4 => ?_
 refine wS ?_
 rcases Bool.eq_false_or_eq_true ((badP a b)) with c5 | c5
 ·
  obtain ⟨_, H6, hr7, rfl, hs8⟩ := two_ok _ (H3 : HH) tt l mo L M a b (On.call [1, 2, 3] [0, 4, 5] (by kernel_rfl) hs4)
  have hs8 : On [R, pts n1 (.obj [vi a.1, vi a.2.1]), pts n2 (.obj [vi b.1, vi b.2.1]), pts tt (.obj [.mp l, .mp mo]), pts l (lnkO L), pts mo (monO M)] H6 := On.flat hs8
  rw [c5] at hr7
  refine rGz [(0, yp tt), (4, yp n1), (5, yp n2), (12, xb true)] hs8 (zA 1 (qL 24 0 (.agg [vi a.1, vi a.2.1]) (On.at hs4 4 rfl)) (zA 2 (qL 24 0 (.agg [vi b.1, vi b.2.1]) (On.at hs4 5 rfl)) (zL 3 (qC3 hr7)))) fun H9 hs10 => ?_
  refine wTa ?_
  refine rs0 [(6, xi 1)] ?_
  refine wE ?_
  refine ⟨Or.inr rfl, [.one (vi 1)], (by kernel_rfl), ?_⟩
  have e1 : 1 = linkE L M a b := by unfold linkE; simp only [c5, Bool.not_true, Bool.not_false, Bool.and_true, Bool.and_false, Bool.true_and, Bool.false_and, if_true, if_false, Bool.false_eq_true]; first | done | rfl | (rw [if_pos (by omega)]) | (rw [if_neg (by omega)])
  have e2 : L = linkL L M a b := by unfold linkL; simp only [c5, Bool.not_true, Bool.not_false, Bool.and_true, Bool.and_false, Bool.true_and, Bool.false_and, if_true, if_false, Bool.false_eq_true]; first | done | rfl | (rw [if_pos (by omega)]) | (rw [if_neg (by omega)])
  exact ⟨congrArg (fun z : Int => [Y.one (vi z)]) e1, by rw [← e2]; exact (On.pick [0, 3, 4, 5] [1, 2] (by kernel_rfl) hs10)⟩
 obtain ⟨_, H11, hr12, rfl, hs13⟩ := two_ok _ (H3 : HH) tt l mo L M a b (On.call [1, 2, 3] [0, 4, 5] (by kernel_rfl) hs4)
 have hs13 : On [R, pts n1 (.obj [vi a.1, vi a.2.1]), pts n2 (.obj [vi b.1, vi b.2.1]), pts tt (.obj [.mp l, .mp mo]), pts l (lnkO L), pts mo (monO M)] H11 := On.flat hs13
 obtain ⟨c5m, c5n, c5o⟩ := bad_is c5
 obtain ⟨c5p, c5q, _, _⟩ := may_is c5m
 obtain ⟨c5r, c5s, _, _⟩ := may_is c5n
 rw [c5] at hr12
 refine rGz [(0, yp tt), (4, yp n1), (5, yp n2), (12, xb false)] hs13 (zA 1 (qL 24 0 (.agg [vi a.1, vi a.2.1]) (On.at hs4 4 rfl)) (zA 2 (qL 24 0 (.agg [vi b.1, vi b.2.1]) (On.at hs4 5 rfl)) (zL 3 (qC3 hr12)))) fun H14 hs15 => ?_
 refine wFk ?_
 obtain ⟨q16, hq17⟩ : ∃ q, q = pairOf a b := ⟨_, rfl⟩
 obtain ⟨n18, hn18⟩ := lX H14
 refine rGz [(0, yp tt), (7, yp n18)] (On.put (.obj [vi q16.1.1, vi q16.1.2.1, vi q16.2.1.1, vi q16.2.1.2.1]) (On.new' hn18 (.obj [vi 0, vi 0, vi 0, vi 0]) hs15) 6 rfl) (zA 0 (qL 24 0 (.agg [vi a.1, vi a.2.1]) (On.at hs15 1 rfl)) (zA 1 (qL 24 0 (.agg [vi b.1, vi b.2.1]) (On.at hs15 2 rfl)) (zA 2 (qP2 H14 (paired_q a b q16 hq17 (by omega) (by omega) (by omega) (by omega))) (zA 3 (qO 67 [vi 0, vi 0, vi 0, vi 0] hn18) (zL 4 (qS 67 0 (.agg [vi q16.1.1, vi q16.1.2.1, vi q16.2.1.1, vi q16.2.1.2.1]) (On.at (On.new' hn18 (.obj [vi 0, vi 0, vi 0, vi 0]) hs15) 6 rfl))))))) fun H19 hs20 => ?_
 refine wS ?_
 rcases Bool.eq_false_or_eq_true ((memB PR q16 L)) with c21 | c21
 ·
  refine rSz [(0, yp tt), (7, yp n18), (22, xb true)] H19 (zA 3 (qL 58 0 (.one (.mp l)) (On.at hs20 3 rfl)) (zA 4 (qA 67 (On.at hs20 6 rfl)) (zL 5 (lk_hit (A := an) (H := H19) (id := l) (es := L) (x := q16) (On.at hs20 4 rfl) hL c21)))) ?_
  refine wTa ?_
  refine rs0 [(6, xi 0)] ?_
  refine wE ?_
  refine ⟨Or.inr rfl, [.one (vi 0)], (by kernel_rfl), ?_⟩
  have e1 : 0 = linkE L M a b := by unfold linkE; rw [← hq17]; simp only [c5, c21, Bool.not_true, Bool.not_false, Bool.and_true, Bool.and_false, Bool.true_and, Bool.false_and, if_true, if_false, Bool.false_eq_true]; first | done | rfl | (rw [if_pos (by omega)]) | (rw [if_neg (by omega)])
  have e2 : L = linkL L M a b := by unfold linkL; rw [← hq17]; simp only [c5, c21, Bool.not_true, Bool.not_false, Bool.and_true, Bool.and_false, Bool.true_and, Bool.false_and, if_true, if_false, Bool.false_eq_true]; first | done | rfl | (rw [if_pos (by omega)]) | (rw [if_neg (by omega)])
  exact ⟨congrArg (fun z : Int => [Y.one (vi z)]) e1, by rw [← e2]; exact (On.pick [0, 3, 4, 5] [1, 2, 6] (by kernel_rfl) hs20)⟩
 refine rSz [(0, yp tt), (7, yp n18), (22, xb false)] H19 (zA 3 (qL 58 0 (.one (.mp l)) (On.at hs20 3 rfl)) (zA 4 (qA 67 (On.at hs20 6 rfl)) (zL 5 (lk_miss (A := an) (H := H19) (id := l) (es := L) (x := q16) (On.at hs20 4 rfl) c21)))) ?_
 refine wFk ?_
 refine wS ?_
 rcases ile (1024) (((L.length : Int) + (M.length : Int))) with c23 | c23
 ·
  have hcall24 : Runs pg an 28 [.one (.ptr tt 0)] H19 [.one (vb true)] H19 := by
   refine runs_of ?_
   refine rOF Try.func28 rfl ?_
   refine rs0 [(0, yp tt)] ?_
   refine rSz [(2, xb true)] H19 (zA 3 (qL 58 0 (.one (.mp l)) (On.at hs20 3 rfl)) (zA 4 (lk_len (A := an) (H := H19) (id := l) (es := L) (On.at hs20 4 rfl) (ts := #[58]) rfl rfl) (zA 8 (qL 59 1 (.one (.mp mo)) (On.at hs20 3 rfl)) (zA 9 (mo_len (A := an) (H := H19) (id := mo) (ms := M) (On.at hs20 5 rfl) (ts := #[59]) rfl rfl) (zA 10 (qoAdd H19 (L.length : Int) (M.length : Int) ((L.length : Int) + (M.length : Int))) (zL 11 (qgeqT H19 ((L.length : Int) + (M.length : Int)) 1024))))))) ?_
   refine wE ?_
   exact ⟨Or.inr rfl, [.one (vb true)], (by kernel_rfl), ⟨rfl, rfl⟩⟩
  refine rSz [(0, yp tt), (7, yp n18), (24, xb true)] H19 (zL 1 (qC1 hcall24)) ?_
  refine wTa ?_
  refine rs0 [(6, xi 150)] ?_
  refine wE ?_
  refine ⟨Or.inr rfl, [.one (vi 150)], (by kernel_rfl), ?_⟩
  have e1 : 150 = linkE L M a b := by unfold linkE; rw [← hq17]; simp only [c5, c21, Bool.not_true, Bool.not_false, Bool.and_true, Bool.and_false, Bool.true_and, Bool.false_and, if_true, if_false, Bool.false_eq_true]; first | done | rfl | (rw [if_pos (by omega)]) | (rw [if_neg (by omega)])
  have e2 : L = linkL L M a b := by unfold linkL; rw [← hq17]; simp only [c5, c21, Bool.not_true, Bool.not_false, Bool.and_true, Bool.and_false, Bool.true_and, Bool.false_and, if_true, if_false, Bool.false_eq_true]; first | done | rfl | (rw [if_pos (by omega)]) | (rw [if_neg (by omega)])
  exact ⟨congrArg (fun z : Int => [Y.one (vi z)]) e1, by rw [← e2]; exact (On.pick [0, 3, 4, 5] [1, 2, 6] (by kernel_rfl) hs20)⟩
 have hcall25 : Runs pg an 28 [.one (.ptr tt 0)] H19 [.one (vb false)] H19 := by
  refine runs_of ?_
  refine rOF Try.func28 rfl ?_
  refine rs0 [(0, yp tt)] ?_
  refine rSz [(2, xb false)] H19 (zA 3 (qL 58 0 (.one (.mp l)) (On.at hs20 3 rfl)) (zA 4 (lk_len (A := an) (H := H19) (id := l) (es := L) (On.at hs20 4 rfl) (ts := #[58]) rfl rfl) (zA 8 (qL 59 1 (.one (.mp mo)) (On.at hs20 3 rfl)) (zA 9 (mo_len (A := an) (H := H19) (id := mo) (ms := M) (On.at hs20 5 rfl) (ts := #[59]) rfl rfl) (zA 10 (qoAdd H19 (L.length : Int) (M.length : Int) ((L.length : Int) + (M.length : Int))) (zL 11 (qgeqF H19 ((L.length : Int) + (M.length : Int)) 1024))))))) ?_
  refine wE ?_
  exact ⟨Or.inr rfl, [.one (vb false)], (by kernel_rfl), ⟨rfl, rfl⟩⟩
 refine rSz [(0, yp tt), (7, yp n18), (24, xb false)] H19 (zL 1 (qC1 hcall25)) ?_
 refine wFk ?_
 refine rGz [] (On.put (lnkO (lins L q16)) hs20 4 rfl) (zA 3 (qL 58 0 (.one (.mp l)) (On.at hs20 3 rfl)) (zA 4 (qA 67 (On.at hs20 6 rfl)) (zL 5 (lk_put (A := an) (H := H19) (id := l) (es := L) (x := q16) (On.at hs20 4 rfl) hL)))) fun H26 hs27 => ?_
 refine rs0 [(6, xi 0)] ?_
 refine wE ?_
 refine ⟨Or.inr rfl, [.one (vi 0)], (by kernel_rfl), ?_⟩
 have e1 : 0 = linkE L M a b := by unfold linkE; rw [← hq17]; simp only [c5, c21, Bool.not_true, Bool.not_false, Bool.and_true, Bool.and_false, Bool.true_and, Bool.false_and, if_true, if_false, Bool.false_eq_true]; first | done | rfl | (rw [if_pos (by omega)]) | (rw [if_neg (by omega)])
 have e2 : (lins L q16) = linkL L M a b := by unfold linkL; rw [← hq17]; simp only [c5, c21, Bool.not_true, Bool.not_false, Bool.and_true, Bool.and_false, Bool.true_and, Bool.false_and, if_true, if_false, Bool.false_eq_true]; first | done | rfl | (rw [if_pos (by omega)]) | (rw [if_neg (by omega)])
 exact ⟨congrArg (fun z : Int => [Y.one (vi z)]) e1, by rw [← e2]; exact (On.pick [0, 3, 4, 5] [1, 2, 6] (by kernel_rfl) hs27)⟩
theorem unlink_ok (R : HP) (H : HH) (tt l mo : Nat) (L : List PR.T) (M : List TI.T) (a b : PD.T) (hs : On [R, pts tt (.obj [.mp l, .mp mo]), pts l (lnkO L), pts mo (monO M)] H) (hT : okTies L M = true) : ∃ rs H', Runs pg an 11 [.one (.ptr tt 0), .agg [vi a.1, vi a.2.1], .agg [vi b.1, vi b.2.1]] H rs H' ∧ rs = [.one (vi (unlinkE L a b))] ∧ On [R, pts tt (.obj [.mp l, .mp mo]), pts l (lnkO (unlinkL L a b)), pts mo (monO M)] H' := by
 obtain ⟨hLo, hL, hU, nL, nM⟩ := okTies_is hT
 have hLM := okTies_sum hT
 refine rOF Try.func11 rfl ?_
 obtain ⟨n1, hn1⟩ := lX H
 obtain ⟨n2, hn2⟩ := lX (H ++ [.obj [vi a.1, vi a.2.1]])
 refine rGz [(0, yp tt), (4, yp n1), (5, yp n2)] (On.new' hn2 (.obj [vi b.1, vi b.2.1]) (On.new' hn1 (.obj [vi a.1, vi a.2.1]) hs)) (zA 0 (qB 24 [vi a.1, vi a.2.1] hn1) (zL 1 (qB 24 [vi b.1, vi b.2.1] hn2))) fun H3 hs4 => ?_
 refine wS ?_
 rcases Bool.eq_false_or_eq_true ((badP a b)) with c5 | c5
 ·
  obtain ⟨_, H6, hr7, rfl, hs8⟩ := two_ok _ (H3 : HH) tt l mo L M a b (On.call [1, 2, 3] [0, 4, 5] (by kernel_rfl) hs4)
  have hs8 : On [R, pts n1 (.obj [vi a.1, vi a.2.1]), pts n2 (.obj [vi b.1, vi b.2.1]), pts tt (.obj [.mp l, .mp mo]), pts l (lnkO L), pts mo (monO M)] H6 := On.flat hs8
  rw [c5] at hr7
  refine rGz [(0, yp tt), (4, yp n1), (5, yp n2), (12, xb true)] hs8 (zA 1 (qL 24 0 (.agg [vi a.1, vi a.2.1]) (On.at hs4 4 rfl)) (zA 2 (qL 24 0 (.agg [vi b.1, vi b.2.1]) (On.at hs4 5 rfl)) (zL 3 (qC3 hr7)))) fun H9 hs10 => ?_
  refine wTa ?_
  refine rs0 [(6, xi 1)] ?_
  refine wE ?_
  refine ⟨Or.inr rfl, [.one (vi 1)], (by kernel_rfl), ?_⟩
  have e1 : 1 = unlinkE L a b := by unfold unlinkE; simp only [c5, Bool.not_true, Bool.not_false, Bool.and_true, Bool.and_false, Bool.true_and, Bool.false_and, if_true, if_false, Bool.false_eq_true]; first | done | rfl | (rw [if_pos (by omega)]) | (rw [if_neg (by omega)])
  have e2 : L = unlinkL L a b := by unfold unlinkL; simp only [c5, Bool.not_true, Bool.not_false, Bool.and_true, Bool.and_false, Bool.true_and, Bool.false_and, if_true, if_false, Bool.false_eq_true]; first | done | rfl | (rw [if_pos (by omega)]) | (rw [if_neg (by omega)])
  exact ⟨congrArg (fun z : Int => [Y.one (vi z)]) e1, by rw [← e2]; exact (On.pick [0, 3, 4, 5] [1, 2] (by kernel_rfl) hs10)⟩
 obtain ⟨_, H11, hr12, rfl, hs13⟩ := two_ok _ (H3 : HH) tt l mo L M a b (On.call [1, 2, 3] [0, 4, 5] (by kernel_rfl) hs4)
 have hs13 : On [R, pts n1 (.obj [vi a.1, vi a.2.1]), pts n2 (.obj [vi b.1, vi b.2.1]), pts tt (.obj [.mp l, .mp mo]), pts l (lnkO L), pts mo (monO M)] H11 := On.flat hs13
 obtain ⟨c5m, c5n, c5o⟩ := bad_is c5
 obtain ⟨c5p, c5q, _, _⟩ := may_is c5m
 obtain ⟨c5r, c5s, _, _⟩ := may_is c5n
 rw [c5] at hr12
 refine rGz [(0, yp tt), (4, yp n1), (5, yp n2), (12, xb false)] hs13 (zA 1 (qL 24 0 (.agg [vi a.1, vi a.2.1]) (On.at hs4 4 rfl)) (zA 2 (qL 24 0 (.agg [vi b.1, vi b.2.1]) (On.at hs4 5 rfl)) (zL 3 (qC3 hr12)))) fun H14 hs15 => ?_
 refine wFk ?_
 obtain ⟨q16, hq17⟩ : ∃ q, q = pairOf a b := ⟨_, rfl⟩
 obtain ⟨n18, hn18⟩ := lX H14
 refine rGz [(0, yp tt), (7, yp n18)] (On.put (.obj [vi q16.1.1, vi q16.1.2.1, vi q16.2.1.1, vi q16.2.1.2.1]) (On.new' hn18 (.obj [vi 0, vi 0, vi 0, vi 0]) hs15) 6 rfl) (zA 0 (qL 24 0 (.agg [vi a.1, vi a.2.1]) (On.at hs15 1 rfl)) (zA 1 (qL 24 0 (.agg [vi b.1, vi b.2.1]) (On.at hs15 2 rfl)) (zA 2 (qP2 H14 (paired_q a b q16 hq17 (by omega) (by omega) (by omega) (by omega))) (zA 3 (qO 67 [vi 0, vi 0, vi 0, vi 0] hn18) (zL 4 (qS 67 0 (.agg [vi q16.1.1, vi q16.1.2.1, vi q16.2.1.1, vi q16.2.1.2.1]) (On.at (On.new' hn18 (.obj [vi 0, vi 0, vi 0, vi 0]) hs15) 6 rfl))))))) fun H19 hs20 => ?_
 refine wS ?_
 rcases Bool.eq_false_or_eq_true ((memB PR q16 L)) with c21 | c21
 ·
  refine rSz [(0, yp tt), (7, yp n18), (22, xb false)] H19 (zA 3 (qL 58 0 (.one (.mp l)) (On.at hs20 3 rfl)) (zA 4 (qA 67 (On.at hs20 6 rfl)) (zL 5 (lk_hit (A := an) (H := H19) (id := l) (es := L) (x := q16) (On.at hs20 4 rfl) hL c21)))) ?_
  refine wFk ?_
  refine rGz [] (On.put (lnkO (ldel L q16)) hs20 4 rfl) (zA 3 (qL 58 0 (.one (.mp l)) (On.at hs20 3 rfl)) (zA 4 (qA 67 (On.at hs20 6 rfl)) (zL 5 (lk_del (A := an) (H := H19) (id := l) (es := L) (x := q16) (On.at hs20 4 rfl) hL (ts := #[58, 67]) rfl)))) fun H22 hs23 => ?_
  refine rs0 [(6, xi 0)] ?_
  refine wE ?_
  refine ⟨Or.inr rfl, [.one (vi 0)], (by kernel_rfl), ?_⟩
  have e1 : 0 = unlinkE L a b := by unfold unlinkE; rw [← hq17]; simp only [c5, c21, Bool.not_true, Bool.not_false, Bool.and_true, Bool.and_false, Bool.true_and, Bool.false_and, if_true, if_false, Bool.false_eq_true]; first | done | rfl | (rw [if_pos (by omega)]) | (rw [if_neg (by omega)])
  have e2 : (ldel L q16) = unlinkL L a b := by unfold unlinkL; rw [← hq17]; simp only [c5, c21, Bool.not_true, Bool.not_false, Bool.and_true, Bool.and_false, Bool.true_and, Bool.false_and, if_true, if_false, Bool.false_eq_true]; first | done | rfl | (rw [if_pos (by omega)]) | (rw [if_neg (by omega)])
  exact ⟨congrArg (fun z : Int => [Y.one (vi z)]) e1, by rw [← e2]; exact (On.pick [0, 3, 4, 5] [1, 2, 6] (by kernel_rfl) hs23)⟩
 refine rSz [(0, yp tt), (7, yp n18), (22, xb true)] H19 (zA 3 (qL 58 0 (.one (.mp l)) (On.at hs20 3 rfl)) (zA 4 (qA 67 (On.at hs20 6 rfl)) (zL 5 (lk_miss (A := an) (H := H19) (id := l) (es := L) (x := q16) (On.at hs20 4 rfl) c21)))) ?_
 refine wTa ?_
 refine rs0 [(6, xi 3)] ?_
 refine wE ?_
 refine ⟨Or.inr rfl, [.one (vi 3)], (by kernel_rfl), ?_⟩
 have e1 : 3 = unlinkE L a b := by unfold unlinkE; rw [← hq17]; simp only [c5, c21, Bool.not_true, Bool.not_false, Bool.and_true, Bool.and_false, Bool.true_and, Bool.false_and, if_true, if_false, Bool.false_eq_true]; first | done | rfl | (rw [if_pos (by omega)]) | (rw [if_neg (by omega)])
 have e2 : L = unlinkL L a b := by unfold unlinkL; rw [← hq17]; simp only [c5, c21, Bool.not_true, Bool.not_false, Bool.and_true, Bool.and_false, Bool.true_and, Bool.false_and, if_true, if_false, Bool.false_eq_true]; first | done | rfl | (rw [if_pos (by omega)]) | (rw [if_neg (by omega)])
 exact ⟨congrArg (fun z : Int => [Y.one (vi z)]) e1, by rw [← e2]; exact (On.pick [0, 3, 4, 5] [1, 2, 6] (by kernel_rfl) hs20)⟩
end Go.Proofs.Ytjhgjbagmkiibaa.E
end
section
namespace Go.Proofs.Ytjhgjbagmkiibaa.E
open Go.Lg
set_option linter.unusedVariables false
set_option maxRecDepth 100000
set_option maxHeartbeats 8000000
set_option linter.unusedSimpArgs false
def monX (M : List TI.T) (r : Int) (a b : PD.T) : Bool := if mayP a = true then (if mayP b = true then (if 1 ≤ r then (if r ≤ 4611686018427387903 then keyB r M else true) else true) else true) else true
def monE (L : List PR.T) (M : List TI.T) (r : Int) (a b : PD.T) : Int := if monX M r a b = true then 1 else if (1024 : Int) ≤ (L.length : Int) + (M.length : Int) then 150 else 0
def monM (L : List PR.T) (M : List TI.T) (r : Int) (a b : PD.T) : List TI.T := if monX M r a b = true then M else if (1024 : Int) ≤ (L.length : Int) + (M.length : Int) then M else mins M r (a, (b, ()))
def demE (M : List TI.T) (r : Int) : Int := if keyB r M = true then 0 else 3
def demM (M : List TI.T) (r : Int) : List TI.T := if keyB r M = true then mdel M r else M
def watOf (M : List TI.T) (a : PD.T) : List TT5.T := (isort ltI (refOf (q37 a) M)).map (toldOf M)
theorem monitor_ok (R : HP) (H : HH) (tt l mo : Nat) (L : List PR.T) (M : List TI.T) (r : Int) (a b : PD.T) (hs : On [R, pts tt (.obj [.mp l, .mp mo]), pts l (lnkO L), pts mo (monO M)] H) (hT : okTies L M = true) : ∃ rs H', Runs pg an 12 [.one (.ptr tt 0), .one (vi r), .agg [vi a.1, vi a.2.1], .agg [vi b.1, vi b.2.1]] H rs H' ∧ rs = [.one (vi (monE L M r a b))] ∧ On [R, pts tt (.obj [.mp l, .mp mo]), pts l (lnkO L), pts mo (monO (monM L M r a b))] H' := by
 obtain ⟨hLo, hL, hU, nL, nM⟩ := okTies_is hT
 have hLM := okTies_sum hT
 refine rOF Try.func12 rfl ?_
 obtain ⟨n1, hn1⟩ := lX H
 obtain ⟨n2, hn2⟩ := lX (H ++ [.obj [vi a.1, vi a.2.1]])
 refine rGz [(0, yp tt), (1, xi r), (6, yp n1), (7, yp n2)] (On.new' hn2 (.obj [vi b.1, vi b.2.1]) (On.new' hn1 (.obj [vi a.1, vi a.2.1]) hs)) (zA 0 (qB 24 [vi a.1, vi a.2.1] hn1) (zL 1 (qB 24 [vi b.1, vi b.2.1] hn2))) fun H3 hs4 => ?_
 refine wS ?_
 rcases Bool.eq_false_or_eq_true ((mayP a)) with c6 | c6
 ·
  obtain ⟨c6p, c6q, c6r, c6s⟩ := may_is c6
  rcases Bool.eq_false_or_eq_true ((mayP b)) with c9 | c9
  ·
   obtain ⟨c9p, c9q, c9r, c9s⟩ := may_is c9
   rcases ilt (r) (1) with c12 | c12
   ·
    have hcall13 : Runs pg an 29 [.one (.ptr tt 0)] H3 [.one (vb true)] H3 := by
     refine runs_of ?_
     refine rOF Try.func29 rfl ?_
     refine rs0 [(0, yp tt)] ?_
     refine rSz [(2, xb true)] H3 (zL 6 (qL 58 0 (.one (.mp l)) (On.at hs4 1 rfl))) ?_
     refine wE ?_
     exact ⟨Or.inr rfl, [.one (vb true)], (by kernel_rfl), ⟨rfl, rfl⟩⟩
    refine rSz [(0, yp tt), (1, xi r), (6, yp n1), (7, yp n2), (31, xb true)] H3 (zA 1 (qC1 hcall13) (zA 4 (qL 24 0 (.agg [vi a.1, vi a.2.1]) (On.at hs4 4 rfl)) (zA 5 (Jc (H := H3) (g := 32) (x := .agg [vi a.1, vi a.2.1]) (res := [.one (vb true)]) (by have h9 := may_ok a; rw [c6] at h9; exact h9) (by kernel_rfl) (by kernel_rfl)) (zA 9 (qL 24 0 (.agg [vi b.1, vi b.2.1]) (On.at hs4 5 rfl)) (zA 10 (Jc (H := H3) (g := 32) (x := .agg [vi b.1, vi b.2.1]) (res := [.one (vb true)]) (by have h9 := may_ok b; rw [c9] at h9; exact h9) (by kernel_rfl) (by kernel_rfl)) (zL 15 (qlssT H3 r 1))))))) ?_
    refine wTa ?_
    refine rs0 [(8, xi 1)] ?_
    refine wE ?_
    refine ⟨Or.inr rfl, [.one (vi 1)], (by kernel_rfl), ?_⟩
    have g0 : ¬ ((1 : Int) ≤ r) := by omega
    have g1 : r ≤ (4611686018427387903 : Int) := by omega
    have e1 : 1 = monE L M r a b := by unfold monE monX; simp only [c6, c9, g0, g1, if_true, if_false, Bool.false_eq_true]
    have e2 : M = monM L M r a b := by unfold monM monX; simp only [c6, c9, g0, g1, if_true, if_false, Bool.false_eq_true]
    exact ⟨congrArg (fun z : Int => [Y.one (vi z)]) e1, by rw [← e2]; exact (On.pick [0, 1, 2, 3] [4, 5] (by kernel_rfl) hs4)⟩
   rcases ilt (4611686018427387903) (r) with c15 | c15
   ·
    have hcall16 : Runs pg an 29 [.one (.ptr tt 0)] H3 [.one (vb true)] H3 := by
     refine runs_of ?_
     refine rOF Try.func29 rfl ?_
     refine rs0 [(0, yp tt)] ?_
     refine rSz [(2, xb true)] H3 (zL 6 (qL 58 0 (.one (.mp l)) (On.at hs4 1 rfl))) ?_
     refine wE ?_
     exact ⟨Or.inr rfl, [.one (vb true)], (by kernel_rfl), ⟨rfl, rfl⟩⟩
    refine rSz [(0, yp tt), (1, xi r), (6, yp n1), (7, yp n2), (31, xb true)] H3 (zA 1 (qC1 hcall16) (zA 4 (qL 24 0 (.agg [vi a.1, vi a.2.1]) (On.at hs4 4 rfl)) (zA 5 (Jc (H := H3) (g := 32) (x := .agg [vi a.1, vi a.2.1]) (res := [.one (vb true)]) (by have h9 := may_ok a; rw [c6] at h9; exact h9) (by kernel_rfl) (by kernel_rfl)) (zA 9 (qL 24 0 (.agg [vi b.1, vi b.2.1]) (On.at hs4 5 rfl)) (zA 10 (Jc (H := H3) (g := 32) (x := .agg [vi b.1, vi b.2.1]) (res := [.one (vb true)]) (by have h9 := may_ok b; rw [c9] at h9; exact h9) (by kernel_rfl) (by kernel_rfl)) (zA 15 (qlssF H3 r 1) (zL 19 (qgtrT H3 r 4611686018427387903)))))))) ?_
    refine wTa ?_
    refine rs0 [(8, xi 1)] ?_
    refine wE ?_
    refine ⟨Or.inr rfl, [.one (vi 1)], (by kernel_rfl), ?_⟩
    have g0 : (1 : Int) ≤ r := by omega
    have g1 : ¬ (r ≤ (4611686018427387903 : Int)) := by omega
    have e1 : 1 = monE L M r a b := by unfold monE monX; simp only [c6, c9, g0, g1, if_true, if_false, Bool.false_eq_true]
    have e2 : M = monM L M r a b := by unfold monM monX; simp only [c6, c9, g0, g1, if_true, if_false, Bool.false_eq_true]
    exact ⟨congrArg (fun z : Int => [Y.one (vi z)]) e1, by rw [← e2]; exact (On.pick [0, 1, 2, 3] [4, 5] (by kernel_rfl) hs4)⟩
   have hcall17 : Runs pg an 29 [.one (.ptr tt 0)] H3 [.one (vb true)] H3 := by
    refine runs_of ?_
    refine rOF Try.func29 rfl ?_
    refine rs0 [(0, yp tt)] ?_
    refine rSz [(2, xb true)] H3 (zL 6 (qL 58 0 (.one (.mp l)) (On.at hs4 1 rfl))) ?_
    refine wE ?_
    exact ⟨Or.inr rfl, [.one (vb true)], (by kernel_rfl), ⟨rfl, rfl⟩⟩
   refine rSz [(0, yp tt), (1, xi r), (6, yp n1), (7, yp n2), (31, xb false)] H3 (zA 1 (qC1 hcall17) (zA 4 (qL 24 0 (.agg [vi a.1, vi a.2.1]) (On.at hs4 4 rfl)) (zA 5 (Jc (H := H3) (g := 32) (x := .agg [vi a.1, vi a.2.1]) (res := [.one (vb true)]) (by have h9 := may_ok a; rw [c6] at h9; exact h9) (by kernel_rfl) (by kernel_rfl)) (zA 9 (qL 24 0 (.agg [vi b.1, vi b.2.1]) (On.at hs4 5 rfl)) (zA 10 (Jc (H := H3) (g := 32) (x := .agg [vi b.1, vi b.2.1]) (res := [.one (vb true)]) (by have h9 := may_ok b; rw [c9] at h9; exact h9) (by kernel_rfl) (by kernel_rfl)) (zA 15 (qlssF H3 r 1) (zL 19 (qgtrF H3 r 4611686018427387903)))))))) ?_
   refine wFk ?_
   refine wS ?_
   rcases Bool.eq_false_or_eq_true ((keyB r M)) with c18 | c18
   ·
    obtain ⟨w19, hw20, hm21⟩ := mkey (ms := M) (r := r) hU c18
    obtain ⟨n22, hn22⟩ := lX H3
    refine rGz [(0, yp tt), (1, xi r), (6, yp n1), (7, yp n2), (10, xb true)] (On.put (.obj [vi w19.1.1, vi w19.1.2.1, vi w19.2.1.1, vi w19.2.1.2.1]) (On.new' hn22 (.obj [vi 0, vi 0, vi 0, vi 0]) hs4) 6 rfl) (zA 3 (qL 59 1 (.one (.mp mo)) (On.at hs4 1 rfl)) (zA 5 (mo_hit2 (A := an) (H := H3) (id := mo) (ms := M) (r := r) (w := w19) (On.at hs4 3 rfl) hw20) (zA 9 (qO 72 [vi 0, vi 0, vi 0, vi 0] hn22) (zL 10 (qS 72 0 (.agg [vi w19.1.1, vi w19.1.2.1, vi w19.2.1.1, vi w19.2.1.2.1]) (On.at (On.new' hn22 (.obj [vi 0, vi 0, vi 0, vi 0]) hs4) 6 rfl)))))) fun H23 hs24 => ?_
    refine rs0 [(0, yp tt), (1, xi r), (6, yp n1), (7, yp n2), (41, xb true)] ?_
    refine wTa ?_
    refine rs0 [(8, xi 1)] ?_
    refine wE ?_
    refine ⟨Or.inr rfl, [.one (vi 1)], (by kernel_rfl), ?_⟩
    have g0 : (1 : Int) ≤ r := by omega
    have g1 : r ≤ (4611686018427387903 : Int) := by omega
    have e1 : 1 = monE L M r a b := by unfold monE monX; simp only [c6, c9, c18, g0, g1, if_true, if_false, Bool.false_eq_true]
    have e2 : M = monM L M r a b := by unfold monM monX; simp only [c6, c9, c18, g0, g1, if_true, if_false, Bool.false_eq_true]
    exact ⟨congrArg (fun z : Int => [Y.one (vi z)]) e1, by rw [← e2]; exact (On.pick [0, 1, 2, 3] [4, 5, 6] (by kernel_rfl) hs24)⟩
   obtain ⟨n25, hn25⟩ := lX H3
   refine rGz [(0, yp tt), (1, xi r), (6, yp n1), (7, yp n2), (10, xb false)] (On.put (.obj [vi 0, vi 0, vi 0, vi 0]) (On.new' hn25 (.obj [vi 0, vi 0, vi 0, vi 0]) hs4) 6 rfl) (zA 3 (qL 59 1 (.one (.mp mo)) (On.at hs4 1 rfl)) (zA 5 (mo_miss2 (A := an) (H := H3) (id := mo) (ms := M) (r := r) (On.at hs4 3 rfl) c18) (zA 9 (qO 72 [vi 0, vi 0, vi 0, vi 0] hn25) (zL 10 (qS 72 0 (.agg [vi 0, vi 0, vi 0, vi 0]) (On.at (On.new' hn25 (.obj [vi 0, vi 0, vi 0, vi 0]) hs4) 6 rfl)))))) fun H26 hs27 => ?_
   refine rs0 [(0, yp tt), (1, xi r), (6, yp n1), (7, yp n2), (41, xb false)] ?_
   refine wFk ?_
   refine wS ?_
   rcases ile (1024) (((L.length : Int) + (M.length : Int))) with c29 | c29
   ·
    have hcall30 : Runs pg an 28 [.one (.ptr tt 0)] H26 [.one (vb true)] H26 := by
     refine runs_of ?_
     refine rOF Try.func28 rfl ?_
     refine rs0 [(0, yp tt)] ?_
     refine rSz [(2, xb true)] H26 (zA 3 (qL 58 0 (.one (.mp l)) (On.at hs27 1 rfl)) (zA 4 (lk_len (A := an) (H := H26) (id := l) (es := L) (On.at hs27 2 rfl) (ts := #[58]) rfl rfl) (zA 8 (qL 59 1 (.one (.mp mo)) (On.at hs27 1 rfl)) (zA 9 (mo_len (A := an) (H := H26) (id := mo) (ms := M) (On.at hs27 3 rfl) (ts := #[59]) rfl rfl) (zA 10 (qoAdd H26 (L.length : Int) (M.length : Int) ((L.length : Int) + (M.length : Int))) (zL 11 (qgeqT H26 ((L.length : Int) + (M.length : Int)) 1024))))))) ?_
     refine wE ?_
     exact ⟨Or.inr rfl, [.one (vb true)], (by kernel_rfl), ⟨rfl, rfl⟩⟩
    refine rSz [(0, yp tt), (1, xi r), (6, yp n1), (7, yp n2), (43, xb true)] H26 (zL 1 (qC1 hcall30)) ?_
    refine wTa ?_
    refine rs0 [(8, xi 150)] ?_
    refine wE ?_
    refine ⟨Or.inr rfl, [.one (vi 150)], (by kernel_rfl), ?_⟩
    have g0 : (1 : Int) ≤ r := by omega
    have g1 : r ≤ (4611686018427387903 : Int) := by omega
    have g2 : (1024 : Int) ≤ (L.length : Int) + (M.length : Int) := by omega
    have e1 : 150 = monE L M r a b := by unfold monE monX; simp only [c6, c9, c18, g0, g1, g2, if_true, if_false, Bool.false_eq_true]
    have e2 : M = monM L M r a b := by unfold monM monX; simp only [c6, c9, c18, g0, g1, g2, if_true, if_false, Bool.false_eq_true]
    exact ⟨congrArg (fun z : Int => [Y.one (vi z)]) e1, by rw [← e2]; exact (On.pick [0, 1, 2, 3] [4, 5, 6] (by kernel_rfl) hs27)⟩
   have hcall31 : Runs pg an 28 [.one (.ptr tt 0)] H26 [.one (vb false)] H26 := by
    refine runs_of ?_
    refine rOF Try.func28 rfl ?_
    refine rs0 [(0, yp tt)] ?_
    refine rSz [(2, xb false)] H26 (zA 3 (qL 58 0 (.one (.mp l)) (On.at hs27 1 rfl)) (zA 4 (lk_len (A := an) (H := H26) (id := l) (es := L) (On.at hs27 2 rfl) (ts := #[58]) rfl rfl) (zA 8 (qL 59 1 (.one (.mp mo)) (On.at hs27 1 rfl)) (zA 9 (mo_len (A := an) (H := H26) (id := mo) (ms := M) (On.at hs27 3 rfl) (ts := #[59]) rfl rfl) (zA 10 (qoAdd H26 (L.length : Int) (M.length : Int) ((L.length : Int) + (M.length : Int))) (zL 11 (qgeqF H26 ((L.length : Int) + (M.length : Int)) 1024))))))) ?_
    refine wE ?_
    exact ⟨Or.inr rfl, [.one (vb false)], (by kernel_rfl), ⟨rfl, rfl⟩⟩
   refine rSz [(0, yp tt), (1, xi r), (6, yp n1), (7, yp n2), (43, xb false)] H26 (zL 1 (qC1 hcall31)) ?_
   refine wFk ?_
   refine rGz [] (On.put (monO (mins M r (a, (b, ())))) hs27 3 rfl) (zA 3 (qL 59 1 (.one (.mp mo)) (On.at hs27 1 rfl)) (zA 5 (qL 24 0 (.agg [vi a.1, vi a.2.1]) (On.at hs27 4 rfl)) (zA 6 (qL 24 0 (.agg [vi b.1, vi b.2.1]) (On.at hs27 5 rfl)) (zL 8 (mo_put (A := an) (H := H26) (id := mo) (ms := M) (r := r) (w := (a, (b, ()))) (On.at hs27 3 rfl) hU))))) fun H32 hs33 => ?_
   refine rs0 [(8, xi 0)] ?_
   refine wE ?_
   refine ⟨Or.inr rfl, [.one (vi 0)], (by kernel_rfl), ?_⟩
   have g0 : (1 : Int) ≤ r := by omega
   have g1 : r ≤ (4611686018427387903 : Int) := by omega
   have g2 : ¬ ((1024 : Int) ≤ (L.length : Int) + (M.length : Int)) := by omega
   have e1 : 0 = monE L M r a b := by unfold monE monX; simp only [c6, c9, c18, g0, g1, g2, if_true, if_false, Bool.false_eq_true]
   have e2 : (mins M r (a, (b, ()))) = monM L M r a b := by unfold monM monX; simp only [c6, c9, c18, g0, g1, g2, if_true, if_false, Bool.false_eq_true]
   exact ⟨congrArg (fun z : Int => [Y.one (vi z)]) e1, by rw [← e2]; exact (On.pick [0, 1, 2, 3] [4, 5, 6] (by kernel_rfl) hs33)⟩
  have hcall34 : Runs pg an 29 [.one (.ptr tt 0)] H3 [.one (vb true)] H3 := by
   refine runs_of ?_
   refine rOF Try.func29 rfl ?_
   refine rs0 [(0, yp tt)] ?_
   refine rSz [(2, xb true)] H3 (zL 6 (qL 58 0 (.one (.mp l)) (On.at hs4 1 rfl))) ?_
   refine wE ?_
   exact ⟨Or.inr rfl, [.one (vb true)], (by kernel_rfl), ⟨rfl, rfl⟩⟩
  refine rSz [(0, yp tt), (1, xi r), (6, yp n1), (7, yp n2), (31, xb true)] H3 (zA 1 (qC1 hcall34) (zA 4 (qL 24 0 (.agg [vi a.1, vi a.2.1]) (On.at hs4 4 rfl)) (zA 5 (Jc (H := H3) (g := 32) (x := .agg [vi a.1, vi a.2.1]) (res := [.one (vb true)]) (by have h9 := may_ok a; rw [c6] at h9; exact h9) (by kernel_rfl) (by kernel_rfl)) (zA 9 (qL 24 0 (.agg [vi b.1, vi b.2.1]) (On.at hs4 5 rfl)) (zL 10 (Jc (H := H3) (g := 32) (x := .agg [vi b.1, vi b.2.1]) (res := [.one (vb false)]) (by have h9 := may_ok b; rw [c9] at h9; exact h9) (by kernel_rfl) (by kernel_rfl))))))) ?_
  refine wTa ?_
  refine rs0 [(8, xi 1)] ?_
  refine wE ?_
  refine ⟨Or.inr rfl, [.one (vi 1)], (by kernel_rfl), ?_⟩
  have e1 : 1 = monE L M r a b := by unfold monE monX; simp only [c6, c9, if_true, if_false, Bool.false_eq_true]
  have e2 : M = monM L M r a b := by unfold monM monX; simp only [c6, c9, if_true, if_false, Bool.false_eq_true]
  exact ⟨congrArg (fun z : Int => [Y.one (vi z)]) e1, by rw [← e2]; exact (On.pick [0, 1, 2, 3] [4, 5] (by kernel_rfl) hs4)⟩
 have hcall35 : Runs pg an 29 [.one (.ptr tt 0)] H3 [.one (vb true)] H3 := by
  refine runs_of ?_
  refine rOF Try.func29 rfl ?_
  refine rs0 [(0, yp tt)] ?_
  refine rSz [(2, xb true)] H3 (zL 6 (qL 58 0 (.one (.mp l)) (On.at hs4 1 rfl))) ?_
  refine wE ?_
  exact ⟨Or.inr rfl, [.one (vb true)], (by kernel_rfl), ⟨rfl, rfl⟩⟩
 refine rSz [(0, yp tt), (1, xi r), (6, yp n1), (7, yp n2), (31, xb true)] H3 (zA 1 (qC1 hcall35) (zA 4 (qL 24 0 (.agg [vi a.1, vi a.2.1]) (On.at hs4 4 rfl)) (zL 5 (Jc (H := H3) (g := 32) (x := .agg [vi a.1, vi a.2.1]) (res := [.one (vb false)]) (by have h9 := may_ok a; rw [c6] at h9; exact h9) (by kernel_rfl) (by kernel_rfl))))) ?_
 refine wTa ?_
 refine rs0 [(8, xi 1)] ?_
 refine wE ?_
 refine ⟨Or.inr rfl, [.one (vi 1)], (by kernel_rfl), ?_⟩
 have e1 : 1 = monE L M r a b := by unfold monE monX; simp only [c6, if_true, if_false, Bool.false_eq_true]
 have e2 : M = monM L M r a b := by unfold monM monX; simp only [c6, if_true, if_false, Bool.false_eq_true]
 exact ⟨congrArg (fun z : Int => [Y.one (vi z)]) e1, by rw [← e2]; exact (On.pick [0, 1, 2, 3] [4, 5] (by kernel_rfl) hs4)⟩
theorem demon_ok (R : HP) (H : HH) (tt l mo : Nat) (L : List PR.T) (M : List TI.T) (r : Int) (hs : On [R, pts tt (.obj [.mp l, .mp mo]), pts l (lnkO L), pts mo (monO M)] H) (hT : okTies L M = true) : ∃ rs H', Runs pg an 25 [.one (.ptr tt 0), .one (vi r)] H rs H' ∧ rs = [.one (vi (demE M r))] ∧ On [R, pts tt (.obj [.mp l, .mp mo]), pts l (lnkO L), pts mo (monO (demM M r))] H' := by
 obtain ⟨hLo, hL, hU, nL, nM⟩ := okTies_is hT
 have hLM := okTies_sum hT
 refine rOF Try.func25 rfl ?_
 refine rs0 [(0, yp tt), (1, xi r)] ?_
 refine wS ?_
 have hcall1 : Runs pg an 29 [.one (.ptr tt 0)] H [.one (vb true)] H := by
  refine runs_of ?_
  refine rOF Try.func29 rfl ?_
  refine rs0 [(0, yp tt)] ?_
  refine rSz [(2, xb true)] H (zL 6 (qL 58 0 (.one (.mp l)) (On.at hs 1 rfl))) ?_
  refine wE ?_
  exact ⟨Or.inr rfl, [.one (vb true)], (by kernel_rfl), ⟨rfl, rfl⟩⟩
 refine rSz [(0, yp tt), (1, xi r), (9, xb false)] H (zL 1 (qC1 hcall1)) ?_
 refine wFk ?_
 refine wS ?_
 rcases Bool.eq_false_or_eq_true ((keyB r M)) with c2 | c2
 ·
  obtain ⟨w3, hw4, hm5⟩ := mkey (ms := M) (r := r) hU c2
  obtain ⟨n6, hn6⟩ := lX H
  refine rGz [(0, yp tt), (1, xi r), (6, xb true)] (On.put (.obj [vi w3.1.1, vi w3.1.2.1, vi w3.2.1.1, vi w3.2.1.2.1]) (On.new' hn6 (.obj [vi 0, vi 0, vi 0, vi 0]) hs) 4 rfl) (zA 3 (qL 59 1 (.one (.mp mo)) (On.at hs 1 rfl)) (zA 5 (mo_hit2 (A := an) (H := H) (id := mo) (ms := M) (r := r) (w := w3) (On.at hs 3 rfl) hw4) (zA 9 (qO 72 [vi 0, vi 0, vi 0, vi 0] hn6) (zL 10 (qS 72 0 (.agg [vi w3.1.1, vi w3.1.2.1, vi w3.2.1.1, vi w3.2.1.2.1]) (On.at (On.new' hn6 (.obj [vi 0, vi 0, vi 0, vi 0]) hs) 4 rfl)))))) fun H7 hs8 => ?_
  refine rs0 [(0, yp tt), (1, xi r), (20, xb false)] ?_
  refine wFk ?_
  refine rGz [] (On.put (monO (mdel M r)) hs8 3 rfl) (zA 3 (qL 59 1 (.one (.mp mo)) (On.at hs8 1 rfl)) (zL 5 (mo_del (A := an) (H := H7) (id := mo) (ms := M) (r := r) (On.at hs8 3 rfl) hU (ts := #[59, 3]) rfl))) fun H9 hs10 => ?_
  refine rs0 [(4, xi 0)] ?_
  refine wE ?_
  refine ⟨Or.inr rfl, [.one (vi 0)], (by kernel_rfl), ?_⟩
  have e1 : 0 = demE M r := by unfold demE; simp only [c2, if_true, if_false, Bool.false_eq_true]
  have e2 : (mdel M r) = demM M r := by unfold demM; simp only [c2, if_true, if_false, Bool.false_eq_true]
  exact ⟨congrArg (fun z : Int => [Y.one (vi z)]) e1, by rw [← e2]; exact (On.pick [0, 1, 2, 3] [4] (by kernel_rfl) hs10)⟩
 obtain ⟨n11, hn11⟩ := lX H
 refine rGz [(0, yp tt), (1, xi r), (6, xb false)] (On.put (.obj [vi 0, vi 0, vi 0, vi 0]) (On.new' hn11 (.obj [vi 0, vi 0, vi 0, vi 0]) hs) 4 rfl) (zA 3 (qL 59 1 (.one (.mp mo)) (On.at hs 1 rfl)) (zA 5 (mo_miss2 (A := an) (H := H) (id := mo) (ms := M) (r := r) (On.at hs 3 rfl) c2) (zA 9 (qO 72 [vi 0, vi 0, vi 0, vi 0] hn11) (zL 10 (qS 72 0 (.agg [vi 0, vi 0, vi 0, vi 0]) (On.at (On.new' hn11 (.obj [vi 0, vi 0, vi 0, vi 0]) hs) 4 rfl)))))) fun H12 hs13 => ?_
 refine rs0 [(0, yp tt), (1, xi r), (20, xb true)] ?_
 refine wTa ?_
 refine rs0 [(4, xi 3)] ?_
 refine wE ?_
 refine ⟨Or.inr rfl, [.one (vi 3)], (by kernel_rfl), ?_⟩
 have e1 : 3 = demE M r := by unfold demE; simp only [c2, if_true, if_false, Bool.false_eq_true]
 have e2 : M = demM M r := by unfold demM; simp only [c2, if_true, if_false, Bool.false_eq_true]
 exact ⟨congrArg (fun z : Int => [Y.one (vi z)]) e1, by rw [← e2]; exact (On.pick [0, 1, 2, 3] [4] (by kernel_rfl) hs13)⟩
theorem new_ok (R : HP) (H : HH) (hs : On [R] H) : ∃ rs H', Runs pg an 7 [] H rs H' ∧ ∃ n1 n2 n3, rs = [.one (.ptr n3 0)] ∧ On [R, pts n1 (lnkO []), pts n2 (monO []), pts n3 (.obj [.mp n1, .mp n2])] H' := by
 refine rOF Try.func7 rfl ?_
 refine rs0 [] ?_
 obtain ⟨n1, hn1⟩ := lX H
 obtain ⟨n2, hn2⟩ := lX (H ++ [lnkO ([] : List PR.T)])
 obtain ⟨n3, hn3⟩ := lX ((H ++ [lnkO ([] : List PR.T)]) ++ [monO ([] : List TI.T)])
 refine rGz [(0, yp n3)] (On.new' hn3 (.obj [.mp n1, .mp n2]) (On.new' hn2 (monO ([] : List TI.T)) (On.new' hn1 (lnkO ([] : List PR.T)) hs))) (zA 0 (Jr (H := H) (t := 58) (ty := 0) (n := n1) hn1 (by kernel_rfl) rfl) (zA 1 (Jr (H := (H ++ [lnkO ([] : List PR.T)])) (t := 59) (ty := 0) (n := n2) hn2 (by kernel_rfl) rfl) (zL 3 (qB 61 [.mp n1, .mp n2] hn3)))) fun H4 hs5 => ?_
 refine wE ?_
 refine ⟨Or.inr rfl, [.one (.ptr n3 0)], (by kernel_rfl), ?_⟩
 exact ⟨n1, n2, n3, rfl, (On.pick [0, 1, 2, 3] [] (by kernel_rfl) hs5)⟩
theorem told_ok (R : HP) (H : HH) (tt l mo : Nat) (M : List TI.T) (c : C) (refs : List Int) (hs : On [R, pts tt (.obj [.mp l, .mp mo]), pts mo (monO M), ownP NI c refs] H) (hk : ∀ r ∈ refs, keyB r M = true) (hU : Uniq M) (hn : refs.length ≤ 3518437208883) : ∃ rs H', Runs pg an 33 [.one (.ptr tt 0), .one (c)] H rs H' ∧ ∃ c2, rs = [.one c2] ∧ On [R, pts tt (.obj [.mp l, .mp mo]), pts mo (monO M), ownP NI c refs, ownP TT5 c2 (refs.map (toldOf M))] H' := by
 refine rOF Try.func33 rfl ?_
 refine rs0 [(0, yp tt), (1, .y (.one (c)))] ?_
 refine rs0 [(0, yp tt), (1, .y (.one (c))), (5, .y (.one (nilC)))] ?_
 refine wS ?_
 obtain ⟨rfl, hl3, hs1⟩ | ⟨k4, rfl, k4z, hs2⟩ := own_open hs 3 rfl
 ·
  have hl3n : (refs.length : Int) = 0 := by rw [hl3]; rfl
  refine rs0 [(0, yp tt), (5, .y (.one (nilC))), (9, .y (.one (nilC))), (10, xi 0), (11, xi 0)] ?_
  refine wB ?_
  refine Wp.loopU [(0, yp tt), (5, .y (.one (nilC))), (9, .y (.one (nilC))), (10, xi 0), (11, xi 0)] (some ([0, 5, 9, 10, 11], false)) (List.length H) (by kernel_rfl) ?_
  refine WpL.step ?_
  refine rs0 [(0, yp tt), (5, .y (.one (nilC))), (9, .y (.one (nilC))), (10, xi 0), (11, xi 0), (12, xb false)] ?_
  refine wS ?_
  refine wFa ?_
  refine wX ?_
  refine Eq.mpr (if_pos rfl) ?_
  refine rs0 [(4, .y (.one (nilC)))] ?_
  refine wE ?_
  refine ⟨Or.inr rfl, [.one (nilC)], (by kernel_rfl), ?_⟩
  have hs5 : On [R, pts tt (.obj [.mp l, .mp mo]), pts mo (monO M), ownP NI (nilC) refs] H := sH hs1 [] [0, 1, 2] (fun _ _ => by rw [show refs = ([] : List Int) from hl3]; exact .inl ⟨rfl, rfl⟩)
  have hs6 : On [R, pts tt (.obj [.mp l, .mp mo]), pts mo (monO M), ownP NI (nilC) refs, ownP TT5 ((nilC)) (refs.map (toldOf M))] H := sH hs5 [] [0, 1, 2, 3] (fun _ _ => by rw [show (refs.map (toldOf M)) = ([] : List TT5.T) from by rw [hl3]; rfl]; exact .inl ⟨rfl, rfl⟩)
  exact ⟨((nilC)), rfl, (On.pick [0, 1, 2, 3, 4] [] (by kernel_rfl) hs6)⟩
 refine rSz [(0, yp tt), (5, .y (.one (nilC))), (9, .y (.one (rff k4 refs))), (10, xi (refs.length : Int)), (11, xi 0)] H (zL 1 (Jf (H := H) (s := NI) (t := 75) (ty := 0) (pu := true) (capd := false) (id := k4) (d := 0) (o := 0) (n := refs.length) (l := refs) (e := (refs.length : Int)) (On.at hs2 3 rfl) (by kernel_rfl) (by first | rfl | omega | (simp only [ek_]; omega) | (simp; done) | (simp; omega)))) ?_
 refine wB ?_
 have hs7 : On [R, pts tt (.obj [.mp l, .mp mo]), pts mo (monO M), pts k4 (rowO NI true 0 refs), ownP TT5 (nilC) ((refs.take (0 : Int).toNat).map (toldOf M))] H := sH hs2 [] [0, 1, 2, 3] (fun _ _ => by rw [show ((refs.take (0 : Int).toNat).map (toldOf M)) = ([] : List TT5.T) from rfl]; exact .inl ⟨rfl, rfl⟩)
 refine Wp.loop (T := HH × Int × C) (fun t => match t with | (H9, i, cv) => (((refs.length : Int) - i).toNat : Nat)) (fun t => match t with | (H9, i, cv) => ([(0, yp tt), (5, .y (.one (cv))), (9, .y (.one (rff k4 refs))), (10, xi (refs.length : Int)), (11, xi i)] : Env)) (fun t => match t with | (H9, i, cv) => (H9 : HH))
   (fun t => match t with | (H9, i, cv) => (On [R, pts tt (.obj [.mp l, .mp mo]), pts mo (monO M), pts k4 (rowO NI true 0 refs), ownP TT5 cv ((refs.take (i : Int).toNat).map (toldOf M))] H9 ∧ (0 ≤ i) ∧ (i ≤ (refs.length : Int)) ∧ ((((refs.take (i : Int).toNat).map (toldOf M)).length : Int) = i) : Prop)) (H, 0, (nilC)) (by kernel_rfl) (⟨(On.pick [0, 1, 2, 3, 4] [] (by kernel_rfl) hs7), by omega, by omega, by simp⟩) ?_
 rintro ⟨H9, i, cv⟩ ⟨hs10, h1, h2, h3⟩
 show Wp _ _ _ _ [(0, yp tt), (5, .y (.one (cv))), (9, .y (.one (rff k4 refs))), (10, xi (refs.length : Int)), (11, xi i)] H9 _
 rcases ilt (i) ((refs.length : Int)) with c11 | c11
 ·
  refine rSz [(0, yp tt), (5, .y (.one (cv))), (9, .y (.one (rff k4 refs))), (10, xi (refs.length : Int)), (11, xi i), (12, xb true)] H9 (zL 0 (qlssT H9 i (refs.length : Int))) ?_
  refine wS (wTk ?_)
  refine wS (wB ?_)
  obtain ⟨x12, hx12⟩ : ∃ x : Int, refs[(i : Int).toNat]? = some x := get_of (by first | rfl | omega | (simp only [ek_]; omega) | (simp; done) | (simp; omega))
  refine rSz [(0, yp tt), (5, .y (.one (cv))), (7, xi x12), (9, .y (.one (rff k4 refs))), (10, xi (refs.length : Int)), (11, xi i)] H9 (zA 0 (Jj (H := H9) (s := NI) (t := 75) (el := 3) (ty := 0) (pu := true) (capd := false) (id := k4) (d := 0) (o := 0) (n := refs.length) (j := ((i : Int).toNat)) (l := refs) (i := i) (On.at hs10 3 rfl) Try.underlying75 (by kernel_rfl) (by omega) (by first | rfl | omega | (simp only [ek_]; omega) | (simp; done) | (simp; omega)) (by first | rfl | omega | (simp only [ek_]; omega) | (simp; done) | (simp; omega)) (by first | rfl | omega | (simp only [ek_]; omega) | (simp; done) | (simp; omega))) (zL 1 (Jo (H := H9) (s := NI) (t := 3) (ty := 0) (pu := true) (id := k4) (d := 0) (j := ((i : Int).toNat)) (o := 0) (n := 1) (l := refs) (x := x12) (v := .one (vi x12)) (On.at hs10 3 rfl) (by kernel_rfl) (by kernel_rfl) (of_content (L := refs) (o := 0) (n := refs.length) (dt0 rfl (Nat.le_refl _)) hx12 (by first | rfl | omega | (simp only [ek_]; omega) | (simp; done) | (simp; omega))) (by kernel_rfl)))) ?_
  obtain ⟨w13, hw14, hm15⟩ := mkey (ms := M) (r := x12) hU (hk _ (List.mem_of_getElem? hx12))
  obtain ⟨n16, hn16⟩ := lX H9
  refine rGz [(0, yp tt), (5, .y (.one (cv))), (7, xi x12), (8, yp n16), (9, .y (.one (rff k4 refs))), (10, xi (refs.length : Int)), (11, xi i)] (On.put (.obj [vi w13.1.1, vi w13.1.2.1, vi w13.2.1.1, vi w13.2.1.2.1]) (On.new' hn16 (.obj [vi 0, vi 0, vi 0, vi 0]) hs10) 5 rfl) (zA 3 (qL 59 1 (.one (.mp mo)) (On.at hs10 1 rfl)) (zA 5 (mo_hit (A := an) (H := H9) (id := mo) (ms := M) (r := x12) (w := w13) (On.at hs10 2 rfl) hw14) (zA 6 (qO 72 [vi 0, vi 0, vi 0, vi 0] hn16) (zL 7 (qS 72 0 (.agg [vi w13.1.1, vi w13.1.2.1, vi w13.2.1.1, vi w13.2.1.2.1]) (On.at (On.new' hn16 (.obj [vi 0, vi 0, vi 0, vi 0]) hs10) 5 rfl)))))) fun H17 hs18 => ?_
  obtain ⟨cv19, H20, ho21, hs22⟩ := or_append_own (P := pg) (A := an) (s := TT5) (t := 35) (u := 35) (el := 41) (by_ := 40) (z := [vi 0, vi 0, vi 0, vi 0, vi 0]) (ty := 0) (y := .sl false false true [vi x12, vi w13.1.1, vi w13.1.2.1, vi w13.2.1.1, vi w13.2.1.2.1] 1) (lm := ([(x12, w13)])) (m := 1) hs18 4 rfl ((slCells_slO (H := H17) (s := TT5) (b := false) (nil := false) (capd := true) (l := [(x12, w13)]) (n := 1) (by first | rfl | omega | (simp only [ek_]; omega) | (simp; done) | (simp; omega)))) (by kernel_rfl) (by kernel_rfl) (by kernel_rfl) (by kernel_rfl) (by kernel_rfl) (by kernel_rfl) (by kernel_rfl) (by first | rfl | omega | (simp only [ek_]; omega) | (simp; done) | (simp; omega)) (by omega) (by omega)
  have hs22l : ((((refs.take (i : Int).toNat).map (toldOf M)) ++ ([(x12, w13)])).length : Int) = ((((refs.take (i : Int).toNat).map (toldOf M)).length : Int) + 1) := by { first | omega | (simp only [ej_]; omega) | (simp; done) | (simp; omega) }
  refine rHz [(0, yp tt), (5, .y (.one (cv19))), (9, .y (.one (rff k4 refs))), (10, xi (refs.length : Int)), (11, xi i)] hs22 (zA 3 (qL 24 0 (.agg [vi w13.1.1, vi w13.1.2.1]) (On.at hs18 5 rfl)) (zA 5 (qL 24 2 (.agg [vi w13.2.1.1, vi w13.2.1.2.1]) (On.at hs18 5 rfl)) (zL 8 ho21))) fun H23 hs24 => ?_
  refine wK ?_
  refine rRz [(0, yp tt), (5, .y (.one (cv19))), (9, .y (.one (rff k4 refs))), (10, xi (refs.length : Int)), (11, xi (i + 1))] H23 (zL 0 (qoAdd H23 i 1 (i + 1))) ?_
  exact ⟨(H23, (i + 1), cv19), by kernel_rfl, (⟨(On.pick [0, 1, 2, 3, 5] [4] (by kernel_rfl) (On.mono (A' := ownP TT5 cv19 ((refs.take ((i + 1) : Int).toNat).map (toldOf M))) 5 rfl (fun _ x => by rw [← (show (((refs.take (i : Int).toNat).map (toldOf M)) ++ ([(x12, w13)])) = ((refs.take ((i + 1) : Int).toNat).map (toldOf M)) from told_step h1 hx12 hw14)]; exact x) hs24)), by omega, by omega, (by simp only [eo_, eh_]; omega)⟩), (by show (_ : Nat) < _; simp only []; omega)⟩
 refine rSz [(0, yp tt), (5, .y (.one (cv))), (9, .y (.one (rff k4 refs))), (10, xi (refs.length : Int)), (11, xi i), (12, xb false)] H9 (zL 0 (qlssF H9 i (refs.length : Int))) ?_
 refine wS ?_
 refine wFa ?_
 refine wX ?_
 refine Eq.mpr (if_pos rfl) ?_
 refine rs0 [(4, .y (.one (cv)))] ?_
 refine wE ?_
 refine ⟨Or.inr rfl, [.one (cv)], (by kernel_rfl), ?_⟩
 have hs25 : On [R, pts tt (.obj [.mp l, .mp mo]), pts mo (monO M), ownP TT5 cv ((refs.take (i : Int).toNat).map (toldOf M)), ownP NI (rff k4 refs) refs] H9 := sH hs10 [3] [0, 1, 2, 4] (fun _ x => by rw [show refs = refs from rfl]; exact own_row (by first | assumption | (simp; done)) x)
 exact ⟨cv, rfl, (On.pick [0, 1, 2, 4, 3] [] (by kernel_rfl) (On.mono (A' := ownP TT5 cv (refs.map (toldOf M))) 3 rfl (fun _ x => by rw [← (show ((refs.take (i : Int).toNat).map (toldOf M)) = (refs.map (toldOf M)) from told_end (by omega))]; exact x) hs25))⟩
theorem watchers_ok (R : HP) (H : HH) (tt l mo : Nat) (L : List PR.T) (M : List TI.T) (b : PD.T) (hs : On [R, pts tt (.obj [.mp l, .mp mo]), pts l (lnkO L), pts mo (monO M)] H) (hT : okTies L M = true) : ∃ rs H', Runs pg an 15 [.one (.ptr tt 0), .agg [vi b.1, vi b.2.1]] H rs H' ∧ ∃ c, rs = [.one c] ∧ On [R, pts tt (.obj [.mp l, .mp mo]), pts l (lnkO L), pts mo (monO M), ownP TT5 c (watOf M b)] H' := by
 obtain ⟨hLo, hL, hU, nL, nM⟩ := okTies_is hT
 have hLM := okTies_sum hT
 refine rOF Try.func15 rfl ?_
 obtain ⟨n1, hn1⟩ := lX H
 refine rGz [(0, yp tt), (3, yp n1)] (On.new' hn1 (.obj [vi b.1, vi b.2.1]) hs) (zL 0 (qB 24 [vi b.1, vi b.2.1] hn1)) fun H2 hs3 => ?_
 refine wS ?_
 have hcall4 : Runs pg an 29 [.one (.ptr tt 0)] H2 [.one (vb true)] H2 := by
  refine runs_of ?_
  refine rOF Try.func29 rfl ?_
  refine rs0 [(0, yp tt)] ?_
  refine rSz [(2, xb true)] H2 (zL 6 (qL 58 0 (.one (.mp l)) (On.at hs3 1 rfl))) ?_
  refine wE ?_
  exact ⟨Or.inr rfl, [.one (vb true)], (by kernel_rfl), ⟨rfl, rfl⟩⟩
 refine rSz [(0, yp tt), (3, yp n1), (7, xb false)] H2 (zL 1 (qC1 hcall4)) ?_
 refine wFk ?_
 obtain ⟨_, H7, hr8, c5, rfl, hs9⟩ := refs_c (A := an) rfl rfl 37 (q37 b) _ (H2 : HH) tt l mo n1 M b (On.call [1, 3, 4] [0, 2] (by kernel_rfl) hs3) q37_of hU nM
 have hs9 : On [R, pts l (lnkO L), pts tt (.obj [.mp l, .mp mo]), pts mo (monO M), pts n1 (.obj [vi b.1, vi b.2.1]), ownP NI c5 (isort ltI (refOf (q37 b) M))] H7 := On.flat hs9
 have hz6 : ((isort ltI (refOf (q37 b) M)).length : Int) ≤ (M.length : Int) := lenIM (q37 b) M
 obtain ⟨_, H12, hr13, c10, rfl, hs14⟩ := told_ok _ (H7 : HH) tt l mo M c5 (isort ltI (refOf (q37 b) M)) (On.call [2, 3, 5] [0, 1, 4] (by kernel_rfl) hs9) (keysIn (q37 b) _) hU (lenI nM)
 have hs14 : On [R, pts l (lnkO L), pts n1 (.obj [vi b.1, vi b.2.1]), pts tt (.obj [.mp l, .mp mo]), pts mo (monO M), ownP NI c5 (isort ltI (refOf (q37 b) M)), ownP TT5 c10 ((isort ltI (refOf (q37 b) M)).map (toldOf M))] H12 := On.flat hs14
 have ht11 : (((isort ltI (refOf (q37 b) M)).map (toldOf M)).length : Int) ≤ (M.length : Int) := by have := lenIM (q37 b) M; rw [eo_]; omega
 refine rGz [(4, .y (.one (c10)))] hs14 (zA 3 (qC2 hr8) (zL 4 (qC2 hr13))) fun H15 hs16 => ?_
 refine wE ?_
 refine ⟨Or.inr rfl, [.one (c10)], (by kernel_rfl), ?_⟩
 exact ⟨c10, rfl, (On.pick [0, 3, 1, 4, 6] [2, 5] (by kernel_rfl) (On.mono (A' := ownP TT5 c10 (watOf M b)) 6 rfl (fun _ x => by rw [← (show ((isort ltI (refOf (q37 b) M)).map (toldOf M)) = (watOf M b) from rfl)]; exact x) hs16))⟩
end Go.Proofs.Ytjhgjbagmkiibaa.E
end
