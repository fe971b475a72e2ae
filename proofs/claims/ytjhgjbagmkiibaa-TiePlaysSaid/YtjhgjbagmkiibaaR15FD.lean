/- Lemmas. -/
import Derived.Test.YtjhgjbagmkiibaaR15FB
namespace Go.Proofs.Ytjhgjbagmkiibaa.E
open Go.Lg
set_option linter.unusedVariables false
set_option maxRecDepth 100000
set_option maxHeartbeats 8000000
set_option linter.unusedSimpArgs false
abbrev OP5 : Sh := .pr NI (.pr NI (.pr PD (.pr PD .nil)))
def stepL (L : List PR.T) (M : List TI.T) (o : OP5.T) : List PR.T := if decide (IEq o.1 1) = true then linkL L M o.2.2.1 o.2.2.2.1 else if decide (IEq o.1 2) = true then unlinkL L o.2.2.1 o.2.2.2.1 else if decide (IEq o.1 5) = true then goneL L o.2.2.1 else L
def stepM (L : List PR.T) (M : List TI.T) (o : OP5.T) : List TI.T := if decide (IEq o.1 3) = true then monM L M o.2.1 o.2.2.1 o.2.2.2.1 else if decide (IEq o.1 4) = true then demM M o.2.1 else if decide (IEq o.1 5) = true then goneM M o.2.2.1 else M
theorem inv_step {L : List PR.T} {M : List TI.T} (h : TieInv L M) (o : OP5.T) : TieInv (stepL L M o) (stepM L M o) := by
  by_cases h1 : IEq o.1 1
  · have e : ∀ k : Int, k ≠ 1 → ¬ IEq o.1 k := fun k hk he => hk (he.symm.trans h1)
    unfold stepL stepM
    rw [if_pos (decide_eq_true h1), if_neg (by rw [decide_eq_false (e 3 (by decide))]; simp), if_neg (by rw [decide_eq_false (e 4 (by decide))]; simp), if_neg (by rw [decide_eq_false (e 5 (by decide))]; simp)]
    exact inv_link h _ _
  · by_cases h2 : IEq o.1 2
    · have e : ∀ k : Int, k ≠ 2 → ¬ IEq o.1 k := fun k hk he => hk (he.symm.trans h2)
      unfold stepL stepM
      rw [if_neg (by rw [decide_eq_false h1]; simp), if_pos (decide_eq_true h2), if_neg (by rw [decide_eq_false (e 3 (by decide))]; simp), if_neg (by rw [decide_eq_false (e 4 (by decide))]; simp), if_neg (by rw [decide_eq_false (e 5 (by decide))]; simp)]
      exact inv_unlink h _ _
    · by_cases h5 : IEq o.1 5
      · have e : ∀ k : Int, k ≠ 5 → ¬ IEq o.1 k := fun k hk he => hk (he.symm.trans h5)
        unfold stepL stepM
        rw [if_neg (by rw [decide_eq_false h1]; simp), if_neg (by rw [decide_eq_false h2]; simp), if_pos (decide_eq_true h5), if_neg (by rw [decide_eq_false (e 3 (by decide))]; simp), if_neg (by rw [decide_eq_false (e 4 (by decide))]; simp)]
        rw [if_pos (decide_eq_true h5)]
        exact inv_gone h _
      · unfold stepL stepM
        rw [if_neg (by rw [decide_eq_false h1]; simp), if_neg (by rw [decide_eq_false h2]; simp), if_neg (by rw [decide_eq_false h5]; simp)]
        by_cases h3 : IEq o.1 3
        · rw [if_pos (decide_eq_true h3)]
          exact inv_mon h _ _ _
        · rw [if_neg (by rw [decide_eq_false h3]; simp)]
          by_cases h4 : IEq o.1 4
          · rw [if_pos (decide_eq_true h4)]
            exact inv_dem h _
          · rw [if_neg (by rw [decide_eq_false h4]; simp), if_neg (by rw [decide_eq_false h5]; simp)]
            exact h
theorem does_ok (R : HP) (H : HH) (tt l mo : Nat) (L : List PR.T) (M : List TI.T) (rn rp : Bool) (D : List TT5.T) (o : OP5.T) (hs : On [R, pts tt (.obj [.mp l, .mp mo]), pts l (lnkO L), pts mo (monO M)] H) (hI : TieInv L M) (hD : allOf L M = D) : ∃ rs H', Runs pg an 23 [.one (.ptr tt 0), .agg [vb true, sv TT5 false rn rp D], .agg [vi o.1, vi o.2.1, vi o.2.2.1.1, vi o.2.2.1.2.1, vi o.2.2.2.1.1, vi o.2.2.2.1.2.1]] H rs H' ∧ ∃ n p, rs = [.agg [vb true, sv TT5 false n p (allOf (stepL L M o) (stepM L M o))], .one (vb true)] ∧ On [R, pts tt (.obj [.mp l, .mp mo]), pts l (lnkO (stepL L M o)), pts mo (monO (stepM L M o))] H' := by
 have hDl : (D.length : Int) = (L.length : Int) + (M.length : Int) := by rw [← hD]; exact allLen _ _
 have hz0 := hI.sz
 refine rOF Try.func23 rfl ?_
 obtain ⟨n1, hn1⟩ := lX H
 obtain ⟨n2, hn2⟩ := lX (H ++ [.obj [vb true, sv TT5 false rn rp D]])
 obtain ⟨n3, hn3⟩ := lX ((H ++ [.obj [vb true, sv TT5 false rn rp D]]) ++ [.obj [vi o.1, vi o.2.1, vi o.2.2.1.1, vi o.2.2.1.2.1, vi o.2.2.2.1.1, vi o.2.2.2.1.2.1]])
 refine rGz [(0, yp tt), (4, yp n1), (5, yp n2), (6, yp n3)] (On.new' hn3 (.obj [vb false, nilC]) (On.new' hn2 (.obj [vi o.1, vi o.2.1, vi o.2.2.1.1, vi o.2.2.1.2.1, vi o.2.2.2.1.1, vi o.2.2.2.1.2.1]) (On.new' hn1 (.obj [vb true, sv TT5 false rn rp D]) hs))) (zA 0 (qB 48 [vb true, sv TT5 false rn rp D] hn1) (zA 1 (qB 28 [vi o.1, vi o.2.1, vi o.2.2.1.1, vi o.2.2.1.2.1, vi o.2.2.2.1.1, vi o.2.2.2.1.2.1] hn2) (zL 2 (qO 48 [vb false, nilC] hn3)))) fun H4 hs5 => ?_
 refine wS ?_
 refine rSz [(0, yp tt), (4, yp n1), (5, yp n2), (6, yp n3), (25, xi o.1)] H4 (zL 1 (qL 3 0 (.one (vi o.1)) (On.at hs5 5 rfl))) ?_
 refine wB ?_
 rcases ieq (o.1) (1) with c6 | c6
 ·
  refine rSz [(0, yp tt), (4, yp n1), (5, yp n2), (6, yp n3), (25, xi o.1), (26, xb true)] H4 (zL 0 (Ja (vals := [xi o.1, xi 1]) (H := H4) (op := .binOp .eql 3 (.tmp 0) (.tmp 1) 3) (ty := 0) (r := xb (beqI (o.1) (1))) (v := xb true) (by kernel_rfl) (congrArg (fun z => xb z) (beq_t (by omega))))) ?_
  refine wTa ?_
  obtain ⟨n7, p8, hp9⟩ := dlink_ok rn rp L M D o.2.2.1 o.2.2.2.1 hI hD
  obtain ⟨n10, hn10⟩ := lX H4
  refine rGz [(0, yp tt), (5, yp n2), (6, yp n3), (8, yp n10), (9, xi (linkE L M o.2.2.1 o.2.2.2.1))] (On.put (.obj [vb true, sv TT5 false n7 p8 (allOf (linkL L M o.2.2.1 o.2.2.2.1) M)]) (On.new' hn10 (.obj [vb false, nilC]) hs5) 7 rfl) (zA 0 (qA 48 (On.at hs5 4 rfl)) (zA 2 (qL 24 2 (.agg [vi o.2.2.1.1, vi o.2.2.1.2.1]) (On.at hs5 5 rfl)) (zA 4 (qL 24 4 (.agg [vi o.2.2.2.1.1, vi o.2.2.2.1.2.1]) (On.at hs5 5 rfl)) (zA 5 (qP3 H4 hp9) (zA 9 (qO 48 [vb false, nilC] hn10) (zL 10 (qS 48 0 (.agg [vb true, sv TT5 false n7 p8 (allOf (linkL L M o.2.2.1 o.2.2.2.1) M)]) (On.at (On.new' hn10 (.obj [vb false, nilC]) hs5) 7 rfl)))))))) fun H11 hs12 => ?_
  obtain ⟨_, H13, hr14, rfl, hs15⟩ := link_ok _ ((hideH [n10] H11) : HH) tt l mo L M o.2.2.1 o.2.2.2.1 (On.call [1, 2, 3] [0, 4, 5, 6, 7] (by kernel_rfl) (On.hide1 hs12 7 rfl)) hI.ok
  have hs15 : On [R, pts n1 (.obj [vb true, sv TT5 false rn rp D]), pts n2 (.obj [vi o.1, vi o.2.1, vi o.2.2.1.1, vi o.2.2.1.2.1, vi o.2.2.2.1.1, vi o.2.2.2.1.2.1]), pts n3 (.obj [vb false, nilC]), pts n10 (.map (.fro [vb true, sv TT5 false n7 p8 (allOf (linkL L M o.2.2.1 o.2.2.2.1) M)])), pts tt (.obj [.mp l, .mp mo]), pts l (lnkO (linkL L M o.2.2.1 o.2.2.2.1)), pts mo (monO M)] H13 := On.flat hs15
  refine rSq [(0, .y (.agg [vb true, sv TT5 false n7 p8 (allOf (linkL L M o.2.2.1 o.2.2.2.1) M)]), H11), (3, .y (.agg [vi o.2.2.1.1, vi o.2.2.1.2.1]), H11), (5, .y (.agg [vi o.2.2.2.1.1, vi o.2.2.2.1.2.1]), H11), (6, xi (linkE L M o.2.2.1 o.2.2.2.1), (backH [n10] H11 H13)), (8, xb true, (backH [n10] H11 H13)), (9, .tup [], (sto (backH [n10] H11 H13) n3 (.obj [vb true, sv TT5 false n7 p8 (allOf (linkL L M o.2.2.1 o.2.2.2.1) M)])))] [(6, yp n3), (7, xb true)] (sto (backH [n10] H11 H13) n3 (.obj [vb true, sv TT5 false n7 p8 (allOf (linkL L M o.2.2.1 o.2.2.2.1) M)]))
    (cast (Jai (ob_ins (H := H11) (Je (t := 48) (off := 0) (v := .agg [vb true, sv TT5 false n7 p8 (allOf (linkL L M o.2.2.1 o.2.2.2.1) M)]) (onlyH_at (M := [n10]) (by simp) (On.at hs12 7 rfl)) (by kernel_rfl))) (Jai (Je (t := 24) (off := 2) (v := .agg [vi o.2.2.1.1, vi o.2.2.1.2.1]) (On.at hs12 5 rfl) (by kernel_rfl)) (Jai (Je (t := 24) (off := 4) (v := .agg [vi o.2.2.2.1.1, vi o.2.2.2.1.2.1]) (On.at hs12 5 rfl) (by kernel_rfl)) (Jai (ob_out (M := [n10]) (H := H11) (H' := H13) (H2 := (backH [n10] H11 H13)) (mayHide1 (On.at hs12 7 rfl) rfl) (Js hr14 (by kernel_rfl)) rfl) (Jai (Ja (vals := [xi (linkE L M o.2.2.1 o.2.2.2.1), xi (linkE L M o.2.2.1 o.2.2.2.1)]) (H := (backH [n10] H11 H13)) (op := .binOp .eql 29 (.tmp 0) (.tmp 1) 29) (ty := 0) (r := xb (beqI ((linkE L M o.2.2.1 o.2.2.2.1)) ((linkE L M o.2.2.1 o.2.2.2.1)))) (v := xb true) (by kernel_rfl) (congrArg (fun z => xb z) (beq_t (by omega)))) (JZ (Jp (t := 48) (off := 0) (v := .agg [vb true, sv TT5 false n7 p8 (allOf (linkL L M o.2.2.1 o.2.2.2.1) M)]) (On.at (On.back1 hs15 4 rfl (On.at hs12 7 rfl)) 3 rfl) (by kernel_rfl)))))))) (by kernel_rfl)) (by kernel_rfl) ?_
  refine wG (On.put (.obj [vb true, sv TT5 false n7 p8 (allOf (linkL L M o.2.2.1 o.2.2.2.1) M)]) (On.back1 hs15 4 rfl (On.at hs12 7 rfl)) 3 rfl) fun H16 hs17 => ?_
  refine wE ?_
  refine ⟨Or.inr rfl, [.agg [vb true, sv TT5 false n7 p8 (allOf (linkL L M o.2.2.1 o.2.2.2.1) M)], .one (vb true)], (rC (On.at hs17 3 rfl)), ?_⟩
  have g0 : decide (IEq o.1 1) = true := decide_eq_true (by omega)
  have g1 : decide (IEq o.1 2) = false := decide_eq_false (by omega)
  have g2 : decide (IEq o.1 3) = false := decide_eq_false (by omega)
  have g3 : decide (IEq o.1 4) = false := decide_eq_false (by omega)
  have g4 : decide (IEq o.1 5) = false := decide_eq_false (by omega)
  have e1 : stepL L M o = (linkL L M o.2.2.1 o.2.2.2.1) := by unfold stepL; simp only [g0, g1, g2, g3, g4, if_true, if_false, Bool.false_eq_true]
  have e2 : stepM L M o = M := by unfold stepM; simp only [g0, g1, g2, g3, g4, if_true, if_false, Bool.false_eq_true]
  exact ⟨n7, p8, by rw [e1, e2], by rw [e1, e2]; exact (On.pick [0, 5, 6, 7] [1, 2, 3, 4] (by kernel_rfl) hs17)⟩
 refine rSz [(0, yp tt), (4, yp n1), (5, yp n2), (6, yp n3), (25, xi o.1), (26, xb false)] H4 (zL 0 (Ja (vals := [xi o.1, xi 1]) (H := H4) (op := .binOp .eql 3 (.tmp 0) (.tmp 1) 3) (ty := 0) (r := xb (beqI (o.1) (1))) (v := xb false) (by kernel_rfl) (congrArg (fun z => xb z) (beq_f (by omega))))) ?_
 refine wFa ?_
 rcases ieq (o.1) (2) with c18 | c18
 ·
  refine rSz [(0, yp tt), (4, yp n1), (5, yp n2), (6, yp n3), (25, xi o.1), (46, xb true)] H4 (zL 0 (Ja (vals := [xi o.1, xi 2]) (H := H4) (op := .binOp .eql 3 (.tmp 0) (.tmp 1) 3) (ty := 0) (r := xb (beqI (o.1) (2))) (v := xb true) (by kernel_rfl) (congrArg (fun z => xb z) (beq_t (by omega))))) ?_
  refine wTa ?_
  obtain ⟨n19, p20, hp21⟩ := dunlink_ok rn rp L M D o.2.2.1 o.2.2.2.1 hI hD
  obtain ⟨n22, hn22⟩ := lX H4
  refine rGz [(0, yp tt), (5, yp n2), (6, yp n3), (10, yp n22), (11, xi (unlinkE L o.2.2.1 o.2.2.2.1))] (On.put (.obj [vb true, sv TT5 false n19 p20 (allOf (unlinkL L o.2.2.1 o.2.2.2.1) M)]) (On.new' hn22 (.obj [vb false, nilC]) hs5) 7 rfl) (zA 0 (qA 48 (On.at hs5 4 rfl)) (zA 2 (qL 24 2 (.agg [vi o.2.2.1.1, vi o.2.2.1.2.1]) (On.at hs5 5 rfl)) (zA 4 (qL 24 4 (.agg [vi o.2.2.2.1.1, vi o.2.2.2.1.2.1]) (On.at hs5 5 rfl)) (zA 5 (qP3 H4 hp21) (zA 9 (qO 48 [vb false, nilC] hn22) (zL 10 (qS 48 0 (.agg [vb true, sv TT5 false n19 p20 (allOf (unlinkL L o.2.2.1 o.2.2.2.1) M)]) (On.at (On.new' hn22 (.obj [vb false, nilC]) hs5) 7 rfl)))))))) fun H23 hs24 => ?_
  obtain ⟨_, H25, hr26, rfl, hs27⟩ := unlink_ok _ ((hideH [n22] H23) : HH) tt l mo L M o.2.2.1 o.2.2.2.1 (On.call [1, 2, 3] [0, 4, 5, 6, 7] (by kernel_rfl) (On.hide1 hs24 7 rfl)) hI.ok
  have hs27 : On [R, pts n1 (.obj [vb true, sv TT5 false rn rp D]), pts n2 (.obj [vi o.1, vi o.2.1, vi o.2.2.1.1, vi o.2.2.1.2.1, vi o.2.2.2.1.1, vi o.2.2.2.1.2.1]), pts n3 (.obj [vb false, nilC]), pts n22 (.map (.fro [vb true, sv TT5 false n19 p20 (allOf (unlinkL L o.2.2.1 o.2.2.2.1) M)])), pts tt (.obj [.mp l, .mp mo]), pts l (lnkO (unlinkL L o.2.2.1 o.2.2.2.1)), pts mo (monO M)] H25 := On.flat hs27
  refine rSq [(0, .y (.agg [vb true, sv TT5 false n19 p20 (allOf (unlinkL L o.2.2.1 o.2.2.2.1) M)]), H23), (3, .y (.agg [vi o.2.2.1.1, vi o.2.2.1.2.1]), H23), (5, .y (.agg [vi o.2.2.2.1.1, vi o.2.2.2.1.2.1]), H23), (6, xi (unlinkE L o.2.2.1 o.2.2.2.1), (backH [n22] H23 H25)), (8, xb true, (backH [n22] H23 H25)), (9, .tup [], (sto (backH [n22] H23 H25) n3 (.obj [vb true, sv TT5 false n19 p20 (allOf (unlinkL L o.2.2.1 o.2.2.2.1) M)])))] [(6, yp n3), (7, xb true)] (sto (backH [n22] H23 H25) n3 (.obj [vb true, sv TT5 false n19 p20 (allOf (unlinkL L o.2.2.1 o.2.2.2.1) M)]))
    (cast (Jai (ob_ins (H := H23) (Je (t := 48) (off := 0) (v := .agg [vb true, sv TT5 false n19 p20 (allOf (unlinkL L o.2.2.1 o.2.2.2.1) M)]) (onlyH_at (M := [n22]) (by simp) (On.at hs24 7 rfl)) (by kernel_rfl))) (Jai (Je (t := 24) (off := 2) (v := .agg [vi o.2.2.1.1, vi o.2.2.1.2.1]) (On.at hs24 5 rfl) (by kernel_rfl)) (Jai (Je (t := 24) (off := 4) (v := .agg [vi o.2.2.2.1.1, vi o.2.2.2.1.2.1]) (On.at hs24 5 rfl) (by kernel_rfl)) (Jai (ob_out (M := [n22]) (H := H23) (H' := H25) (H2 := (backH [n22] H23 H25)) (mayHide1 (On.at hs24 7 rfl) rfl) (Js hr26 (by kernel_rfl)) rfl) (Jai (Ja (vals := [xi (unlinkE L o.2.2.1 o.2.2.2.1), xi (unlinkE L o.2.2.1 o.2.2.2.1)]) (H := (backH [n22] H23 H25)) (op := .binOp .eql 29 (.tmp 0) (.tmp 1) 29) (ty := 0) (r := xb (beqI ((unlinkE L o.2.2.1 o.2.2.2.1)) ((unlinkE L o.2.2.1 o.2.2.2.1)))) (v := xb true) (by kernel_rfl) (congrArg (fun z => xb z) (beq_t (by omega)))) (JZ (Jp (t := 48) (off := 0) (v := .agg [vb true, sv TT5 false n19 p20 (allOf (unlinkL L o.2.2.1 o.2.2.2.1) M)]) (On.at (On.back1 hs27 4 rfl (On.at hs24 7 rfl)) 3 rfl) (by kernel_rfl)))))))) (by kernel_rfl)) (by kernel_rfl) ?_
  refine wG (On.put (.obj [vb true, sv TT5 false n19 p20 (allOf (unlinkL L o.2.2.1 o.2.2.2.1) M)]) (On.back1 hs27 4 rfl (On.at hs24 7 rfl)) 3 rfl) fun H28 hs29 => ?_
  refine wE ?_
  refine ⟨Or.inr rfl, [.agg [vb true, sv TT5 false n19 p20 (allOf (unlinkL L o.2.2.1 o.2.2.2.1) M)], .one (vb true)], (rC (On.at hs29 3 rfl)), ?_⟩
  have g0 : decide (IEq o.1 1) = false := decide_eq_false (by omega)
  have g1 : decide (IEq o.1 2) = true := decide_eq_true (by omega)
  have g2 : decide (IEq o.1 3) = false := decide_eq_false (by omega)
  have g3 : decide (IEq o.1 4) = false := decide_eq_false (by omega)
  have g4 : decide (IEq o.1 5) = false := decide_eq_false (by omega)
  have e1 : stepL L M o = (unlinkL L o.2.2.1 o.2.2.2.1) := by unfold stepL; simp only [g0, g1, g2, g3, g4, if_true, if_false, Bool.false_eq_true]
  have e2 : stepM L M o = M := by unfold stepM; simp only [g0, g1, g2, g3, g4, if_true, if_false, Bool.false_eq_true]
  exact ⟨n19, p20, by rw [e1, e2], by rw [e1, e2]; exact (On.pick [0, 5, 6, 7] [1, 2, 3, 4] (by kernel_rfl) hs29)⟩
 refine rSz [(0, yp tt), (4, yp n1), (5, yp n2), (6, yp n3), (25, xi o.1), (46, xb false)] H4 (zL 0 (Ja (vals := [xi o.1, xi 2]) (H := H4) (op := .binOp .eql 3 (.tmp 0) (.tmp 1) 3) (ty := 0) (r := xb (beqI (o.1) (2))) (v := xb false) (by kernel_rfl) (congrArg (fun z => xb z) (beq_f (by omega))))) ?_
 refine wFa ?_
 rcases ieq (o.1) (3) with c30 | c30
 ·
  refine rSz [(0, yp tt), (4, yp n1), (5, yp n2), (6, yp n3), (25, xi o.1), (66, xb true)] H4 (zL 0 (Ja (vals := [xi o.1, xi 3]) (H := H4) (op := .binOp .eql 3 (.tmp 0) (.tmp 1) 3) (ty := 0) (r := xb (beqI (o.1) (3))) (v := xb true) (by kernel_rfl) (congrArg (fun z => xb z) (beq_t (by omega))))) ?_
  refine wTa ?_
  obtain ⟨n31, p32, hp33⟩ := dmon_ok rn rp L M D o.2.1 o.2.2.1 o.2.2.2.1 hI hD
  obtain ⟨n34, hn34⟩ := lX H4
  refine rGz [(0, yp tt), (5, yp n2), (6, yp n3), (12, yp n34), (13, xi (monE L M o.2.1 o.2.2.1 o.2.2.2.1))] (On.put (.obj [vb true, sv TT5 false n31 p32 (allOf L (monM L M o.2.1 o.2.2.1 o.2.2.2.1))]) (On.new' hn34 (.obj [vb false, nilC]) hs5) 7 rfl) (zA 0 (qA 48 (On.at hs5 4 rfl)) (zA 2 (qL 3 1 (.one (vi o.2.1)) (On.at hs5 5 rfl)) (zA 4 (qL 24 2 (.agg [vi o.2.2.1.1, vi o.2.2.1.2.1]) (On.at hs5 5 rfl)) (zA 6 (qL 24 4 (.agg [vi o.2.2.2.1.1, vi o.2.2.2.1.2.1]) (On.at hs5 5 rfl)) (zA 7 (Ji (H := H4) (g := 47) (vals := [.y (.agg [vb true, sv TT5 false rn rp D]), xi o.2.1, .y (.agg [vi o.2.2.1.1, vi o.2.2.1.2.1]), .y (.agg [vi o.2.2.2.1.1, vi o.2.2.2.1.2.1])]) (xs0 := [.agg [vb true, sv TT5 false rn rp D], .one (vi o.2.1), .agg [vi o.2.2.1.1, vi o.2.2.1.2.1], .agg [vi o.2.2.2.1.1, vi o.2.2.2.1.2.1]]) (xs1 := [.agg [vb true, sv TT5 false rn rp D], .one (vi o.2.1), .agg [vi o.2.2.1.1, vi o.2.2.1.2.1], .agg [vi o.2.2.2.1.1, vi o.2.2.2.1.2.1]]) (res := [.agg [vb true, sv TT5 false n31 p32 (allOf L (monM L M o.2.1 o.2.2.1 o.2.2.2.1))], .one (vi (monE L M o.2.1 o.2.2.1 o.2.2.2.1))]) (ats := #[]) (ty := 0) (v := .tup [.agg [vb true, sv TT5 false n31 p32 (allOf L (monM L M o.2.1 o.2.2.1 o.2.2.2.1))], .one (vi (monE L M o.2.1 o.2.2.1 o.2.2.2.1))]) [.tmp 0, .tmp 1, .tmp 2, .tmp 3] (by kernel_rfl) (by kernel_rfl) (snap_cons (by kernel_rfl) (snap_cons (by kernel_rfl) (snap_cons (by kernel_rfl) (snap_cons (by kernel_rfl) (snap_nil))))) hp33 (by kernel_rfl)) (zA 11 (qO 48 [vb false, nilC] hn34) (zL 12 (qS 48 0 (.agg [vb true, sv TT5 false n31 p32 (allOf L (monM L M o.2.1 o.2.2.1 o.2.2.2.1))]) (On.at (On.new' hn34 (.obj [vb false, nilC]) hs5) 7 rfl))))))))) fun H35 hs36 => ?_
  obtain ⟨_, H37, hr38, rfl, hs39⟩ := monitor_ok _ ((hideH [n34] H35) : HH) tt l mo L M o.2.1 o.2.2.1 o.2.2.2.1 (On.call [1, 2, 3] [0, 4, 5, 6, 7] (by kernel_rfl) (On.hide1 hs36 7 rfl)) hI.ok
  have hs39 : On [R, pts n1 (.obj [vb true, sv TT5 false rn rp D]), pts n2 (.obj [vi o.1, vi o.2.1, vi o.2.2.1.1, vi o.2.2.1.2.1, vi o.2.2.2.1.1, vi o.2.2.2.1.2.1]), pts n3 (.obj [vb false, nilC]), pts n34 (.map (.fro [vb true, sv TT5 false n31 p32 (allOf L (monM L M o.2.1 o.2.2.1 o.2.2.2.1))])), pts tt (.obj [.mp l, .mp mo]), pts l (lnkO L), pts mo (monO (monM L M o.2.1 o.2.2.1 o.2.2.2.1))] H37 := On.flat hs39
  refine rSq [(0, .y (.agg [vb true, sv TT5 false n31 p32 (allOf L (monM L M o.2.1 o.2.2.1 o.2.2.2.1))]), H35), (3, xi o.2.1, H35), (5, .y (.agg [vi o.2.2.1.1, vi o.2.2.1.2.1]), H35), (7, .y (.agg [vi o.2.2.2.1.1, vi o.2.2.2.1.2.1]), H35), (8, xi (monE L M o.2.1 o.2.2.1 o.2.2.2.1), (backH [n34] H35 H37)), (10, xb true, (backH [n34] H35 H37)), (11, .tup [], (sto (backH [n34] H35 H37) n3 (.obj [vb true, sv TT5 false n31 p32 (allOf L (monM L M o.2.1 o.2.2.1 o.2.2.2.1))])))] [(6, yp n3), (7, xb true)] (sto (backH [n34] H35 H37) n3 (.obj [vb true, sv TT5 false n31 p32 (allOf L (monM L M o.2.1 o.2.2.1 o.2.2.2.1))]))
    (cast (Jai (ob_ins (H := H35) (Je (t := 48) (off := 0) (v := .agg [vb true, sv TT5 false n31 p32 (allOf L (monM L M o.2.1 o.2.2.1 o.2.2.2.1))]) (onlyH_at (M := [n34]) (by simp) (On.at hs36 7 rfl)) (by kernel_rfl))) (Jai (Je (t := 3) (off := 1) (v := .one (vi o.2.1)) (On.at hs36 5 rfl) (by kernel_rfl)) (Jai (Je (t := 24) (off := 2) (v := .agg [vi o.2.2.1.1, vi o.2.2.1.2.1]) (On.at hs36 5 rfl) (by kernel_rfl)) (Jai (Je (t := 24) (off := 4) (v := .agg [vi o.2.2.2.1.1, vi o.2.2.2.1.2.1]) (On.at hs36 5 rfl) (by kernel_rfl)) (Jai (ob_out (M := [n34]) (H := H35) (H' := H37) (H2 := (backH [n34] H35 H37)) (mayHide1 (On.at hs36 7 rfl) rfl) (Jn (H := (hideH [n34] H35)) (g := 12) (vals := [yp tt, xi o.2.1, .y (.agg [vi o.2.2.1.1, vi o.2.2.1.2.1]), .y (.agg [vi o.2.2.2.1.1, vi o.2.2.2.1.2.1])]) (xs0 := [.one (.ptr tt 0), .one (vi o.2.1), .agg [vi o.2.2.1.1, vi o.2.2.1.2.1], .agg [vi o.2.2.2.1.1, vi o.2.2.2.1.2.1]]) (res := [.one (vi (monE L M o.2.1 o.2.2.1 o.2.2.2.1))]) (ats := #[]) (ty := 0) (v := xi (monE L M o.2.1 o.2.2.1 o.2.2.2.1)) (H' := H37) [.tmp 0, .tmp 1, .tmp 2, .tmp 3] (by kernel_rfl) (by kernel_rfl) hr38 (by kernel_rfl)) rfl) (Jai (Ja (vals := [xi (monE L M o.2.1 o.2.2.1 o.2.2.2.1), xi (monE L M o.2.1 o.2.2.1 o.2.2.2.1)]) (H := (backH [n34] H35 H37)) (op := .binOp .eql 29 (.tmp 0) (.tmp 1) 29) (ty := 0) (r := xb (beqI ((monE L M o.2.1 o.2.2.1 o.2.2.2.1)) ((monE L M o.2.1 o.2.2.1 o.2.2.2.1)))) (v := xb true) (by kernel_rfl) (congrArg (fun z => xb z) (beq_t (by omega)))) (JZ (Jp (t := 48) (off := 0) (v := .agg [vb true, sv TT5 false n31 p32 (allOf L (monM L M o.2.1 o.2.2.1 o.2.2.2.1))]) (On.at (On.back1 hs39 4 rfl (On.at hs36 7 rfl)) 3 rfl) (by kernel_rfl))))))))) (by kernel_rfl)) (by kernel_rfl) ?_
  refine wG (On.put (.obj [vb true, sv TT5 false n31 p32 (allOf L (monM L M o.2.1 o.2.2.1 o.2.2.2.1))]) (On.back1 hs39 4 rfl (On.at hs36 7 rfl)) 3 rfl) fun H40 hs41 => ?_
  refine wE ?_
  refine ⟨Or.inr rfl, [.agg [vb true, sv TT5 false n31 p32 (allOf L (monM L M o.2.1 o.2.2.1 o.2.2.2.1))], .one (vb true)], (rC (On.at hs41 3 rfl)), ?_⟩
  have g0 : decide (IEq o.1 1) = false := decide_eq_false (by omega)
  have g1 : decide (IEq o.1 2) = false := decide_eq_false (by omega)
  have g2 : decide (IEq o.1 3) = true := decide_eq_true (by omega)
  have g3 : decide (IEq o.1 4) = false := decide_eq_false (by omega)
  have g4 : decide (IEq o.1 5) = false := decide_eq_false (by omega)
  have e1 : stepL L M o = L := by unfold stepL; simp only [g0, g1, g2, g3, g4, if_true, if_false, Bool.false_eq_true]
  have e2 : stepM L M o = (monM L M o.2.1 o.2.2.1 o.2.2.2.1) := by unfold stepM; simp only [g0, g1, g2, g3, g4, if_true, if_false, Bool.false_eq_true]
  exact ⟨n31, p32, by rw [e1, e2], by rw [e1, e2]; exact (On.pick [0, 5, 6, 7] [1, 2, 3, 4] (by kernel_rfl) hs41)⟩
 refine rSz [(0, yp tt), (4, yp n1), (5, yp n2), (6, yp n3), (25, xi o.1), (66, xb false)] H4 (zL 0 (Ja (vals := [xi o.1, xi 3]) (H := H4) (op := .binOp .eql 3 (.tmp 0) (.tmp 1) 3) (ty := 0) (r := xb (beqI (o.1) (3))) (v := xb false) (by kernel_rfl) (congrArg (fun z => xb z) (beq_f (by omega))))) ?_
 refine wFa ?_
 rcases ieq (o.1) (4) with c42 | c42
 ·
  refine rSz [(0, yp tt), (4, yp n1), (5, yp n2), (6, yp n3), (25, xi o.1), (90, xb true)] H4 (zL 0 (Ja (vals := [xi o.1, xi 4]) (H := H4) (op := .binOp .eql 3 (.tmp 0) (.tmp 1) 3) (ty := 0) (r := xb (beqI (o.1) (4))) (v := xb true) (by kernel_rfl) (congrArg (fun z => xb z) (beq_t (by omega))))) ?_
  refine wTa ?_
  obtain ⟨n43, p44, hp45⟩ := ddem_ok rn rp L M D o.2.1 hI hD
  obtain ⟨n46, hn46⟩ := lX H4
  refine rGz [(0, yp tt), (5, yp n2), (6, yp n3), (14, yp n46), (15, xi (demE M o.2.1))] (On.put (.obj [vb true, sv TT5 false n43 p44 (allOf L (demM M o.2.1))]) (On.new' hn46 (.obj [vb false, nilC]) hs5) 7 rfl) (zA 0 (qA 48 (On.at hs5 4 rfl)) (zA 2 (qL 3 1 (.one (vi o.2.1)) (On.at hs5 5 rfl)) (zA 3 (qP2 H4 hp45) (zA 7 (qO 48 [vb false, nilC] hn46) (zL 8 (qS 48 0 (.agg [vb true, sv TT5 false n43 p44 (allOf L (demM M o.2.1))]) (On.at (On.new' hn46 (.obj [vb false, nilC]) hs5) 7 rfl))))))) fun H47 hs48 => ?_
  obtain ⟨_, H49, hr50, rfl, hs51⟩ := demon_ok _ ((hideH [n46] H47) : HH) tt l mo L M o.2.1 (On.call [1, 2, 3] [0, 4, 5, 6, 7] (by kernel_rfl) (On.hide1 hs48 7 rfl)) hI.ok
  have hs51 : On [R, pts n1 (.obj [vb true, sv TT5 false rn rp D]), pts n2 (.obj [vi o.1, vi o.2.1, vi o.2.2.1.1, vi o.2.2.1.2.1, vi o.2.2.2.1.1, vi o.2.2.2.1.2.1]), pts n3 (.obj [vb false, nilC]), pts n46 (.map (.fro [vb true, sv TT5 false n43 p44 (allOf L (demM M o.2.1))])), pts tt (.obj [.mp l, .mp mo]), pts l (lnkO L), pts mo (monO (demM M o.2.1))] H49 := On.flat hs51
  refine rSq [(0, .y (.agg [vb true, sv TT5 false n43 p44 (allOf L (demM M o.2.1))]), H47), (3, xi o.2.1, H47), (4, xi (demE M o.2.1), (backH [n46] H47 H49)), (6, xb true, (backH [n46] H47 H49)), (7, .tup [], (sto (backH [n46] H47 H49) n3 (.obj [vb true, sv TT5 false n43 p44 (allOf L (demM M o.2.1))])))] [(6, yp n3), (7, xb true)] (sto (backH [n46] H47 H49) n3 (.obj [vb true, sv TT5 false n43 p44 (allOf L (demM M o.2.1))]))
    (cast (Jai (ob_ins (H := H47) (Je (t := 48) (off := 0) (v := .agg [vb true, sv TT5 false n43 p44 (allOf L (demM M o.2.1))]) (onlyH_at (M := [n46]) (by simp) (On.at hs48 7 rfl)) (by kernel_rfl))) (Jai (Je (t := 3) (off := 1) (v := .one (vi o.2.1)) (On.at hs48 5 rfl) (by kernel_rfl)) (Jai (ob_out (M := [n46]) (H := H47) (H' := H49) (H2 := (backH [n46] H47 H49)) (mayHide1 (On.at hs48 7 rfl) rfl) (Jq hr50 (by kernel_rfl)) rfl) (Jai (Ja (vals := [xi (demE M o.2.1), xi (demE M o.2.1)]) (H := (backH [n46] H47 H49)) (op := .binOp .eql 29 (.tmp 0) (.tmp 1) 29) (ty := 0) (r := xb (beqI ((demE M o.2.1)) ((demE M o.2.1)))) (v := xb true) (by kernel_rfl) (congrArg (fun z => xb z) (beq_t (by omega)))) (JZ (Jp (t := 48) (off := 0) (v := .agg [vb true, sv TT5 false n43 p44 (allOf L (demM M o.2.1))]) (On.at (On.back1 hs51 4 rfl (On.at hs48 7 rfl)) 3 rfl) (by kernel_rfl))))))) (by kernel_rfl)) (by kernel_rfl) ?_
  refine wG (On.put (.obj [vb true, sv TT5 false n43 p44 (allOf L (demM M o.2.1))]) (On.back1 hs51 4 rfl (On.at hs48 7 rfl)) 3 rfl) fun H52 hs53 => ?_
  refine wE ?_
  refine ⟨Or.inr rfl, [.agg [vb true, sv TT5 false n43 p44 (allOf L (demM M o.2.1))], .one (vb true)], (rC (On.at hs53 3 rfl)), ?_⟩
  have g0 : decide (IEq o.1 1) = false := decide_eq_false (by omega)
  have g1 : decide (IEq o.1 2) = false := decide_eq_false (by omega)
  have g2 : decide (IEq o.1 3) = false := decide_eq_false (by omega)
  have g3 : decide (IEq o.1 4) = true := decide_eq_true (by omega)
  have g4 : decide (IEq o.1 5) = false := decide_eq_false (by omega)
  have e1 : stepL L M o = L := by unfold stepL; simp only [g0, g1, g2, g3, g4, if_true, if_false, Bool.false_eq_true]
  have e2 : stepM L M o = (demM M o.2.1) := by unfold stepM; simp only [g0, g1, g2, g3, g4, if_true, if_false, Bool.false_eq_true]
  exact ⟨n43, p44, by rw [e1, e2], by rw [e1, e2]; exact (On.pick [0, 5, 6, 7] [1, 2, 3, 4] (by kernel_rfl) hs53)⟩
 refine rSz [(0, yp tt), (4, yp n1), (5, yp n2), (6, yp n3), (25, xi o.1), (90, xb false)] H4 (zL 0 (Ja (vals := [xi o.1, xi 4]) (H := H4) (op := .binOp .eql 3 (.tmp 0) (.tmp 1) 3) (ty := 0) (r := xb (beqI (o.1) (4))) (v := xb false) (by kernel_rfl) (congrArg (fun z => xb z) (beq_f (by omega))))) ?_
 refine wFa ?_
 rcases ieq (o.1) (5) with c54 | c54
 ·
  refine rSz [(0, yp tt), (4, yp n1), (5, yp n2), (6, yp n3), (106, xb true)] H4 (zL 0 (Ja (vals := [xi o.1, xi 5]) (H := H4) (op := .binOp .eql 3 (.tmp 0) (.tmp 1) 3) (ty := 0) (r := xb (beqI (o.1) (5))) (v := xb true) (by kernel_rfl) (congrArg (fun z => xb z) (beq_t (by omega))))) ?_
  refine wTa ?_
  obtain ⟨_, H61, hr62, c55, c56, rfl, hs63⟩ := gone_ok _ (H4 : HH) tt l mo L M o.2.2.1 (On.call [1, 2, 3] [0, 4, 5, 6] (by kernel_rfl) hs5) hI.ok
  have hs63 : On [R, pts n1 (.obj [vb true, sv TT5 false rn rp D]), pts n2 (.obj [vi o.1, vi o.2.1, vi o.2.2.1.1, vi o.2.2.1.2.1, vi o.2.2.2.1.1, vi o.2.2.2.1.2.1]), pts n3 (.obj [vb false, nilC]), pts tt (.obj [.mp l, .mp mo]), pts l (lnkO (goneL L o.2.2.1)), pts mo (monO (goneM M o.2.2.1)), ownP PD c55 (isort ltD (lnkOf L o.2.2.1)), ownP TT5 c56 (toldG M o.2.2.1)] H61 := On.flat hs63
  have hk57 : ((isort ltD (lnkOf L o.2.2.1)).length : Int) ≤ (L.length : Int) := lenLd _ _
  have hk58 : ((toldG M o.2.2.1).length : Int) ≤ (M.length : Int) := lenGd _ _
  have hk59 : ((goneL L o.2.2.1).length : Int) ≤ (L.length : Int) := lenGL _ _
  have hk60 : ((goneM M o.2.2.1).length : Int) ≤ (M.length : Int) := lenGM _ _
  refine rGz [(4, yp n1), (5, yp n2), (6, yp n3), (16, .y (.one (c55))), (17, .y (.one (c56)))] hs63 (zA 2 (qL 24 2 (.agg [vi o.2.2.1.1, vi o.2.2.1.2.1]) (On.at hs5 5 rfl)) (zL 3 (qC2 hr62))) fun H64 hs65 => ?_
  obtain ⟨n66, n67, n68, n69, n70, n71, hp72⟩ := dgone_ok rn rp L M D o.2.2.1 hI hD
  obtain ⟨n73, hn73⟩ := lX H64
  refine rGz [(6, yp n3), (16, .y (.one (c55))), (17, .y (.one (c56))), (18, yp n73), (19, .y (.one (sv PD false n68 n69 (isort ltD (lnkOf L o.2.2.1))))), (20, .y (.one (sv TT5 false n70 n71 (toldG M o.2.2.1))))] (On.put (.obj [vb true, sv TT5 false n66 n67 (allOf (goneL L o.2.2.1) (goneM M o.2.2.1))]) (On.new' hn73 (.obj [vb false, nilC]) hs65) 9 rfl) (zA 0 (qA 48 (On.at hs65 1 rfl)) (zA 2 (qL 24 2 (.agg [vi o.2.2.1.1, vi o.2.2.1.2.1]) (On.at hs65 2 rfl)) (zA 3 (qP2 H64 hp72) (zA 8 (qO 48 [vb false, nilC] hn73) (zL 9 (qS 48 0 (.agg [vb true, sv TT5 false n66 n67 (allOf (goneL L o.2.2.1) (goneM M o.2.2.1))]) (On.at (On.new' hn73 (.obj [vb false, nilC]) hs65) 9 rfl))))))) fun H74 hs75 => ?_
  obtain ⟨fb76, fn77, fp78, hf79⟩ := own_snap hs75 7 rfl
  obtain ⟨fb80, fn81, fp82, hf83⟩ := own_snap hs75 8 rfl
  refine rSz [(6, yp n3), (16, .y (.one (c55))), (17, .y (.one (c56))), (18, yp n73), (21, xb true)] H74 (zA 2 (Ji (H := H74) (g := 14) (vals := [.y (.one (c55)), .y (.one (sv PD false n68 n69 (isort ltD (lnkOf L o.2.2.1))))]) (xs0 := [.one (c55), .one (sv PD false n68 n69 (isort ltD (lnkOf L o.2.2.1)))]) (xs1 := [.one (sv PD fb76 fn77 fp78 (isort ltD (lnkOf L o.2.2.1))), .one (sv PD false n68 n69 (isort ltD (lnkOf L o.2.2.1)))]) (res := [.one (vb true)]) (ats := #[]) (ty := 0) (v := xb true) [.tmp 0, .tmp 1] (by kernel_rfl) (by kernel_rfl) (snap_cons (snap_one hf79) (snap_cons (by kernel_rfl) (snap_nil))) (by have h9 := samepids_ok fb76 fn77 fp78 false n68 n69 (isort ltD (lnkOf L o.2.2.1)) (isort ltD (lnkOf L o.2.2.1)) (by first | rfl | omega | (simp only [ek_]; omega) | (simp; done) | (simp; omega)) (by first | rfl | omega | (simp only [ek_]; omega) | (simp; done) | (simp; omega)); rw [show (sameB PD (isort ltD (lnkOf L o.2.2.1)) (isort ltD (lnkOf L o.2.2.1))) = true from (sameB_iff rfl).2 rfl] at h9; exact h9) (by kernel_rfl)) (zL 6 (Ji (H := H74) (g := 20) (vals := [.y (.one (c56)), .y (.one (sv TT5 false n70 n71 (toldG M o.2.2.1)))]) (xs0 := [.one (c56), .one (sv TT5 false n70 n71 (toldG M o.2.2.1))]) (xs1 := [.one (sv TT5 fb80 fn81 fp82 (toldG M o.2.2.1)), .one (sv TT5 false n70 n71 (toldG M o.2.2.1))]) (res := [.one (vb true)]) (ats := #[]) (ty := 0) (v := xb true) [.tmp 0, .tmp 1] (by kernel_rfl) (by kernel_rfl) (snap_cons (snap_one hf83) (snap_cons (by kernel_rfl) (snap_nil))) (by have h9 := same_ok fb80 fn81 fp82 false n70 n71 (toldG M o.2.2.1) (toldG M o.2.2.1) (by first | rfl | omega | (simp only [ek_]; omega) | (simp; done) | (simp; omega)) (by first | rfl | omega | (simp only [ek_]; omega) | (simp; done) | (simp; omega)); rw [show (sameB TT5 (toldG M o.2.2.1) (toldG M o.2.2.1)) = true from (sameB_iff rfl).2 rfl] at h9; exact h9) (by kernel_rfl)))) ?_
  refine wS ?_
  refine rs0 [(6, yp n3), (16, .y (.one (c55))), (17, .y (.one (c56))), (18, yp n73), (21, xb true), (22, xi 0)] ?_
  refine wB ?_
  obtain ⟨rfl, hl86, hs84⟩ | ⟨k87, rfl, k87z, hs85⟩ := own_open hs75 7 rfl
  ·
   have hl86n : ((isort ltD (lnkOf L o.2.2.1)).length : Int) = 0 := by rw [hl86]; rfl
   refine Wp.loopU [(6, yp n3), (16, .y (.one (nilC))), (17, .y (.one (c56))), (18, yp n73), (21, xb true), (22, xi 0)] (some ([6, 16, 17, 18, 21, 22], false)) (List.length H74) (by kernel_rfl) ?_
   refine WpL.step ?_
   refine wS ?_
   refine rs0 [(6, yp n3), (16, .y (.one (nilC))), (17, .y (.one (c56))), (18, yp n73), (21, xb true), (22, xi 0), (134, xb false)] ?_
   refine wFa ?_
   refine wX ?_
   refine Eq.mpr (if_pos rfl) ?_
   refine wS ?_
   refine rs0 [(6, yp n3), (17, .y (.one (c56))), (18, yp n73), (21, xb true), (23, xi 0)] ?_
   refine wB ?_
   obtain ⟨rfl, hl90, hs88⟩ | ⟨k91, rfl, k91z, hs89⟩ := own_open hs84 7 rfl
   ·
    have hl90n : ((toldG M o.2.2.1).length : Int) = 0 := by rw [hl90]; rfl
    refine Wp.loopU [(6, yp n3), (17, .y (.one (nilC))), (18, yp n73), (21, xb true), (23, xi 0)] (some ([6, 17, 18, 21, 23], false)) (List.length H74) (by kernel_rfl) ?_
    refine WpL.step ?_
    refine wS ?_
    refine rs0 [(6, yp n3), (17, .y (.one (nilC))), (18, yp n73), (21, xb true), (23, xi 0), (144, xb false)] ?_
    refine wFa ?_
    refine wX ?_
    refine Eq.mpr (if_pos rfl) ?_
    refine rGz [(6, yp n3), (7, xb true)] (On.put (.obj [vb true, sv TT5 false n66 n67 (allOf (goneL L o.2.2.1) (goneM M o.2.2.1))]) hs88 3 rfl) (zA 0 (qA 48 (On.at hs88 7 rfl)) (zL 2 (qS 48 0 (.agg [vb true, sv TT5 false n66 n67 (allOf (goneL L o.2.2.1) (goneM M o.2.2.1))]) (On.at hs88 3 rfl)))) fun H92 hs93 => ?_
    refine wE ?_
    refine ⟨Or.inr rfl, [.agg [vb true, sv TT5 false n66 n67 (allOf (goneL L o.2.2.1) (goneM M o.2.2.1))], .one (vb true)], (rC (On.at hs93 3 rfl)), ?_⟩
    have g0 : decide (IEq o.1 1) = false := decide_eq_false (by omega)
    have g1 : decide (IEq o.1 2) = false := decide_eq_false (by omega)
    have g2 : decide (IEq o.1 3) = false := decide_eq_false (by omega)
    have g3 : decide (IEq o.1 4) = false := decide_eq_false (by omega)
    have g4 : decide (IEq o.1 5) = true := decide_eq_true (by omega)
    have e1 : stepL L M o = (goneL L o.2.2.1) := by unfold stepL; simp only [g0, g1, g2, g3, g4, if_true, if_false, Bool.false_eq_true]
    have e2 : stepM L M o = (goneM M o.2.2.1) := by unfold stepM; simp only [g0, g1, g2, g3, g4, if_true, if_false, Bool.false_eq_true]
    exact ⟨n66, n67, by rw [e1, e2], by rw [e1, e2]; exact (On.pick [0, 4, 5, 6] [1, 2, 3, 7] (by kernel_rfl) hs93)⟩
   refine Wp.loop (T := HH × Int × List TT5.T) (fun t => match t with | (H95, i2, Z2) => ((((toldG M o.2.2.1).length : Int) - i2).toNat : Nat)) (fun t => match t with | (H95, i2, Z2) => ([(6, yp n3), (17, .y (.one (rowC k91 0 Z2.length 0 ((toldG M o.2.2.1).length) false))), (18, yp n73), (21, xb true), (23, xi i2)] : Env)) (fun t => match t with | (H95, i2, Z2) => (H95 : HH))
     (fun t => match t with | (H95, i2, Z2) => (On [R, pts n1 (.obj [vb true, sv TT5 false rn rp D]), pts n2 (.obj [vi o.1, vi o.2.1, vi o.2.2.1.1, vi o.2.2.1.2.1, vi o.2.2.2.1.1, vi o.2.2.2.1.2.1]), pts n3 (.obj [vb false, nilC]), pts tt (.obj [.mp l, .mp mo]), pts l (lnkO (goneL L o.2.2.1)), pts mo (monO (goneM M o.2.2.1)), pts n73 (.obj [vb true, sv TT5 false n66 n67 (allOf (goneL L o.2.2.1) (goneM M o.2.2.1))]), pts k91 (rowO TT5 true 0 Z2)] H95 ∧ (0 ≤ i2) ∧ (i2 ≤ ((toldG M o.2.2.1).length : Int)) ∧ ((Z2.length : Int) = (toldG M o.2.2.1).length) : Prop)) (H74, 0, (toldG M o.2.2.1)) (by kernel_rfl) (⟨(On.pick [0, 1, 2, 3, 4, 5, 6, 7, 8] [] (by kernel_rfl) hs89), by omega, by omega, rfl⟩) ?_
   rintro ⟨H95, i2, Z2⟩ ⟨hs96, hi21, hi22, hi23⟩
   show Wp _ _ _ _ [(6, yp n3), (17, .y (.one (rowC k91 0 Z2.length 0 ((toldG M o.2.2.1).length) false))), (18, yp n73), (21, xb true), (23, xi i2)] H95 _
   refine wS ?_
   rcases ilt (i2) (((toldG M o.2.2.1).length : Int)) with c97 | c97
   ·
    refine rSz [(6, yp n3), (17, .y (.one (rowC k91 0 Z2.length 0 ((toldG M o.2.2.1).length) false))), (18, yp n73), (21, xb true), (23, xi i2), (144, xb true)] H95 (zA 2 (Jf (H := H95) (s := TT5) (t := 35) (ty := 0) (pu := true) (capd := false) (id := k91) (d := 0) (o := 0) (n := ((toldG M o.2.2.1).length)) (l := Z2) (e := ((toldG M o.2.2.1).length : Int)) (On.at hs96 8 rfl) (by kernel_rfl) (by first | rfl | omega | (simp only [ek_]; omega) | (simp; done) | (simp; omega))) (zL 3 (qlssT H95 i2 ((toldG M o.2.2.1).length : Int)))) ?_
    refine wTk ?_
    refine wS (wB ?_)
    obtain ⟨x98, hx98⟩ : ∃ x : TT5.T, ((Z2.drop 0).take (toldG M o.2.2.1).length)[(i2 : Int).toNat]? = some x := get_of (by first | rfl | omega | (simp only [ek_]; omega) | (simp; done) | (simp; omega))
    refine rKz [(6, yp n3), (17, .y (.one (rowC k91 0 Z2.length 0 ((toldG M o.2.2.1).length) false))), (18, yp n73), (21, xb true), (23, xi i2)] (sto H95 k91 (.row true true 0 (0 + Z2.length) 5 ((Z2.set ((i2 : Int).toNat) ((-7), ((0, (0, ())), ((0, (0, ())), ())))).flatMap (enc TT5)))) (zA 3 (Jj (H := H95) (s := TT5) (t := 35) (el := 41) (ty := 0) (pu := true) (capd := false) (id := k91) (d := 0) (o := 0) (n := ((toldG M o.2.2.1).length)) (j := ((i2 : Int).toNat)) (l := Z2) (i := i2) (On.at hs96 8 rfl) Try.underlying35 (by kernel_rfl) (by omega) (by first | rfl | omega | (simp only [ek_]; omega) | (simp; done) | (simp; omega)) (by first | rfl | omega | (simp only [ek_]; omega) | (simp; done) | (simp; omega)) (by first | rfl | omega | (simp only [ek_]; omega) | (simp; done) | (simp; omega))) (zL 4 (Jm (H := H95) (s := TT5) (t := 41) (ty := 0) (pu := true) (id := k91) (d := 0) (j := ((i2 : Int).toNat)) (o := 0) (l := Z2) (x := x98) (x' := ((-7), ((0, (0, ())), ((0, (0, ())), ())))) (v := .agg [vi (-7), vi 0, vi 0, vi 0, vi 0]) (On.at hs96 8 rfl) (by kernel_rfl) (of_content (L := Z2) (o := 0) (n := ((toldG M o.2.2.1).length)) (rfl) hx98 (by first | rfl | omega | (simp only [ek_]; omega) | (simp; done) | (simp; omega))) (by kernel_rfl) (by kernel_rfl) (by kernel_rfl) (by kernel_rfl)))) ?_
    have hrl100 : Z2.length = (Z2.set ((i2 : Int).toNat) ((-7), ((0, (0, ())), ((0, (0, ())), ())))).length := List.length_set.symm
    refine Eq.mpr (congrArg (fun z : Nat => Wp _ _ _ _ [(6, yp n3), (17, .y (.one (rowC k91 0 z 0 ((toldG M o.2.2.1).length) false))), (18, yp n73), (21, xb true), (23, xi i2)] (sto H95 k91 (.row true true 0 (0 + z) 5 ((Z2.set ((i2 : Int).toNat) ((-7), ((0, (0, ())), ((0, (0, ())), ())))).flatMap (enc TT5)))) _) hrl100) ?_
    refine wG (Eq.mp (congrArg (fun z : Nat => On [R, pts n1 (.obj [vb true, sv TT5 false rn rp D]), pts n2 (.obj [vi o.1, vi o.2.1, vi o.2.2.1.1, vi o.2.2.1.2.1, vi o.2.2.2.1.1, vi o.2.2.2.1.2.1]), pts n3 (.obj [vb false, nilC]), pts tt (.obj [.mp l, .mp mo]), pts l (lnkO (goneL L o.2.2.1)), pts mo (monO (goneM M o.2.2.1)), pts n73 (.obj [vb true, sv TT5 false n66 n67 (allOf (goneL L o.2.2.1) (goneM M o.2.2.1))]), pts k91 (.row true true 0 (0 + z) 5 ((Z2.set ((i2 : Int).toNat) ((-7), ((0, (0, ())), ((0, (0, ())), ())))).flatMap (enc TT5)))] (sto H95 k91 (.row true true 0 (0 + z) 5 ((Z2.set ((i2 : Int).toNat) ((-7), ((0, (0, ())), ((0, (0, ())), ())))).flatMap (enc TT5))))) hrl100) (On.put (.row true true 0 (0 + Z2.length) 5 ((Z2.set ((i2 : Int).toNat) ((-7), ((0, (0, ())), ((0, (0, ())), ())))).flatMap (enc TT5))) hs96 8 rfl)) fun H101 hs102 => ?_
    refine wK ?_
    refine rRz [(6, yp n3), (17, .y (.one (rowC k91 0 (Z2.set ((i2 : Int).toNat) ((-7), ((0, (0, ())), ((0, (0, ())), ())))).length 0 ((toldG M o.2.2.1).length) false))), (18, yp n73), (21, xb true), (23, xi (i2 + 1))] H101 (zL 1 (qoAdd H101 i2 1 (i2 + 1))) ?_
    exact ⟨(H101, (i2 + 1), (Z2.set ((i2 : Int).toNat) ((-7), ((0, (0, ())), ((0, (0, ())), ()))))), by kernel_rfl, (⟨(On.pick [0, 1, 2, 3, 4, 5, 6, 7, 8] [] (by kernel_rfl) hs102), by omega, by omega, (by rw [List.length_set]; omega)⟩), (by show (_ : Nat) < _; simp only []; omega)⟩
   refine rSz [(6, yp n3), (17, .y (.one (rowC k91 0 Z2.length 0 ((toldG M o.2.2.1).length) false))), (18, yp n73), (21, xb true), (23, xi i2), (144, xb false)] H95 (zA 2 (Jf (H := H95) (s := TT5) (t := 35) (ty := 0) (pu := true) (capd := false) (id := k91) (d := 0) (o := 0) (n := ((toldG M o.2.2.1).length)) (l := Z2) (e := ((toldG M o.2.2.1).length : Int)) (On.at hs96 8 rfl) (by kernel_rfl) (by first | rfl | omega | (simp only [ek_]; omega) | (simp; done) | (simp; omega))) (zL 3 (qlssF H95 i2 ((toldG M o.2.2.1).length : Int)))) ?_
   refine wFa ?_
   refine wX ?_
   refine Eq.mpr (if_pos rfl) ?_
   refine rGz [(6, yp n3), (7, xb true)] (On.put (.obj [vb true, sv TT5 false n66 n67 (allOf (goneL L o.2.2.1) (goneM M o.2.2.1))]) hs96 3 rfl) (zA 0 (qA 48 (On.at hs96 7 rfl)) (zL 2 (qS 48 0 (.agg [vb true, sv TT5 false n66 n67 (allOf (goneL L o.2.2.1) (goneM M o.2.2.1))]) (On.at hs96 3 rfl)))) fun H103 hs104 => ?_
   refine wE ?_
   refine ⟨Or.inr rfl, [.agg [vb true, sv TT5 false n66 n67 (allOf (goneL L o.2.2.1) (goneM M o.2.2.1))], .one (vb true)], (rC (On.at hs104 3 rfl)), ?_⟩
   have g0 : decide (IEq o.1 1) = false := decide_eq_false (by omega)
   have g1 : decide (IEq o.1 2) = false := decide_eq_false (by omega)
   have g2 : decide (IEq o.1 3) = false := decide_eq_false (by omega)
   have g3 : decide (IEq o.1 4) = false := decide_eq_false (by omega)
   have g4 : decide (IEq o.1 5) = true := decide_eq_true (by omega)
   have e1 : stepL L M o = (goneL L o.2.2.1) := by unfold stepL; simp only [g0, g1, g2, g3, g4, if_true, if_false, Bool.false_eq_true]
   have e2 : stepM L M o = (goneM M o.2.2.1) := by unfold stepM; simp only [g0, g1, g2, g3, g4, if_true, if_false, Bool.false_eq_true]
   exact ⟨n66, n67, by rw [e1, e2], by rw [e1, e2]; exact (On.pick [0, 4, 5, 6] [1, 2, 3, 7, 8] (by kernel_rfl) hs104)⟩
  refine Wp.loop (T := HH × Int × List PD.T) (fun t => match t with | (H106, i1, Z1) => ((((isort ltD (lnkOf L o.2.2.1)).length : Int) - i1).toNat : Nat)) (fun t => match t with | (H106, i1, Z1) => ([(6, yp n3), (16, .y (.one (rowC k87 0 Z1.length 0 ((isort ltD (lnkOf L o.2.2.1)).length) false))), (17, .y (.one (c56))), (18, yp n73), (21, xb true), (22, xi i1)] : Env)) (fun t => match t with | (H106, i1, Z1) => (H106 : HH))
    (fun t => match t with | (H106, i1, Z1) => (On [R, pts n1 (.obj [vb true, sv TT5 false rn rp D]), pts n2 (.obj [vi o.1, vi o.2.1, vi o.2.2.1.1, vi o.2.2.1.2.1, vi o.2.2.2.1.1, vi o.2.2.2.1.2.1]), pts n3 (.obj [vb false, nilC]), pts tt (.obj [.mp l, .mp mo]), pts l (lnkO (goneL L o.2.2.1)), pts mo (monO (goneM M o.2.2.1)), ownP TT5 c56 (toldG M o.2.2.1), pts n73 (.obj [vb true, sv TT5 false n66 n67 (allOf (goneL L o.2.2.1) (goneM M o.2.2.1))]), pts k87 (rowO PD true 0 Z1)] H106 ∧ (0 ≤ i1) ∧ (i1 ≤ ((isort ltD (lnkOf L o.2.2.1)).length : Int)) ∧ ((Z1.length : Int) = (isort ltD (lnkOf L o.2.2.1)).length) : Prop)) (H74, 0, (isort ltD (lnkOf L o.2.2.1))) (by kernel_rfl) (⟨(On.pick [0, 1, 2, 3, 4, 5, 6, 7, 8, 9] [] (by kernel_rfl) hs85), by omega, by omega, rfl⟩) ?_
  rintro ⟨H106, i1, Z1⟩ ⟨hs107, hi11, hi12, hi13⟩
  show Wp _ _ _ _ [(6, yp n3), (16, .y (.one (rowC k87 0 Z1.length 0 ((isort ltD (lnkOf L o.2.2.1)).length) false))), (17, .y (.one (c56))), (18, yp n73), (21, xb true), (22, xi i1)] H106 _
  refine wS ?_
  rcases ilt (i1) (((isort ltD (lnkOf L o.2.2.1)).length : Int)) with c108 | c108
  ·
   refine rSz [(6, yp n3), (16, .y (.one (rowC k87 0 Z1.length 0 ((isort ltD (lnkOf L o.2.2.1)).length) false))), (17, .y (.one (c56))), (18, yp n73), (21, xb true), (22, xi i1), (134, xb true)] H106 (zA 2 (Jf (H := H106) (s := PD) (t := 32) (ty := 0) (pu := true) (capd := false) (id := k87) (d := 0) (o := 0) (n := ((isort ltD (lnkOf L o.2.2.1)).length)) (l := Z1) (e := ((isort ltD (lnkOf L o.2.2.1)).length : Int)) (On.at hs107 9 rfl) (by kernel_rfl) (by first | rfl | omega | (simp only [ek_]; omega) | (simp; done) | (simp; omega))) (zL 3 (qlssT H106 i1 ((isort ltD (lnkOf L o.2.2.1)).length : Int)))) ?_
   refine wTk ?_
   refine wS (wB ?_)
   obtain ⟨x109, hx109⟩ : ∃ x : PD.T, ((Z1.drop 0).take (isort ltD (lnkOf L o.2.2.1)).length)[(i1 : Int).toNat]? = some x := get_of (by first | rfl | omega | (simp only [ek_]; omega) | (simp; done) | (simp; omega))
   refine rKz [(6, yp n3), (16, .y (.one (rowC k87 0 Z1.length 0 ((isort ltD (lnkOf L o.2.2.1)).length) false))), (17, .y (.one (c56))), (18, yp n73), (21, xb true), (22, xi i1)] (sto H106 k87 (.row true true 0 (0 + Z1.length) 2 ((Z1.set ((i1 : Int).toNat) ((-7), (0, ()))).flatMap (enc PD)))) (zA 3 (Jj (H := H106) (s := PD) (t := 32) (el := 24) (ty := 0) (pu := true) (capd := false) (id := k87) (d := 0) (o := 0) (n := ((isort ltD (lnkOf L o.2.2.1)).length)) (j := ((i1 : Int).toNat)) (l := Z1) (i := i1) (On.at hs107 9 rfl) Try.underlying32 (by kernel_rfl) (by omega) (by first | rfl | omega | (simp only [ek_]; omega) | (simp; done) | (simp; omega)) (by first | rfl | omega | (simp only [ek_]; omega) | (simp; done) | (simp; omega)) (by first | rfl | omega | (simp only [ek_]; omega) | (simp; done) | (simp; omega))) (zL 4 (Jm (H := H106) (s := PD) (t := 24) (ty := 0) (pu := true) (id := k87) (d := 0) (j := ((i1 : Int).toNat)) (o := 0) (l := Z1) (x := x109) (x' := ((-7), (0, ()))) (v := .agg [vi (-7), vi 0]) (On.at hs107 9 rfl) (by kernel_rfl) (of_content (L := Z1) (o := 0) (n := ((isort ltD (lnkOf L o.2.2.1)).length)) (rfl) hx109 (by first | rfl | omega | (simp only [ek_]; omega) | (simp; done) | (simp; omega))) (by kernel_rfl) (by kernel_rfl) (by kernel_rfl) (by kernel_rfl)))) ?_
   have hrl111 : Z1.length = (Z1.set ((i1 : Int).toNat) ((-7), (0, ()))).length := List.length_set.symm
   refine Eq.mpr (congrArg (fun z : Nat => Wp _ _ _ _ [(6, yp n3), (16, .y (.one (rowC k87 0 z 0 ((isort ltD (lnkOf L o.2.2.1)).length) false))), (17, .y (.one (c56))), (18, yp n73), (21, xb true), (22, xi i1)] (sto H106 k87 (.row true true 0 (0 + z) 2 ((Z1.set ((i1 : Int).toNat) ((-7), (0, ()))).flatMap (enc PD)))) _) hrl111) ?_
   refine wG (Eq.mp (congrArg (fun z : Nat => On [R, pts n1 (.obj [vb true, sv TT5 false rn rp D]), pts n2 (.obj [vi o.1, vi o.2.1, vi o.2.2.1.1, vi o.2.2.1.2.1, vi o.2.2.2.1.1, vi o.2.2.2.1.2.1]), pts n3 (.obj [vb false, nilC]), pts tt (.obj [.mp l, .mp mo]), pts l (lnkO (goneL L o.2.2.1)), pts mo (monO (goneM M o.2.2.1)), ownP TT5 c56 (toldG M o.2.2.1), pts n73 (.obj [vb true, sv TT5 false n66 n67 (allOf (goneL L o.2.2.1) (goneM M o.2.2.1))]), pts k87 (.row true true 0 (0 + z) 2 ((Z1.set ((i1 : Int).toNat) ((-7), (0, ()))).flatMap (enc PD)))] (sto H106 k87 (.row true true 0 (0 + z) 2 ((Z1.set ((i1 : Int).toNat) ((-7), (0, ()))).flatMap (enc PD))))) hrl111) (On.put (.row true true 0 (0 + Z1.length) 2 ((Z1.set ((i1 : Int).toNat) ((-7), (0, ()))).flatMap (enc PD))) hs107 9 rfl)) fun H112 hs113 => ?_
   refine wK ?_
   refine rRz [(6, yp n3), (16, .y (.one (rowC k87 0 (Z1.set ((i1 : Int).toNat) ((-7), (0, ()))).length 0 ((isort ltD (lnkOf L o.2.2.1)).length) false))), (17, .y (.one (c56))), (18, yp n73), (21, xb true), (22, xi (i1 + 1))] H112 (zL 1 (qoAdd H112 i1 1 (i1 + 1))) ?_
   exact ⟨(H112, (i1 + 1), (Z1.set ((i1 : Int).toNat) ((-7), (0, ())))), by kernel_rfl, (⟨(On.pick [0, 1, 2, 3, 4, 5, 6, 7, 8, 9] [] (by kernel_rfl) hs113), by omega, by omega, (by rw [List.length_set]; omega)⟩), (by show (_ : Nat) < _; simp only []; omega)⟩
  refine rSz [(6, yp n3), (16, .y (.one (rowC k87 0 Z1.length 0 ((isort ltD (lnkOf L o.2.2.1)).length) false))), (17, .y (.one (c56))), (18, yp n73), (21, xb true), (22, xi i1), (134, xb false)] H106 (zA 2 (Jf (H := H106) (s := PD) (t := 32) (ty := 0) (pu := true) (capd := false) (id := k87) (d := 0) (o := 0) (n := ((isort ltD (lnkOf L o.2.2.1)).length)) (l := Z1) (e := ((isort ltD (lnkOf L o.2.2.1)).length : Int)) (On.at hs107 9 rfl) (by kernel_rfl) (by first | rfl | omega | (simp only [ek_]; omega) | (simp; done) | (simp; omega))) (zL 3 (qlssF H106 i1 ((isort ltD (lnkOf L o.2.2.1)).length : Int)))) ?_
  refine wFa ?_
  refine wX ?_
  refine Eq.mpr (if_pos rfl) ?_
  refine wS ?_
  refine rs0 [(6, yp n3), (17, .y (.one (c56))), (18, yp n73), (21, xb true), (23, xi 0)] ?_
  refine wB ?_
  obtain ⟨rfl, hl116, hs114⟩ | ⟨k117, rfl, k117z, hs115⟩ := own_open hs107 7 rfl
  ·
   have hl116n : ((toldG M o.2.2.1).length : Int) = 0 := by rw [hl116]; rfl
   refine Wp.loopU [(6, yp n3), (17, .y (.one (nilC))), (18, yp n73), (21, xb true), (23, xi 0)] (some ([6, 17, 18, 21, 23], false)) (List.length H106) (by kernel_rfl) ?_
   refine WpL.step ?_
   refine wS ?_
   refine rs0 [(6, yp n3), (17, .y (.one (nilC))), (18, yp n73), (21, xb true), (23, xi 0), (144, xb false)] ?_
   refine wFa ?_
   refine wX ?_
   refine Eq.mpr (if_pos rfl) ?_
   refine rGz [(6, yp n3), (7, xb true)] (On.put (.obj [vb true, sv TT5 false n66 n67 (allOf (goneL L o.2.2.1) (goneM M o.2.2.1))]) hs114 3 rfl) (zA 0 (qA 48 (On.at hs114 7 rfl)) (zL 2 (qS 48 0 (.agg [vb true, sv TT5 false n66 n67 (allOf (goneL L o.2.2.1) (goneM M o.2.2.1))]) (On.at hs114 3 rfl)))) fun H118 hs119 => ?_
   refine wE ?_
   refine ⟨Or.inr rfl, [.agg [vb true, sv TT5 false n66 n67 (allOf (goneL L o.2.2.1) (goneM M o.2.2.1))], .one (vb true)], (rC (On.at hs119 3 rfl)), ?_⟩
   have g0 : decide (IEq o.1 1) = false := decide_eq_false (by omega)
   have g1 : decide (IEq o.1 2) = false := decide_eq_false (by omega)
   have g2 : decide (IEq o.1 3) = false := decide_eq_false (by omega)
   have g3 : decide (IEq o.1 4) = false := decide_eq_false (by omega)
   have g4 : decide (IEq o.1 5) = true := decide_eq_true (by omega)
   have e1 : stepL L M o = (goneL L o.2.2.1) := by unfold stepL; simp only [g0, g1, g2, g3, g4, if_true, if_false, Bool.false_eq_true]
   have e2 : stepM L M o = (goneM M o.2.2.1) := by unfold stepM; simp only [g0, g1, g2, g3, g4, if_true, if_false, Bool.false_eq_true]
   exact ⟨n66, n67, by rw [e1, e2], by rw [e1, e2]; exact (On.pick [0, 4, 5, 6] [1, 2, 3, 7, 8] (by kernel_rfl) hs119)⟩
  refine Wp.loop (T := HH × Int × List TT5.T) (fun t => match t with | (H121, i2, Z2) => ((((toldG M o.2.2.1).length : Int) - i2).toNat : Nat)) (fun t => match t with | (H121, i2, Z2) => ([(6, yp n3), (17, .y (.one (rowC k117 0 Z2.length 0 ((toldG M o.2.2.1).length) false))), (18, yp n73), (21, xb true), (23, xi i2)] : Env)) (fun t => match t with | (H121, i2, Z2) => (H121 : HH))
    (fun t => match t with | (H121, i2, Z2) => (On [R, pts n1 (.obj [vb true, sv TT5 false rn rp D]), pts n2 (.obj [vi o.1, vi o.2.1, vi o.2.2.1.1, vi o.2.2.1.2.1, vi o.2.2.2.1.1, vi o.2.2.2.1.2.1]), pts n3 (.obj [vb false, nilC]), pts tt (.obj [.mp l, .mp mo]), pts l (lnkO (goneL L o.2.2.1)), pts mo (monO (goneM M o.2.2.1)), pts n73 (.obj [vb true, sv TT5 false n66 n67 (allOf (goneL L o.2.2.1) (goneM M o.2.2.1))]), pts k87 (rowO PD true 0 Z1), pts k117 (rowO TT5 true 0 Z2)] H121 ∧ (0 ≤ i2) ∧ (i2 ≤ ((toldG M o.2.2.1).length : Int)) ∧ ((Z2.length : Int) = (toldG M o.2.2.1).length) : Prop)) (H106, 0, (toldG M o.2.2.1)) (by kernel_rfl) (⟨(On.pick [0, 1, 2, 3, 4, 5, 6, 7, 8, 9] [] (by kernel_rfl) hs115), by omega, by omega, rfl⟩) ?_
  rintro ⟨H121, i2, Z2⟩ ⟨hs122, hi21, hi22, hi23⟩
  show Wp _ _ _ _ [(6, yp n3), (17, .y (.one (rowC k117 0 Z2.length 0 ((toldG M o.2.2.1).length) false))), (18, yp n73), (21, xb true), (23, xi i2)] H121 _
  refine wS ?_
  rcases ilt (i2) (((toldG M o.2.2.1).length : Int)) with c123 | c123
  ·
   refine rSz [(6, yp n3), (17, .y (.one (rowC k117 0 Z2.length 0 ((toldG M o.2.2.1).length) false))), (18, yp n73), (21, xb true), (23, xi i2), (144, xb true)] H121 (zA 2 (Jf (H := H121) (s := TT5) (t := 35) (ty := 0) (pu := true) (capd := false) (id := k117) (d := 0) (o := 0) (n := ((toldG M o.2.2.1).length)) (l := Z2) (e := ((toldG M o.2.2.1).length : Int)) (On.at hs122 9 rfl) (by kernel_rfl) (by first | rfl | omega | (simp only [ek_]; omega) | (simp; done) | (simp; omega))) (zL 3 (qlssT H121 i2 ((toldG M o.2.2.1).length : Int)))) ?_
   refine wTk ?_
   refine wS (wB ?_)
   obtain ⟨x124, hx124⟩ : ∃ x : TT5.T, ((Z2.drop 0).take (toldG M o.2.2.1).length)[(i2 : Int).toNat]? = some x := get_of (by first | rfl | omega | (simp only [ek_]; omega) | (simp; done) | (simp; omega))
   refine rKz [(6, yp n3), (17, .y (.one (rowC k117 0 Z2.length 0 ((toldG M o.2.2.1).length) false))), (18, yp n73), (21, xb true), (23, xi i2)] (sto H121 k117 (.row true true 0 (0 + Z2.length) 5 ((Z2.set ((i2 : Int).toNat) ((-7), ((0, (0, ())), ((0, (0, ())), ())))).flatMap (enc TT5)))) (zA 3 (Jj (H := H121) (s := TT5) (t := 35) (el := 41) (ty := 0) (pu := true) (capd := false) (id := k117) (d := 0) (o := 0) (n := ((toldG M o.2.2.1).length)) (j := ((i2 : Int).toNat)) (l := Z2) (i := i2) (On.at hs122 9 rfl) Try.underlying35 (by kernel_rfl) (by omega) (by first | rfl | omega | (simp only [ek_]; omega) | (simp; done) | (simp; omega)) (by first | rfl | omega | (simp only [ek_]; omega) | (simp; done) | (simp; omega)) (by first | rfl | omega | (simp only [ek_]; omega) | (simp; done) | (simp; omega))) (zL 4 (Jm (H := H121) (s := TT5) (t := 41) (ty := 0) (pu := true) (id := k117) (d := 0) (j := ((i2 : Int).toNat)) (o := 0) (l := Z2) (x := x124) (x' := ((-7), ((0, (0, ())), ((0, (0, ())), ())))) (v := .agg [vi (-7), vi 0, vi 0, vi 0, vi 0]) (On.at hs122 9 rfl) (by kernel_rfl) (of_content (L := Z2) (o := 0) (n := ((toldG M o.2.2.1).length)) (rfl) hx124 (by first | rfl | omega | (simp only [ek_]; omega) | (simp; done) | (simp; omega))) (by kernel_rfl) (by kernel_rfl) (by kernel_rfl) (by kernel_rfl)))) ?_
   have hrl126 : Z2.length = (Z2.set ((i2 : Int).toNat) ((-7), ((0, (0, ())), ((0, (0, ())), ())))).length := List.length_set.symm
   refine Eq.mpr (congrArg (fun z : Nat => Wp _ _ _ _ [(6, yp n3), (17, .y (.one (rowC k117 0 z 0 ((toldG M o.2.2.1).length) false))), (18, yp n73), (21, xb true), (23, xi i2)] (sto H121 k117 (.row true true 0 (0 + z) 5 ((Z2.set ((i2 : Int).toNat) ((-7), ((0, (0, ())), ((0, (0, ())), ())))).flatMap (enc TT5)))) _) hrl126) ?_
   refine wG (Eq.mp (congrArg (fun z : Nat => On [R, pts n1 (.obj [vb true, sv TT5 false rn rp D]), pts n2 (.obj [vi o.1, vi o.2.1, vi o.2.2.1.1, vi o.2.2.1.2.1, vi o.2.2.2.1.1, vi o.2.2.2.1.2.1]), pts n3 (.obj [vb false, nilC]), pts tt (.obj [.mp l, .mp mo]), pts l (lnkO (goneL L o.2.2.1)), pts mo (monO (goneM M o.2.2.1)), pts n73 (.obj [vb true, sv TT5 false n66 n67 (allOf (goneL L o.2.2.1) (goneM M o.2.2.1))]), pts k87 (rowO PD true 0 Z1), pts k117 (.row true true 0 (0 + z) 5 ((Z2.set ((i2 : Int).toNat) ((-7), ((0, (0, ())), ((0, (0, ())), ())))).flatMap (enc TT5)))] (sto H121 k117 (.row true true 0 (0 + z) 5 ((Z2.set ((i2 : Int).toNat) ((-7), ((0, (0, ())), ((0, (0, ())), ())))).flatMap (enc TT5))))) hrl126) (On.put (.row true true 0 (0 + Z2.length) 5 ((Z2.set ((i2 : Int).toNat) ((-7), ((0, (0, ())), ((0, (0, ())), ())))).flatMap (enc TT5))) hs122 9 rfl)) fun H127 hs128 => ?_
   refine wK ?_
   refine rRz [(6, yp n3), (17, .y (.one (rowC k117 0 (Z2.set ((i2 : Int).toNat) ((-7), ((0, (0, ())), ((0, (0, ())), ())))).length 0 ((toldG M o.2.2.1).length) false))), (18, yp n73), (21, xb true), (23, xi (i2 + 1))] H127 (zL 1 (qoAdd H127 i2 1 (i2 + 1))) ?_
   exact ⟨(H127, (i2 + 1), (Z2.set ((i2 : Int).toNat) ((-7), ((0, (0, ())), ((0, (0, ())), ()))))), by kernel_rfl, (⟨(On.pick [0, 1, 2, 3, 4, 5, 6, 7, 8, 9] [] (by kernel_rfl) hs128), by omega, by omega, (by rw [List.length_set]; omega)⟩), (by show (_ : Nat) < _; simp only []; omega)⟩
  refine rSz [(6, yp n3), (17, .y (.one (rowC k117 0 Z2.length 0 ((toldG M o.2.2.1).length) false))), (18, yp n73), (21, xb true), (23, xi i2), (144, xb false)] H121 (zA 2 (Jf (H := H121) (s := TT5) (t := 35) (ty := 0) (pu := true) (capd := false) (id := k117) (d := 0) (o := 0) (n := ((toldG M o.2.2.1).length)) (l := Z2) (e := ((toldG M o.2.2.1).length : Int)) (On.at hs122 9 rfl) (by kernel_rfl) (by first | rfl | omega | (simp only [ek_]; omega) | (simp; done) | (simp; omega))) (zL 3 (qlssF H121 i2 ((toldG M o.2.2.1).length : Int)))) ?_
  refine wFa ?_
  refine wX ?_
  refine Eq.mpr (if_pos rfl) ?_
  refine rGz [(6, yp n3), (7, xb true)] (On.put (.obj [vb true, sv TT5 false n66 n67 (allOf (goneL L o.2.2.1) (goneM M o.2.2.1))]) hs122 3 rfl) (zA 0 (qA 48 (On.at hs122 7 rfl)) (zL 2 (qS 48 0 (.agg [vb true, sv TT5 false n66 n67 (allOf (goneL L o.2.2.1) (goneM M o.2.2.1))]) (On.at hs122 3 rfl)))) fun H129 hs130 => ?_
  refine wE ?_
  refine ⟨Or.inr rfl, [.agg [vb true, sv TT5 false n66 n67 (allOf (goneL L o.2.2.1) (goneM M o.2.2.1))], .one (vb true)], (rC (On.at hs130 3 rfl)), ?_⟩
  have g0 : decide (IEq o.1 1) = false := decide_eq_false (by omega)
  have g1 : decide (IEq o.1 2) = false := decide_eq_false (by omega)
  have g2 : decide (IEq o.1 3) = false := decide_eq_false (by omega)
  have g3 : decide (IEq o.1 4) = false := decide_eq_false (by omega)
  have g4 : decide (IEq o.1 5) = true := decide_eq_true (by omega)
  have e1 : stepL L M o = (goneL L o.2.2.1) := by unfold stepL; simp only [g0, g1, g2, g3, g4, if_true, if_false, Bool.false_eq_true]
  have e2 : stepM L M o = (goneM M o.2.2.1) := by unfold stepM; simp only [g0, g1, g2, g3, g4, if_true, if_false, Bool.false_eq_true]
  exact ⟨n66, n67, by rw [e1, e2], by rw [e1, e2]; exact (On.pick [0, 4, 5, 6] [1, 2, 3, 7, 8, 9] (by kernel_rfl) hs130)⟩
 refine rSz [(0, yp tt), (4, yp n1), (5, yp n2), (6, yp n3), (106, xb false)] H4 (zL 0 (Ja (vals := [xi o.1, xi 5]) (H := H4) (op := .binOp .eql 3 (.tmp 0) (.tmp 1) 3) (ty := 0) (r := xb (beqI (o.1) (5))) (v := xb false) (by kernel_rfl) (congrArg (fun z => xb z) (beq_f (by omega))))) ?_
 refine wFk ?_
 refine rGz [(6, yp n3), (7, xb true)] (On.put (.obj [vb true, sv TT5 false rn rp D]) hs5 6 rfl) (zA 0 (qA 48 (On.at hs5 4 rfl)) (zL 1 (qS 48 0 (.agg [vb true, sv TT5 false rn rp D]) (On.at hs5 6 rfl)))) fun H131 hs132 => ?_
 refine wE ?_
 refine ⟨Or.inr rfl, [.agg [vb true, sv TT5 false rn rp D], .one (vb true)], (rC (On.at hs132 6 rfl)), ?_⟩
 have g0 : decide (IEq o.1 1) = false := decide_eq_false (by omega)
 have g1 : decide (IEq o.1 2) = false := decide_eq_false (by omega)
 have g2 : decide (IEq o.1 3) = false := decide_eq_false (by omega)
 have g3 : decide (IEq o.1 4) = false := decide_eq_false (by omega)
 have g4 : decide (IEq o.1 5) = false := decide_eq_false (by omega)
 have e1 : stepL L M o = L := by unfold stepL; simp only [g0, g1, g2, g3, g4, if_true, if_false, Bool.false_eq_true]
 have e2 : stepM L M o = M := by unfold stepM; simp only [g0, g1, g2, g3, g4, if_true, if_false, Bool.false_eq_true]
 exact ⟨rn, rp, by rw [e1, e2, hD], by rw [e1, e2]; exact (On.pick [0, 1, 2, 3] [4, 5, 6] (by kernel_rfl) hs132)⟩
end Go.Proofs.Ytjhgjbagmkiibaa.E
