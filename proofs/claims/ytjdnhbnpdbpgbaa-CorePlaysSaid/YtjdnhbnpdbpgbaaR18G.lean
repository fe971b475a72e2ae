/- Lemmas. -/
import Derived.Test.YtjdnhbnpdbpgbaaR18F
namespace Go.Proofs.Ytjdnhbnpdbpgbaa
open Go.Lg
set_option linter.unusedVariables false
set_option maxRecDepth 100000
set_option maxHeartbeats 8000000
set_option linter.unusedSimpArgs false
def LoadOk (l0 l1 l2 : List EN.T) : Prop := (pids l0 ++ (pids l1 ++ pids l2)).Nodup
def LoadBad (l0 l1 l2 : List EN.T) : Prop := ¬ LoadOk l0 l1 l2
theorem nd_at0 {l0 l1 l2 : List EN.T} (h : LoadOk l0 l1 l2) : ([] ++ (pids l0 ++ (pids l1 ++ pids l2))).Nodup := h
theorem nd_at1 {l0 l1 l2 : List EN.T} (h : LoadOk l0 l1 l2) : (pids l0 ++ (pids l1 ++ pids l2)).Nodup := h
theorem nd_at2 {l0 l1 l2 : List EN.T} (h : LoadOk l0 l1 l2) : ((pids l0 ++ pids l1) ++ (pids l2 ++ [])).Nodup := by
  rw [eb_, List.append_assoc]; exact h
theorem load_good {l0 l1 l2 : List EN.T} {ks : List PN.T} (hn : ks.Nodup) (e : ks = (pids l0 ++ pids l1) ++ pids l2) : LoadOk l0 l1 l2 := by
  subst e
  rw [List.append_assoc] at hn
  exact hn
theorem load_s (R : HP) (H : HH) (b nn9 cp : Bool) (S : List Int) (hand : Int) (aa0 nn0 pp0 aa1 nn1 pp1 aa2 nn2 pp2 : Bool) (l0 l1 l2 : List EN.T) (hzl0 : (l0.length : Int) ≤ 70368744177664) (hzl1 : (l1.length : Int) ≤ 70368744177664) (hzl2 : (l2.length : Int) ≤ 70368744177664) (hs : On [R] H) (hsl : (S.length : Int) ≤ 4611686018427387904) (hnn : okW S = true → nn9 = false) : ∃ rs H', Runs pg an 8 [.one (sv NI b nn9 cp S), .one (vi hand), .agg [sv EN aa0 nn0 pp0 l0, sv EN aa1 nn1 pp1 l1, sv EN aa2 nn2 pp2 l2]] H rs H' ∧ ((okW S = false ∧ rs = [.one (.sc (.pointer none)), .one (vi 20)] ∧ On [R] H') ∨ (okW S = true ∧ LoadBad l0 l1 l2 ∧ rs = [.one (.sc (.pointer none)), .one (vi 1)] ∧ On [R] H') ∨ (okW S = true ∧ LoadOk l0 l1 l2 ∧ (hand < 0 ∨ (S.length : Int) ≤ hand) ∧ rs = [.one (.sc (.pointer none)), .one (vi 1)] ∧ On [R] H') ∨ (okW S = true ∧ LoadOk l0 l1 l2 ∧ (0 ≤ hand ∧ hand < (S.length : Int)) ∧ (64 < (l0.length : Int) ∨ 64 < (l1.length : Int) ∨ 64 < (l2.length : Int)) ∧ rs = [.one (.sc (.pointer none)), .one (vi 2)] ∧ On [R] H') ∨ (okW S = true ∧ LoadOk l0 l1 l2 ∧ (0 ≤ hand ∧ hand < (S.length : Int)) ∧ ((l0.length : Int) ≤ 64 ∧ (l1.length : Int) ≤ 64 ∧ (l2.length : Int) ≤ 64) ∧ ∃ c' ks' q0' q1' q2', rs = [.one (.ptr c' 0), .one (vi 0)] ∧ On [R, pts c' (.obj (cO ks' S hand q0' q1' q2')), kP ks' S, gP q0' l0, gP q1' l1, gP q2' l2] H')) := by
 refine rOF Try.func8 rfl ?_
 obtain ⟨n1, hn1⟩ := lX H
 refine rGz [(0, .y (.one (sv NI b nn9 cp S))), (1, xi hand), (5, yp n1)] (On.new' hn1 (.obj [sv EN aa0 nn0 pp0 l0, sv EN aa1 nn1 pp1 l1, sv EN aa2 nn2 pp2 l2]) hs) (zL 0 (qB 24 [sv EN aa0 nn0 pp0 l0, sv EN aa1 nn1 pp1 l1, sv EN aa2 nn2 pp2 l2] hn1)) fun H2 hs3 => ?_
 refine wS ?_
 rcases Bool.eq_false_or_eq_true ((okW S)) with c4 | c4
 ·
  have hk5 := okW_len c4
  obtain rfl : nn9 = false := hnn c4
  refine rSz [(0, .y (.one (sv NI b false cp S))), (1, xi hand), (5, yp n1), (8, xi 0)] H2 (zL 1 (Jh (H := H2) (g := 25) (x := .one (sv NI b false cp S)) (res := [.one (vi 0)]) (by have := wcheck b false cp S (by omega); rw [c4] at this; exact this) (by kernel_rfl) (by kernel_rfl))) ?_
  refine rs0 [(0, .y (.one (sv NI b false cp S))), (1, xi hand), (5, yp n1), (8, xi 0), (21, xb false)] ?_
  refine wFk ?_
  obtain ⟨n6, hn6⟩ := lX H2
  refine rGz [(0, .y (.one (sv NI b false cp S))), (1, xi hand), (5, yp n1), (9, .y (.one (.mp n6)))] (On.new' hn6 (cntO PN (ones ([] : List PN.T))) hs3) (zL 0 (Je1 (H := H2) (s := PN) (t := 77) (ty := 0) (n := n6) hn6 (by kernel_rfl))) fun H7 hs8 => ?_
  refine rs0 [(0, .y (.one (sv NI b false cp S))), (1, xi hand), (5, yp n1), (9, .y (.one (.mp n6))), (10, xb false)] ?_
  refine wS ?_
  refine rSz [(0, .y (.one (sv NI b false cp S))), (1, xi hand), (5, yp n1), (9, .y (.one (.mp n6))), (10, xb false), (24, .y (.agg [sv EN aa0 nn0 pp0 l0, sv EN aa1 nn1 pp1 l1, sv EN aa2 nn2 pp2 l2])), (25, xi 0)] H7 (zL 0 (qL 24 0 (.agg [sv EN aa0 nn0 pp0 l0, sv EN aa1 nn1 pp1 l1, sv EN aa2 nn2 pp2 l2]) (On.at hs8 1 rfl))) ?_
  refine wB ?_
  refine Wp.loopU [(0, .y (.one (sv NI b false cp S))), (1, xi hand), (5, yp n1), (9, .y (.one (.mp n6))), (10, xb false), (24, .y (.agg [sv EN aa0 nn0 pp0 l0, sv EN aa1 nn1 pp1 l1, sv EN aa2 nn2 pp2 l2])), (25, xi 0)] (some ([0, 1, 5, 9, 10, 24, 25], false)) (List.length H7) (by kernel_rfl) ?_
  refine WpL.step ?_
  refine rs0 [(0, .y (.one (sv NI b false cp S))), (1, xi hand), (5, yp n1), (9, .y (.one (.mp n6))), (10, xb false), (24, .y (.agg [sv EN aa0 nn0 pp0 l0, sv EN aa1 nn1 pp1 l1, sv EN aa2 nn2 pp2 l2])), (25, xi 0), (26, xb true)] ?_
  refine wS (wTk ?_)
  refine wS (wB ?_)
  refine rs0 [(0, .y (.one (sv NI b false cp S))), (1, xi hand), (5, yp n1), (9, .y (.one (.mp n6))), (10, xb false), (12, .y (.one (sv EN aa0 nn0 pp0 l0))), (24, .y (.agg [sv EN aa0 nn0 pp0 l0, sv EN aa1 nn1 pp1 l1, sv EN aa2 nn2 pp2 l2])), (25, xi 0)] ?_
  refine Wp.meet 1 (T := HH × Bool) (fun t => match t with | (H9, fu0) => ([(0, .y (.one (sv NI b false cp S))), (1, xi hand), (5, yp n1), (9, .y (.one (.mp n6))), (10, xb fu0), (12, .y (.one (sv EN aa0 nn0 pp0 l0))), (24, .y (.agg [sv EN aa0 nn0 pp0 l0, sv EN aa1 nn1 pp1 l1, sv EN aa2 nn2 pp2 l2])), (25, xi 0)] : Env)) (fun t => match t with | (H9, fu0) => (H9 : HH)) (fun t => match t with | (H9, fu0) => (On [R, pts n1 (.obj [sv EN aa0 nn0 pp0 l0, sv EN aa1 nn1 pp1 l1, sv EN aa2 nn2 pp2 l2]), pts n6 (cntO PN (ones ([] : List PN.T)))] H9 ∧ (fu0 = true → (64 < (l0.length : Int))) ∧ (fu0 = false → ((l0.length : Int) ≤ 64)) : Prop)) ?_ ?_
  ·
   rintro ⟨H9, fu0⟩ ⟨hs10, hfa0, hfb0⟩
   show Wp _ _ _ _ [(0, .y (.one (sv NI b false cp S))), (1, xi hand), (5, yp n1), (9, .y (.one (.mp n6))), (10, xb fu0), (12, .y (.one (sv EN aa0 nn0 pp0 l0))), (24, .y (.agg [sv EN aa0 nn0 pp0 l0, sv EN aa1 nn1 pp1 l1, sv EN aa2 nn2 pp2 l2])), (25, xi 0)] H9 _
   refine rs0 [(0, .y (.one (sv NI b false cp S))), (1, xi hand), (5, yp n1), (9, .y (.one (.mp n6))), (10, xb fu0), (24, .y (.agg [sv EN aa0 nn0 pp0 l0, sv EN aa1 nn1 pp1 l1, sv EN aa2 nn2 pp2 l2])), (25, xi 0), (34, .y (.one (sv EN aa0 nn0 pp0 l0))), (35, xi (l0.length : Int)), (36, xi 0)] ?_
   refine wB ?_
   refine Wp.loop (T := HH × Int × List PN.T) (fun t => match t with | (H13, i0, kz0) => (((l0.length : Int) - i0).toNat : Nat)) (fun t => match t with | (H13, i0, kz0) => ([(0, .y (.one (sv NI b false cp S))), (1, xi hand), (5, yp n1), (9, .y (.one (.mp n6))), (10, xb fu0), (24, .y (.agg [sv EN aa0 nn0 pp0 l0, sv EN aa1 nn1 pp1 l1, sv EN aa2 nn2 pp2 l2])), (25, xi 0), (34, .y (.one (sv EN aa0 nn0 pp0 l0))), (35, xi (l0.length : Int)), (36, xi i0)] : Env)) (fun t => match t with | (H13, i0, kz0) => (H13 : HH))
     (fun t => match t with | (H13, i0, kz0) => (On [R, pts n1 (.obj [sv EN aa0 nn0 pp0 l0, sv EN aa1 nn1 pp1 l1, sv EN aa2 nn2 pp2 l2]), pts n6 (cntO PN (ones kz0))] H13 ∧ (0 ≤ i0) ∧ (i0 ≤ (l0.length : Int)) ∧ (kz0 = [] ++ pids (l0.take i0.toNat)) ∧ (kz0.Nodup) : Prop)) (H9, 0, ([] : List PN.T)) (by kernel_rfl) (⟨(On.pick [0, 1, 2] [] (by kernel_rfl) hs10), by omega, by omega, by simp, by simp⟩) ?_
   rintro ⟨H13, i0, kz0⟩ ⟨hs14, g1i0, g2i0, g3i0, g5i0⟩
   show Wp _ _ _ _ [(0, .y (.one (sv NI b false cp S))), (1, xi hand), (5, yp n1), (9, .y (.one (.mp n6))), (10, xb fu0), (24, .y (.agg [sv EN aa0 nn0 pp0 l0, sv EN aa1 nn1 pp1 l1, sv EN aa2 nn2 pp2 l2])), (25, xi 0), (34, .y (.one (sv EN aa0 nn0 pp0 l0))), (35, xi (l0.length : Int)), (36, xi i0)] H13 _
   by_cases c15 : (i0 : Int) < (l0.length : Int)
   ·
    refine rSz [(0, .y (.one (sv NI b false cp S))), (1, xi hand), (5, yp n1), (9, .y (.one (.mp n6))), (10, xb fu0), (24, .y (.agg [sv EN aa0 nn0 pp0 l0, sv EN aa1 nn1 pp1 l1, sv EN aa2 nn2 pp2 l2])), (25, xi 0), (34, .y (.one (sv EN aa0 nn0 pp0 l0))), (35, xi (l0.length : Int)), (36, xi i0), (37, xb true)] H13 (zL 0 (qlssT H13 i0 (l0.length : Int))) ?_
    refine wS (wTk ?_)
    refine wS (wB ?_)
    obtain ⟨x16, hx16⟩ : ∃ x, l0[(i0 : Int).toNat]? = some x := get_of (by omega)
    obtain ⟨n17, hn17⟩ := lX H13
    refine rGz [(0, .y (.one (sv NI b false cp S))), (1, xi hand), (5, yp n1), (9, .y (.one (.mp n6))), (10, xb fu0), (14, yp n17), (24, .y (.agg [sv EN aa0 nn0 pp0 l0, sv EN aa1 nn1 pp1 l1, sv EN aa2 nn2 pp2 l2])), (25, xi 0), (34, .y (.one (sv EN aa0 nn0 pp0 l0))), (35, xi (l0.length : Int)), (36, xi i0)] (On.put (.obj [vi x16.1.1, vi x16.1.2.1, vb x16.2.1]) (On.new' hn17 (.obj [vi 0, vi 0, vb false]) hs14) 3 rfl) (zA 0 (Jb (H := H13) (s := EN) (b := aa0) (nil := nn0) (capd := pp0) (t := 23) (el := 40) (i := i0) Try.underlying23 (by kernel_rfl) (by kernel_rfl) (by omega) hx16) (zA 2 (qO 40 [vi 0, vi 0, vb false] hn17) (zL 3 (qS 40 0 (.agg [vi x16.1.1, vi x16.1.2.1, vb x16.2.1]) (On.at (On.new' hn17 (.obj [vi 0, vi 0, vb false]) hs14) 3 rfl))))) fun H18 hs19 => ?_
    rcases Bool.eq_false_or_eq_true ((memB PN x16.1 kz0)) with c20 | c20
    ·
     obtain ⟨j21, hg22, hk23⟩ := seek_in (CntOK.flat there_ok) c20
     refine rGz [(0, .y (.one (sv NI b false cp S))), (1, xi hand), (5, yp n1), (9, .y (.one (.mp n6))), (10, xb fu0), (14, yp n17), (24, .y (.agg [sv EN aa0 nn0 pp0 l0, sv EN aa1 nn1 pp1 l1, sv EN aa2 nn2 pp2 l2])), (25, xi 0), (34, .y (.one (sv EN aa0 nn0 pp0 l0))), (35, xi (l0.length : Int)), (36, xi i0)] (On.put (cntO PN ((ones kz0).set j21 (x16.1, 2))) (On.put (cntO PN (ones kz0)) hs19 2 rfl) 2 rfl) (zA 2 (qL 38 0 (.agg [vi x16.1.1, vi x16.1.2.1]) (On.at hs19 3 rfl)) (zA 3 (Je (H := H18) (s := PN) (t := 77) (ty := 0) (id := n6) (x := x16.1) (l := ones kz0) (v := 1) (On.at hs19 2 rfl) there_ok (got_one (CntOK.flat there_ok) c20)) (zA 5 (Jw (H := H18) (s := PN) (t := 77) (ty := 0) (id := n6) (x := x16.1) (l := ones kz0) (j := j21) (v := 1) (On.at hs19 2 rfl) there_ok hk23) (zL 7 (Jx (H := (sto H18 n6 (cntO PN (ones kz0)))) (s := PN) (t := 77) (ty := 0) (id := n6) (x := x16.1) (l := ones kz0) (j := j21) (v0 := 1) (v := 2) (b := (j21 : Int)) (On.at (On.put (cntO PN (ones kz0)) hs19 2 rfl) 2 rfl) rfl (ones_get hg22)))))) fun H24 hs25 => ?_
     refine rSz [(0, .y (.one (sv NI b false cp S))), (1, xi hand), (5, yp n1), (9, .y (.one (.mp n6))), (10, xb fu0), (24, .y (.agg [sv EN aa0 nn0 pp0 l0, sv EN aa1 nn1 pp1 l1, sv EN aa2 nn2 pp2 l2])), (25, xi 0), (34, .y (.one (sv EN aa0 nn0 pp0 l0))), (35, xi (l0.length : Int)), (36, xi i0), (51, xb true)] H24 (zA 2 (qL 38 0 (.agg [vi x16.1.1, vi x16.1.2.1]) (On.at hs25 3 rfl)) (zL 3 (Je (H := H24) (s := PN) (t := 77) (ty := 0) (id := n6) (x := x16.1) (l := (ones kz0).set j21 (x16.1, 2)) (v := 2) (On.at hs25 2 rfl) there_ok (got_set (CntOK.flat there_ok) hk23)))) ?_
     refine wTa ?_
     refine rs0 [(6, .y (.one (.sc (.pointer none)))), (7, xi 1)] ?_
     refine wE ?_
     refine ⟨Or.inr rfl, [.one (.sc (.pointer none)), .one (vi 1)], (by kernel_rfl), ?_⟩
     exact .inr (.inl ⟨c4, (fun hnd => by have := nd_at (A := []) (B := (pids l1 ++ pids l2)) (x := x16) (nd_at0 hnd) g1i0 hx16 g3i0; rw [this] at c20; cases c20), rfl, (On.pick [0] [1, 2, 3] (by kernel_rfl) hs25)⟩)
    refine rGz [(0, .y (.one (sv NI b false cp S))), (1, xi hand), (5, yp n1), (9, .y (.one (.mp n6))), (10, xb fu0), (14, yp n17), (24, .y (.agg [sv EN aa0 nn0 pp0 l0, sv EN aa1 nn1 pp1 l1, sv EN aa2 nn2 pp2 l2])), (25, xi 0), (34, .y (.one (sv EN aa0 nn0 pp0 l0))), (35, xi (l0.length : Int)), (36, xi i0)] (On.put (cntO PN (ones (kz0 ++ [x16.1]))) (On.put (cntO PN (ones kz0 ++ [(x16.1, 0)])) hs19 2 rfl) 2 rfl) (zA 2 (qL 38 0 (.agg [vi x16.1.1, vi x16.1.2.1]) (On.at hs19 3 rfl)) (zA 3 (Je (H := H18) (s := PN) (t := 77) (ty := 0) (id := n6) (x := x16.1) (l := ones kz0) (v := 0) (On.at hs19 2 rfl) there_ok (got_none (CntOK.flat there_ok) c20)) (zA 5 (Jy (H := H18) (s := PN) (t := 77) (ty := 0) (id := n6) (x := x16.1) (l := ones kz0) (On.at hs19 2 rfl) there_ok (seek_out (CntOK.flat there_ok) c20)) (zL 7 (Jz (H := (sto H18 n6 (cntO PN (ones kz0 ++ [(x16.1, 0)])))) (s := PN) (t := 77) (ty := 0) (id := n6) (x := x16.1) (l := kz0) (b := ((ones kz0).length : Int)) (On.at (On.put (cntO PN (ones kz0 ++ [(x16.1, 0)])) hs19 2 rfl) 2 rfl) rfl))))) fun H26 hs27 => ?_
    refine rSz [(0, .y (.one (sv NI b false cp S))), (1, xi hand), (5, yp n1), (9, .y (.one (.mp n6))), (10, xb fu0), (24, .y (.agg [sv EN aa0 nn0 pp0 l0, sv EN aa1 nn1 pp1 l1, sv EN aa2 nn2 pp2 l2])), (25, xi 0), (34, .y (.one (sv EN aa0 nn0 pp0 l0))), (35, xi (l0.length : Int)), (36, xi i0), (51, xb false)] H26 (zA 2 (qL 38 0 (.agg [vi x16.1.1, vi x16.1.2.1]) (On.at hs27 3 rfl)) (zL 3 (Je (H := H26) (s := PN) (t := 77) (ty := 0) (id := n6) (x := x16.1) (l := ones (kz0 ++ [x16.1])) (v := 1) (On.at hs27 2 rfl) there_ok (got_one (CntOK.flat there_ok) (memB_last (CntOK.flat there_ok)))))) ?_
    refine wFk ?_
    refine rRz [(0, .y (.one (sv NI b false cp S))), (1, xi hand), (5, yp n1), (9, .y (.one (.mp n6))), (10, xb fu0), (24, .y (.agg [sv EN aa0 nn0 pp0 l0, sv EN aa1 nn1 pp1 l1, sv EN aa2 nn2 pp2 l2])), (25, xi 0), (34, .y (.one (sv EN aa0 nn0 pp0 l0))), (35, xi (l0.length : Int)), (36, xi (i0 + 1))] H26 (zL 0 (qoAdd H26 i0 1 (i0 + 1))) ?_
    exact ⟨(H26, (i0 + 1), (kz0 ++ [x16.1])), by kernel_rfl, (⟨(On.pick [0, 1, 2] [3] (by kernel_rfl) hs27), by omega, by omega, pids_step g1i0 hx16 g3i0, nd_snoc g5i0 c20⟩), (by show (_ : Nat) < _; simp only []; omega)⟩
   refine rSz [(0, .y (.one (sv NI b false cp S))), (1, xi hand), (5, yp n1), (9, .y (.one (.mp n6))), (10, xb fu0), (24, .y (.agg [sv EN aa0 nn0 pp0 l0, sv EN aa1 nn1 pp1 l1, sv EN aa2 nn2 pp2 l2])), (25, xi 0), (34, .y (.one (sv EN aa0 nn0 pp0 l0))), (35, xi (l0.length : Int)), (36, xi i0), (37, xb false)] H13 (zL 0 (qlssF H13 i0 (l0.length : Int))) ?_
   refine wS ?_
   refine wFa ?_
   refine wX ?_
   refine Eq.mpr (if_pos rfl) ?_
   refine rRz [(0, .y (.one (sv NI b false cp S))), (1, xi hand), (5, yp n1), (9, .y (.one (.mp n6))), (10, xb fu0), (24, .y (.agg [sv EN aa0 nn0 pp0 l0, sv EN aa1 nn1 pp1 l1, sv EN aa2 nn2 pp2 l2])), (25, xi 1)] H13 zN ?_
   refine ⟨_, _, rfl, ?_⟩
   refine WpL.step ?_
   refine rs0 [(0, .y (.one (sv NI b false cp S))), (1, xi hand), (5, yp n1), (9, .y (.one (.mp n6))), (10, xb fu0), (24, .y (.agg [sv EN aa0 nn0 pp0 l0, sv EN aa1 nn1 pp1 l1, sv EN aa2 nn2 pp2 l2])), (25, xi 1), (26, xb true)] ?_
   refine wS (wTk ?_)
   refine wS (wB ?_)
   refine rs0 [(0, .y (.one (sv NI b false cp S))), (1, xi hand), (5, yp n1), (9, .y (.one (.mp n6))), (10, xb fu0), (12, .y (.one (sv EN aa1 nn1 pp1 l1))), (24, .y (.agg [sv EN aa0 nn0 pp0 l0, sv EN aa1 nn1 pp1 l1, sv EN aa2 nn2 pp2 l2])), (25, xi 1)] ?_
   refine Wp.meet 1 (T := HH × Bool) (fun t => match t with | (H28, fu1) => ([(0, .y (.one (sv NI b false cp S))), (1, xi hand), (5, yp n1), (9, .y (.one (.mp n6))), (10, xb fu1), (12, .y (.one (sv EN aa1 nn1 pp1 l1))), (24, .y (.agg [sv EN aa0 nn0 pp0 l0, sv EN aa1 nn1 pp1 l1, sv EN aa2 nn2 pp2 l2])), (25, xi 1)] : Env)) (fun t => match t with | (H28, fu1) => (H28 : HH)) (fun t => match t with | (H28, fu1) => (On [R, pts n1 (.obj [sv EN aa0 nn0 pp0 l0, sv EN aa1 nn1 pp1 l1, sv EN aa2 nn2 pp2 l2]), pts n6 (cntO PN (ones kz0))] H28 ∧ (fu1 = true → (64 < (l0.length : Int) ∨ 64 < (l1.length : Int))) ∧ (fu1 = false → ((l0.length : Int) ≤ 64 ∧ (l1.length : Int) ≤ 64)) : Prop)) ?_ ?_
   ·
    rintro ⟨H28, fu1⟩ ⟨hs29, hfa1, hfb1⟩
    show Wp _ _ _ _ [(0, .y (.one (sv NI b false cp S))), (1, xi hand), (5, yp n1), (9, .y (.one (.mp n6))), (10, xb fu1), (12, .y (.one (sv EN aa1 nn1 pp1 l1))), (24, .y (.agg [sv EN aa0 nn0 pp0 l0, sv EN aa1 nn1 pp1 l1, sv EN aa2 nn2 pp2 l2])), (25, xi 1)] H28 _
    refine rs0 [(0, .y (.one (sv NI b false cp S))), (1, xi hand), (5, yp n1), (9, .y (.one (.mp n6))), (10, xb fu1), (24, .y (.agg [sv EN aa0 nn0 pp0 l0, sv EN aa1 nn1 pp1 l1, sv EN aa2 nn2 pp2 l2])), (25, xi 1), (34, .y (.one (sv EN aa1 nn1 pp1 l1))), (35, xi (l1.length : Int)), (36, xi 0)] ?_
    refine wB ?_
    refine Wp.loop (T := HH × Int × List PN.T) (fun t => match t with | (H32, i1, kz1) => (((l1.length : Int) - i1).toNat : Nat)) (fun t => match t with | (H32, i1, kz1) => ([(0, .y (.one (sv NI b false cp S))), (1, xi hand), (5, yp n1), (9, .y (.one (.mp n6))), (10, xb fu1), (24, .y (.agg [sv EN aa0 nn0 pp0 l0, sv EN aa1 nn1 pp1 l1, sv EN aa2 nn2 pp2 l2])), (25, xi 1), (34, .y (.one (sv EN aa1 nn1 pp1 l1))), (35, xi (l1.length : Int)), (36, xi i1)] : Env)) (fun t => match t with | (H32, i1, kz1) => (H32 : HH))
      (fun t => match t with | (H32, i1, kz1) => (On [R, pts n1 (.obj [sv EN aa0 nn0 pp0 l0, sv EN aa1 nn1 pp1 l1, sv EN aa2 nn2 pp2 l2]), pts n6 (cntO PN (ones kz1))] H32 ∧ (0 ≤ i1) ∧ (i1 ≤ (l1.length : Int)) ∧ (kz1 = pids l0 ++ pids (l1.take i1.toNat)) ∧ (kz1.Nodup) : Prop)) (H28, 0, kz0) (by kernel_rfl) (⟨(On.pick [0, 1, 2] [] (by kernel_rfl) hs29), by omega, by omega, by rw [pids_end (by omega) g3i0]; simp, g5i0⟩) ?_
    rintro ⟨H32, i1, kz1⟩ ⟨hs33, g1i1, g2i1, g3i1, g5i1⟩
    show Wp _ _ _ _ [(0, .y (.one (sv NI b false cp S))), (1, xi hand), (5, yp n1), (9, .y (.one (.mp n6))), (10, xb fu1), (24, .y (.agg [sv EN aa0 nn0 pp0 l0, sv EN aa1 nn1 pp1 l1, sv EN aa2 nn2 pp2 l2])), (25, xi 1), (34, .y (.one (sv EN aa1 nn1 pp1 l1))), (35, xi (l1.length : Int)), (36, xi i1)] H32 _
    by_cases c34 : (i1 : Int) < (l1.length : Int)
    ·
     refine rSz [(0, .y (.one (sv NI b false cp S))), (1, xi hand), (5, yp n1), (9, .y (.one (.mp n6))), (10, xb fu1), (24, .y (.agg [sv EN aa0 nn0 pp0 l0, sv EN aa1 nn1 pp1 l1, sv EN aa2 nn2 pp2 l2])), (25, xi 1), (34, .y (.one (sv EN aa1 nn1 pp1 l1))), (35, xi (l1.length : Int)), (36, xi i1), (37, xb true)] H32 (zL 0 (qlssT H32 i1 (l1.length : Int))) ?_
     refine wS (wTk ?_)
     refine wS (wB ?_)
     obtain ⟨x35, hx35⟩ : ∃ x, l1[(i1 : Int).toNat]? = some x := get_of (by omega)
     obtain ⟨n36, hn36⟩ := lX H32
     refine rGz [(0, .y (.one (sv NI b false cp S))), (1, xi hand), (5, yp n1), (9, .y (.one (.mp n6))), (10, xb fu1), (14, yp n36), (24, .y (.agg [sv EN aa0 nn0 pp0 l0, sv EN aa1 nn1 pp1 l1, sv EN aa2 nn2 pp2 l2])), (25, xi 1), (34, .y (.one (sv EN aa1 nn1 pp1 l1))), (35, xi (l1.length : Int)), (36, xi i1)] (On.put (.obj [vi x35.1.1, vi x35.1.2.1, vb x35.2.1]) (On.new' hn36 (.obj [vi 0, vi 0, vb false]) hs33) 3 rfl) (zA 0 (Jb (H := H32) (s := EN) (b := aa1) (nil := nn1) (capd := pp1) (t := 23) (el := 40) (i := i1) Try.underlying23 (by kernel_rfl) (by kernel_rfl) (by omega) hx35) (zA 2 (qO 40 [vi 0, vi 0, vb false] hn36) (zL 3 (qS 40 0 (.agg [vi x35.1.1, vi x35.1.2.1, vb x35.2.1]) (On.at (On.new' hn36 (.obj [vi 0, vi 0, vb false]) hs33) 3 rfl))))) fun H37 hs38 => ?_
     rcases Bool.eq_false_or_eq_true ((memB PN x35.1 kz1)) with c39 | c39
     ·
      obtain ⟨j40, hg41, hk42⟩ := seek_in (CntOK.flat there_ok) c39
      refine rGz [(0, .y (.one (sv NI b false cp S))), (1, xi hand), (5, yp n1), (9, .y (.one (.mp n6))), (10, xb fu1), (14, yp n36), (24, .y (.agg [sv EN aa0 nn0 pp0 l0, sv EN aa1 nn1 pp1 l1, sv EN aa2 nn2 pp2 l2])), (25, xi 1), (34, .y (.one (sv EN aa1 nn1 pp1 l1))), (35, xi (l1.length : Int)), (36, xi i1)] (On.put (cntO PN ((ones kz1).set j40 (x35.1, 2))) (On.put (cntO PN (ones kz1)) hs38 2 rfl) 2 rfl) (zA 2 (qL 38 0 (.agg [vi x35.1.1, vi x35.1.2.1]) (On.at hs38 3 rfl)) (zA 3 (Je (H := H37) (s := PN) (t := 77) (ty := 0) (id := n6) (x := x35.1) (l := ones kz1) (v := 1) (On.at hs38 2 rfl) there_ok (got_one (CntOK.flat there_ok) c39)) (zA 5 (Jw (H := H37) (s := PN) (t := 77) (ty := 0) (id := n6) (x := x35.1) (l := ones kz1) (j := j40) (v := 1) (On.at hs38 2 rfl) there_ok hk42) (zL 7 (Jx (H := (sto H37 n6 (cntO PN (ones kz1)))) (s := PN) (t := 77) (ty := 0) (id := n6) (x := x35.1) (l := ones kz1) (j := j40) (v0 := 1) (v := 2) (b := (j40 : Int)) (On.at (On.put (cntO PN (ones kz1)) hs38 2 rfl) 2 rfl) rfl (ones_get hg41)))))) fun H43 hs44 => ?_
      refine rSz [(0, .y (.one (sv NI b false cp S))), (1, xi hand), (5, yp n1), (9, .y (.one (.mp n6))), (10, xb fu1), (24, .y (.agg [sv EN aa0 nn0 pp0 l0, sv EN aa1 nn1 pp1 l1, sv EN aa2 nn2 pp2 l2])), (25, xi 1), (34, .y (.one (sv EN aa1 nn1 pp1 l1))), (35, xi (l1.length : Int)), (36, xi i1), (51, xb true)] H43 (zA 2 (qL 38 0 (.agg [vi x35.1.1, vi x35.1.2.1]) (On.at hs44 3 rfl)) (zL 3 (Je (H := H43) (s := PN) (t := 77) (ty := 0) (id := n6) (x := x35.1) (l := (ones kz1).set j40 (x35.1, 2)) (v := 2) (On.at hs44 2 rfl) there_ok (got_set (CntOK.flat there_ok) hk42)))) ?_
      refine wTa ?_
      refine rs0 [(6, .y (.one (.sc (.pointer none)))), (7, xi 1)] ?_
      refine wE ?_
      refine ⟨Or.inr rfl, [.one (.sc (.pointer none)), .one (vi 1)], (by kernel_rfl), ?_⟩
      exact .inr (.inl ⟨c4, (fun hnd => by have := nd_at (A := pids l0) (B := pids l2) (x := x35) (nd_at1 hnd) g1i1 hx35 g3i1; rw [this] at c39; cases c39), rfl, (On.pick [0] [1, 2, 3] (by kernel_rfl) hs44)⟩)
     refine rGz [(0, .y (.one (sv NI b false cp S))), (1, xi hand), (5, yp n1), (9, .y (.one (.mp n6))), (10, xb fu1), (14, yp n36), (24, .y (.agg [sv EN aa0 nn0 pp0 l0, sv EN aa1 nn1 pp1 l1, sv EN aa2 nn2 pp2 l2])), (25, xi 1), (34, .y (.one (sv EN aa1 nn1 pp1 l1))), (35, xi (l1.length : Int)), (36, xi i1)] (On.put (cntO PN (ones (kz1 ++ [x35.1]))) (On.put (cntO PN (ones kz1 ++ [(x35.1, 0)])) hs38 2 rfl) 2 rfl) (zA 2 (qL 38 0 (.agg [vi x35.1.1, vi x35.1.2.1]) (On.at hs38 3 rfl)) (zA 3 (Je (H := H37) (s := PN) (t := 77) (ty := 0) (id := n6) (x := x35.1) (l := ones kz1) (v := 0) (On.at hs38 2 rfl) there_ok (got_none (CntOK.flat there_ok) c39)) (zA 5 (Jy (H := H37) (s := PN) (t := 77) (ty := 0) (id := n6) (x := x35.1) (l := ones kz1) (On.at hs38 2 rfl) there_ok (seek_out (CntOK.flat there_ok) c39)) (zL 7 (Jz (H := (sto H37 n6 (cntO PN (ones kz1 ++ [(x35.1, 0)])))) (s := PN) (t := 77) (ty := 0) (id := n6) (x := x35.1) (l := kz1) (b := ((ones kz1).length : Int)) (On.at (On.put (cntO PN (ones kz1 ++ [(x35.1, 0)])) hs38 2 rfl) 2 rfl) rfl))))) fun H45 hs46 => ?_
     refine rSz [(0, .y (.one (sv NI b false cp S))), (1, xi hand), (5, yp n1), (9, .y (.one (.mp n6))), (10, xb fu1), (24, .y (.agg [sv EN aa0 nn0 pp0 l0, sv EN aa1 nn1 pp1 l1, sv EN aa2 nn2 pp2 l2])), (25, xi 1), (34, .y (.one (sv EN aa1 nn1 pp1 l1))), (35, xi (l1.length : Int)), (36, xi i1), (51, xb false)] H45 (zA 2 (qL 38 0 (.agg [vi x35.1.1, vi x35.1.2.1]) (On.at hs46 3 rfl)) (zL 3 (Je (H := H45) (s := PN) (t := 77) (ty := 0) (id := n6) (x := x35.1) (l := ones (kz1 ++ [x35.1])) (v := 1) (On.at hs46 2 rfl) there_ok (got_one (CntOK.flat there_ok) (memB_last (CntOK.flat there_ok)))))) ?_
     refine wFk ?_
     refine rRz [(0, .y (.one (sv NI b false cp S))), (1, xi hand), (5, yp n1), (9, .y (.one (.mp n6))), (10, xb fu1), (24, .y (.agg [sv EN aa0 nn0 pp0 l0, sv EN aa1 nn1 pp1 l1, sv EN aa2 nn2 pp2 l2])), (25, xi 1), (34, .y (.one (sv EN aa1 nn1 pp1 l1))), (35, xi (l1.length : Int)), (36, xi (i1 + 1))] H45 (zL 0 (qoAdd H45 i1 1 (i1 + 1))) ?_
     exact ⟨(H45, (i1 + 1), (kz1 ++ [x35.1])), by kernel_rfl, (⟨(On.pick [0, 1, 2] [3] (by kernel_rfl) hs46), by omega, by omega, pids_step g1i1 hx35 g3i1, nd_snoc g5i1 c39⟩), (by show (_ : Nat) < _; simp only []; omega)⟩
    refine rSz [(0, .y (.one (sv NI b false cp S))), (1, xi hand), (5, yp n1), (9, .y (.one (.mp n6))), (10, xb fu1), (24, .y (.agg [sv EN aa0 nn0 pp0 l0, sv EN aa1 nn1 pp1 l1, sv EN aa2 nn2 pp2 l2])), (25, xi 1), (34, .y (.one (sv EN aa1 nn1 pp1 l1))), (35, xi (l1.length : Int)), (36, xi i1), (37, xb false)] H32 (zL 0 (qlssF H32 i1 (l1.length : Int))) ?_
    refine wS ?_
    refine wFa ?_
    refine wX ?_
    refine Eq.mpr (if_pos rfl) ?_
    refine rRz [(0, .y (.one (sv NI b false cp S))), (1, xi hand), (5, yp n1), (9, .y (.one (.mp n6))), (10, xb fu1), (24, .y (.agg [sv EN aa0 nn0 pp0 l0, sv EN aa1 nn1 pp1 l1, sv EN aa2 nn2 pp2 l2])), (25, xi 2)] H32 zN ?_
    refine ⟨_, _, rfl, ?_⟩
    refine WpL.step ?_
    refine rs0 [(0, .y (.one (sv NI b false cp S))), (1, xi hand), (5, yp n1), (9, .y (.one (.mp n6))), (10, xb fu1), (24, .y (.agg [sv EN aa0 nn0 pp0 l0, sv EN aa1 nn1 pp1 l1, sv EN aa2 nn2 pp2 l2])), (25, xi 2), (26, xb true)] ?_
    refine wS (wTk ?_)
    refine wS (wB ?_)
    refine rs0 [(0, .y (.one (sv NI b false cp S))), (1, xi hand), (5, yp n1), (9, .y (.one (.mp n6))), (10, xb fu1), (12, .y (.one (sv EN aa2 nn2 pp2 l2))), (24, .y (.agg [sv EN aa0 nn0 pp0 l0, sv EN aa1 nn1 pp1 l1, sv EN aa2 nn2 pp2 l2])), (25, xi 2)] ?_
    refine Wp.meet 1 (T := HH × Bool) (fun t => match t with | (H47, fu2) => ([(0, .y (.one (sv NI b false cp S))), (1, xi hand), (5, yp n1), (9, .y (.one (.mp n6))), (10, xb fu2), (12, .y (.one (sv EN aa2 nn2 pp2 l2))), (24, .y (.agg [sv EN aa0 nn0 pp0 l0, sv EN aa1 nn1 pp1 l1, sv EN aa2 nn2 pp2 l2])), (25, xi 2)] : Env)) (fun t => match t with | (H47, fu2) => (H47 : HH)) (fun t => match t with | (H47, fu2) => (On [R, pts n1 (.obj [sv EN aa0 nn0 pp0 l0, sv EN aa1 nn1 pp1 l1, sv EN aa2 nn2 pp2 l2]), pts n6 (cntO PN (ones kz1))] H47 ∧ (fu2 = true → (64 < (l0.length : Int) ∨ 64 < (l1.length : Int) ∨ 64 < (l2.length : Int))) ∧ (fu2 = false → ((l0.length : Int) ≤ 64 ∧ (l1.length : Int) ≤ 64 ∧ (l2.length : Int) ≤ 64)) : Prop)) ?_ ?_
    ·
     rintro ⟨H47, fu2⟩ ⟨hs48, hfa2, hfb2⟩
     show Wp _ _ _ _ [(0, .y (.one (sv NI b false cp S))), (1, xi hand), (5, yp n1), (9, .y (.one (.mp n6))), (10, xb fu2), (12, .y (.one (sv EN aa2 nn2 pp2 l2))), (24, .y (.agg [sv EN aa0 nn0 pp0 l0, sv EN aa1 nn1 pp1 l1, sv EN aa2 nn2 pp2 l2])), (25, xi 2)] H47 _
     refine rs0 [(0, .y (.one (sv NI b false cp S))), (1, xi hand), (5, yp n1), (9, .y (.one (.mp n6))), (10, xb fu2), (24, .y (.agg [sv EN aa0 nn0 pp0 l0, sv EN aa1 nn1 pp1 l1, sv EN aa2 nn2 pp2 l2])), (25, xi 2), (34, .y (.one (sv EN aa2 nn2 pp2 l2))), (35, xi (l2.length : Int)), (36, xi 0)] ?_
     refine wB ?_
     refine Wp.loop (T := HH × Int × List PN.T) (fun t => match t with | (H51, i2, kz2) => (((l2.length : Int) - i2).toNat : Nat)) (fun t => match t with | (H51, i2, kz2) => ([(0, .y (.one (sv NI b false cp S))), (1, xi hand), (5, yp n1), (9, .y (.one (.mp n6))), (10, xb fu2), (24, .y (.agg [sv EN aa0 nn0 pp0 l0, sv EN aa1 nn1 pp1 l1, sv EN aa2 nn2 pp2 l2])), (25, xi 2), (34, .y (.one (sv EN aa2 nn2 pp2 l2))), (35, xi (l2.length : Int)), (36, xi i2)] : Env)) (fun t => match t with | (H51, i2, kz2) => (H51 : HH))
       (fun t => match t with | (H51, i2, kz2) => (On [R, pts n1 (.obj [sv EN aa0 nn0 pp0 l0, sv EN aa1 nn1 pp1 l1, sv EN aa2 nn2 pp2 l2]), pts n6 (cntO PN (ones kz2))] H51 ∧ (0 ≤ i2) ∧ (i2 ≤ (l2.length : Int)) ∧ (kz2 = (pids l0 ++ pids l1) ++ pids (l2.take i2.toNat)) ∧ (kz2.Nodup) : Prop)) (H47, 0, kz1) (by kernel_rfl) (⟨(On.pick [0, 1, 2] [] (by kernel_rfl) hs48), by omega, by omega, by rw [pids_end (by omega) g3i1]; simp, g5i1⟩) ?_
     rintro ⟨H51, i2, kz2⟩ ⟨hs52, g1i2, g2i2, g3i2, g5i2⟩
     show Wp _ _ _ _ [(0, .y (.one (sv NI b false cp S))), (1, xi hand), (5, yp n1), (9, .y (.one (.mp n6))), (10, xb fu2), (24, .y (.agg [sv EN aa0 nn0 pp0 l0, sv EN aa1 nn1 pp1 l1, sv EN aa2 nn2 pp2 l2])), (25, xi 2), (34, .y (.one (sv EN aa2 nn2 pp2 l2))), (35, xi (l2.length : Int)), (36, xi i2)] H51 _
     by_cases c53 : (i2 : Int) < (l2.length : Int)
     ·
      refine rSz [(0, .y (.one (sv NI b false cp S))), (1, xi hand), (5, yp n1), (9, .y (.one (.mp n6))), (10, xb fu2), (24, .y (.agg [sv EN aa0 nn0 pp0 l0, sv EN aa1 nn1 pp1 l1, sv EN aa2 nn2 pp2 l2])), (25, xi 2), (34, .y (.one (sv EN aa2 nn2 pp2 l2))), (35, xi (l2.length : Int)), (36, xi i2), (37, xb true)] H51 (zL 0 (qlssT H51 i2 (l2.length : Int))) ?_
      refine wS (wTk ?_)
      refine wS (wB ?_)
      obtain ⟨x54, hx54⟩ : ∃ x, l2[(i2 : Int).toNat]? = some x := get_of (by omega)
      obtain ⟨n55, hn55⟩ := lX H51
      refine rGz [(0, .y (.one (sv NI b false cp S))), (1, xi hand), (5, yp n1), (9, .y (.one (.mp n6))), (10, xb fu2), (14, yp n55), (24, .y (.agg [sv EN aa0 nn0 pp0 l0, sv EN aa1 nn1 pp1 l1, sv EN aa2 nn2 pp2 l2])), (25, xi 2), (34, .y (.one (sv EN aa2 nn2 pp2 l2))), (35, xi (l2.length : Int)), (36, xi i2)] (On.put (.obj [vi x54.1.1, vi x54.1.2.1, vb x54.2.1]) (On.new' hn55 (.obj [vi 0, vi 0, vb false]) hs52) 3 rfl) (zA 0 (Jb (H := H51) (s := EN) (b := aa2) (nil := nn2) (capd := pp2) (t := 23) (el := 40) (i := i2) Try.underlying23 (by kernel_rfl) (by kernel_rfl) (by omega) hx54) (zA 2 (qO 40 [vi 0, vi 0, vb false] hn55) (zL 3 (qS 40 0 (.agg [vi x54.1.1, vi x54.1.2.1, vb x54.2.1]) (On.at (On.new' hn55 (.obj [vi 0, vi 0, vb false]) hs52) 3 rfl))))) fun H56 hs57 => ?_
      rcases Bool.eq_false_or_eq_true ((memB PN x54.1 kz2)) with c58 | c58
      ·
       obtain ⟨j59, hg60, hk61⟩ := seek_in (CntOK.flat there_ok) c58
       refine rGz [(0, .y (.one (sv NI b false cp S))), (1, xi hand), (5, yp n1), (9, .y (.one (.mp n6))), (10, xb fu2), (14, yp n55), (24, .y (.agg [sv EN aa0 nn0 pp0 l0, sv EN aa1 nn1 pp1 l1, sv EN aa2 nn2 pp2 l2])), (25, xi 2), (34, .y (.one (sv EN aa2 nn2 pp2 l2))), (35, xi (l2.length : Int)), (36, xi i2)] (On.put (cntO PN ((ones kz2).set j59 (x54.1, 2))) (On.put (cntO PN (ones kz2)) hs57 2 rfl) 2 rfl) (zA 2 (qL 38 0 (.agg [vi x54.1.1, vi x54.1.2.1]) (On.at hs57 3 rfl)) (zA 3 (Je (H := H56) (s := PN) (t := 77) (ty := 0) (id := n6) (x := x54.1) (l := ones kz2) (v := 1) (On.at hs57 2 rfl) there_ok (got_one (CntOK.flat there_ok) c58)) (zA 5 (Jw (H := H56) (s := PN) (t := 77) (ty := 0) (id := n6) (x := x54.1) (l := ones kz2) (j := j59) (v := 1) (On.at hs57 2 rfl) there_ok hk61) (zL 7 (Jx (H := (sto H56 n6 (cntO PN (ones kz2)))) (s := PN) (t := 77) (ty := 0) (id := n6) (x := x54.1) (l := ones kz2) (j := j59) (v0 := 1) (v := 2) (b := (j59 : Int)) (On.at (On.put (cntO PN (ones kz2)) hs57 2 rfl) 2 rfl) rfl (ones_get hg60)))))) fun H62 hs63 => ?_
       refine rSz [(0, .y (.one (sv NI b false cp S))), (1, xi hand), (5, yp n1), (9, .y (.one (.mp n6))), (10, xb fu2), (24, .y (.agg [sv EN aa0 nn0 pp0 l0, sv EN aa1 nn1 pp1 l1, sv EN aa2 nn2 pp2 l2])), (25, xi 2), (34, .y (.one (sv EN aa2 nn2 pp2 l2))), (35, xi (l2.length : Int)), (36, xi i2), (51, xb true)] H62 (zA 2 (qL 38 0 (.agg [vi x54.1.1, vi x54.1.2.1]) (On.at hs63 3 rfl)) (zL 3 (Je (H := H62) (s := PN) (t := 77) (ty := 0) (id := n6) (x := x54.1) (l := (ones kz2).set j59 (x54.1, 2)) (v := 2) (On.at hs63 2 rfl) there_ok (got_set (CntOK.flat there_ok) hk61)))) ?_
       refine wTa ?_
       refine rs0 [(6, .y (.one (.sc (.pointer none)))), (7, xi 1)] ?_
       refine wE ?_
       refine ⟨Or.inr rfl, [.one (.sc (.pointer none)), .one (vi 1)], (by kernel_rfl), ?_⟩
       exact .inr (.inl ⟨c4, (fun hnd => by have := nd_at (A := (pids l0 ++ pids l1)) (B := []) (x := x54) (nd_at2 hnd) g1i2 hx54 g3i2; rw [this] at c58; cases c58), rfl, (On.pick [0] [1, 2, 3] (by kernel_rfl) hs63)⟩)
      refine rGz [(0, .y (.one (sv NI b false cp S))), (1, xi hand), (5, yp n1), (9, .y (.one (.mp n6))), (10, xb fu2), (14, yp n55), (24, .y (.agg [sv EN aa0 nn0 pp0 l0, sv EN aa1 nn1 pp1 l1, sv EN aa2 nn2 pp2 l2])), (25, xi 2), (34, .y (.one (sv EN aa2 nn2 pp2 l2))), (35, xi (l2.length : Int)), (36, xi i2)] (On.put (cntO PN (ones (kz2 ++ [x54.1]))) (On.put (cntO PN (ones kz2 ++ [(x54.1, 0)])) hs57 2 rfl) 2 rfl) (zA 2 (qL 38 0 (.agg [vi x54.1.1, vi x54.1.2.1]) (On.at hs57 3 rfl)) (zA 3 (Je (H := H56) (s := PN) (t := 77) (ty := 0) (id := n6) (x := x54.1) (l := ones kz2) (v := 0) (On.at hs57 2 rfl) there_ok (got_none (CntOK.flat there_ok) c58)) (zA 5 (Jy (H := H56) (s := PN) (t := 77) (ty := 0) (id := n6) (x := x54.1) (l := ones kz2) (On.at hs57 2 rfl) there_ok (seek_out (CntOK.flat there_ok) c58)) (zL 7 (Jz (H := (sto H56 n6 (cntO PN (ones kz2 ++ [(x54.1, 0)])))) (s := PN) (t := 77) (ty := 0) (id := n6) (x := x54.1) (l := kz2) (b := ((ones kz2).length : Int)) (On.at (On.put (cntO PN (ones kz2 ++ [(x54.1, 0)])) hs57 2 rfl) 2 rfl) rfl))))) fun H64 hs65 => ?_
      refine rSz [(0, .y (.one (sv NI b false cp S))), (1, xi hand), (5, yp n1), (9, .y (.one (.mp n6))), (10, xb fu2), (24, .y (.agg [sv EN aa0 nn0 pp0 l0, sv EN aa1 nn1 pp1 l1, sv EN aa2 nn2 pp2 l2])), (25, xi 2), (34, .y (.one (sv EN aa2 nn2 pp2 l2))), (35, xi (l2.length : Int)), (36, xi i2), (51, xb false)] H64 (zA 2 (qL 38 0 (.agg [vi x54.1.1, vi x54.1.2.1]) (On.at hs65 3 rfl)) (zL 3 (Je (H := H64) (s := PN) (t := 77) (ty := 0) (id := n6) (x := x54.1) (l := ones (kz2 ++ [x54.1])) (v := 1) (On.at hs65 2 rfl) there_ok (got_one (CntOK.flat there_ok) (memB_last (CntOK.flat there_ok)))))) ?_
      refine wFk ?_
      refine rRz [(0, .y (.one (sv NI b false cp S))), (1, xi hand), (5, yp n1), (9, .y (.one (.mp n6))), (10, xb fu2), (24, .y (.agg [sv EN aa0 nn0 pp0 l0, sv EN aa1 nn1 pp1 l1, sv EN aa2 nn2 pp2 l2])), (25, xi 2), (34, .y (.one (sv EN aa2 nn2 pp2 l2))), (35, xi (l2.length : Int)), (36, xi (i2 + 1))] H64 (zL 0 (qoAdd H64 i2 1 (i2 + 1))) ?_
      exact ⟨(H64, (i2 + 1), (kz2 ++ [x54.1])), by kernel_rfl, (⟨(On.pick [0, 1, 2] [3] (by kernel_rfl) hs65), by omega, by omega, pids_step g1i2 hx54 g3i2, nd_snoc g5i2 c58⟩), (by show (_ : Nat) < _; simp only []; omega)⟩
     refine rSz [(0, .y (.one (sv NI b false cp S))), (1, xi hand), (5, yp n1), (9, .y (.one (.mp n6))), (10, xb fu2), (24, .y (.agg [sv EN aa0 nn0 pp0 l0, sv EN aa1 nn1 pp1 l1, sv EN aa2 nn2 pp2 l2])), (25, xi 2), (34, .y (.one (sv EN aa2 nn2 pp2 l2))), (35, xi (l2.length : Int)), (36, xi i2), (37, xb false)] H51 (zL 0 (qlssF H51 i2 (l2.length : Int))) ?_
     refine wS ?_
     refine wFa ?_
     refine wX ?_
     refine Eq.mpr (if_pos rfl) ?_
     refine rRz [(0, .y (.one (sv NI b false cp S))), (1, xi hand), (5, yp n1), (9, .y (.one (.mp n6))), (10, xb fu2), (24, .y (.agg [sv EN aa0 nn0 pp0 l0, sv EN aa1 nn1 pp1 l1, sv EN aa2 nn2 pp2 l2])), (25, xi 3)] H51 zN ?_
     refine ⟨_, _, rfl, ?_⟩
     refine WpL.step ?_
     refine rs0 [(0, .y (.one (sv NI b false cp S))), (1, xi hand), (5, yp n1), (9, .y (.one (.mp n6))), (10, xb fu2), (24, .y (.agg [sv EN aa0 nn0 pp0 l0, sv EN aa1 nn1 pp1 l1, sv EN aa2 nn2 pp2 l2])), (25, xi 3), (26, xb false)] ?_
     refine wS ?_
     refine wFa ?_
     refine wX ?_
     refine Eq.mpr (if_pos rfl) ?_
     refine wS (wB ?_)
     by_cases c66 : (hand : Int) < 0
     ·
      refine rSz [(0, .y (.one (sv NI b false cp S))), (1, xi hand), (5, yp n1), (10, xb fu2), (54, xb true)] H51 (zL 1 (qlssT H51 hand 0)) ?_
      refine wTa ?_
      refine rs0 [(6, .y (.one (.sc (.pointer none)))), (7, xi 1)] ?_
      refine wE ?_
      refine ⟨Or.inr rfl, [.one (.sc (.pointer none)), .one (vi 1)], (by kernel_rfl), ?_⟩
      exact .inr (.inr (.inl ⟨c4, load_good g5i2 (pids_end (by omega) g3i2), by omega, rfl, (On.pick [0] [1, 2] (by kernel_rfl) hs52)⟩))
     by_cases c67 : ((S.length : Int) : Int) ≤ hand
     ·
      refine rSz [(0, .y (.one (sv NI b false cp S))), (1, xi hand), (5, yp n1), (10, xb fu2), (54, xb true)] H51 (zA 1 (qlssF H51 hand 0) (zL 6 (qgeqT H51 hand (S.length : Int)))) ?_
      refine wTa ?_
      refine rs0 [(6, .y (.one (.sc (.pointer none)))), (7, xi 1)] ?_
      refine wE ?_
      refine ⟨Or.inr rfl, [.one (.sc (.pointer none)), .one (vi 1)], (by kernel_rfl), ?_⟩
      exact .inr (.inr (.inl ⟨c4, load_good g5i2 (pids_end (by omega) g3i2), by omega, rfl, (On.pick [0] [1, 2] (by kernel_rfl) hs52)⟩))
     refine rSz [(0, .y (.one (sv NI b false cp S))), (1, xi hand), (5, yp n1), (10, xb fu2), (54, xb false)] H51 (zA 1 (qlssF H51 hand 0) (zL 6 (qgeqF H51 hand (S.length : Int)))) ?_
     refine wFa ?_
     refine rs0 [(0, .y (.one (sv NI b false cp S))), (1, xi hand), (5, yp n1), (63, xb fu2)] ?_
     rcases Bool.eq_false_or_eq_true fu2 with rfl | rfl
     ·
      refine wTa ?_
      refine rs0 [(6, .y (.one (.sc (.pointer none)))), (7, xi 2)] ?_
      refine wE ?_
      refine ⟨Or.inr rfl, [.one (.sc (.pointer none)), .one (vi 2)], (by kernel_rfl), ?_⟩
      have hzz := hfa2 rfl
      exact .inr (.inr (.inr (.inl ⟨c4, load_good g5i2 (pids_end (by omega) g3i2), by omega, by omega, rfl, (On.pick [0] [1, 2] (by kernel_rfl) hs52)⟩)))
     have hfb2z := hfb2 rfl
     refine wFk ?_
     obtain ⟨n69, hn69⟩ := lX H51
     obtain ⟨n71, hn71⟩ := lX (H51 ++ [rowO NI true 0 S])
     have hcall72 : Runs pg an 26 [.one (sv NI b false cp S)] H51 [.one (rff n69 S)] (H51 ++ [rowO NI true 0 S]) := by
      refine runs_of ?_
      refine rOF Try.func26 rfl ?_
      refine rs0 [(0, .y (.one (sv NI b false cp S)))] ?_
      refine wS ?_
      refine rs0 [(0, .y (.one (sv NI b false cp S))), (4, xb false)] ?_
      refine wFk ?_
      refine rSz [(2, .y (.one (rff n69 S)))] (H51 ++ [rowO NI true 0 S]) (zL 2 (Jm (H := H51) (s := NI) (t := 22) (u := 22) (el := 3) (by_ := 8) (z := [vi 0]) (ty := 0) (b' := false) (nil' := false) (pu := true) (puy := true) (m := S.length) (n' := S.length) (k := n69) (nl := 0) (l := ([] : List Int)) (lm := S) (l' := S) (y := sv NI b false cp S) hn69 (by first | rfl | omega | (simp only [ek_]; omega) | (simp; done) | (simp; omega)) (by kernel_rfl) (slCells_slO (H := H51) (s := NI) (b := b) (nil := false) (capd := cp) (l := S) (n := S.length) (by first | rfl | omega | (simp only [ek_]; omega) | (simp; done) | (simp; omega))) (by kernel_rfl) (by kernel_rfl) (by kernel_rfl) (by kernel_rfl) (by kernel_rfl) (by kernel_rfl) (by kernel_rfl) (by first | rfl | omega | (simp only [ek_]; omega) | (simp; done) | (simp; omega)) (by first | rfl | omega | (simp only [ek_]; omega) | (simp; done) | (simp; omega)) (by omega) (by omega) (ea_ _) (by first | rfl | omega | (simp only [ej_, ek_]; omega) | (simp; done) | (simp; omega)))) ?_
      refine wE ?_
      exact ⟨Or.inr rfl, [.one (rff n69 S)], (by kernel_rfl), ⟨rfl, rfl⟩⟩
     refine rGz [(5, yp n1), (15, yp n71)] (On.new' hn71 (.obj [rff n69 S, vi hand, .sc (.pointer none), .sc (.pointer none), .sc (.pointer none)]) (On.new' hn69 (rowO NI true 0 S) hs52)) (zA 1 (qC1 hcall72) (zL 4 (qB 83 [rff n69 S, vi hand, .sc (.pointer none), .sc (.pointer none), .sc (.pointer none)] hn71))) fun H73 hs74 => ?_
     refine wS ?_
     refine rSz [(15, yp n71), (70, .y (.agg [sv EN aa0 nn0 pp0 l0, sv EN aa1 nn1 pp1 l1, sv EN aa2 nn2 pp2 l2])), (71, xi 0)] H73 (zL 0 (qL 24 0 (.agg [sv EN aa0 nn0 pp0 l0, sv EN aa1 nn1 pp1 l1, sv EN aa2 nn2 pp2 l2]) (On.at hs74 1 rfl))) ?_
     refine wB ?_
     refine Wp.loopU [(15, yp n71), (70, .y (.agg [sv EN aa0 nn0 pp0 l0, sv EN aa1 nn1 pp1 l1, sv EN aa2 nn2 pp2 l2])), (71, xi 0)] (some ([15, 70, 71], false)) (List.length H73) (by kernel_rfl) ?_
     refine WpL.step ?_
     refine rs0 [(15, yp n71), (70, .y (.agg [sv EN aa0 nn0 pp0 l0, sv EN aa1 nn1 pp1 l1, sv EN aa2 nn2 pp2 l2])), (71, xi 0), (72, xb true)] ?_
     refine wS (wTk ?_)
     refine wS (wB ?_)
     refine rs0 [(15, yp n71), (16, xi 0), (17, .y (.one (sv EN aa0 nn0 pp0 l0))), (70, .y (.agg [sv EN aa0 nn0 pp0 l0, sv EN aa1 nn1 pp1 l1, sv EN aa2 nn2 pp2 l2])), (71, xi 0)] ?_
     obtain ⟨n76, hn76⟩ := lX H73
     obtain ⟨_, H79, hr80, q78, rfl, hs81⟩ := new_ok _ ((H73 ++ [.obj [.sc (.pointer none)]]) : HH) (On.call [] [0, 1, 2, 3, 4, 5] (by kernel_rfl) (On.new' hn76 (.obj [.sc (.pointer none)]) hs74)) (room := 64) (by omega) (by omega)
     have hs81 : On [R, pts n1 (.obj [sv EN aa0 nn0 pp0 l0, sv EN aa1 nn1 pp1 l1, sv EN aa2 nn2 pp2 l2]), pts n6 (cntO PN (ones kz2)), kP n69 S, pts n71 (.obj [rff n69 S, vi hand, .sc (.pointer none), .sc (.pointer none), .sc (.pointer none)]), pts n76 (.obj [.sc (.pointer none)]), gP q78 ([] : List EN.T)] H79 := On.flat hs81
     have hlfz83 : ((([] : List EN.T) ++ l0).length : Int) = (l0.length : Int) := by { first | rfl | omega | (simp only [ek_]; omega) | (simp; done) | (simp; omega) }
     obtain ⟨_, H86, hr87, rfl, hs88⟩ := join_ok_s _ (H79 : HH) (On.call [6] [0, 1, 2, 3, 4, 5] (by kernel_rfl) hs81) (q := q78) (room := 64) (l := ([] : List EN.T)) (b := aa0) (nil := nn0) (cp := pp0) (m := l0) (by first | rfl | omega | (simp only [ek_]; omega) | (simp; done) | (simp; omega))
     have hs88 : On [R, pts n1 (.obj [sv EN aa0 nn0 pp0 l0, sv EN aa1 nn1 pp1 l1, sv EN aa2 nn2 pp2 l2]), pts n6 (cntO PN (ones kz2)), kP n69 S, pts n71 (.obj [rff n69 S, vi hand, .sc (.pointer none), .sc (.pointer none), .sc (.pointer none)]), pts n76 (.obj [.sc (.pointer none)]), gP q78 (([] : List EN.T) ++ l0)] H86 := On.flat hs88
     have hcall89 : Runs pg an 27 [.one (sv EN aa0 nn0 pp0 l0)] H73 [.agg [.ptr q78 0]] (sto H86 n76 (.obj [.ptr q78 0])) := by
      refine runs_of ?_
      refine rOF Try.func27 rfl ?_
      refine rSz [(0, .y (.one (sv EN aa0 nn0 pp0 l0))), (2, yp n76)] (H73 ++ [.obj [.sc (.pointer none)]]) (zL 0 (qO 80 [.sc (.pointer none)] hn76)) ?_
      refine rSz [(0, .y (.one (sv EN aa0 nn0 pp0 l0))), (2, yp n76), (3, yp q78)] H79 (zL 0 (qC1 hr80)) ?_
      refine rSz [(2, yp n76), (3, yp q78)] H86 (zL 2 (qC2 hr87)) ?_
      refine rSz [(2, yp n76)] (sto H86 n76 (.obj [.ptr q78 0])) (zL 2 (qS 80 0 (.agg [.ptr q78 0]) (On.at hs88 5 rfl))) ?_
      refine wE ?_
      exact ⟨Or.inr rfl, [.agg [.ptr q78 0]], (rC (On.at (On.put (.obj [.ptr q78 0]) hs88 5 rfl) 5 rfl)), ⟨rfl, rfl⟩⟩
     refine rHz [(15, yp n71), (70, .y (.agg [sv EN aa0 nn0 pp0 l0, sv EN aa1 nn1 pp1 l1, sv EN aa2 nn2 pp2 l2])), (71, xi 0)] (On.put (.obj [rff n69 S, vi hand, .ptr q78 0, .sc (.pointer none), .sc (.pointer none)]) (On.put (.obj [.ptr q78 0]) hs88 5 rfl) 4 rfl) (zA 3 (qC1 hcall89) (zL 7 (qS 80 2 (.agg [.ptr q78 0]) (On.at (On.put (.obj [.ptr q78 0]) hs88 5 rfl) 4 rfl)))) fun H90 hs91 => ?_
     refine wK ?_
     refine rRz [(15, yp n71), (70, .y (.agg [sv EN aa0 nn0 pp0 l0, sv EN aa1 nn1 pp1 l1, sv EN aa2 nn2 pp2 l2])), (71, xi 1)] H90 zN ?_
     refine ⟨_, _, rfl, ?_⟩
     refine WpL.step ?_
     refine rs0 [(15, yp n71), (70, .y (.agg [sv EN aa0 nn0 pp0 l0, sv EN aa1 nn1 pp1 l1, sv EN aa2 nn2 pp2 l2])), (71, xi 1), (72, xb true)] ?_
     refine wS (wTk ?_)
     refine wS (wB ?_)
     refine rs0 [(15, yp n71), (16, xi 1), (17, .y (.one (sv EN aa1 nn1 pp1 l1))), (70, .y (.agg [sv EN aa0 nn0 pp0 l0, sv EN aa1 nn1 pp1 l1, sv EN aa2 nn2 pp2 l2])), (71, xi 1)] ?_
     obtain ⟨n93, hn93⟩ := lX H90
     obtain ⟨_, H96, hr97, q95, rfl, hs98⟩ := new_ok _ ((H90 ++ [.obj [.sc (.pointer none)]]) : HH) (On.call [] [0, 1, 2, 3, 4, 5, 6, 7] (by kernel_rfl) (On.new' hn93 (.obj [.sc (.pointer none)]) hs91)) (room := 64) (by omega) (by omega)
     have hs98 : On [R, pts n1 (.obj [sv EN aa0 nn0 pp0 l0, sv EN aa1 nn1 pp1 l1, sv EN aa2 nn2 pp2 l2]), pts n6 (cntO PN (ones kz2)), kP n69 S, pts n71 (.obj [rff n69 S, vi hand, .ptr q78 0, .sc (.pointer none), .sc (.pointer none)]), pts n76 (.obj [.ptr q78 0]), gP q78 (([] : List EN.T) ++ l0), pts n93 (.obj [.sc (.pointer none)]), gP q95 ([] : List EN.T)] H96 := On.flat hs98
     have hlfz100 : ((([] : List EN.T) ++ l1).length : Int) = (l1.length : Int) := by { first | rfl | omega | (simp only [ek_]; omega) | (simp; done) | (simp; omega) }
     obtain ⟨_, H103, hr104, rfl, hs105⟩ := join_ok_s _ (H96 : HH) (On.call [8] [0, 1, 2, 3, 4, 5, 6, 7] (by kernel_rfl) hs98) (q := q95) (room := 64) (l := ([] : List EN.T)) (b := aa1) (nil := nn1) (cp := pp1) (m := l1) (by first | rfl | omega | (simp only [ek_]; omega) | (simp; done) | (simp; omega))
     have hs105 : On [R, pts n1 (.obj [sv EN aa0 nn0 pp0 l0, sv EN aa1 nn1 pp1 l1, sv EN aa2 nn2 pp2 l2]), pts n6 (cntO PN (ones kz2)), kP n69 S, pts n71 (.obj [rff n69 S, vi hand, .ptr q78 0, .sc (.pointer none), .sc (.pointer none)]), pts n76 (.obj [.ptr q78 0]), gP q78 (([] : List EN.T) ++ l0), pts n93 (.obj [.sc (.pointer none)]), gP q95 (([] : List EN.T) ++ l1)] H103 := On.flat hs105
     have hcall106 : Runs pg an 27 [.one (sv EN aa1 nn1 pp1 l1)] H90 [.agg [.ptr q95 0]] (sto H103 n93 (.obj [.ptr q95 0])) := by
      refine runs_of ?_
      refine rOF Try.func27 rfl ?_
      refine rSz [(0, .y (.one (sv EN aa1 nn1 pp1 l1))), (2, yp n93)] (H90 ++ [.obj [.sc (.pointer none)]]) (zL 0 (qO 80 [.sc (.pointer none)] hn93)) ?_
      refine rSz [(0, .y (.one (sv EN aa1 nn1 pp1 l1))), (2, yp n93), (3, yp q95)] H96 (zL 0 (qC1 hr97)) ?_
      refine rSz [(2, yp n93), (3, yp q95)] H103 (zL 2 (qC2 hr104)) ?_
      refine rSz [(2, yp n93)] (sto H103 n93 (.obj [.ptr q95 0])) (zL 2 (qS 80 0 (.agg [.ptr q95 0]) (On.at hs105 7 rfl))) ?_
      refine wE ?_
      exact ⟨Or.inr rfl, [.agg [.ptr q95 0]], (rC (On.at (On.put (.obj [.ptr q95 0]) hs105 7 rfl) 7 rfl)), ⟨rfl, rfl⟩⟩
     refine rHz [(15, yp n71), (70, .y (.agg [sv EN aa0 nn0 pp0 l0, sv EN aa1 nn1 pp1 l1, sv EN aa2 nn2 pp2 l2])), (71, xi 1)] (On.put (.obj [rff n69 S, vi hand, .ptr q78 0, .ptr q95 0, .sc (.pointer none)]) (On.put (.obj [.ptr q95 0]) hs105 7 rfl) 4 rfl) (zA 3 (qC1 hcall106) (zL 7 (qS 80 3 (.agg [.ptr q95 0]) (On.at (On.put (.obj [.ptr q95 0]) hs105 7 rfl) 4 rfl)))) fun H107 hs108 => ?_
     refine wK ?_
     refine rRz [(15, yp n71), (70, .y (.agg [sv EN aa0 nn0 pp0 l0, sv EN aa1 nn1 pp1 l1, sv EN aa2 nn2 pp2 l2])), (71, xi 2)] H107 zN ?_
     refine ⟨_, _, rfl, ?_⟩
     refine WpL.step ?_
     refine rs0 [(15, yp n71), (70, .y (.agg [sv EN aa0 nn0 pp0 l0, sv EN aa1 nn1 pp1 l1, sv EN aa2 nn2 pp2 l2])), (71, xi 2), (72, xb true)] ?_
     refine wS (wTk ?_)
     refine wS (wB ?_)
     refine rs0 [(15, yp n71), (16, xi 2), (17, .y (.one (sv EN aa2 nn2 pp2 l2))), (70, .y (.agg [sv EN aa0 nn0 pp0 l0, sv EN aa1 nn1 pp1 l1, sv EN aa2 nn2 pp2 l2])), (71, xi 2)] ?_
     obtain ⟨n110, hn110⟩ := lX H107
     obtain ⟨_, H113, hr114, q112, rfl, hs115⟩ := new_ok _ ((H107 ++ [.obj [.sc (.pointer none)]]) : HH) (On.call [] [0, 1, 2, 3, 4, 5, 6, 7, 8, 9] (by kernel_rfl) (On.new' hn110 (.obj [.sc (.pointer none)]) hs108)) (room := 64) (by omega) (by omega)
     have hs115 : On [R, pts n1 (.obj [sv EN aa0 nn0 pp0 l0, sv EN aa1 nn1 pp1 l1, sv EN aa2 nn2 pp2 l2]), pts n6 (cntO PN (ones kz2)), kP n69 S, pts n71 (.obj [rff n69 S, vi hand, .ptr q78 0, .ptr q95 0, .sc (.pointer none)]), pts n76 (.obj [.ptr q78 0]), gP q78 (([] : List EN.T) ++ l0), pts n93 (.obj [.ptr q95 0]), gP q95 (([] : List EN.T) ++ l1), pts n110 (.obj [.sc (.pointer none)]), gP q112 ([] : List EN.T)] H113 := On.flat hs115
     have hlfz117 : ((([] : List EN.T) ++ l2).length : Int) = (l2.length : Int) := by { first | rfl | omega | (simp only [ek_]; omega) | (simp; done) | (simp; omega) }
     obtain ⟨_, H120, hr121, rfl, hs122⟩ := join_ok_s _ (H113 : HH) (On.call [10] [0, 1, 2, 3, 4, 5, 6, 7, 8, 9] (by kernel_rfl) hs115) (q := q112) (room := 64) (l := ([] : List EN.T)) (b := aa2) (nil := nn2) (cp := pp2) (m := l2) (by first | rfl | omega | (simp only [ek_]; omega) | (simp; done) | (simp; omega))
     have hs122 : On [R, pts n1 (.obj [sv EN aa0 nn0 pp0 l0, sv EN aa1 nn1 pp1 l1, sv EN aa2 nn2 pp2 l2]), pts n6 (cntO PN (ones kz2)), kP n69 S, pts n71 (.obj [rff n69 S, vi hand, .ptr q78 0, .ptr q95 0, .sc (.pointer none)]), pts n76 (.obj [.ptr q78 0]), gP q78 (([] : List EN.T) ++ l0), pts n93 (.obj [.ptr q95 0]), gP q95 (([] : List EN.T) ++ l1), pts n110 (.obj [.sc (.pointer none)]), gP q112 (([] : List EN.T) ++ l2)] H120 := On.flat hs122
     have hcall123 : Runs pg an 27 [.one (sv EN aa2 nn2 pp2 l2)] H107 [.agg [.ptr q112 0]] (sto H120 n110 (.obj [.ptr q112 0])) := by
      refine runs_of ?_
      refine rOF Try.func27 rfl ?_
      refine rSz [(0, .y (.one (sv EN aa2 nn2 pp2 l2))), (2, yp n110)] (H107 ++ [.obj [.sc (.pointer none)]]) (zL 0 (qO 80 [.sc (.pointer none)] hn110)) ?_
      refine rSz [(0, .y (.one (sv EN aa2 nn2 pp2 l2))), (2, yp n110), (3, yp q112)] H113 (zL 0 (qC1 hr114)) ?_
      refine rSz [(2, yp n110), (3, yp q112)] H120 (zL 2 (qC2 hr121)) ?_
      refine rSz [(2, yp n110)] (sto H120 n110 (.obj [.ptr q112 0])) (zL 2 (qS 80 0 (.agg [.ptr q112 0]) (On.at hs122 9 rfl))) ?_
      refine wE ?_
      exact ⟨Or.inr rfl, [.agg [.ptr q112 0]], (rC (On.at (On.put (.obj [.ptr q112 0]) hs122 9 rfl) 9 rfl)), ⟨rfl, rfl⟩⟩
     refine rHz [(15, yp n71), (70, .y (.agg [sv EN aa0 nn0 pp0 l0, sv EN aa1 nn1 pp1 l1, sv EN aa2 nn2 pp2 l2])), (71, xi 2)] (On.put (.obj (cO n69 S hand q78 q95 q112)) (On.put (.obj [.ptr q112 0]) hs122 9 rfl) 4 rfl) (zA 3 (qC1 hcall123) (zL 7 (qS 80 4 (.agg [.ptr q112 0]) (On.at (On.put (.obj [.ptr q112 0]) hs122 9 rfl) 4 rfl)))) fun H124 hs125 => ?_
     refine wK ?_
     refine rRz [(15, yp n71), (70, .y (.agg [sv EN aa0 nn0 pp0 l0, sv EN aa1 nn1 pp1 l1, sv EN aa2 nn2 pp2 l2])), (71, xi 3)] H124 zN ?_
     refine ⟨_, _, rfl, ?_⟩
     refine WpL.step ?_
     refine rs0 [(15, yp n71), (70, .y (.agg [sv EN aa0 nn0 pp0 l0, sv EN aa1 nn1 pp1 l1, sv EN aa2 nn2 pp2 l2])), (71, xi 3), (72, xb false)] ?_
     refine wS ?_
     refine wFa ?_
     refine wX ?_
     refine Eq.mpr (if_pos rfl) ?_
     refine rs0 [(6, yp n71), (7, xi 0)] ?_
     refine wE ?_
     refine ⟨Or.inr rfl, [.one (.ptr n71 0), .one (vi 0)], (by kernel_rfl), ?_⟩
     exact .inr (.inr (.inr (.inr ⟨c4, load_good g5i2 (pids_end (by omega) g3i2), by omega, by omega, n71, n69, q78, q95, q112, rfl, (On.pick [0, 4, 3, 6, 8, 10] [1, 2, 5, 7, 9] (by kernel_rfl) hs125)⟩)))
    intro hm49
    rcases Bool.eq_false_or_eq_true fu1 with rfl | rfl
    ·
     refine rs0 [(0, .y (.one (sv NI b false cp S))), (1, xi hand), (5, yp n1), (9, .y (.one (.mp n6))), (10, xb true), (12, .y (.one (sv EN aa2 nn2 pp2 l2))), (24, .y (.agg [sv EN aa0 nn0 pp0 l0, sv EN aa1 nn1 pp1 l1, sv EN aa2 nn2 pp2 l2])), (25, xi 2)] ?_
     exact hm49 (H32, true) ⟨(On.pick [0, 1, 2] [] (by kernel_rfl) hs33), (by intro h; first | omega | (have := hfa1 rfl; omega) | (cases h; done)), (by intro h; first | omega | (cases h; done))⟩
    have hfb1z := hfb1 rfl
    by_cases c126 : (64 : Int) < (l2.length : Int)
    ·
     refine rSz [(0, .y (.one (sv NI b false cp S))), (1, xi hand), (5, yp n1), (9, .y (.one (.mp n6))), (10, xb true), (12, .y (.one (sv EN aa2 nn2 pp2 l2))), (24, .y (.agg [sv EN aa0 nn0 pp0 l0, sv EN aa1 nn1 pp1 l1, sv EN aa2 nn2 pp2 l2])), (25, xi 2)] H32 (zL 4 (qgtrT H32 (l2.length : Int) 64)) ?_
     exact hm49 (H32, true) ⟨(On.pick [0, 1, 2] [] (by kernel_rfl) hs33), (by intro h; first | omega | (have := hfa1 rfl; omega) | (cases h; done)), (by intro h; first | omega | (cases h; done))⟩
    refine rSz [(0, .y (.one (sv NI b false cp S))), (1, xi hand), (5, yp n1), (9, .y (.one (.mp n6))), (10, xb false), (12, .y (.one (sv EN aa2 nn2 pp2 l2))), (24, .y (.agg [sv EN aa0 nn0 pp0 l0, sv EN aa1 nn1 pp1 l1, sv EN aa2 nn2 pp2 l2])), (25, xi 2)] H32 (zL 4 (qgtrF H32 (l2.length : Int) 64)) ?_
    exact hm49 (H32, false) ⟨(On.pick [0, 1, 2] [] (by kernel_rfl) hs33), (by intro h; first | omega | (have := hfa1 rfl; omega) | (cases h; done)), (by intro h; first | omega | (cases h; done))⟩
   intro hm30
   rcases Bool.eq_false_or_eq_true fu0 with rfl | rfl
   ·
    refine rs0 [(0, .y (.one (sv NI b false cp S))), (1, xi hand), (5, yp n1), (9, .y (.one (.mp n6))), (10, xb true), (12, .y (.one (sv EN aa1 nn1 pp1 l1))), (24, .y (.agg [sv EN aa0 nn0 pp0 l0, sv EN aa1 nn1 pp1 l1, sv EN aa2 nn2 pp2 l2])), (25, xi 1)] ?_
    exact hm30 (H13, true) ⟨(On.pick [0, 1, 2] [] (by kernel_rfl) hs14), (by intro h; first | omega | (have := hfa0 rfl; omega) | (cases h; done)), (by intro h; first | omega | (cases h; done))⟩
   have hfb0z := hfb0 rfl
   by_cases c127 : (64 : Int) < (l1.length : Int)
   ·
    refine rSz [(0, .y (.one (sv NI b false cp S))), (1, xi hand), (5, yp n1), (9, .y (.one (.mp n6))), (10, xb true), (12, .y (.one (sv EN aa1 nn1 pp1 l1))), (24, .y (.agg [sv EN aa0 nn0 pp0 l0, sv EN aa1 nn1 pp1 l1, sv EN aa2 nn2 pp2 l2])), (25, xi 1)] H13 (zL 4 (qgtrT H13 (l1.length : Int) 64)) ?_
    exact hm30 (H13, true) ⟨(On.pick [0, 1, 2] [] (by kernel_rfl) hs14), (by intro h; first | omega | (have := hfa0 rfl; omega) | (cases h; done)), (by intro h; first | omega | (cases h; done))⟩
   refine rSz [(0, .y (.one (sv NI b false cp S))), (1, xi hand), (5, yp n1), (9, .y (.one (.mp n6))), (10, xb false), (12, .y (.one (sv EN aa1 nn1 pp1 l1))), (24, .y (.agg [sv EN aa0 nn0 pp0 l0, sv EN aa1 nn1 pp1 l1, sv EN aa2 nn2 pp2 l2])), (25, xi 1)] H13 (zL 4 (qgtrF H13 (l1.length : Int) 64)) ?_
   exact hm30 (H13, false) ⟨(On.pick [0, 1, 2] [] (by kernel_rfl) hs14), (by intro h; first | omega | (have := hfa0 rfl; omega) | (cases h; done)), (by intro h; first | omega | (cases h; done))⟩
  intro hm11
  by_cases c128 : (64 : Int) < (l0.length : Int)
  ·
   refine rSz [(0, .y (.one (sv NI b false cp S))), (1, xi hand), (5, yp n1), (9, .y (.one (.mp n6))), (10, xb true), (12, .y (.one (sv EN aa0 nn0 pp0 l0))), (24, .y (.agg [sv EN aa0 nn0 pp0 l0, sv EN aa1 nn1 pp1 l1, sv EN aa2 nn2 pp2 l2])), (25, xi 0)] H7 (zL 4 (qgtrT H7 (l0.length : Int) 64)) ?_
   exact hm11 (H7, true) ⟨(On.pick [0, 1, 2] [] (by kernel_rfl) hs8), (by intro h; first | omega | (cases h; done)), (by intro h; first | omega | (cases h; done))⟩
  refine rSz [(0, .y (.one (sv NI b false cp S))), (1, xi hand), (5, yp n1), (9, .y (.one (.mp n6))), (10, xb false), (12, .y (.one (sv EN aa0 nn0 pp0 l0))), (24, .y (.agg [sv EN aa0 nn0 pp0 l0, sv EN aa1 nn1 pp1 l1, sv EN aa2 nn2 pp2 l2])), (25, xi 0)] H7 (zL 4 (qgtrF H7 (l0.length : Int) 64)) ?_
  exact hm11 (H7, false) ⟨(On.pick [0, 1, 2] [] (by kernel_rfl) hs8), (by intro h; first | omega | (cases h; done)), (by intro h; first | omega | (cases h; done))⟩
 refine rSz [(0, .y (.one (sv NI b nn9 cp S))), (1, xi hand), (5, yp n1), (8, xi 20)] H2 (zL 1 (Jh (H := H2) (g := 25) (x := .one (sv NI b nn9 cp S)) (res := [.one (vi 20)]) (by have := wcheck b nn9 cp S (by omega); rw [c4] at this; exact this) (by kernel_rfl) (by kernel_rfl))) ?_
 refine rs0 [(0, .y (.one (sv NI b nn9 cp S))), (1, xi hand), (5, yp n1), (8, xi 20), (21, xb true)] ?_
 refine wTa ?_
 refine rs0 [(6, .y (.one (.sc (.pointer none)))), (7, xi 20)] ?_
 refine wE ?_
 refine ⟨Or.inr rfl, [.one (.sc (.pointer none)), .one (vi 20)], (by kernel_rfl), ?_⟩
 exact .inl ⟨c4, rfl, (On.pick [0] [1] (by kernel_rfl) hs3)⟩
end Go.Proofs.Ytjdnhbnpdbpgbaa
