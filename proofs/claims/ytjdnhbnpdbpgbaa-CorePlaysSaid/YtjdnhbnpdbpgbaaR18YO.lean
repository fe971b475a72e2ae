/- Lemmas. -/
import Derived.Test.YtjdnhbnpdbpgbaaR18YR
namespace Go.Proofs.Ytjdnhbnpdbpgbaa
open Go.Lg
set_option linter.unusedVariables false
set_option maxRecDepth 100000
set_option maxHeartbeats 8000000
set_option linter.unusedSimpArgs false
theorem told_ok (R : HP) (H : HH) (p : Nat) (i : Int) (hs : On [R, allP p] H) (hi0 : 0 ≤ i) (hi1 : i < 3) : ∃ rs H', Runs pg an 24 [.one (.ptr p 0), .one (vi i)] H rs H' ∧ rs = [.one (vb true)] ∧ On [R, allP p] H' := by
 refine rOF Try.func24 rfl ?_
 refine rs0 [(0, yp p), (1, xi i)] ?_
 rcases play_open hs 1 rfl (i := i) (by omega) (by omega) with ⟨cl, hl, ha, hb, hc, hsA⟩ | ⟨cl, c, ks, q0, q1, q2, rc, u0, v0, u1, v1, u2, v2, S, hand, l0, l1, l2, hl, ha, hb, hc, hck, hsA⟩
 ·
  replace hsA : On [R, pts p (.obj cl), restM cl i.toNat] H := hsA
  refine rSz [(0, yp p), (1, xi i), (5, .y (.one (.sc (.pointer none))))] H (zA 4 (ob_index_sym (P := pg) (A := an) (H := H) (t := 66) (el := 26) (ty := 0) (p := p) (off := 0) (sz := 1) (n := 3) (i := i) Try.underlying66 (by kernel_rfl) (by omega) (by omega)) (zL 5 (ob_load_at (P := pg) (A := an) (H := H) (t := 26) (ty := 0) (id := p) (base := 0 + i.toNat * 1) (off := 0) (m := 1) (n := 1) (cs := cl) (ws := [.sc (.pointer none)]) (v := .one (.sc (.pointer none))) (On.at hsA 1 rfl) ha (by omega) (by kernel_rfl) (by kernel_rfl) (by kernel_rfl)))) ?_
  refine wS ?_
  refine rSz [(0, yp p), (1, xi i), (5, .y (.one (.sc (.pointer none)))), (23, xb true)] H (zA 4 (ob_index_sym (P := pg) (A := an) (H := H) (t := 68) (el := 4) (ty := 0) (p := p) (off := 18) (sz := 1) (n := 3) (i := i) Try.underlying68 (by kernel_rfl) (by omega) (by omega)) (zL 5 (ob_load_at (P := pg) (A := an) (H := H) (t := 4) (ty := 0) (id := p) (base := 18 + i.toNat * 1) (off := 0) (m := 1) (n := 1) (cs := cl) (ws := [vb false]) (v := .one (vb false)) (On.at hsA 1 rfl) hc (by omega) (by kernel_rfl) (by kernel_rfl) (by kernel_rfl)))) ?_
  refine wTa ?_
  obtain ⟨_, H1, hr2, rfl, hs3⟩ := empty_nil _ (H : HH) (On.call [] [0, 1, 2] (by kernel_rfl) hsA)
  have hs3 : On [R, pts p (.obj cl), restM cl i.toNat] H1 := On.flat hs3
  obtain ⟨_, H4, hr5, rfl, hs6⟩ := hand_nil _ (H1 : HH) (On.call [] [0, 1, 2] (by kernel_rfl) hs3)
  have hs6 : On [R, pts p (.obj cl), restM cl i.toNat] H4 := On.flat hs6
  obtain ⟨_, H7, hr8, rfl, hs9⟩ := queue_nil _ (H4 : HH) (On.call [] [0, 1, 2] (by kernel_rfl) hs6) (k := 0)
  have hs9 : On [R, pts p (.obj cl), restM cl i.toNat] H7 := On.flat hs9
  obtain ⟨_, H10, hr11, rfl, hs12⟩ := copy_nil _ (H7 : HH) (On.call [] [0, 1, 2] (by kernel_rfl) hs9)
  have hs12 : On [R, pts p (.obj cl), restM cl i.toNat] H10 := On.flat hs12
  refine rGz [(4, xb true)] hs12 (zA 1 (qC1 hr2) (zA 4 (qC1 hr5) (zA 9 (qC2 hr8) (zL 15 (qC1 hr11))))) fun H13 hs14 => ?_
  refine wE ?_
  refine ⟨Or.inr rfl, [.one (vb true)], (by kernel_rfl), ?_⟩
  have hs15 : On [R, allP p] H13 := sH hs14 [1, 2] [0] (fun _ x => all_of hl (star_mono (fun _ y => y) (fun _ y => SL_one (slots_nil (by omega) (by omega) ha hb hc y)) x))
  exact ⟨rfl, (On.pick [0, 1] [] (by kernel_rfl) hs15)⟩
 replace hsA : On [R, pts p (.obj cl), restM cl i.toNat, pts c (.obj [rowC ks 0 S.length 0 S.length false, vi hand, .ptr q0 0, .ptr q1 0, .ptr q2 0]), kP ks S, gP q0 l0, gP q1 l1, gP q2 l2] H := hsA
 obtain ⟨hok, ⟨hh0, hh1⟩, ⟨b0, b1, b2⟩, hld⟩ := id hck
 obtain ⟨hS, hT⟩ := okW_len hok
 refine rSz [(0, yp p), (1, xi i), (5, yp c)] H (zA 4 (ob_index_sym (P := pg) (A := an) (H := H) (t := 66) (el := 26) (ty := 0) (p := p) (off := 0) (sz := 1) (n := 3) (i := i) Try.underlying66 (by kernel_rfl) (by omega) (by omega)) (zL 5 (ob_load_at (P := pg) (A := an) (H := H) (t := 26) (ty := 0) (id := p) (base := 0 + i.toNat * 1) (off := 0) (m := 1) (n := 1) (cs := cl) (ws := [.ptr c 0]) (v := .one (.ptr c 0)) (On.at hsA 1 rfl) ha (by omega) (by kernel_rfl) (by kernel_rfl) (by kernel_rfl)))) ?_
 refine wS ?_
 refine rSz [(0, yp p), (1, xi i), (5, yp c), (23, xb false)] H (zA 4 (ob_index_sym (P := pg) (A := an) (H := H) (t := 68) (el := 4) (ty := 0) (p := p) (off := 18) (sz := 1) (n := 3) (i := i) Try.underlying68 (by kernel_rfl) (by omega) (by omega)) (zL 5 (ob_load_at (P := pg) (A := an) (H := H) (t := 4) (ty := 0) (id := p) (base := 18 + i.toNat * 1) (off := 0) (m := 1) (n := 1) (cs := cl) (ws := [vb true]) (v := .one (vb true)) (On.at hsA 1 rfl) hc (by omega) (by kernel_rfl) (by kernel_rfl) (by kernel_rfl)))) ?_
 refine wFk ?_
 refine wS ?_
 refine rs0 [(0, yp p), (1, xi i), (5, yp c), (6, xi (-1))] ?_
 refine wB ?_
 refine Wp.loopU [(0, yp p), (1, xi i), (5, yp c), (6, xi (-1))] (some ([0, 1, 5, 6], false)) (List.length H) (by kernel_rfl) ?_
 refine WpL.step ?_
 refine wS ?_
 refine rs0 [(0, yp p), (1, xi i), (5, yp c), (6, xi (-1)), (43, xb true)] ?_
 refine wTk ?_
 refine wS (wB ?_)
 have hcall16 : Runs pg an 47 [.one (.ptr c 0), .one (vi (-1))] H [.one (nilC)] H := by
  refine runs_of ?_
  refine rOF Try.func47 rfl ?_
  refine rs0 [(0, yp c), (1, xi (-1))] ?_
  refine wS ?_
  have hcall17 : Runs pg an 31 [.one (.ptr c 0)] H [.one (vb true)] H := by
   refine runs_of ?_
   refine rOF Try.func31 rfl ?_
   refine rs0 [(0, yp c)] ?_
   refine rSz [(2, xb true)] H (zA 6 (qL 22 0 (.one (rowC ks 0 S.length 0 S.length false)) (On.at hsA 3 rfl)) (zA 7 (Jc (H := H) (s := NI) (t := 22) (ty := 0) (pu := true) (capd := false) (id := ks) (d := 0) (o := 0) (n := S.length) (l := S) (e := (S.length : Int)) (On.at hsA 4 rfl) (by kernel_rfl) (by first | rfl | omega | (simp only [ek_]; omega) | (simp; done) | (simp; omega))) (zL 8 (qgtrT H (S.length : Int) 0)))) ?_
   refine wE ?_
   exact ⟨Or.inr rfl, [.one (vb true)], (by kernel_rfl), ⟨rfl, rfl⟩⟩
  have hcall18 : Runs pg an 40 [.one (vi (-1))] H [.one (vb false)] H := by
   refine runs_of ?_
   refine rOF Try.func40 rfl ?_
   refine rs0 [(0, xi (-1))] ?_
   refine rs0 [(2, xb false)] ?_
   refine wE ?_
   exact ⟨Or.inr rfl, [.one (vb false)], (by kernel_rfl), ⟨rfl, rfl⟩⟩
  refine rSz [(0, yp c), (1, xi (-1)), (12, xb true)] H (zA 1 (qC1 hcall17) (zL 5 (qC1 hcall18))) ?_
  refine wTa ?_
  refine rs0 [(4, .y (.one (nilC)))] ?_
  refine wE ?_
  exact ⟨Or.inr rfl, [.one (nilC)], (by kernel_rfl), ⟨rfl, rfl⟩⟩
 refine rSz [(0, yp p), (1, xi i), (5, yp c), (6, xi (-1)), (7, .y (.one (nilC)))] H (zL 2 (qC2 hcall16)) ?_
 refine rs0 [(0, yp p), (1, xi i), (5, yp c), (6, xi (-1)), (7, .y (.one (nilC))), (8, .y (.one (nilC)))] ?_
 refine wS ?_
 refine rs0 [(0, yp p), (1, xi i), (5, yp c), (6, xi (-1)), (7, .y (.one (nilC))), (8, .y (.one (nilC))), (54, xb false)] ?_
 refine wFk ?_
 refine wS ?_
 refine rSz [(0, yp p), (1, xi i), (5, yp c), (6, xi (-1)), (7, .y (.one (nilC))), (67, xb false)] H (zL 2 (qP2 H (same_t false true true false true true ([] : List EN.T) ([] : List EN.T) (by first | rfl | omega | (simp only [ek_]; omega) | (simp; done) | (simp; omega)) (by first | rfl | omega | (simp only [ek_]; omega) | (simp; done) | (simp; omega)) (rfl)))) ?_
 refine wFk ?_
 refine wS ?_
 refine rs0 [(0, yp p), (1, xi i), (5, yp c), (6, xi (-1)), (7, .y (.one (nilC))), (9, xi 0)] ?_
 refine wB ?_
 refine Wp.loopU [(0, yp p), (1, xi i), (5, yp c), (6, xi (-1)), (7, .y (.one (nilC))), (9, xi 0)] (some ([0, 1, 5, 6, 7, 9], false)) (List.length H) (by kernel_rfl) ?_
 refine WpL.step ?_
 refine wS ?_
 refine rs0 [(0, yp p), (1, xi i), (5, yp c), (6, xi (-1)), (7, .y (.one (nilC))), (9, xi 0), (71, xb false)] ?_
 refine wFa ?_
 refine wX ?_
 refine Eq.mpr (if_pos rfl) ?_
 refine rs0 [(0, yp p), (1, xi i), (5, yp c), (6, xi (-1)), (7, .y (.one (nilC))), (10, xi 0)] ?_
 refine wB ?_
 have hs19 : On [R, pts p (.obj cl), restM cl i.toNat, pts c (.obj [rowC ks 0 S.length 0 S.length false, vi hand, .ptr q0 0, .ptr q1 0, .ptr q2 0]), kP ks S, gP q0 l0, gP q1 l1, gP q2 l2, itemsP EN (nilC) ([] : List EN.T)] H := sH hsA [] [0, 1, 2, 3, 4, 5, 6, 7] (fun _ _ => by rw [show ([] : List EN.T) = ([] : List EN.T) from rfl]; exact items_nil)
 refine Wp.loop (T := HH × Int × C × List EN.T) (fun t => match t with | (H21, na, ca, la) => ((70 - na).toNat : Nat)) (fun t => match t with | (H21, na, ca, la) => ([(0, yp p), (1, xi i), (5, yp c), (6, xi (-1)), (7, .y (.one (ca))), (10, xi na)] : Env)) (fun t => match t with | (H21, na, ca, la) => (H21 : HH))
   (fun t => match t with | (H21, na, ca, la) => (On [R, pts p (.obj cl), restM cl i.toNat, pts c (.obj [rowC ks 0 S.length 0 S.length false, vi hand, .ptr q0 0, .ptr q1 0, .ptr q2 0]), kP ks S, gP q0 l0, gP q1 l1, gP q2 l2, itemsP EN ca la] H21 ∧ (0 ≤ na) ∧ (na ≤ 70) ∧ ((la.length : Int) ≤ 65536 + na) : Prop)) (H, 0, (nilC), ([] : List EN.T)) (by kernel_rfl) (⟨(On.pick [0, 1, 2, 3, 4, 5, 6, 7, 8] [] (by kernel_rfl) hs19), by omega, by omega, by first | rfl | omega | (simp only [ek_]; omega) | (simp; done) | (simp; omega)⟩) ?_
 rintro ⟨H21, na, ca, la⟩ ⟨hs22, ga1, ga2, ga3⟩
 show Wp _ _ _ _ [(0, yp p), (1, xi i), (5, yp c), (6, xi (-1)), (7, .y (.one (ca))), (10, xi na)] H21 _
 refine wS ?_
 by_cases c23 : (na : Int) < 70
 ·
  refine rSz [(0, yp p), (1, xi i), (5, yp c), (6, xi (-1)), (7, .y (.one (ca))), (10, xi na), (80, xb true)] H21 (zL 1 (qlssT H21 na 70)) ?_
  refine wTk ?_
  refine wS (wB ?_)
  obtain ⟨cv24, H25, ho26, hs27⟩ := or_append_items (P := pg) (A := an) (s := EN) (t := 23) (u := 23) (el := 40) (by_ := 24) (z := [vi 0, vi 0, vb false]) (ty := 0) (y := .sl false false true [vi (-8), vi 0, vb false] 1) (lm := ([(((-8), (0, ())), (false, ()))])) (m := 1) hs22 8 rfl ((slCells_slO (H := H21) (s := EN) (b := false) (nil := false) (capd := true) (l := [(((-8), (0, ())), (false, ()))]) (n := 1) (by first | rfl | omega | (simp only [ek_]; omega) | (simp; done) | (simp; omega)))) (by kernel_rfl) (by kernel_rfl) (by kernel_rfl) (by kernel_rfl) (by kernel_rfl) (by kernel_rfl) (by kernel_rfl) (by first | rfl | omega | (simp only [ek_]; omega) | (simp; done) | (simp; omega)) (by omega) (by omega)
  have hs27l : ((la ++ ([(((-8), (0, ())), (false, ()))])).length : Int) = ((la.length : Int) + 1) := by { first | omega | (simp only [ej_]; omega) | (simp; done) | (simp; omega) }
  refine rHz [(0, yp p), (1, xi i), (5, yp c), (6, xi (-1)), (7, .y (.one (cv24))), (10, xi na)] hs27 (zL 4 ho26) fun H28 hs29 => ?_
  refine wK ?_
  refine rRz [(0, yp p), (1, xi i), (5, yp c), (6, xi (-1)), (7, .y (.one (cv24))), (10, xi (na + 1))] H28 (zL 1 (qoAdd H28 na 1 (na + 1))) ?_
  exact ⟨(H28, (na + 1), cv24, (la ++ ([(((-8), (0, ())), (false, ()))]))), by kernel_rfl, (⟨(On.pick [0, 1, 2, 3, 4, 5, 6, 7, 8] [] (by kernel_rfl) hs29), by omega, by omega, by first | omega | (simp only [ej_, en_, ek_]; omega)⟩), (by show (_ : Nat) < _; simp only []; omega)⟩
 refine rSz [(0, yp p), (1, xi i), (5, yp c), (6, xi (-1)), (7, .y (.one (ca))), (10, xi na), (80, xb false)] H21 (zL 1 (qlssF H21 na 70)) ?_
 refine wFa ?_
 refine wX ?_
 refine Eq.mpr (if_pos rfl) ?_
 refine rRz [(0, yp p), (1, xi i), (5, yp c), (6, xi 0)] H21 zN ?_
 refine ⟨_, _, rfl, ?_⟩
 refine WpL.step ?_
 refine wS ?_
 refine rs0 [(0, yp p), (1, xi i), (5, yp c), (6, xi 0), (43, xb true)] ?_
 refine wTk ?_
 refine wS (wB ?_)
 obtain ⟨_, H34, hr35, k33, rfl, hs36⟩ := items_ok _ (H21 : HH) (On.call [5] [0, 1, 2, 3, 4, 6, 7, 8] (by kernel_rfl) hs22) (q := q0) (room := 64) (l := l0)
 have hs36 : On [R, pts p (.obj cl), restM cl i.toNat, pts c (.obj [rowC ks 0 S.length 0 S.length false, vi hand, .ptr q0 0, .ptr q1 0, .ptr q2 0]), kP ks S, gP q1 l1, gP q2 l2, itemsP EN ca la, gP q0 l0, pts k33 (rowO EN true 0 l0)] H34 := On.flat hs36
 have hcall37 : Runs pg an 47 [.one (.ptr c 0), .one (vi 0)] H21 [.one (rowC k33 0 l0.length 0 l0.length true)] H34 := by
  refine runs_of ?_
  refine rOF Try.func47 rfl ?_
  refine rs0 [(0, yp c), (1, xi 0)] ?_
  refine wS ?_
  have hcall38 : Runs pg an 31 [.one (.ptr c 0)] H21 [.one (vb true)] H21 := by
   refine runs_of ?_
   refine rOF Try.func31 rfl ?_
   refine rs0 [(0, yp c)] ?_
   refine rSz [(2, xb true)] H21 (zA 6 (qL 22 0 (.one (rowC ks 0 S.length 0 S.length false)) (On.at hs22 3 rfl)) (zA 7 (Jc (H := H21) (s := NI) (t := 22) (ty := 0) (pu := true) (capd := false) (id := ks) (d := 0) (o := 0) (n := S.length) (l := S) (e := (S.length : Int)) (On.at hs22 4 rfl) (by kernel_rfl) (by first | rfl | omega | (simp only [ek_]; omega) | (simp; done) | (simp; omega))) (zL 8 (qgtrT H21 (S.length : Int) 0)))) ?_
   refine wE ?_
   exact ⟨Or.inr rfl, [.one (vb true)], (by kernel_rfl), ⟨rfl, rfl⟩⟩
  have hcall39 : Runs pg an 40 [.one (vi 0)] H21 [.one (vb true)] H21 := by
   refine runs_of ?_
   refine rOF Try.func40 rfl ?_
   refine rs0 [(0, xi 0)] ?_
   refine rs0 [(2, xb true)] ?_
   refine wE ?_
   exact ⟨Or.inr rfl, [.one (vb true)], (by kernel_rfl), ⟨rfl, rfl⟩⟩
  refine rSz [(0, yp c), (1, xi 0), (12, xb false)] H21 (zA 1 (qC1 hcall38) (zL 5 (qC1 hcall39))) ?_
  refine wFk ?_
  refine rSz [(4, .y (.one (rowC k33 0 l0.length 0 l0.length true)))] H34 (zA 6 (qL 78 2 (.one (.ptr q0 0)) (On.at hs22 3 rfl)) (zL 7 (qC1 hr35))) ?_
  refine wE ?_
  exact ⟨Or.inr rfl, [.one (rowC k33 0 l0.length 0 l0.length true)], (by kernel_rfl), ⟨rfl, rfl⟩⟩
 refine rGz [(0, yp p), (1, xi i), (5, yp c), (6, xi 0), (7, .y (.one (rowC k33 0 l0.length 0 l0.length true)))] hs36 (zL 2 (qC2 hcall37)) fun H40 hs41 => ?_
 refine rs0 [(0, yp p), (1, xi i), (5, yp c), (6, xi 0), (7, .y (.one (rowC k33 0 l0.length 0 l0.length true))), (8, .y (.one (nilC)))] ?_
 refine wS ?_
 refine rs0 [(0, yp p), (1, xi i), (5, yp c), (6, xi 0), (7, .y (.one (rowC k33 0 l0.length 0 l0.length true))), (8, .y (.one (nilC))), (54, xb true)] ?_
 refine wTa ?_
 refine rRz [(0, yp p), (1, xi i), (5, yp c), (6, xi 0), (7, .y (.one (rowC k33 0 l0.length 0 l0.length true))), (8, .y (.one (sv EN false u0 v0 l0)))] H40 (zA 5 (ob_index_sym (P := pg) (A := an) (H := H40) (t := 67) (el := 31) (ty := 0) (p := p) (off := 3) (sz := 5) (n := 3) (i := i) Try.underlying67 (by kernel_rfl) (by omega) (by omega)) (zL 8 (ob_load_at (P := pg) (A := an) (H := H40) (t := 23) (ty := 0) (id := p) (base := 3 + i.toNat * 5) (off := 2) (m := 5) (n := 1) (cs := cl) (ws := (wC false rc u0 v0 u1 v1 u2 v2 S hand l0 l1 l2)) (v := .one (sv EN false u0 v0 l0)) (On.at hs41 1 rfl) hb (by omega) (by kernel_rfl) (by kernel_rfl) (by kernel_rfl)))) ?_
 refine wS ?_
 refine rSz [(0, yp p), (1, xi i), (5, yp c), (6, xi 0), (7, .y (.one (rowC k33 0 l0.length 0 l0.length true))), (67, xb false)] H40 (zL 2 (Jj (H := H40) (g := 48) (vals := [.y (.one (rowC k33 0 l0.length 0 l0.length true)), .y (.one (sv EN false u0 v0 l0))]) (xs0 := [.one (rowC k33 0 l0.length 0 l0.length true), .one (sv EN false u0 v0 l0)]) (xs1 := [.one (sv EN true false true l0), .one (sv EN false u0 v0 l0)]) (res := [.one (vb true)]) (ats := #[]) (ty := 0) (v := xb true) [.tmp 0, .tmp 1] (by kernel_rfl) (by kernel_rfl) (snap_cons (snap_rowO (H := H40) (s := EN) (id := k33) (d := 0) (o := 0) (n := l0.length) (capd := true) (l := l0) (m := l0) (On.at hs41 9 rfl) (by first | rfl | omega | (simp only [ek_]; omega) | (simp; done) | (simp; omega)) (dt0 rfl (Nat.le_refl _))) (snap_cons (by kernel_rfl) (snap_nil))) (same_t true false true false u0 v0 l0 l0 (by first | rfl | omega | (simp only [ek_]; omega) | (simp; done) | (simp; omega)) (by first | rfl | omega | (simp only [ek_]; omega) | (simp; done) | (simp; omega)) (rfl)) (by kernel_rfl))) ?_
 refine wFk ?_
 refine wS ?_
 refine rs0 [(0, yp p), (1, xi i), (5, yp c), (6, xi 0), (7, .y (.one (rowC k33 0 l0.length 0 l0.length true))), (9, xi 0)] ?_
 refine wB ?_
 have hs42 : On [R, pts p (.obj cl), restM cl i.toNat, pts c (.obj [rowC ks 0 S.length 0 S.length false, vi hand, .ptr q0 0, .ptr q1 0, .ptr q2 0]), kP ks S, gP q1 l1, gP q2 l2, itemsP EN ca la, gP q0 l0, itemsP EN (rowC k33 0 l0.length 0 l0.length true) l0] H40 := sH hs41 [9] [0, 1, 2, 3, 4, 5, 6, 7, 8] (fun _ x => items_row (by first | rfl | omega | (simp only [ek_]; omega) | (simp; done) | (simp; omega)) (by first | rfl | omega | (simp only [ek_]; omega) | (simp; done) | (simp; omega)) (fun h => by cases h) (dt0 rfl (Nat.le_refl _)) x)
 refine Wp.loop (T := HH × Int × C × List EN.T) (fun t => match t with | (H44, nz, cz, lz) => (((lz.length : Int) - nz).toNat : Nat)) (fun t => match t with | (H44, nz, cz, lz) => ([(0, yp p), (1, xi i), (5, yp c), (6, xi 0), (7, .y (.one (cz))), (9, xi nz)] : Env)) (fun t => match t with | (H44, nz, cz, lz) => (H44 : HH))
   (fun t => match t with | (H44, nz, cz, lz) => (On [R, pts p (.obj cl), restM cl i.toNat, pts c (.obj [rowC ks 0 S.length 0 S.length false, vi hand, .ptr q0 0, .ptr q1 0, .ptr q2 0]), kP ks S, gP q1 l1, gP q2 l2, gP q0 l0, itemsP EN cz lz] H44 ∧ (0 ≤ nz) ∧ (nz ≤ (lz.length : Int)) ∧ ((lz.length : Int) ≤ 65536) : Prop)) (H40, 0, (rowC k33 0 l0.length 0 l0.length true), l0) (by kernel_rfl) (⟨(On.pick [0, 1, 2, 3, 4, 5, 6, 8, 9] [7] (by kernel_rfl) hs42), by omega, by omega, by omega⟩) ?_
 rintro ⟨H44, nz, cz, lz⟩ ⟨hs45, gz1, gz2, gz3⟩
 show Wp _ _ _ _ [(0, yp p), (1, xi i), (5, yp c), (6, xi 0), (7, .y (.one (cz))), (9, xi nz)] H44 _
 refine wS ?_
 by_cases c46 : (nz : Int) < (lz.length : Int)
 ·
  refine rSz [(0, yp p), (1, xi i), (5, yp c), (6, xi 0), (7, .y (.one (cz))), (9, xi nz), (71, xb true)] H44 (zA 2 (Jn (s := EN) (c := cz) (l := lz) (t := 23) (ty := 0) (e := (lz.length : Int)) hs45 8 rfl (by kernel_rfl) rfl) (zL 3 (qlssT H44 nz (lz.length : Int)))) ?_
  refine wTk ?_
  refine wS (wB ?_)
  obtain ⟨rfl, hl49, hs47⟩ | ⟨k50, d51, L52, o53, cd54, rfl, ho55, hc56, hl57, hs48⟩ := items_open hs45 8 rfl
  ·
   have hl49n : (lz.length : Int) = 0 := by rw [hl49]; rfl
   exfalso; omega
  obtain ⟨x58, hx58⟩ : ∃ x : EN.T, lz[(nz : Int).toNat]? = some x := get_of (by first | rfl | omega | (simp only [ek_]; omega) | (simp; done) | (simp; omega))
  refine rKz [(0, yp p), (1, xi i), (5, yp c), (6, xi 0), (7, .y (.one (rowC k50 d51 L52.length o53 lz.length cd54))), (9, xi nz)] (sto H44 k50 (.row true true d51 (d51 + L52.length) 3 ((L52.set ((((o53 : Int) + nz) : Int).toNat) (((-9), (0, ())), (false, ()))).flatMap (enc EN)))) (zA 4 (Jl (H := H44) (s := EN) (t := 23) (el := 40) (ty := 0) (pu := true) (capd := cd54) (id := k50) (d := d51) (o := o53) (n := lz.length) (j := ((((o53 : Int) + nz) : Int).toNat)) (l := L52) (i := nz) (On.at hs48 8 rfl) Try.underlying23 (by kernel_rfl) (by omega) (by first | rfl | omega | (simp only [ek_]; omega) | (simp; done) | (simp; omega)) (by first | rfl | omega | (simp only [ek_]; omega) | (simp; done) | (simp; omega)) (by first | rfl | omega | (simp only [ek_]; omega) | (simp; done) | (simp; omega))) (zL 5 (Jb1 (H := H44) (s := EN) (t := 40) (ty := 0) (pu := true) (id := k50) (d := d51) (j := ((((o53 : Int) + nz) : Int).toNat)) (o := 0) (l := L52) (x := x58) (x' := (((-9), (0, ())), (false, ()))) (v := .agg [vi (-9), vi 0, vb false]) (On.at hs48 8 rfl) (by kernel_rfl) (of_content (hl57) hx58 (by first | rfl | omega | (simp only [ek_]; omega) | (simp; done) | (simp; omega))) (by kernel_rfl) (by kernel_rfl) (by kernel_rfl) (by kernel_rfl)))) ?_
  have hrl60 : L52.length = (L52.set ((((o53 : Int) + nz) : Int).toNat) (((-9), (0, ())), (false, ()))).length := List.length_set.symm
  refine Eq.mpr (congrArg (fun z : Nat => Wp _ _ _ _ [(0, yp p), (1, xi i), (5, yp c), (6, xi 0), (7, .y (.one (rowC k50 d51 z o53 lz.length cd54))), (9, xi nz)] (sto H44 k50 (.row true true d51 (d51 + z) 3 ((L52.set ((((o53 : Int) + nz) : Int).toNat) (((-9), (0, ())), (false, ()))).flatMap (enc EN)))) _) hrl60) ?_
  refine wG (Eq.mp (congrArg (fun z : Nat => On [R, pts p (.obj cl), restM cl i.toNat, pts c (.obj [rowC ks 0 S.length 0 S.length false, vi hand, .ptr q0 0, .ptr q1 0, .ptr q2 0]), kP ks S, gP q1 l1, gP q2 l2, gP q0 l0, pts k50 (.row true true d51 (d51 + z) 3 ((L52.set ((((o53 : Int) + nz) : Int).toNat) (((-9), (0, ())), (false, ()))).flatMap (enc EN)))] (sto H44 k50 (.row true true d51 (d51 + z) 3 ((L52.set ((((o53 : Int) + nz) : Int).toNat) (((-9), (0, ())), (false, ()))).flatMap (enc EN))))) hrl60) (On.put (.row true true d51 (d51 + L52.length) 3 ((L52.set ((((o53 : Int) + nz) : Int).toNat) (((-9), (0, ())), (false, ()))).flatMap (enc EN))) hs48 8 rfl)) fun H61 hs62 => ?_
  refine wK ?_
  refine rRz [(0, yp p), (1, xi i), (5, yp c), (6, xi 0), (7, .y (.one (rowC k50 d51 (L52.set ((((o53 : Int) + nz) : Int).toNat) (((-9), (0, ())), (false, ()))).length o53 lz.length cd54))), (9, xi (nz + 1))] H61 (zL 1 (qoAdd H61 nz 1 (nz + 1))) ?_
  have hs63 : On [R, pts p (.obj cl), restM cl i.toNat, pts c (.obj [rowC ks 0 S.length 0 S.length false, vi hand, .ptr q0 0, .ptr q1 0, .ptr q2 0]), kP ks S, gP q1 l1, gP q2 l2, gP q0 l0, itemsP EN (rowC k50 d51 (L52.set ((((o53 : Int) + nz) : Int).toNat) (((-9), (0, ())), (false, ()))).length o53 lz.length cd54) (((L52.set ((((o53 : Int) + nz) : Int).toNat) (((-9), (0, ())), (false, ()))).drop o53).take lz.length)] H61 := sH hs62 [8] [0, 1, 2, 3, 4, 5, 6, 7] (fun _ x => items_row (by first | rfl | omega | (simp only [ek_]; omega) | (simp; done) | (simp; omega)) (by first | rfl | omega | (simp only [ek_]; omega) | (simp; done) | (simp; omega)) (fun h => by have := hc56 h; first | rfl | omega | (simp only [ek_]; omega) | (simp; done) | (simp; omega)) (rfl) x)
  exact ⟨(H61, (nz + 1), (rowC k50 d51 (L52.set ((((o53 : Int) + nz) : Int).toNat) (((-9), (0, ())), (false, ()))).length o53 lz.length cd54), (((L52.set ((((o53 : Int) + nz) : Int).toNat) (((-9), (0, ())), (false, ()))).drop o53).take lz.length)), by kernel_rfl, (⟨(On.pick [0, 1, 2, 3, 4, 5, 6, 7, 8] [] (by kernel_rfl) hs63), by omega, by first | rfl | omega | (simp only [ek_]; omega) | (simp; done) | (simp; omega), by first | rfl | omega | (simp only [ek_]; omega) | (simp; done) | (simp; omega)⟩), (by show (_ : Nat) < _; first | omega | (simp only [List.length_set, eh_, ei_]; omega))⟩
 refine rSz [(0, yp p), (1, xi i), (5, yp c), (6, xi 0), (7, .y (.one (cz))), (9, xi nz), (71, xb false)] H44 (zA 2 (Jn (s := EN) (c := cz) (l := lz) (t := 23) (ty := 0) (e := (lz.length : Int)) hs45 8 rfl (by kernel_rfl) rfl) (zL 3 (qlssF H44 nz (lz.length : Int)))) ?_
 refine wFa ?_
 refine wX ?_
 refine Eq.mpr (if_pos rfl) ?_
 refine rs0 [(0, yp p), (1, xi i), (5, yp c), (6, xi 0), (7, .y (.one (cz))), (10, xi 0)] ?_
 refine wB ?_
 refine Wp.loop (T := HH × Int × C × List EN.T) (fun t => match t with | (H65, na, ca, la) => ((70 - na).toNat : Nat)) (fun t => match t with | (H65, na, ca, la) => ([(0, yp p), (1, xi i), (5, yp c), (6, xi 0), (7, .y (.one (ca))), (10, xi na)] : Env)) (fun t => match t with | (H65, na, ca, la) => (H65 : HH))
   (fun t => match t with | (H65, na, ca, la) => (On [R, pts p (.obj cl), restM cl i.toNat, pts c (.obj [rowC ks 0 S.length 0 S.length false, vi hand, .ptr q0 0, .ptr q1 0, .ptr q2 0]), kP ks S, gP q1 l1, gP q2 l2, gP q0 l0, itemsP EN ca la] H65 ∧ (0 ≤ na) ∧ (na ≤ 70) ∧ ((la.length : Int) ≤ 65536 + na) : Prop)) (H44, 0, cz, lz) (by kernel_rfl) (⟨(On.pick [0, 1, 2, 3, 4, 5, 6, 7, 8] [] (by kernel_rfl) hs45), by omega, by omega, by first | rfl | omega | (simp only [ek_]; omega) | (simp; done) | (simp; omega)⟩) ?_
 rintro ⟨H65, na, ca, la⟩ ⟨hs66, ga1, ga2, ga3⟩
 show Wp _ _ _ _ [(0, yp p), (1, xi i), (5, yp c), (6, xi 0), (7, .y (.one (ca))), (10, xi na)] H65 _
 refine wS ?_
 by_cases c67 : (na : Int) < 70
 ·
  refine rSz [(0, yp p), (1, xi i), (5, yp c), (6, xi 0), (7, .y (.one (ca))), (10, xi na), (80, xb true)] H65 (zL 1 (qlssT H65 na 70)) ?_
  refine wTk ?_
  refine wS (wB ?_)
  obtain ⟨cv68, H69, ho70, hs71⟩ := or_append_items (P := pg) (A := an) (s := EN) (t := 23) (u := 23) (el := 40) (by_ := 24) (z := [vi 0, vi 0, vb false]) (ty := 0) (y := .sl false false true [vi (-8), vi 0, vb false] 1) (lm := ([(((-8), (0, ())), (false, ()))])) (m := 1) hs66 8 rfl ((slCells_slO (H := H65) (s := EN) (b := false) (nil := false) (capd := true) (l := [(((-8), (0, ())), (false, ()))]) (n := 1) (by first | rfl | omega | (simp only [ek_]; omega) | (simp; done) | (simp; omega)))) (by kernel_rfl) (by kernel_rfl) (by kernel_rfl) (by kernel_rfl) (by kernel_rfl) (by kernel_rfl) (by kernel_rfl) (by first | rfl | omega | (simp only [ek_]; omega) | (simp; done) | (simp; omega)) (by omega) (by omega)
  have hs71l : ((la ++ ([(((-8), (0, ())), (false, ()))])).length : Int) = ((la.length : Int) + 1) := by { first | omega | (simp only [ej_]; omega) | (simp; done) | (simp; omega) }
  refine rHz [(0, yp p), (1, xi i), (5, yp c), (6, xi 0), (7, .y (.one (cv68))), (10, xi na)] hs71 (zL 4 ho70) fun H72 hs73 => ?_
  refine wK ?_
  refine rRz [(0, yp p), (1, xi i), (5, yp c), (6, xi 0), (7, .y (.one (cv68))), (10, xi (na + 1))] H72 (zL 1 (qoAdd H72 na 1 (na + 1))) ?_
  exact ⟨(H72, (na + 1), cv68, (la ++ ([(((-8), (0, ())), (false, ()))]))), by kernel_rfl, (⟨(On.pick [0, 1, 2, 3, 4, 5, 6, 7, 8] [] (by kernel_rfl) hs73), by omega, by omega, by first | omega | (simp only [ej_, en_, ek_]; omega)⟩), (by show (_ : Nat) < _; simp only []; omega)⟩
 refine rSz [(0, yp p), (1, xi i), (5, yp c), (6, xi 0), (7, .y (.one (ca))), (10, xi na), (80, xb false)] H65 (zL 1 (qlssF H65 na 70)) ?_
 refine wFa ?_
 refine wX ?_
 refine Eq.mpr (if_pos rfl) ?_
 refine rRz [(0, yp p), (1, xi i), (5, yp c), (6, xi 1)] H65 zN ?_
 refine ⟨_, _, rfl, ?_⟩
 refine WpL.step ?_
 refine wS ?_
 refine rs0 [(0, yp p), (1, xi i), (5, yp c), (6, xi 1), (43, xb true)] ?_
 refine wTk ?_
 refine wS (wB ?_)
 obtain ⟨_, H78, hr79, k77, rfl, hs80⟩ := items_ok _ (H65 : HH) (On.call [5] [0, 1, 2, 3, 4, 6, 7, 8] (by kernel_rfl) hs66) (q := q1) (room := 64) (l := l1)
 have hs80 : On [R, pts p (.obj cl), restM cl i.toNat, pts c (.obj [rowC ks 0 S.length 0 S.length false, vi hand, .ptr q0 0, .ptr q1 0, .ptr q2 0]), kP ks S, gP q2 l2, gP q0 l0, itemsP EN ca la, gP q1 l1, pts k77 (rowO EN true 0 l1)] H78 := On.flat hs80
 have hcall81 : Runs pg an 47 [.one (.ptr c 0), .one (vi 1)] H65 [.one (rowC k77 0 l1.length 0 l1.length true)] H78 := by
  refine runs_of ?_
  refine rOF Try.func47 rfl ?_
  refine rs0 [(0, yp c), (1, xi 1)] ?_
  refine wS ?_
  have hcall82 : Runs pg an 31 [.one (.ptr c 0)] H65 [.one (vb true)] H65 := by
   refine runs_of ?_
   refine rOF Try.func31 rfl ?_
   refine rs0 [(0, yp c)] ?_
   refine rSz [(2, xb true)] H65 (zA 6 (qL 22 0 (.one (rowC ks 0 S.length 0 S.length false)) (On.at hs66 3 rfl)) (zA 7 (Jc (H := H65) (s := NI) (t := 22) (ty := 0) (pu := true) (capd := false) (id := ks) (d := 0) (o := 0) (n := S.length) (l := S) (e := (S.length : Int)) (On.at hs66 4 rfl) (by kernel_rfl) (by first | rfl | omega | (simp only [ek_]; omega) | (simp; done) | (simp; omega))) (zL 8 (qgtrT H65 (S.length : Int) 0)))) ?_
   refine wE ?_
   exact ⟨Or.inr rfl, [.one (vb true)], (by kernel_rfl), ⟨rfl, rfl⟩⟩
  have hcall83 : Runs pg an 40 [.one (vi 1)] H65 [.one (vb true)] H65 := by
   refine runs_of ?_
   refine rOF Try.func40 rfl ?_
   refine rs0 [(0, xi 1)] ?_
   refine rs0 [(2, xb true)] ?_
   refine wE ?_
   exact ⟨Or.inr rfl, [.one (vb true)], (by kernel_rfl), ⟨rfl, rfl⟩⟩
  refine rSz [(0, yp c), (1, xi 1), (12, xb false)] H65 (zA 1 (qC1 hcall82) (zL 5 (qC1 hcall83))) ?_
  refine wFk ?_
  refine rSz [(4, .y (.one (rowC k77 0 l1.length 0 l1.length true)))] H78 (zA 6 (qL 78 3 (.one (.ptr q1 0)) (On.at hs66 3 rfl)) (zL 7 (qC1 hr79))) ?_
  refine wE ?_
  exact ⟨Or.inr rfl, [.one (rowC k77 0 l1.length 0 l1.length true)], (by kernel_rfl), ⟨rfl, rfl⟩⟩
 refine rGz [(0, yp p), (1, xi i), (5, yp c), (6, xi 1), (7, .y (.one (rowC k77 0 l1.length 0 l1.length true)))] hs80 (zL 2 (qC2 hcall81)) fun H84 hs85 => ?_
 refine rs0 [(0, yp p), (1, xi i), (5, yp c), (6, xi 1), (7, .y (.one (rowC k77 0 l1.length 0 l1.length true))), (8, .y (.one (nilC)))] ?_
 refine wS ?_
 refine rs0 [(0, yp p), (1, xi i), (5, yp c), (6, xi 1), (7, .y (.one (rowC k77 0 l1.length 0 l1.length true))), (8, .y (.one (nilC))), (54, xb true)] ?_
 refine wTa ?_
 refine rRz [(0, yp p), (1, xi i), (5, yp c), (6, xi 1), (7, .y (.one (rowC k77 0 l1.length 0 l1.length true))), (8, .y (.one (sv EN false u1 v1 l1)))] H84 (zA 5 (ob_index_sym (P := pg) (A := an) (H := H84) (t := 67) (el := 31) (ty := 0) (p := p) (off := 3) (sz := 5) (n := 3) (i := i) Try.underlying67 (by kernel_rfl) (by omega) (by omega)) (zL 8 (ob_load_at (P := pg) (A := an) (H := H84) (t := 23) (ty := 0) (id := p) (base := 3 + i.toNat * 5) (off := 3) (m := 5) (n := 1) (cs := cl) (ws := (wC false rc u0 v0 u1 v1 u2 v2 S hand l0 l1 l2)) (v := .one (sv EN false u1 v1 l1)) (On.at hs85 1 rfl) hb (by omega) (by kernel_rfl) (by kernel_rfl) (by kernel_rfl)))) ?_
 refine wS ?_
 refine rSz [(0, yp p), (1, xi i), (5, yp c), (6, xi 1), (7, .y (.one (rowC k77 0 l1.length 0 l1.length true))), (67, xb false)] H84 (zL 2 (Jj (H := H84) (g := 48) (vals := [.y (.one (rowC k77 0 l1.length 0 l1.length true)), .y (.one (sv EN false u1 v1 l1))]) (xs0 := [.one (rowC k77 0 l1.length 0 l1.length true), .one (sv EN false u1 v1 l1)]) (xs1 := [.one (sv EN true false true l1), .one (sv EN false u1 v1 l1)]) (res := [.one (vb true)]) (ats := #[]) (ty := 0) (v := xb true) [.tmp 0, .tmp 1] (by kernel_rfl) (by kernel_rfl) (snap_cons (snap_rowO (H := H84) (s := EN) (id := k77) (d := 0) (o := 0) (n := l1.length) (capd := true) (l := l1) (m := l1) (On.at hs85 9 rfl) (by first | rfl | omega | (simp only [ek_]; omega) | (simp; done) | (simp; omega)) (dt0 rfl (Nat.le_refl _))) (snap_cons (by kernel_rfl) (snap_nil))) (same_t true false true false u1 v1 l1 l1 (by first | rfl | omega | (simp only [ek_]; omega) | (simp; done) | (simp; omega)) (by first | rfl | omega | (simp only [ek_]; omega) | (simp; done) | (simp; omega)) (rfl)) (by kernel_rfl))) ?_
 refine wFk ?_
 refine wS ?_
 refine rs0 [(0, yp p), (1, xi i), (5, yp c), (6, xi 1), (7, .y (.one (rowC k77 0 l1.length 0 l1.length true))), (9, xi 0)] ?_
 refine wB ?_
 have hs86 : On [R, pts p (.obj cl), restM cl i.toNat, pts c (.obj [rowC ks 0 S.length 0 S.length false, vi hand, .ptr q0 0, .ptr q1 0, .ptr q2 0]), kP ks S, gP q2 l2, gP q0 l0, itemsP EN ca la, gP q1 l1, itemsP EN (rowC k77 0 l1.length 0 l1.length true) l1] H84 := sH hs85 [9] [0, 1, 2, 3, 4, 5, 6, 7, 8] (fun _ x => items_row (by first | rfl | omega | (simp only [ek_]; omega) | (simp; done) | (simp; omega)) (by first | rfl | omega | (simp only [ek_]; omega) | (simp; done) | (simp; omega)) (fun h => by cases h) (dt0 rfl (Nat.le_refl _)) x)
 refine Wp.loop (T := HH × Int × C × List EN.T) (fun t => match t with | (H88, nz, cz, lz) => (((lz.length : Int) - nz).toNat : Nat)) (fun t => match t with | (H88, nz, cz, lz) => ([(0, yp p), (1, xi i), (5, yp c), (6, xi 1), (7, .y (.one (cz))), (9, xi nz)] : Env)) (fun t => match t with | (H88, nz, cz, lz) => (H88 : HH))
   (fun t => match t with | (H88, nz, cz, lz) => (On [R, pts p (.obj cl), restM cl i.toNat, pts c (.obj [rowC ks 0 S.length 0 S.length false, vi hand, .ptr q0 0, .ptr q1 0, .ptr q2 0]), kP ks S, gP q2 l2, gP q0 l0, gP q1 l1, itemsP EN cz lz] H88 ∧ (0 ≤ nz) ∧ (nz ≤ (lz.length : Int)) ∧ ((lz.length : Int) ≤ 65536) : Prop)) (H84, 0, (rowC k77 0 l1.length 0 l1.length true), l1) (by kernel_rfl) (⟨(On.pick [0, 1, 2, 3, 4, 5, 6, 8, 9] [7] (by kernel_rfl) hs86), by omega, by omega, by omega⟩) ?_
 rintro ⟨H88, nz, cz, lz⟩ ⟨hs89, gz1, gz2, gz3⟩
 show Wp _ _ _ _ [(0, yp p), (1, xi i), (5, yp c), (6, xi 1), (7, .y (.one (cz))), (9, xi nz)] H88 _
 refine wS ?_
 by_cases c90 : (nz : Int) < (lz.length : Int)
 ·
  refine rSz [(0, yp p), (1, xi i), (5, yp c), (6, xi 1), (7, .y (.one (cz))), (9, xi nz), (71, xb true)] H88 (zA 2 (Jn (s := EN) (c := cz) (l := lz) (t := 23) (ty := 0) (e := (lz.length : Int)) hs89 8 rfl (by kernel_rfl) rfl) (zL 3 (qlssT H88 nz (lz.length : Int)))) ?_
  refine wTk ?_
  refine wS (wB ?_)
  obtain ⟨rfl, hl93, hs91⟩ | ⟨k94, d95, L96, o97, cd98, rfl, ho99, hc100, hl101, hs92⟩ := items_open hs89 8 rfl
  ·
   have hl93n : (lz.length : Int) = 0 := by rw [hl93]; rfl
   exfalso; omega
  obtain ⟨x102, hx102⟩ : ∃ x : EN.T, lz[(nz : Int).toNat]? = some x := get_of (by first | rfl | omega | (simp only [ek_]; omega) | (simp; done) | (simp; omega))
  refine rKz [(0, yp p), (1, xi i), (5, yp c), (6, xi 1), (7, .y (.one (rowC k94 d95 L96.length o97 lz.length cd98))), (9, xi nz)] (sto H88 k94 (.row true true d95 (d95 + L96.length) 3 ((L96.set ((((o97 : Int) + nz) : Int).toNat) (((-9), (0, ())), (false, ()))).flatMap (enc EN)))) (zA 4 (Jl (H := H88) (s := EN) (t := 23) (el := 40) (ty := 0) (pu := true) (capd := cd98) (id := k94) (d := d95) (o := o97) (n := lz.length) (j := ((((o97 : Int) + nz) : Int).toNat)) (l := L96) (i := nz) (On.at hs92 8 rfl) Try.underlying23 (by kernel_rfl) (by omega) (by first | rfl | omega | (simp only [ek_]; omega) | (simp; done) | (simp; omega)) (by first | rfl | omega | (simp only [ek_]; omega) | (simp; done) | (simp; omega)) (by first | rfl | omega | (simp only [ek_]; omega) | (simp; done) | (simp; omega))) (zL 5 (Jb1 (H := H88) (s := EN) (t := 40) (ty := 0) (pu := true) (id := k94) (d := d95) (j := ((((o97 : Int) + nz) : Int).toNat)) (o := 0) (l := L96) (x := x102) (x' := (((-9), (0, ())), (false, ()))) (v := .agg [vi (-9), vi 0, vb false]) (On.at hs92 8 rfl) (by kernel_rfl) (of_content (hl101) hx102 (by first | rfl | omega | (simp only [ek_]; omega) | (simp; done) | (simp; omega))) (by kernel_rfl) (by kernel_rfl) (by kernel_rfl) (by kernel_rfl)))) ?_
  have hrl104 : L96.length = (L96.set ((((o97 : Int) + nz) : Int).toNat) (((-9), (0, ())), (false, ()))).length := List.length_set.symm
  refine Eq.mpr (congrArg (fun z : Nat => Wp _ _ _ _ [(0, yp p), (1, xi i), (5, yp c), (6, xi 1), (7, .y (.one (rowC k94 d95 z o97 lz.length cd98))), (9, xi nz)] (sto H88 k94 (.row true true d95 (d95 + z) 3 ((L96.set ((((o97 : Int) + nz) : Int).toNat) (((-9), (0, ())), (false, ()))).flatMap (enc EN)))) _) hrl104) ?_
  refine wG (Eq.mp (congrArg (fun z : Nat => On [R, pts p (.obj cl), restM cl i.toNat, pts c (.obj [rowC ks 0 S.length 0 S.length false, vi hand, .ptr q0 0, .ptr q1 0, .ptr q2 0]), kP ks S, gP q2 l2, gP q0 l0, gP q1 l1, pts k94 (.row true true d95 (d95 + z) 3 ((L96.set ((((o97 : Int) + nz) : Int).toNat) (((-9), (0, ())), (false, ()))).flatMap (enc EN)))] (sto H88 k94 (.row true true d95 (d95 + z) 3 ((L96.set ((((o97 : Int) + nz) : Int).toNat) (((-9), (0, ())), (false, ()))).flatMap (enc EN))))) hrl104) (On.put (.row true true d95 (d95 + L96.length) 3 ((L96.set ((((o97 : Int) + nz) : Int).toNat) (((-9), (0, ())), (false, ()))).flatMap (enc EN))) hs92 8 rfl)) fun H105 hs106 => ?_
  refine wK ?_
  refine rRz [(0, yp p), (1, xi i), (5, yp c), (6, xi 1), (7, .y (.one (rowC k94 d95 (L96.set ((((o97 : Int) + nz) : Int).toNat) (((-9), (0, ())), (false, ()))).length o97 lz.length cd98))), (9, xi (nz + 1))] H105 (zL 1 (qoAdd H105 nz 1 (nz + 1))) ?_
  have hs107 : On [R, pts p (.obj cl), restM cl i.toNat, pts c (.obj [rowC ks 0 S.length 0 S.length false, vi hand, .ptr q0 0, .ptr q1 0, .ptr q2 0]), kP ks S, gP q2 l2, gP q0 l0, gP q1 l1, itemsP EN (rowC k94 d95 (L96.set ((((o97 : Int) + nz) : Int).toNat) (((-9), (0, ())), (false, ()))).length o97 lz.length cd98) (((L96.set ((((o97 : Int) + nz) : Int).toNat) (((-9), (0, ())), (false, ()))).drop o97).take lz.length)] H105 := sH hs106 [8] [0, 1, 2, 3, 4, 5, 6, 7] (fun _ x => items_row (by first | rfl | omega | (simp only [ek_]; omega) | (simp; done) | (simp; omega)) (by first | rfl | omega | (simp only [ek_]; omega) | (simp; done) | (simp; omega)) (fun h => by have := hc100 h; first | rfl | omega | (simp only [ek_]; omega) | (simp; done) | (simp; omega)) (rfl) x)
  exact ⟨(H105, (nz + 1), (rowC k94 d95 (L96.set ((((o97 : Int) + nz) : Int).toNat) (((-9), (0, ())), (false, ()))).length o97 lz.length cd98), (((L96.set ((((o97 : Int) + nz) : Int).toNat) (((-9), (0, ())), (false, ()))).drop o97).take lz.length)), by kernel_rfl, (⟨(On.pick [0, 1, 2, 3, 4, 5, 6, 7, 8] [] (by kernel_rfl) hs107), by omega, by first | rfl | omega | (simp only [ek_]; omega) | (simp; done) | (simp; omega), by first | rfl | omega | (simp only [ek_]; omega) | (simp; done) | (simp; omega)⟩), (by show (_ : Nat) < _; first | omega | (simp only [List.length_set, eh_, ei_]; omega))⟩
 refine rSz [(0, yp p), (1, xi i), (5, yp c), (6, xi 1), (7, .y (.one (cz))), (9, xi nz), (71, xb false)] H88 (zA 2 (Jn (s := EN) (c := cz) (l := lz) (t := 23) (ty := 0) (e := (lz.length : Int)) hs89 8 rfl (by kernel_rfl) rfl) (zL 3 (qlssF H88 nz (lz.length : Int)))) ?_
 refine wFa ?_
 refine wX ?_
 refine Eq.mpr (if_pos rfl) ?_
 refine rs0 [(0, yp p), (1, xi i), (5, yp c), (6, xi 1), (7, .y (.one (cz))), (10, xi 0)] ?_
 refine wB ?_
 refine Wp.loop (T := HH × Int × C × List EN.T) (fun t => match t with | (H109, na, ca, la) => ((70 - na).toNat : Nat)) (fun t => match t with | (H109, na, ca, la) => ([(0, yp p), (1, xi i), (5, yp c), (6, xi 1), (7, .y (.one (ca))), (10, xi na)] : Env)) (fun t => match t with | (H109, na, ca, la) => (H109 : HH))
   (fun t => match t with | (H109, na, ca, la) => (On [R, pts p (.obj cl), restM cl i.toNat, pts c (.obj [rowC ks 0 S.length 0 S.length false, vi hand, .ptr q0 0, .ptr q1 0, .ptr q2 0]), kP ks S, gP q2 l2, gP q0 l0, gP q1 l1, itemsP EN ca la] H109 ∧ (0 ≤ na) ∧ (na ≤ 70) ∧ ((la.length : Int) ≤ 65536 + na) : Prop)) (H88, 0, cz, lz) (by kernel_rfl) (⟨(On.pick [0, 1, 2, 3, 4, 5, 6, 7, 8] [] (by kernel_rfl) hs89), by omega, by omega, by first | rfl | omega | (simp only [ek_]; omega) | (simp; done) | (simp; omega)⟩) ?_
 rintro ⟨H109, na, ca, la⟩ ⟨hs110, ga1, ga2, ga3⟩
 show Wp _ _ _ _ [(0, yp p), (1, xi i), (5, yp c), (6, xi 1), (7, .y (.one (ca))), (10, xi na)] H109 _
 refine wS ?_
 by_cases c111 : (na : Int) < 70
 ·
  refine rSz [(0, yp p), (1, xi i), (5, yp c), (6, xi 1), (7, .y (.one (ca))), (10, xi na), (80, xb true)] H109 (zL 1 (qlssT H109 na 70)) ?_
  refine wTk ?_
  refine wS (wB ?_)
  obtain ⟨cv112, H113, ho114, hs115⟩ := or_append_items (P := pg) (A := an) (s := EN) (t := 23) (u := 23) (el := 40) (by_ := 24) (z := [vi 0, vi 0, vb false]) (ty := 0) (y := .sl false false true [vi (-8), vi 0, vb false] 1) (lm := ([(((-8), (0, ())), (false, ()))])) (m := 1) hs110 8 rfl ((slCells_slO (H := H109) (s := EN) (b := false) (nil := false) (capd := true) (l := [(((-8), (0, ())), (false, ()))]) (n := 1) (by first | rfl | omega | (simp only [ek_]; omega) | (simp; done) | (simp; omega)))) (by kernel_rfl) (by kernel_rfl) (by kernel_rfl) (by kernel_rfl) (by kernel_rfl) (by kernel_rfl) (by kernel_rfl) (by first | rfl | omega | (simp only [ek_]; omega) | (simp; done) | (simp; omega)) (by omega) (by omega)
  have hs115l : ((la ++ ([(((-8), (0, ())), (false, ()))])).length : Int) = ((la.length : Int) + 1) := by { first | omega | (simp only [ej_]; omega) | (simp; done) | (simp; omega) }
  refine rHz [(0, yp p), (1, xi i), (5, yp c), (6, xi 1), (7, .y (.one (cv112))), (10, xi na)] hs115 (zL 4 ho114) fun H116 hs117 => ?_
  refine wK ?_
  refine rRz [(0, yp p), (1, xi i), (5, yp c), (6, xi 1), (7, .y (.one (cv112))), (10, xi (na + 1))] H116 (zL 1 (qoAdd H116 na 1 (na + 1))) ?_
  exact ⟨(H116, (na + 1), cv112, (la ++ ([(((-8), (0, ())), (false, ()))]))), by kernel_rfl, (⟨(On.pick [0, 1, 2, 3, 4, 5, 6, 7, 8] [] (by kernel_rfl) hs117), by omega, by omega, by first | omega | (simp only [ej_, en_, ek_]; omega)⟩), (by show (_ : Nat) < _; simp only []; omega)⟩
 refine rSz [(0, yp p), (1, xi i), (5, yp c), (6, xi 1), (7, .y (.one (ca))), (10, xi na), (80, xb false)] H109 (zL 1 (qlssF H109 na 70)) ?_
 refine wFa ?_
 refine wX ?_
 refine Eq.mpr (if_pos rfl) ?_
 refine rRz [(0, yp p), (1, xi i), (5, yp c), (6, xi 2)] H109 zN ?_
 refine ⟨_, _, rfl, ?_⟩
 refine WpL.step ?_
 refine wS ?_
 refine rs0 [(0, yp p), (1, xi i), (5, yp c), (6, xi 2), (43, xb true)] ?_
 refine wTk ?_
 refine wS (wB ?_)
 obtain ⟨_, H122, hr123, k121, rfl, hs124⟩ := items_ok _ (H109 : HH) (On.call [5] [0, 1, 2, 3, 4, 6, 7, 8] (by kernel_rfl) hs110) (q := q2) (room := 64) (l := l2)
 have hs124 : On [R, pts p (.obj cl), restM cl i.toNat, pts c (.obj [rowC ks 0 S.length 0 S.length false, vi hand, .ptr q0 0, .ptr q1 0, .ptr q2 0]), kP ks S, gP q0 l0, gP q1 l1, itemsP EN ca la, gP q2 l2, pts k121 (rowO EN true 0 l2)] H122 := On.flat hs124
 have hcall125 : Runs pg an 47 [.one (.ptr c 0), .one (vi 2)] H109 [.one (rowC k121 0 l2.length 0 l2.length true)] H122 := by
  refine runs_of ?_
  refine rOF Try.func47 rfl ?_
  refine rs0 [(0, yp c), (1, xi 2)] ?_
  refine wS ?_
  have hcall126 : Runs pg an 31 [.one (.ptr c 0)] H109 [.one (vb true)] H109 := by
   refine runs_of ?_
   refine rOF Try.func31 rfl ?_
   refine rs0 [(0, yp c)] ?_
   refine rSz [(2, xb true)] H109 (zA 6 (qL 22 0 (.one (rowC ks 0 S.length 0 S.length false)) (On.at hs110 3 rfl)) (zA 7 (Jc (H := H109) (s := NI) (t := 22) (ty := 0) (pu := true) (capd := false) (id := ks) (d := 0) (o := 0) (n := S.length) (l := S) (e := (S.length : Int)) (On.at hs110 4 rfl) (by kernel_rfl) (by first | rfl | omega | (simp only [ek_]; omega) | (simp; done) | (simp; omega))) (zL 8 (qgtrT H109 (S.length : Int) 0)))) ?_
   refine wE ?_
   exact ⟨Or.inr rfl, [.one (vb true)], (by kernel_rfl), ⟨rfl, rfl⟩⟩
  have hcall127 : Runs pg an 40 [.one (vi 2)] H109 [.one (vb true)] H109 := by
   refine runs_of ?_
   refine rOF Try.func40 rfl ?_
   refine rs0 [(0, xi 2)] ?_
   refine rs0 [(2, xb true)] ?_
   refine wE ?_
   exact ⟨Or.inr rfl, [.one (vb true)], (by kernel_rfl), ⟨rfl, rfl⟩⟩
  refine rSz [(0, yp c), (1, xi 2), (12, xb false)] H109 (zA 1 (qC1 hcall126) (zL 5 (qC1 hcall127))) ?_
  refine wFk ?_
  refine rSz [(4, .y (.one (rowC k121 0 l2.length 0 l2.length true)))] H122 (zA 6 (qL 78 4 (.one (.ptr q2 0)) (On.at hs110 3 rfl)) (zL 7 (qC1 hr123))) ?_
  refine wE ?_
  exact ⟨Or.inr rfl, [.one (rowC k121 0 l2.length 0 l2.length true)], (by kernel_rfl), ⟨rfl, rfl⟩⟩
 refine rGz [(0, yp p), (1, xi i), (5, yp c), (6, xi 2), (7, .y (.one (rowC k121 0 l2.length 0 l2.length true)))] hs124 (zL 2 (qC2 hcall125)) fun H128 hs129 => ?_
 refine rs0 [(0, yp p), (1, xi i), (5, yp c), (6, xi 2), (7, .y (.one (rowC k121 0 l2.length 0 l2.length true))), (8, .y (.one (nilC)))] ?_
 refine wS ?_
 refine rs0 [(0, yp p), (1, xi i), (5, yp c), (6, xi 2), (7, .y (.one (rowC k121 0 l2.length 0 l2.length true))), (8, .y (.one (nilC))), (54, xb true)] ?_
 refine wTa ?_
 refine rRz [(0, yp p), (1, xi i), (5, yp c), (6, xi 2), (7, .y (.one (rowC k121 0 l2.length 0 l2.length true))), (8, .y (.one (sv EN false u2 v2 l2)))] H128 (zA 5 (ob_index_sym (P := pg) (A := an) (H := H128) (t := 67) (el := 31) (ty := 0) (p := p) (off := 3) (sz := 5) (n := 3) (i := i) Try.underlying67 (by kernel_rfl) (by omega) (by omega)) (zL 8 (ob_load_at (P := pg) (A := an) (H := H128) (t := 23) (ty := 0) (id := p) (base := 3 + i.toNat * 5) (off := 4) (m := 5) (n := 1) (cs := cl) (ws := (wC false rc u0 v0 u1 v1 u2 v2 S hand l0 l1 l2)) (v := .one (sv EN false u2 v2 l2)) (On.at hs129 1 rfl) hb (by omega) (by kernel_rfl) (by kernel_rfl) (by kernel_rfl)))) ?_
 refine wS ?_
 refine rSz [(0, yp p), (1, xi i), (5, yp c), (6, xi 2), (7, .y (.one (rowC k121 0 l2.length 0 l2.length true))), (67, xb false)] H128 (zL 2 (Jj (H := H128) (g := 48) (vals := [.y (.one (rowC k121 0 l2.length 0 l2.length true)), .y (.one (sv EN false u2 v2 l2))]) (xs0 := [.one (rowC k121 0 l2.length 0 l2.length true), .one (sv EN false u2 v2 l2)]) (xs1 := [.one (sv EN true false true l2), .one (sv EN false u2 v2 l2)]) (res := [.one (vb true)]) (ats := #[]) (ty := 0) (v := xb true) [.tmp 0, .tmp 1] (by kernel_rfl) (by kernel_rfl) (snap_cons (snap_rowO (H := H128) (s := EN) (id := k121) (d := 0) (o := 0) (n := l2.length) (capd := true) (l := l2) (m := l2) (On.at hs129 9 rfl) (by first | rfl | omega | (simp only [ek_]; omega) | (simp; done) | (simp; omega)) (dt0 rfl (Nat.le_refl _))) (snap_cons (by kernel_rfl) (snap_nil))) (same_t true false true false u2 v2 l2 l2 (by first | rfl | omega | (simp only [ek_]; omega) | (simp; done) | (simp; omega)) (by first | rfl | omega | (simp only [ek_]; omega) | (simp; done) | (simp; omega)) (rfl)) (by kernel_rfl))) ?_
 refine wFk ?_
 refine wS ?_
 refine rs0 [(0, yp p), (1, xi i), (5, yp c), (6, xi 2), (7, .y (.one (rowC k121 0 l2.length 0 l2.length true))), (9, xi 0)] ?_
 refine wB ?_
 have hs130 : On [R, pts p (.obj cl), restM cl i.toNat, pts c (.obj [rowC ks 0 S.length 0 S.length false, vi hand, .ptr q0 0, .ptr q1 0, .ptr q2 0]), kP ks S, gP q0 l0, gP q1 l1, itemsP EN ca la, gP q2 l2, itemsP EN (rowC k121 0 l2.length 0 l2.length true) l2] H128 := sH hs129 [9] [0, 1, 2, 3, 4, 5, 6, 7, 8] (fun _ x => items_row (by first | rfl | omega | (simp only [ek_]; omega) | (simp; done) | (simp; omega)) (by first | rfl | omega | (simp only [ek_]; omega) | (simp; done) | (simp; omega)) (fun h => by cases h) (dt0 rfl (Nat.le_refl _)) x)
 refine Wp.loop (T := HH × Int × C × List EN.T) (fun t => match t with | (H132, nz, cz, lz) => (((lz.length : Int) - nz).toNat : Nat)) (fun t => match t with | (H132, nz, cz, lz) => ([(0, yp p), (1, xi i), (5, yp c), (6, xi 2), (7, .y (.one (cz))), (9, xi nz)] : Env)) (fun t => match t with | (H132, nz, cz, lz) => (H132 : HH))
   (fun t => match t with | (H132, nz, cz, lz) => (On [R, pts p (.obj cl), restM cl i.toNat, pts c (.obj [rowC ks 0 S.length 0 S.length false, vi hand, .ptr q0 0, .ptr q1 0, .ptr q2 0]), kP ks S, gP q0 l0, gP q1 l1, gP q2 l2, itemsP EN cz lz] H132 ∧ (0 ≤ nz) ∧ (nz ≤ (lz.length : Int)) ∧ ((lz.length : Int) ≤ 65536) : Prop)) (H128, 0, (rowC k121 0 l2.length 0 l2.length true), l2) (by kernel_rfl) (⟨(On.pick [0, 1, 2, 3, 4, 5, 6, 8, 9] [7] (by kernel_rfl) hs130), by omega, by omega, by omega⟩) ?_
 rintro ⟨H132, nz, cz, lz⟩ ⟨hs133, gz1, gz2, gz3⟩
 show Wp _ _ _ _ [(0, yp p), (1, xi i), (5, yp c), (6, xi 2), (7, .y (.one (cz))), (9, xi nz)] H132 _
 refine wS ?_
 by_cases c134 : (nz : Int) < (lz.length : Int)
 ·
  refine rSz [(0, yp p), (1, xi i), (5, yp c), (6, xi 2), (7, .y (.one (cz))), (9, xi nz), (71, xb true)] H132 (zA 2 (Jn (s := EN) (c := cz) (l := lz) (t := 23) (ty := 0) (e := (lz.length : Int)) hs133 8 rfl (by kernel_rfl) rfl) (zL 3 (qlssT H132 nz (lz.length : Int)))) ?_
  refine wTk ?_
  refine wS (wB ?_)
  obtain ⟨rfl, hl137, hs135⟩ | ⟨k138, d139, L140, o141, cd142, rfl, ho143, hc144, hl145, hs136⟩ := items_open hs133 8 rfl
  ·
   have hl137n : (lz.length : Int) = 0 := by rw [hl137]; rfl
   exfalso; omega
  obtain ⟨x146, hx146⟩ : ∃ x : EN.T, lz[(nz : Int).toNat]? = some x := get_of (by first | rfl | omega | (simp only [ek_]; omega) | (simp; done) | (simp; omega))
  refine rKz [(0, yp p), (1, xi i), (5, yp c), (6, xi 2), (7, .y (.one (rowC k138 d139 L140.length o141 lz.length cd142))), (9, xi nz)] (sto H132 k138 (.row true true d139 (d139 + L140.length) 3 ((L140.set ((((o141 : Int) + nz) : Int).toNat) (((-9), (0, ())), (false, ()))).flatMap (enc EN)))) (zA 4 (Jl (H := H132) (s := EN) (t := 23) (el := 40) (ty := 0) (pu := true) (capd := cd142) (id := k138) (d := d139) (o := o141) (n := lz.length) (j := ((((o141 : Int) + nz) : Int).toNat)) (l := L140) (i := nz) (On.at hs136 8 rfl) Try.underlying23 (by kernel_rfl) (by omega) (by first | rfl | omega | (simp only [ek_]; omega) | (simp; done) | (simp; omega)) (by first | rfl | omega | (simp only [ek_]; omega) | (simp; done) | (simp; omega)) (by first | rfl | omega | (simp only [ek_]; omega) | (simp; done) | (simp; omega))) (zL 5 (Jb1 (H := H132) (s := EN) (t := 40) (ty := 0) (pu := true) (id := k138) (d := d139) (j := ((((o141 : Int) + nz) : Int).toNat)) (o := 0) (l := L140) (x := x146) (x' := (((-9), (0, ())), (false, ()))) (v := .agg [vi (-9), vi 0, vb false]) (On.at hs136 8 rfl) (by kernel_rfl) (of_content (hl145) hx146 (by first | rfl | omega | (simp only [ek_]; omega) | (simp; done) | (simp; omega))) (by kernel_rfl) (by kernel_rfl) (by kernel_rfl) (by kernel_rfl)))) ?_
  have hrl148 : L140.length = (L140.set ((((o141 : Int) + nz) : Int).toNat) (((-9), (0, ())), (false, ()))).length := List.length_set.symm
  refine Eq.mpr (congrArg (fun z : Nat => Wp _ _ _ _ [(0, yp p), (1, xi i), (5, yp c), (6, xi 2), (7, .y (.one (rowC k138 d139 z o141 lz.length cd142))), (9, xi nz)] (sto H132 k138 (.row true true d139 (d139 + z) 3 ((L140.set ((((o141 : Int) + nz) : Int).toNat) (((-9), (0, ())), (false, ()))).flatMap (enc EN)))) _) hrl148) ?_
  refine wG (Eq.mp (congrArg (fun z : Nat => On [R, pts p (.obj cl), restM cl i.toNat, pts c (.obj [rowC ks 0 S.length 0 S.length false, vi hand, .ptr q0 0, .ptr q1 0, .ptr q2 0]), kP ks S, gP q0 l0, gP q1 l1, gP q2 l2, pts k138 (.row true true d139 (d139 + z) 3 ((L140.set ((((o141 : Int) + nz) : Int).toNat) (((-9), (0, ())), (false, ()))).flatMap (enc EN)))] (sto H132 k138 (.row true true d139 (d139 + z) 3 ((L140.set ((((o141 : Int) + nz) : Int).toNat) (((-9), (0, ())), (false, ()))).flatMap (enc EN))))) hrl148) (On.put (.row true true d139 (d139 + L140.length) 3 ((L140.set ((((o141 : Int) + nz) : Int).toNat) (((-9), (0, ())), (false, ()))).flatMap (enc EN))) hs136 8 rfl)) fun H149 hs150 => ?_
  refine wK ?_
  refine rRz [(0, yp p), (1, xi i), (5, yp c), (6, xi 2), (7, .y (.one (rowC k138 d139 (L140.set ((((o141 : Int) + nz) : Int).toNat) (((-9), (0, ())), (false, ()))).length o141 lz.length cd142))), (9, xi (nz + 1))] H149 (zL 1 (qoAdd H149 nz 1 (nz + 1))) ?_
  have hs151 : On [R, pts p (.obj cl), restM cl i.toNat, pts c (.obj [rowC ks 0 S.length 0 S.length false, vi hand, .ptr q0 0, .ptr q1 0, .ptr q2 0]), kP ks S, gP q0 l0, gP q1 l1, gP q2 l2, itemsP EN (rowC k138 d139 (L140.set ((((o141 : Int) + nz) : Int).toNat) (((-9), (0, ())), (false, ()))).length o141 lz.length cd142) (((L140.set ((((o141 : Int) + nz) : Int).toNat) (((-9), (0, ())), (false, ()))).drop o141).take lz.length)] H149 := sH hs150 [8] [0, 1, 2, 3, 4, 5, 6, 7] (fun _ x => items_row (by first | rfl | omega | (simp only [ek_]; omega) | (simp; done) | (simp; omega)) (by first | rfl | omega | (simp only [ek_]; omega) | (simp; done) | (simp; omega)) (fun h => by have := hc144 h; first | rfl | omega | (simp only [ek_]; omega) | (simp; done) | (simp; omega)) (rfl) x)
  exact ⟨(H149, (nz + 1), (rowC k138 d139 (L140.set ((((o141 : Int) + nz) : Int).toNat) (((-9), (0, ())), (false, ()))).length o141 lz.length cd142), (((L140.set ((((o141 : Int) + nz) : Int).toNat) (((-9), (0, ())), (false, ()))).drop o141).take lz.length)), by kernel_rfl, (⟨(On.pick [0, 1, 2, 3, 4, 5, 6, 7, 8] [] (by kernel_rfl) hs151), by omega, by first | rfl | omega | (simp only [ek_]; omega) | (simp; done) | (simp; omega), by first | rfl | omega | (simp only [ek_]; omega) | (simp; done) | (simp; omega)⟩), (by show (_ : Nat) < _; first | omega | (simp only [List.length_set, eh_, ei_]; omega))⟩
 refine rSz [(0, yp p), (1, xi i), (5, yp c), (6, xi 2), (7, .y (.one (cz))), (9, xi nz), (71, xb false)] H132 (zA 2 (Jn (s := EN) (c := cz) (l := lz) (t := 23) (ty := 0) (e := (lz.length : Int)) hs133 8 rfl (by kernel_rfl) rfl) (zL 3 (qlssF H132 nz (lz.length : Int)))) ?_
 refine wFa ?_
 refine wX ?_
 refine Eq.mpr (if_pos rfl) ?_
 refine rs0 [(0, yp p), (1, xi i), (5, yp c), (6, xi 2), (7, .y (.one (cz))), (10, xi 0)] ?_
 refine wB ?_
 refine Wp.loop (T := HH × Int × C × List EN.T) (fun t => match t with | (H153, na, ca, la) => ((70 - na).toNat : Nat)) (fun t => match t with | (H153, na, ca, la) => ([(0, yp p), (1, xi i), (5, yp c), (6, xi 2), (7, .y (.one (ca))), (10, xi na)] : Env)) (fun t => match t with | (H153, na, ca, la) => (H153 : HH))
   (fun t => match t with | (H153, na, ca, la) => (On [R, pts p (.obj cl), restM cl i.toNat, pts c (.obj [rowC ks 0 S.length 0 S.length false, vi hand, .ptr q0 0, .ptr q1 0, .ptr q2 0]), kP ks S, gP q0 l0, gP q1 l1, gP q2 l2, itemsP EN ca la] H153 ∧ (0 ≤ na) ∧ (na ≤ 70) ∧ ((la.length : Int) ≤ 65536 + na) : Prop)) (H132, 0, cz, lz) (by kernel_rfl) (⟨(On.pick [0, 1, 2, 3, 4, 5, 6, 7, 8] [] (by kernel_rfl) hs133), by omega, by omega, by first | rfl | omega | (simp only [ek_]; omega) | (simp; done) | (simp; omega)⟩) ?_
 rintro ⟨H153, na, ca, la⟩ ⟨hs154, ga1, ga2, ga3⟩
 show Wp _ _ _ _ [(0, yp p), (1, xi i), (5, yp c), (6, xi 2), (7, .y (.one (ca))), (10, xi na)] H153 _
 refine wS ?_
 by_cases c155 : (na : Int) < 70
 ·
  refine rSz [(0, yp p), (1, xi i), (5, yp c), (6, xi 2), (7, .y (.one (ca))), (10, xi na), (80, xb true)] H153 (zL 1 (qlssT H153 na 70)) ?_
  refine wTk ?_
  refine wS (wB ?_)
  obtain ⟨cv156, H157, ho158, hs159⟩ := or_append_items (P := pg) (A := an) (s := EN) (t := 23) (u := 23) (el := 40) (by_ := 24) (z := [vi 0, vi 0, vb false]) (ty := 0) (y := .sl false false true [vi (-8), vi 0, vb false] 1) (lm := ([(((-8), (0, ())), (false, ()))])) (m := 1) hs154 8 rfl ((slCells_slO (H := H153) (s := EN) (b := false) (nil := false) (capd := true) (l := [(((-8), (0, ())), (false, ()))]) (n := 1) (by first | rfl | omega | (simp only [ek_]; omega) | (simp; done) | (simp; omega)))) (by kernel_rfl) (by kernel_rfl) (by kernel_rfl) (by kernel_rfl) (by kernel_rfl) (by kernel_rfl) (by kernel_rfl) (by first | rfl | omega | (simp only [ek_]; omega) | (simp; done) | (simp; omega)) (by omega) (by omega)
  have hs159l : ((la ++ ([(((-8), (0, ())), (false, ()))])).length : Int) = ((la.length : Int) + 1) := by { first | omega | (simp only [ej_]; omega) | (simp; done) | (simp; omega) }
  refine rHz [(0, yp p), (1, xi i), (5, yp c), (6, xi 2), (7, .y (.one (cv156))), (10, xi na)] hs159 (zL 4 ho158) fun H160 hs161 => ?_
  refine wK ?_
  refine rRz [(0, yp p), (1, xi i), (5, yp c), (6, xi 2), (7, .y (.one (cv156))), (10, xi (na + 1))] H160 (zL 1 (qoAdd H160 na 1 (na + 1))) ?_
  exact ⟨(H160, (na + 1), cv156, (la ++ ([(((-8), (0, ())), (false, ()))]))), by kernel_rfl, (⟨(On.pick [0, 1, 2, 3, 4, 5, 6, 7, 8] [] (by kernel_rfl) hs161), by omega, by omega, by first | omega | (simp only [ej_, en_, ek_]; omega)⟩), (by show (_ : Nat) < _; simp only []; omega)⟩
 refine rSz [(0, yp p), (1, xi i), (5, yp c), (6, xi 2), (7, .y (.one (ca))), (10, xi na), (80, xb false)] H153 (zL 1 (qlssF H153 na 70)) ?_
 refine wFa ?_
 refine wX ?_
 refine Eq.mpr (if_pos rfl) ?_
 refine rRz [(0, yp p), (1, xi i), (5, yp c), (6, xi 3)] H153 zN ?_
 refine ⟨_, _, rfl, ?_⟩
 refine WpL.step ?_
 refine wS ?_
 refine rs0 [(0, yp p), (1, xi i), (5, yp c), (6, xi 3), (43, xb true)] ?_
 refine wTk ?_
 refine wS (wB ?_)
 have hcall162 : Runs pg an 47 [.one (.ptr c 0), .one (vi 3)] H153 [.one (nilC)] H153 := by
  refine runs_of ?_
  refine rOF Try.func47 rfl ?_
  refine rs0 [(0, yp c), (1, xi 3)] ?_
  refine wS ?_
  have hcall163 : Runs pg an 31 [.one (.ptr c 0)] H153 [.one (vb true)] H153 := by
   refine runs_of ?_
   refine rOF Try.func31 rfl ?_
   refine rs0 [(0, yp c)] ?_
   refine rSz [(2, xb true)] H153 (zA 6 (qL 22 0 (.one (rowC ks 0 S.length 0 S.length false)) (On.at hs154 3 rfl)) (zA 7 (Jc (H := H153) (s := NI) (t := 22) (ty := 0) (pu := true) (capd := false) (id := ks) (d := 0) (o := 0) (n := S.length) (l := S) (e := (S.length : Int)) (On.at hs154 4 rfl) (by kernel_rfl) (by first | rfl | omega | (simp only [ek_]; omega) | (simp; done) | (simp; omega))) (zL 8 (qgtrT H153 (S.length : Int) 0)))) ?_
   refine wE ?_
   exact ⟨Or.inr rfl, [.one (vb true)], (by kernel_rfl), ⟨rfl, rfl⟩⟩
  have hcall164 : Runs pg an 40 [.one (vi 3)] H153 [.one (vb false)] H153 := by
   refine runs_of ?_
   refine rOF Try.func40 rfl ?_
   refine rs0 [(0, xi 3)] ?_
   refine rs0 [(2, xb false)] ?_
   refine wE ?_
   exact ⟨Or.inr rfl, [.one (vb false)], (by kernel_rfl), ⟨rfl, rfl⟩⟩
  refine rSz [(0, yp c), (1, xi 3), (12, xb true)] H153 (zA 1 (qC1 hcall163) (zL 5 (qC1 hcall164))) ?_
  refine wTa ?_
  refine rs0 [(4, .y (.one (nilC)))] ?_
  refine wE ?_
  exact ⟨Or.inr rfl, [.one (nilC)], (by kernel_rfl), ⟨rfl, rfl⟩⟩
 refine rSz [(0, yp p), (1, xi i), (5, yp c), (6, xi 3), (7, .y (.one (nilC)))] H153 (zL 2 (qC2 hcall162)) ?_
 refine rs0 [(0, yp p), (1, xi i), (5, yp c), (6, xi 3), (7, .y (.one (nilC))), (8, .y (.one (nilC)))] ?_
 refine wS ?_
 refine rs0 [(0, yp p), (1, xi i), (5, yp c), (6, xi 3), (7, .y (.one (nilC))), (8, .y (.one (nilC))), (54, xb false)] ?_
 refine wFk ?_
 refine wS ?_
 refine rSz [(0, yp p), (1, xi i), (5, yp c), (6, xi 3), (7, .y (.one (nilC))), (67, xb false)] H153 (zL 2 (qP2 H153 (same_t false true true false true true ([] : List EN.T) ([] : List EN.T) (by first | rfl | omega | (simp only [ek_]; omega) | (simp; done) | (simp; omega)) (by first | rfl | omega | (simp only [ek_]; omega) | (simp; done) | (simp; omega)) (rfl)))) ?_
 refine wFk ?_
 refine wS ?_
 refine rs0 [(0, yp p), (1, xi i), (5, yp c), (6, xi 3), (7, .y (.one (nilC))), (9, xi 0)] ?_
 refine wB ?_
 refine Wp.loopU [(0, yp p), (1, xi i), (5, yp c), (6, xi 3), (7, .y (.one (nilC))), (9, xi 0)] (some ([0, 1, 5, 6, 7, 9], false)) (List.length H153) (by kernel_rfl) ?_
 refine WpL.step ?_
 refine wS ?_
 refine rs0 [(0, yp p), (1, xi i), (5, yp c), (6, xi 3), (7, .y (.one (nilC))), (9, xi 0), (71, xb false)] ?_
 refine wFa ?_
 refine wX ?_
 refine Eq.mpr (if_pos rfl) ?_
 refine rs0 [(0, yp p), (1, xi i), (5, yp c), (6, xi 3), (7, .y (.one (nilC))), (10, xi 0)] ?_
 refine wB ?_
 have hs165 : On [R, pts p (.obj cl), restM cl i.toNat, pts c (.obj [rowC ks 0 S.length 0 S.length false, vi hand, .ptr q0 0, .ptr q1 0, .ptr q2 0]), kP ks S, gP q0 l0, gP q1 l1, gP q2 l2, itemsP EN ca la, itemsP EN (nilC) ([] : List EN.T)] H153 := sH hs154 [] [0, 1, 2, 3, 4, 5, 6, 7, 8] (fun _ _ => by rw [show ([] : List EN.T) = ([] : List EN.T) from rfl]; exact items_nil)
 refine Wp.loop (T := HH × Int × C × List EN.T) (fun t => match t with | (H167, na, ca, la) => ((70 - na).toNat : Nat)) (fun t => match t with | (H167, na, ca, la) => ([(0, yp p), (1, xi i), (5, yp c), (6, xi 3), (7, .y (.one (ca))), (10, xi na)] : Env)) (fun t => match t with | (H167, na, ca, la) => (H167 : HH))
   (fun t => match t with | (H167, na, ca, la) => (On [R, pts p (.obj cl), restM cl i.toNat, pts c (.obj [rowC ks 0 S.length 0 S.length false, vi hand, .ptr q0 0, .ptr q1 0, .ptr q2 0]), kP ks S, gP q0 l0, gP q1 l1, gP q2 l2, itemsP EN ca la] H167 ∧ (0 ≤ na) ∧ (na ≤ 70) ∧ ((la.length : Int) ≤ 65536 + na) : Prop)) (H153, 0, (nilC), ([] : List EN.T)) (by kernel_rfl) (⟨(On.pick [0, 1, 2, 3, 4, 5, 6, 7, 9] [8] (by kernel_rfl) hs165), by omega, by omega, by first | rfl | omega | (simp only [ek_]; omega) | (simp; done) | (simp; omega)⟩) ?_
 rintro ⟨H167, na, ca, la⟩ ⟨hs168, ga1, ga2, ga3⟩
 show Wp _ _ _ _ [(0, yp p), (1, xi i), (5, yp c), (6, xi 3), (7, .y (.one (ca))), (10, xi na)] H167 _
 refine wS ?_
 by_cases c169 : (na : Int) < 70
 ·
  refine rSz [(0, yp p), (1, xi i), (5, yp c), (6, xi 3), (7, .y (.one (ca))), (10, xi na), (80, xb true)] H167 (zL 1 (qlssT H167 na 70)) ?_
  refine wTk ?_
  refine wS (wB ?_)
  obtain ⟨cv170, H171, ho172, hs173⟩ := or_append_items (P := pg) (A := an) (s := EN) (t := 23) (u := 23) (el := 40) (by_ := 24) (z := [vi 0, vi 0, vb false]) (ty := 0) (y := .sl false false true [vi (-8), vi 0, vb false] 1) (lm := ([(((-8), (0, ())), (false, ()))])) (m := 1) hs168 8 rfl ((slCells_slO (H := H167) (s := EN) (b := false) (nil := false) (capd := true) (l := [(((-8), (0, ())), (false, ()))]) (n := 1) (by first | rfl | omega | (simp only [ek_]; omega) | (simp; done) | (simp; omega)))) (by kernel_rfl) (by kernel_rfl) (by kernel_rfl) (by kernel_rfl) (by kernel_rfl) (by kernel_rfl) (by kernel_rfl) (by first | rfl | omega | (simp only [ek_]; omega) | (simp; done) | (simp; omega)) (by omega) (by omega)
  have hs173l : ((la ++ ([(((-8), (0, ())), (false, ()))])).length : Int) = ((la.length : Int) + 1) := by { first | omega | (simp only [ej_]; omega) | (simp; done) | (simp; omega) }
  refine rHz [(0, yp p), (1, xi i), (5, yp c), (6, xi 3), (7, .y (.one (cv170))), (10, xi na)] hs173 (zL 4 ho172) fun H174 hs175 => ?_
  refine wK ?_
  refine rRz [(0, yp p), (1, xi i), (5, yp c), (6, xi 3), (7, .y (.one (cv170))), (10, xi (na + 1))] H174 (zL 1 (qoAdd H174 na 1 (na + 1))) ?_
  exact ⟨(H174, (na + 1), cv170, (la ++ ([(((-8), (0, ())), (false, ()))]))), by kernel_rfl, (⟨(On.pick [0, 1, 2, 3, 4, 5, 6, 7, 8] [] (by kernel_rfl) hs175), by omega, by omega, by first | omega | (simp only [ej_, en_, ek_]; omega)⟩), (by show (_ : Nat) < _; simp only []; omega)⟩
 refine rSz [(0, yp p), (1, xi i), (5, yp c), (6, xi 3), (7, .y (.one (ca))), (10, xi na), (80, xb false)] H167 (zL 1 (qlssF H167 na 70)) ?_
 refine wFa ?_
 refine wX ?_
 refine Eq.mpr (if_pos rfl) ?_
 refine rRz [(0, yp p), (1, xi i), (5, yp c), (6, xi 4)] H167 zN ?_
 refine ⟨_, _, rfl, ?_⟩
 refine WpL.step ?_
 refine wS ?_
 refine rs0 [(0, yp p), (1, xi i), (5, yp c), (6, xi 4), (43, xb false)] ?_
 refine wFa ?_
 refine wX ?_
 refine Eq.mpr (if_pos rfl) ?_
 obtain ⟨_, H177, hr178, ⟨hz176, rfl, hs179⟩ | ⟨hz176, rfl, hs179⟩⟩ := empty_all _ ((hideH [p] H167) : HH) (On.call [3, 4, 5, 6, 7] [0, 1, 2, 8] (by kernel_rfl) (On.hide1 hs168 1 rfl)) (c := c) (ks := ks) (q0 := q0) (q1 := q1) (q2 := q2) (S := S) (hand := hand) (l0 := l0) (l1 := l1) (l2 := l2) (by omega) (by omega) (by first | rfl | omega | (simp only [ek_]; omega) | (simp; done) | (simp; omega)) (by first | rfl | omega | (simp only [ek_]; omega) | (simp; done) | (simp; omega)) (by first | rfl | omega | (simp only [ek_]; omega) | (simp; done) | (simp; omega))
 ·
  have hs180 : On [R, pts p (.map (.fro cl)), restM cl i.toNat, itemsP EN ca la, pts c (.obj [rowC ks 0 S.length 0 S.length false, vi hand, .ptr q0 0, .ptr q1 0, .ptr q2 0]), kP ks S, gP q0 l0, gP q1 l1, gP q2 l2] H177 := On.flat hs179
  have hcall181 : Runs pg an 30 [.one (.ptr c 0)] (hideH [p] (backH [p] H167 H177)) [.one (vi hand)] (hideH [p] (backH [p] H167 H177)) := by
   refine runs_of ?_
   refine rOF Try.func30 rfl ?_
   refine rs0 [(0, yp c)] ?_
   refine wS ?_
   have hcall182 : Runs pg an 31 [.one (.ptr c 0)] (hideH [p] (backH [p] H167 H177)) [.one (vb true)] (hideH [p] (backH [p] H167 H177)) := by
    refine runs_of ?_
    refine rOF Try.func31 rfl ?_
    refine rs0 [(0, yp c)] ?_
    refine rSz [(2, xb true)] (hideH [p] (backH [p] H167 H177)) (zA 6 (qL 22 0 (.one (rowC ks 0 S.length 0 S.length false)) (On.at (On.hide1 (On.back1 hs180 1 rfl (On.at hs168 1 rfl)) 1 rfl) 4 rfl)) (zA 7 (Jc (H := (hideH [p] (backH [p] H167 H177))) (s := NI) (t := 22) (ty := 0) (pu := true) (capd := false) (id := ks) (d := 0) (o := 0) (n := S.length) (l := S) (e := (S.length : Int)) (On.at (On.hide1 (On.back1 hs180 1 rfl (On.at hs168 1 rfl)) 1 rfl) 5 rfl) (by kernel_rfl) (by first | rfl | omega | (simp only [ek_]; omega) | (simp; done) | (simp; omega))) (zL 8 (qgtrT (hideH [p] (backH [p] H167 H177)) (S.length : Int) 0)))) ?_
    refine wE ?_
    exact ⟨Or.inr rfl, [.one (vb true)], (by kernel_rfl), ⟨rfl, rfl⟩⟩
   refine rSz [(0, yp c), (5, xb false)] (hideH [p] (backH [p] H167 H177)) (zL 1 (qC1 hcall182)) ?_
   refine wFk ?_
   refine rSz [(2, xi hand)] (hideH [p] (backH [p] H167 H177)) (zL 3 (qL 3 1 (.one (vi hand)) (On.at (On.hide1 (On.back1 hs180 1 rfl (On.at hs168 1 rfl)) 1 rfl) 4 rfl))) ?_
   refine wE ?_
   exact ⟨Or.inr rfl, [.one (vi hand)], (by kernel_rfl), ⟨rfl, rfl⟩⟩
  refine rSq [(1, xb true, (backH [p] H167 H177)), (6, .y (.one (.ptr p (3 + i.toNat * 5))), (backH [p] H167 H177)), (7, .y (.agg (wC false rc u0 v0 u1 v1 u2 v2 S hand l0 l1 l2)), (backH [p] H167 H177)), (8, xb true, (backH [p] H167 H177)), (12, xi hand, (backH [p] (backH [p] H167 H177) (hideH [p] (backH [p] H167 H177)))), (17, .y (.one (.ptr p (3 + i.toNat * 5))), (backH [p] (backH [p] H167 H177) (hideH [p] (backH [p] H167 H177)))), (19, xi hand, (backH [p] (backH [p] H167 H177) (hideH [p] (backH [p] H167 H177)))), (20, xb true, (backH [p] (backH [p] H167 H177) (hideH [p] (backH [p] H167 H177))))] [(4, xb true)] (backH [p] (backH [p] H167 H177) (hideH [p] (backH [p] H167 H177)))
    (cast (Jai (ob_out (M := [p]) (H := H167) (H' := H177) (H2 := (backH [p] H167 H177)) (mayHide1 (On.at hs168 1 rfl) (slots_in hl On.frag_lt (On.sub_ (cs := [R, pts p (.obj cl), restM cl i.toNat, pts c (.obj [rowC ks 0 S.length 0 S.length false, vi hand, .ptr q0 0, .ptr q1 0, .ptr q2 0]), kP ks S, gP q0 l0, gP q1 l1, gP q2 l2, itemsP EN ca la]) [2, 3, 4, 5, 6, 7] [0, 1, 8] (by kernel_rfl) (fun _ x => slots_core (by omega) (by omega) ha hb hc hck x) hs168))) (Jp hr178 (by kernel_rfl)) rfl) (Jai (ob_ins (H := (backH [p] H167 H177)) (ob_index_sym (P := pg) (A := an) (H := (onlyH [p] (backH [p] H167 H177))) (t := 67) (el := 31) (ty := 0) (p := p) (off := 3) (sz := 5) (n := 3) (i := i) Try.underlying67 (by kernel_rfl) (by omega) (by omega))) (Jai (ob_ins (H := (backH [p] H167 H177)) (ob_load_at (P := pg) (A := an) (H := (onlyH [p] (backH [p] H167 H177))) (t := 31) (ty := 0) (id := p) (base := 3 + i.toNat * 5) (off := 0) (m := 5) (n := 5) (cs := cl) (ws := (wC false rc u0 v0 u1 v1 u2 v2 S hand l0 l1 l2)) (v := .agg (wC false rc u0 v0 u1 v1 u2 v2 S hand l0 l1 l2)) (onlyH_at (M := [p]) (by simp) (On.at (On.back1 hs180 1 rfl (On.at hs168 1 rfl)) 1 rfl)) hb (by omega) (by kernel_rfl) (by kernel_rfl) (by kernel_rfl))) (Jai (Jh (H := (backH [p] H167 H177)) (g := 49) (x := .agg (wC false rc u0 v0 u1 v1 u2 v2 S hand l0 l1 l2)) (res := [.one (vb true)]) (rempty_t false rc u0 v0 u1 v1 u2 v2 S hand l0 l1 l2 (by first | rfl | omega | (simp only [ek_]; omega) | (simp; done) | (simp; omega)) (by first | rfl | omega | (simp only [ek_]; omega) | (simp; done) | (simp; omega)) (by first | rfl | omega | (simp only [ek_]; omega) | (simp; done) | (simp; omega)) (by first | rfl | omega | (simp only [ek_]; omega) | (simp; done) | (simp; omega)) (by first | rfl | omega | (simp only [ek_]; omega) | (simp; done) | (simp; omega)) (by first | rfl | omega | (simp only [ek_]; omega) | (simp; done) | (simp; omega))) (by kernel_rfl) (by kernel_rfl)) (Jai (ob_out (M := [p]) (H := (backH [p] H167 H177)) (H' := (hideH [p] (backH [p] H167 H177))) (H2 := (backH [p] (backH [p] H167 H177) (hideH [p] (backH [p] H167 H177)))) (mayHide1 (On.at (On.back1 hs180 1 rfl (On.at hs168 1 rfl)) 1 rfl) (slots_in hl On.frag_lt (On.sub_ (cs := [R, pts p (.obj cl), restM cl i.toNat, itemsP EN ca la, pts c (.obj [rowC ks 0 S.length 0 S.length false, vi hand, .ptr q0 0, .ptr q1 0, .ptr q2 0]), kP ks S, gP q0 l0, gP q1 l1, gP q2 l2]) [2, 4, 5, 6, 7, 8] [0, 1, 3] (by kernel_rfl) (fun _ x => slots_core (by omega) (by omega) ha hb hc hck x) (On.back1 hs180 1 rfl (On.at hs168 1 rfl))))) (Jp hcall181 (by kernel_rfl)) rfl) (Jai (ob_ins (H := (backH [p] (backH [p] H167 H177) (hideH [p] (backH [p] H167 H177)))) (ob_index_sym (P := pg) (A := an) (H := (onlyH [p] (backH [p] (backH [p] H167 H177) (hideH [p] (backH [p] H167 H177))))) (t := 67) (el := 31) (ty := 0) (p := p) (off := 3) (sz := 5) (n := 3) (i := i) Try.underlying67 (by kernel_rfl) (by omega) (by omega))) (Jai (ob_ins (H := (backH [p] (backH [p] H167 H177) (hideH [p] (backH [p] H167 H177)))) (ob_load_at (P := pg) (A := an) (H := (onlyH [p] (backH [p] (backH [p] H167 H177) (hideH [p] (backH [p] H167 H177))))) (t := 3) (ty := 0) (id := p) (base := 3 + i.toNat * 5) (off := 1) (m := 5) (n := 1) (cs := cl) (ws := (wC false rc u0 v0 u1 v1 u2 v2 S hand l0 l1 l2)) (v := .one (vi hand)) (onlyH_at (M := [p]) (by simp) (On.at (On.back1 (On.hide1 (On.back1 hs180 1 rfl (On.at hs168 1 rfl)) 1 rfl) 1 rfl (On.at (On.back1 hs180 1 rfl (On.at hs168 1 rfl)) 1 rfl)) 1 rfl)) hb (by omega) (by kernel_rfl) (by kernel_rfl) (by kernel_rfl))) (JZ (Ja (vals := [xi hand, xi hand]) (H := (backH [p] (backH [p] H167 H177) (hideH [p] (backH [p] H167 H177)))) (op := .binOp .eql 3 (.tmp 0) (.tmp 1) 3) (ty := 0) (r := xb ((hand : Int) == hand)) (v := xb true) (by kernel_rfl) (congrArg (fun z => xb z) (beq_t (by omega)))))))))))) (by kernel_rfl)) (by kernel_rfl) ?_
  refine wG (On.back1 (On.hide1 (On.back1 hs180 1 rfl (On.at hs168 1 rfl)) 1 rfl) 1 rfl (On.at (On.back1 hs180 1 rfl (On.at hs168 1 rfl)) 1 rfl)) fun H183 hs184 => ?_
  refine wE ?_
  refine ⟨Or.inr rfl, [.one (vb true)], (by kernel_rfl), ?_⟩
  have hs185 : On [R, itemsP EN ca la, allP p] H183 := sH hs184 [1, 2, 4, 5, 6, 7, 8] [0, 3] (fun _ x => all_of hl (star_mono (fun _ y => y) (fun _ y => SL_one (slots_core (by omega) (by omega) ha hb hc hck y)) x))
  exact ⟨rfl, (On.pick [0, 2] [1] (by kernel_rfl) hs185)⟩
 have hs186 : On [R, pts p (.map (.fro cl)), restM cl i.toNat, itemsP EN ca la, pts c (.obj [rowC ks 0 S.length 0 S.length false, vi hand, .ptr q0 0, .ptr q1 0, .ptr q2 0]), kP ks S, gP q0 l0, gP q1 l1, gP q2 l2] H177 := On.flat hs179
 have hcall187 : Runs pg an 30 [.one (.ptr c 0)] (hideH [p] (backH [p] H167 H177)) [.one (vi hand)] (hideH [p] (backH [p] H167 H177)) := by
  refine runs_of ?_
  refine rOF Try.func30 rfl ?_
  refine rs0 [(0, yp c)] ?_
  refine wS ?_
  have hcall188 : Runs pg an 31 [.one (.ptr c 0)] (hideH [p] (backH [p] H167 H177)) [.one (vb true)] (hideH [p] (backH [p] H167 H177)) := by
   refine runs_of ?_
   refine rOF Try.func31 rfl ?_
   refine rs0 [(0, yp c)] ?_
   refine rSz [(2, xb true)] (hideH [p] (backH [p] H167 H177)) (zA 6 (qL 22 0 (.one (rowC ks 0 S.length 0 S.length false)) (On.at (On.hide1 (On.back1 hs186 1 rfl (On.at hs168 1 rfl)) 1 rfl) 4 rfl)) (zA 7 (Jc (H := (hideH [p] (backH [p] H167 H177))) (s := NI) (t := 22) (ty := 0) (pu := true) (capd := false) (id := ks) (d := 0) (o := 0) (n := S.length) (l := S) (e := (S.length : Int)) (On.at (On.hide1 (On.back1 hs186 1 rfl (On.at hs168 1 rfl)) 1 rfl) 5 rfl) (by kernel_rfl) (by first | rfl | omega | (simp only [ek_]; omega) | (simp; done) | (simp; omega))) (zL 8 (qgtrT (hideH [p] (backH [p] H167 H177)) (S.length : Int) 0)))) ?_
   refine wE ?_
   exact ⟨Or.inr rfl, [.one (vb true)], (by kernel_rfl), ⟨rfl, rfl⟩⟩
  refine rSz [(0, yp c), (5, xb false)] (hideH [p] (backH [p] H167 H177)) (zL 1 (qC1 hcall188)) ?_
  refine wFk ?_
  refine rSz [(2, xi hand)] (hideH [p] (backH [p] H167 H177)) (zL 3 (qL 3 1 (.one (vi hand)) (On.at (On.hide1 (On.back1 hs186 1 rfl (On.at hs168 1 rfl)) 1 rfl) 4 rfl))) ?_
  refine wE ?_
  exact ⟨Or.inr rfl, [.one (vi hand)], (by kernel_rfl), ⟨rfl, rfl⟩⟩
 refine rSq [(1, xb false, (backH [p] H167 H177)), (6, .y (.one (.ptr p (3 + i.toNat * 5))), (backH [p] H167 H177)), (7, .y (.agg (wC false rc u0 v0 u1 v1 u2 v2 S hand l0 l1 l2)), (backH [p] H167 H177)), (8, xb false, (backH [p] H167 H177)), (12, xi hand, (backH [p] (backH [p] H167 H177) (hideH [p] (backH [p] H167 H177)))), (17, .y (.one (.ptr p (3 + i.toNat * 5))), (backH [p] (backH [p] H167 H177) (hideH [p] (backH [p] H167 H177)))), (19, xi hand, (backH [p] (backH [p] H167 H177) (hideH [p] (backH [p] H167 H177)))), (20, xb true, (backH [p] (backH [p] H167 H177) (hideH [p] (backH [p] H167 H177))))] [(4, xb true)] (backH [p] (backH [p] H167 H177) (hideH [p] (backH [p] H167 H177)))
   (cast (Jai (ob_out (M := [p]) (H := H167) (H' := H177) (H2 := (backH [p] H167 H177)) (mayHide1 (On.at hs168 1 rfl) (slots_in hl On.frag_lt (On.sub_ (cs := [R, pts p (.obj cl), restM cl i.toNat, pts c (.obj [rowC ks 0 S.length 0 S.length false, vi hand, .ptr q0 0, .ptr q1 0, .ptr q2 0]), kP ks S, gP q0 l0, gP q1 l1, gP q2 l2, itemsP EN ca la]) [2, 3, 4, 5, 6, 7] [0, 1, 8] (by kernel_rfl) (fun _ x => slots_core (by omega) (by omega) ha hb hc hck x) hs168))) (Jp hr178 (by kernel_rfl)) rfl) (Jai (ob_ins (H := (backH [p] H167 H177)) (ob_index_sym (P := pg) (A := an) (H := (onlyH [p] (backH [p] H167 H177))) (t := 67) (el := 31) (ty := 0) (p := p) (off := 3) (sz := 5) (n := 3) (i := i) Try.underlying67 (by kernel_rfl) (by omega) (by omega))) (Jai (ob_ins (H := (backH [p] H167 H177)) (ob_load_at (P := pg) (A := an) (H := (onlyH [p] (backH [p] H167 H177))) (t := 31) (ty := 0) (id := p) (base := 3 + i.toNat * 5) (off := 0) (m := 5) (n := 5) (cs := cl) (ws := (wC false rc u0 v0 u1 v1 u2 v2 S hand l0 l1 l2)) (v := .agg (wC false rc u0 v0 u1 v1 u2 v2 S hand l0 l1 l2)) (onlyH_at (M := [p]) (by simp) (On.at (On.back1 hs186 1 rfl (On.at hs168 1 rfl)) 1 rfl)) hb (by omega) (by kernel_rfl) (by kernel_rfl) (by kernel_rfl))) (Jai (Jh (H := (backH [p] H167 H177)) (g := 49) (x := .agg (wC false rc u0 v0 u1 v1 u2 v2 S hand l0 l1 l2)) (res := [.one (vb false)]) (rempty_f false rc u0 v0 u1 v1 u2 v2 S hand l0 l1 l2 (by first | rfl | omega | (simp only [ek_]; omega) | (simp; done) | (simp; omega)) (by first | rfl | omega | (simp only [ek_]; omega) | (simp; done) | (simp; omega)) (by first | rfl | omega | (simp only [ek_]; omega) | (simp; done) | (simp; omega)) (by first | rfl | omega | (simp only [ek_]; omega) | (simp; done) | (simp; omega))) (by kernel_rfl) (by kernel_rfl)) (Jai (ob_out (M := [p]) (H := (backH [p] H167 H177)) (H' := (hideH [p] (backH [p] H167 H177))) (H2 := (backH [p] (backH [p] H167 H177) (hideH [p] (backH [p] H167 H177)))) (mayHide1 (On.at (On.back1 hs186 1 rfl (On.at hs168 1 rfl)) 1 rfl) (slots_in hl On.frag_lt (On.sub_ (cs := [R, pts p (.obj cl), restM cl i.toNat, itemsP EN ca la, pts c (.obj [rowC ks 0 S.length 0 S.length false, vi hand, .ptr q0 0, .ptr q1 0, .ptr q2 0]), kP ks S, gP q0 l0, gP q1 l1, gP q2 l2]) [2, 4, 5, 6, 7, 8] [0, 1, 3] (by kernel_rfl) (fun _ x => slots_core (by omega) (by omega) ha hb hc hck x) (On.back1 hs186 1 rfl (On.at hs168 1 rfl))))) (Jp hcall187 (by kernel_rfl)) rfl) (Jai (ob_ins (H := (backH [p] (backH [p] H167 H177) (hideH [p] (backH [p] H167 H177)))) (ob_index_sym (P := pg) (A := an) (H := (onlyH [p] (backH [p] (backH [p] H167 H177) (hideH [p] (backH [p] H167 H177))))) (t := 67) (el := 31) (ty := 0) (p := p) (off := 3) (sz := 5) (n := 3) (i := i) Try.underlying67 (by kernel_rfl) (by omega) (by omega))) (Jai (ob_ins (H := (backH [p] (backH [p] H167 H177) (hideH [p] (backH [p] H167 H177)))) (ob_load_at (P := pg) (A := an) (H := (onlyH [p] (backH [p] (backH [p] H167 H177) (hideH [p] (backH [p] H167 H177))))) (t := 3) (ty := 0) (id := p) (base := 3 + i.toNat * 5) (off := 1) (m := 5) (n := 1) (cs := cl) (ws := (wC false rc u0 v0 u1 v1 u2 v2 S hand l0 l1 l2)) (v := .one (vi hand)) (onlyH_at (M := [p]) (by simp) (On.at (On.back1 (On.hide1 (On.back1 hs186 1 rfl (On.at hs168 1 rfl)) 1 rfl) 1 rfl (On.at (On.back1 hs186 1 rfl (On.at hs168 1 rfl)) 1 rfl)) 1 rfl)) hb (by omega) (by kernel_rfl) (by kernel_rfl) (by kernel_rfl))) (JZ (Ja (vals := [xi hand, xi hand]) (H := (backH [p] (backH [p] H167 H177) (hideH [p] (backH [p] H167 H177)))) (op := .binOp .eql 3 (.tmp 0) (.tmp 1) 3) (ty := 0) (r := xb ((hand : Int) == hand)) (v := xb true) (by kernel_rfl) (congrArg (fun z => xb z) (beq_t (by omega)))))))))))) (by kernel_rfl)) (by kernel_rfl) ?_
 refine wG (On.back1 (On.hide1 (On.back1 hs186 1 rfl (On.at hs168 1 rfl)) 1 rfl) 1 rfl (On.at (On.back1 hs186 1 rfl (On.at hs168 1 rfl)) 1 rfl)) fun H189 hs190 => ?_
 refine wE ?_
 refine ⟨Or.inr rfl, [.one (vb true)], (by kernel_rfl), ?_⟩
 have hs191 : On [R, itemsP EN ca la, allP p] H189 := sH hs190 [1, 2, 4, 5, 6, 7, 8] [0, 3] (fun _ x => all_of hl (star_mono (fun _ y => y) (fun _ y => SL_one (slots_core (by omega) (by omega) ha hb hc hck y)) x))
 exact ⟨rfl, (On.pick [0, 2] [1] (by kernel_rfl) hs191)⟩
end Go.Proofs.Ytjdnhbnpdbpgbaa
