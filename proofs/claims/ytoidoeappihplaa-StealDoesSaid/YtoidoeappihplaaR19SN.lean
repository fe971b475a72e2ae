/- Lemmas. -/
import Derived.Test.YtoidoeappihplaaR19SM
namespace Go.Proofs.Ytoidoeappihplaa
open Go.Lg
set_option linter.unusedVariables false
set_option maxRecDepth 100000
set_option maxHeartbeats 8000000
set_option linter.unusedSimpArgs false
theorem do_all (R : HP) (H : HH) (c ks q0 q1 q2 : Nat) (S : List Int) (hand : Int) (t0 t1 t2 : List EN.T) (d kv w0 w1 w2 : Nat) (S2 : List Int) (hand2 : Int) (v0 v1 v2 : List EN.T) (r0 r1 r2 : Int) (hs : On [R, pts c (.obj [rff ks S, vi hand, .ptr q0 0, .ptr q1 0, .ptr q2 0]), pts ks (rowO NI true 0 S), ringP EN q0 64 t0, ringP EN q1 64 t1, ringP EN q2 64 t2, pts d (.obj [rff kv S2, vi hand2, .ptr w0 0, .ptr w1 0, .ptr w2 0]), pts kv (rowO NI true 0 S2), ringP EN w0 64 v0, ringP EN w1 64 v1, ringP EN w2 64 v2] H) (hS : 3 ≤ (S.length : Int)) (hT : (S.length : Int) ≤ 64) (hS2 : 3 ≤ (S2.length : Int)) (hT2 : (S2.length : Int) ≤ 64) (bt0 : (t0.length : Int) ≤ 64) (bt1 : (t1.length : Int) ≤ 64) (bt2 : (t2.length : Int) ≤ 64) (bv0 : (v0.length : Int) ≤ 64) (bv1 : (v1.length : Int) ≤ 64) (bv2 : (v2.length : Int) ≤ 64) (hvok : LoadOk v0 v1 v2) : ∃ rs H', Runs pg an 15 [.one (.ptr c 0), .one (.ptr d 0), .agg [vi r0, vi r1, vi r2]] H rs H' ∧ (((r0 < 0 ∨ r1 < 0 ∨ r2 < 0) ∧ rs = [.one (vi 0), .one (nilC), .one (vi 1)] ∧ On [R, pts c (.obj [rff ks S, vi hand, .ptr q0 0, .ptr q1 0, .ptr q2 0]), pts ks (rowO NI true 0 S), ringP EN q0 64 t0, ringP EN q1 64 t1, ringP EN q2 64 t2, pts d (.obj [rff kv S2, vi hand2, .ptr w0 0, .ptr w1 0, .ptr w2 0]), pts kv (rowO NI true 0 S2), ringP EN w0 64 v0, ringP EN w1 64 v1, ringP EN w2 64 v2] H') ∨ ((0 ≤ r0 ∧ 0 ≤ r1 ∧ 0 ≤ r2) ∧ 0 < (t0.length : Int) + t1.length + t2.length ∧ rs = [.one (vi 0), .one (nilC), .one (vi 2)] ∧ On [R, pts c (.obj [rff ks S, vi hand, .ptr q0 0, .ptr q1 0, .ptr q2 0]), pts ks (rowO NI true 0 S), ringP EN q0 64 t0, ringP EN q1 64 t1, ringP EN q2 64 t2, pts d (.obj [rff kv S2, vi hand2, .ptr w0 0, .ptr w1 0, .ptr w2 0]), pts kv (rowO NI true 0 S2), ringP EN w0 64 v0, ringP EN w1 64 v1, ringP EN w2 64 v2] H') ∨ ((0 ≤ r0 ∧ 0 ≤ r1 ∧ 0 ≤ r2) ∧ (t0.length = 0 ∧ t1.length = 0 ∧ t2.length = 0) ∧ plan (half v0) (half v1) (half v2) r0 r1 r2 = (0, 0, 3) ∧ rs = [.one (vi 0), .one (nilC), .one (vi 3)] ∧ On [R, pts c (.obj [rff ks S, vi hand, .ptr q0 0, .ptr q1 0, .ptr q2 0]), pts ks (rowO NI true 0 S), ringP EN q0 64 t0, ringP EN q1 64 t1, ringP EN q2 64 t2, pts d (.obj [rff kv S2, vi hand2, .ptr w0 0, .ptr w1 0, .ptr w2 0]), pts kv (rowO NI true 0 S2), ringP EN w0 64 v0, ringP EN w1 64 v1, ringP EN w2 64 v2] H') ∨ ((0 ≤ r0 ∧ 0 ≤ r1 ∧ 0 ≤ r2) ∧ (t0.length = 0 ∧ t1.length = 0 ∧ t2.length = 0) ∧ ∃ n k', 0 < n ∧ n ≤ half v0 ∧ n ≤ r0 ∧ n ≤ (v0.length : Int) ∧ plan (half v0) (half v1) (half v2) r0 r1 r2 = (0, n, 0) ∧ rs = [.one (vi 0), .one (rowC k' 0 (t0 ++ pin (v0.drop ((v0.length : Int) - n).toNat)).length 0 (t0 ++ pin (v0.drop ((v0.length : Int) - n).toNat)).length true), .one (vi 0)] ∧ On [R, pts c (.obj [rff ks S, vi hand, .ptr q0 0, .ptr q1 0, .ptr q2 0]), pts ks (rowO NI true 0 S), ringP EN q0 64 (t0 ++ pin (v0.drop ((v0.length : Int) - n).toNat)), ringP EN q1 64 t1, ringP EN q2 64 t2, pts d (.obj [rff kv S2, vi hand2, .ptr w0 0, .ptr w1 0, .ptr w2 0]), pts kv (rowO NI true 0 S2), ringP EN w0 64 (v0.take ((v0.length : Int) - n).toNat), ringP EN w1 64 v1, ringP EN w2 64 v2, pts k' (rowO EN true 0 (t0 ++ pin (v0.drop ((v0.length : Int) - n).toNat)))] H') ∨ ((0 ≤ r0 ∧ 0 ≤ r1 ∧ 0 ≤ r2) ∧ (t0.length = 0 ∧ t1.length = 0 ∧ t2.length = 0) ∧ ∃ n k', 0 < n ∧ n ≤ half v1 ∧ n ≤ r1 ∧ n ≤ (v1.length : Int) ∧ plan (half v0) (half v1) (half v2) r0 r1 r2 = (1, n, 0) ∧ rs = [.one (vi 1), .one (rowC k' 0 (t1 ++ pin (v1.drop ((v1.length : Int) - n).toNat)).length 0 (t1 ++ pin (v1.drop ((v1.length : Int) - n).toNat)).length true), .one (vi 0)] ∧ On [R, pts c (.obj [rff ks S, vi hand, .ptr q0 0, .ptr q1 0, .ptr q2 0]), pts ks (rowO NI true 0 S), ringP EN q0 64 t0, ringP EN q1 64 (t1 ++ pin (v1.drop ((v1.length : Int) - n).toNat)), ringP EN q2 64 t2, pts d (.obj [rff kv S2, vi hand2, .ptr w0 0, .ptr w1 0, .ptr w2 0]), pts kv (rowO NI true 0 S2), ringP EN w0 64 v0, ringP EN w1 64 (v1.take ((v1.length : Int) - n).toNat), ringP EN w2 64 v2, pts k' (rowO EN true 0 (t1 ++ pin (v1.drop ((v1.length : Int) - n).toNat)))] H') ∨ ((0 ≤ r0 ∧ 0 ≤ r1 ∧ 0 ≤ r2) ∧ (t0.length = 0 ∧ t1.length = 0 ∧ t2.length = 0) ∧ ∃ n k', 0 < n ∧ n ≤ half v2 ∧ n ≤ r2 ∧ n ≤ (v2.length : Int) ∧ plan (half v0) (half v1) (half v2) r0 r1 r2 = (2, n, 0) ∧ rs = [.one (vi 2), .one (rowC k' 0 (t2 ++ pin (v2.drop ((v2.length : Int) - n).toNat)).length 0 (t2 ++ pin (v2.drop ((v2.length : Int) - n).toNat)).length true), .one (vi 0)] ∧ On [R, pts c (.obj [rff ks S, vi hand, .ptr q0 0, .ptr q1 0, .ptr q2 0]), pts ks (rowO NI true 0 S), ringP EN q0 64 t0, ringP EN q1 64 t1, ringP EN q2 64 (t2 ++ pin (v2.drop ((v2.length : Int) - n).toNat)), pts d (.obj [rff kv S2, vi hand2, .ptr w0 0, .ptr w1 0, .ptr w2 0]), pts kv (rowO NI true 0 S2), ringP EN w0 64 v0, ringP EN w1 64 v1, ringP EN w2 64 (v2.take ((v2.length : Int) - n).toNat), pts k' (rowO EN true 0 (t2 ++ pin (v2.drop ((v2.length : Int) - n).toNat)))] H')) := by
 refine Runs.of (fn := Try.f15) Try.func15 rfl (by kernel_rfl) [(0, yp c), (1, yp d), (2, .y (.agg [vi r0, vi r1, vi r2]))] (by kernel_rfl) ?_
 obtain ⟨n1, hn1⟩ : ∃ n, n = List.length (H : HH) := ⟨_, rfl⟩
 refine rSq [(0, yp n1, (H ++ [.obj [vi r0, vi r1, vi r2]]))] [(0, yp c), (1, yp d), (5, yp n1)] (H ++ [.obj [vi r0, vi r1, vi r2]])
   (cast (JZ (Ji (H := H) (t := 24) (ty := 0) (n := n1) (v := .agg [vi r0, vi r1, vi r2]) (cs := [vi r0, vi r1, vi r2]) hn1 (by kernel_rfl) (by kernel_rfl) (by kernel_rfl))) (by kernel_rfl)) (by kernel_rfl) ?_
 refine wG (On.new' hn1 (.obj [vi r0, vi r1, vi r2]) hs) ?_
 intro H2 hs3
 refine wS ?_
 obtain ⟨_, H5, hr6, c4, rfl, hs7⟩ := copyc_ok _ (H2 : HH) (On.call [1, 2, 3, 4, 5] [0, 6, 7, 8, 9, 10, 11] (by kernel_rfl) hs3) (c := c) (ks := ks) (q0 := q0) (q1 := q1) (q2 := q2) (S := S) (hand := hand) (l0 := t0) (l1 := t1) (l2 := t2) (by omega) (by omega) (by first | rfl | omega | simp <;> omega) (by first | rfl | omega | simp <;> omega) (by first | rfl | omega | simp <;> omega)
 have hs7 : On [R, pts d (.obj [rff kv S2, vi hand2, .ptr w0 0, .ptr w1 0, .ptr w2 0]), pts kv (rowO NI true 0 S2), ringP EN w0 64 v0, ringP EN w1 64 v1, ringP EN w2 64 v2, pts n1 (.obj [vi r0, vi r1, vi r2]), pts c (.obj [rff ks S, vi hand, .ptr q0 0, .ptr q1 0, .ptr q2 0]), pts ks (rowO NI true 0 S), ringP EN q0 64 t0, ringP EN q1 64 t1, ringP EN q2 64 t2] H5 := On.flat hs7
 obtain ⟨_, H9, hr10, c8, rfl, hs11⟩ := copyc_ok _ (H5 : HH) (On.call [1, 2, 3, 4, 5] [0, 6, 7, 8, 9, 10, 11] (by kernel_rfl) hs7) (c := d) (ks := kv) (q0 := w0) (q1 := w1) (q2 := w2) (S := S2) (hand := hand2) (l0 := v0) (l1 := v1) (l2 := v2) (by omega) (by omega) (by first | rfl | omega | simp <;> omega) (by first | rfl | omega | simp <;> omega) (by first | rfl | omega | simp <;> omega)
 have hs11 : On [R, pts n1 (.obj [vi r0, vi r1, vi r2]), pts c (.obj [rff ks S, vi hand, .ptr q0 0, .ptr q1 0, .ptr q2 0]), pts ks (rowO NI true 0 S), ringP EN q0 64 t0, ringP EN q1 64 t1, ringP EN q2 64 t2, pts d (.obj [rff kv S2, vi hand2, .ptr w0 0, .ptr w1 0, .ptr w2 0]), pts kv (rowO NI true 0 S2), ringP EN w0 64 v0, ringP EN w1 64 v1, ringP EN w2 64 v2] H9 := On.flat hs11
 refine rSq [(1, yp c4, H5), (5, yp c8, H9), (11, xb false, H9)] [(0, yp c), (1, yp d), (5, yp n1), (26, xb false)] H9
   (cast (Jai (Jb hr6 (by kernel_rfl)) (Jai (Jb hr10 (by kernel_rfl)) (JZ (ob_ptr_ne (P := pg) (A := an) (H := H9) (t := 39) (u := 39) (ty := 0) (a := c) (b := d) Try.underlying39 (by kernel_rfl) (On.ne hs11 2 6 rfl rfl))))) (by kernel_rfl)) (by kernel_rfl) ?_
 refine wG hs11 ?_
 intro H12 hs13
 refine wFk ?_
 refine wS ?_
 refine rSq [(0, .y (.agg [vi r0, vi r1, vi r2]), H12)] [(0, yp c), (1, yp d), (5, yp n1), (27, .y (.agg [vi r0, vi r1, vi r2])), (28, xi 0)] H12
   (cast (JZ (Ja (t := 24) (off := 0) (v := .agg [vi r0, vi r1, vi r2]) (On.at hs13 1 rfl) (by kernel_rfl))) (by kernel_rfl)) (by kernel_rfl) ?_
 refine wB ?_
 refine Wp.loopU [(0, yp c), (1, yp d), (5, yp n1), (27, .y (.agg [vi r0, vi r1, vi r2])), (28, xi 0)] (some ([0, 1, 5, 27, 28], false)) (List.length H12) (by kernel_rfl) ?_
 refine WpL.step ?_
 refine rS0 [(0, yp c), (1, yp d), (5, yp n1), (27, .y (.agg [vi r0, vi r1, vi r2])), (28, xi 0), (29, xb true)] (by kernel_rfl) ?_
 refine wS (wTk ?_)
 refine wS (wB ?_)
 refine rS0 [(0, yp c), (1, yp d), (5, yp n1), (10, xi r0), (27, .y (.agg [vi r0, vi r1, vi r2])), (28, xi 0)] (by kernel_rfl) ?_
 by_cases c14 : (r0 : Int) < 0
 ·
  refine rSq [(1, xb true, H12)] [(0, yp c), (1, yp d), (5, yp n1), (27, .y (.agg [vi r0, vi r1, vi r2])), (28, xi 0), (32, xb true)] H12
    (cast (JZ (Jh (H := H12) (t := 3) (u := 3) (a := r0) (b := 0) (by omega))) (by kernel_rfl)) (by kernel_rfl) ?_
  refine wTa ?_
  refine rS0 [(6, xi 0), (7, .y (.one (nilC))), (8, xi 1)] (by kernel_rfl) ?_
  refine wE ?_
  refine ⟨Or.inr rfl, [.one (vi 0), .one (nilC), .one (vi 1)], (by kernel_rfl), ?_⟩
  exact .inl ⟨by omega, rfl, (On.pick [0, 2, 3, 4, 5, 6, 7, 8, 9, 10, 11] [1] (by kernel_rfl) hs13)⟩
 ·
  refine rSq [(1, xb false, H12)] [(0, yp c), (1, yp d), (5, yp n1), (27, .y (.agg [vi r0, vi r1, vi r2])), (28, xi 0), (32, xb false)] H12
    (cast (JZ (Je (H := H12) (t := 3) (u := 3) (a := r0) (b := 0) (by omega))) (by kernel_rfl)) (by kernel_rfl) ?_
  refine wFk ?_
  refine wR [] [(0, yp c), (1, yp d), (5, yp n1), (27, .y (.agg [vi r0, vi r1, vi r2])), (28, xi 1)] H12
    (cast trivial (by kernel_rfl)) (by kernel_rfl) ?_
  refine ⟨_, _, rfl, ?_⟩
  refine WpL.step ?_
  refine rS0 [(0, yp c), (1, yp d), (5, yp n1), (27, .y (.agg [vi r0, vi r1, vi r2])), (28, xi 1), (29, xb true)] (by kernel_rfl) ?_
  refine wS (wTk ?_)
  refine wS (wB ?_)
  refine rS0 [(0, yp c), (1, yp d), (5, yp n1), (10, xi r1), (27, .y (.agg [vi r0, vi r1, vi r2])), (28, xi 1)] (by kernel_rfl) ?_
  by_cases c15 : (r1 : Int) < 0
  ·
   refine rSq [(1, xb true, H12)] [(0, yp c), (1, yp d), (5, yp n1), (27, .y (.agg [vi r0, vi r1, vi r2])), (28, xi 1), (32, xb true)] H12
     (cast (JZ (Jh (H := H12) (t := 3) (u := 3) (a := r1) (b := 0) (by omega))) (by kernel_rfl)) (by kernel_rfl) ?_
   refine wTa ?_
   refine rS0 [(6, xi 0), (7, .y (.one (nilC))), (8, xi 1)] (by kernel_rfl) ?_
   refine wE ?_
   refine ⟨Or.inr rfl, [.one (vi 0), .one (nilC), .one (vi 1)], (by kernel_rfl), ?_⟩
   exact .inl ⟨by omega, rfl, (On.pick [0, 2, 3, 4, 5, 6, 7, 8, 9, 10, 11] [1] (by kernel_rfl) hs13)⟩
  ·
   refine rSq [(1, xb false, H12)] [(0, yp c), (1, yp d), (5, yp n1), (27, .y (.agg [vi r0, vi r1, vi r2])), (28, xi 1), (32, xb false)] H12
     (cast (JZ (Je (H := H12) (t := 3) (u := 3) (a := r1) (b := 0) (by omega))) (by kernel_rfl)) (by kernel_rfl) ?_
   refine wFk ?_
   refine wR [] [(0, yp c), (1, yp d), (5, yp n1), (27, .y (.agg [vi r0, vi r1, vi r2])), (28, xi 2)] H12
     (cast trivial (by kernel_rfl)) (by kernel_rfl) ?_
   refine ⟨_, _, rfl, ?_⟩
   refine WpL.step ?_
   refine rS0 [(0, yp c), (1, yp d), (5, yp n1), (27, .y (.agg [vi r0, vi r1, vi r2])), (28, xi 2), (29, xb true)] (by kernel_rfl) ?_
   refine wS (wTk ?_)
   refine wS (wB ?_)
   refine rS0 [(0, yp c), (1, yp d), (5, yp n1), (10, xi r2), (27, .y (.agg [vi r0, vi r1, vi r2])), (28, xi 2)] (by kernel_rfl) ?_
   by_cases c16 : (r2 : Int) < 0
   ·
    refine rSq [(1, xb true, H12)] [(0, yp c), (1, yp d), (5, yp n1), (27, .y (.agg [vi r0, vi r1, vi r2])), (28, xi 2), (32, xb true)] H12
      (cast (JZ (Jh (H := H12) (t := 3) (u := 3) (a := r2) (b := 0) (by omega))) (by kernel_rfl)) (by kernel_rfl) ?_
    refine wTa ?_
    refine rS0 [(6, xi 0), (7, .y (.one (nilC))), (8, xi 1)] (by kernel_rfl) ?_
    refine wE ?_
    refine ⟨Or.inr rfl, [.one (vi 0), .one (nilC), .one (vi 1)], (by kernel_rfl), ?_⟩
    exact .inl ⟨by omega, rfl, (On.pick [0, 2, 3, 4, 5, 6, 7, 8, 9, 10, 11] [1] (by kernel_rfl) hs13)⟩
   ·
    refine rSq [(1, xb false, H12)] [(0, yp c), (1, yp d), (5, yp n1), (27, .y (.agg [vi r0, vi r1, vi r2])), (28, xi 2), (32, xb false)] H12
      (cast (JZ (Je (H := H12) (t := 3) (u := 3) (a := r2) (b := 0) (by omega))) (by kernel_rfl)) (by kernel_rfl) ?_
    refine wFk ?_
    refine wR [] [(0, yp c), (1, yp d), (5, yp n1), (27, .y (.agg [vi r0, vi r1, vi r2])), (28, xi 3)] H12
      (cast trivial (by kernel_rfl)) (by kernel_rfl) ?_
    refine ⟨_, _, rfl, ?_⟩
    refine WpL.step ?_
    refine rS0 [(0, yp c), (1, yp d), (5, yp n1), (27, .y (.agg [vi r0, vi r1, vi r2])), (28, xi 3), (29, xb false)] (by kernel_rfl) ?_
    refine wS ?_
    refine wFa ?_
    refine wX ?_
    refine Eq.mpr (if_pos rfl) ?_
    refine wS ?_
    obtain ⟨_, H19, hr20, rfl, hs21⟩ := len_ok _ (H12 : HH) (On.call [4] [0, 1, 2, 3, 5, 6, 7, 8, 9, 10, 11] (by kernel_rfl) hs13) (q := q0) (room := 64) (l := t0)
    have hs21 : On [R, pts n1 (.obj [vi r0, vi r1, vi r2]), pts c (.obj [rff ks S, vi hand, .ptr q0 0, .ptr q1 0, .ptr q2 0]), pts ks (rowO NI true 0 S), ringP EN q1 64 t1, ringP EN q2 64 t2, pts d (.obj [rff kv S2, vi hand2, .ptr w0 0, .ptr w1 0, .ptr w2 0]), pts kv (rowO NI true 0 S2), ringP EN w0 64 v0, ringP EN w1 64 v1, ringP EN w2 64 v2, ringP EN q0 64 t0] H19 := On.flat hs21
    by_cases c24 : (0 : Int) < (t0.length : Int)
    ·
     have hcall25 : Runs pg an 26 [.one (.ptr c 0)] H12 [.one (vb false)] H19 := by
      refine runs_of ?_
      refine Runs.of (fn := Try.f26) Try.func26 rfl (by kernel_rfl) [(0, yp c)] (by kernel_rfl) ?_
      refine rS0 [(0, yp c)] (by kernel_rfl) ?_
      refine wS ?_
      refine rS0 [(0, yp c), (4, xi 0)] (by kernel_rfl) ?_
      refine wB ?_
      refine Wp.loopU [(0, yp c), (4, xi 0)] (some ([0, 4], false)) (List.length H12) (by kernel_rfl) ?_
      refine WpL.step ?_
      refine rS0 [(0, yp c), (4, xi 0), (5, xb true)] (by kernel_rfl) ?_
      refine wS (wTk ?_)
      refine wS (wB ?_)
      refine rS0 [(0, yp c), (3, xi 0), (4, xi 0)] (by kernel_rfl) ?_
      have hcall26 : Runs pg an 33 [.one (.ptr c 0)] H12 [.one (vb true)] H12 := by
       refine runs_of ?_
       refine Runs.of (fn := Try.f33) Try.func33 rfl (by kernel_rfl) [(0, yp c)] (by kernel_rfl) ?_
       refine rS0 [(0, yp c)] (by kernel_rfl) ?_
       refine rSq [(6, .y (.one (rff ks S)), H12), (7, xi (S.length : Int), H12), (8, xb true, H12)] [(2, xb true)] H12
         (cast (Jai (Ja (t := 36) (off := 0) (v := .one (rff ks S)) (On.at hs13 2 rfl) (by kernel_rfl)) (Jai (Jm (H := H12) (s := NI) (t := 36) (ty := 0) (pu := true) (capd := false) (id := ks) (d := 0) (o := 0) (n := S.length) (l := S) (e := (S.length : Int)) (On.at hs13 3 rfl) (by kernel_rfl) (by first | rfl | omega | simp <;> omega)) (JZ (Jd (H := H12) (t := 3) (u := 3) (a := (S.length : Int)) (b := 0) (by omega))))) (by kernel_rfl)) (by kernel_rfl) ?_
       refine wE ?_
       exact ⟨Or.inr rfl, [.one (vb true)], (by kernel_rfl), ⟨rfl, rfl⟩⟩
      refine rSq [(1, xb true, H12), (9, yp q0, H12), (10, xi (t0.length : Int), H19), (11, xb true, H19)] [(0, yp c), (4, xi 0), (19, xb true)] H19
        (cast (Jai (Jb hcall26 (by kernel_rfl)) (Jai (Ja (t := 50) (off := 2) (v := .one (.ptr q0 0)) (On.at hs13 2 rfl) (by kernel_rfl)) (Jai (Jb hr20 (by kernel_rfl)) (JZ (Jd (H := H19) (t := 3) (u := 3) (a := (t0.length : Int)) (b := 0) (by omega)))))) (by kernel_rfl)) (by kernel_rfl) ?_
      refine wTa ?_
      refine rS0 [(2, xb false)] (by kernel_rfl) ?_
      refine wE ?_
      exact ⟨Or.inr rfl, [.one (vb false)], (by kernel_rfl), ⟨rfl, rfl⟩⟩
     refine rSq [(1, xb false, H19)] [(0, yp c), (1, yp d), (5, yp n1), (36, xb true)] H19
       (cast (JZ (Jb hcall25 (by kernel_rfl))) (by kernel_rfl)) (by kernel_rfl) ?_
     refine wG hs21 ?_
     intro H27 hs28
     refine wTa ?_
     refine rS0 [(6, xi 0), (7, .y (.one (nilC))), (8, xi 2)] (by kernel_rfl) ?_
     refine wE ?_
     refine ⟨Or.inr rfl, [.one (vi 0), .one (nilC), .one (vi 2)], (by kernel_rfl), ?_⟩
     exact .inr (.inl ⟨⟨by omega, by omega, by omega⟩, by omega, rfl, (On.pick [0, 2, 3, 11, 4, 5, 6, 7, 8, 9, 10] [1] (by kernel_rfl) hs28)⟩)
    ·
     obtain ⟨_, H32, hr33, rfl, hs34⟩ := len_ok _ (H19 : HH) (On.call [4] [0, 1, 2, 3, 5, 6, 7, 8, 9, 10, 11] (by kernel_rfl) hs21) (q := q1) (room := 64) (l := t1)
     have hs34 : On [R, pts n1 (.obj [vi r0, vi r1, vi r2]), pts c (.obj [rff ks S, vi hand, .ptr q0 0, .ptr q1 0, .ptr q2 0]), pts ks (rowO NI true 0 S), ringP EN q2 64 t2, pts d (.obj [rff kv S2, vi hand2, .ptr w0 0, .ptr w1 0, .ptr w2 0]), pts kv (rowO NI true 0 S2), ringP EN w0 64 v0, ringP EN w1 64 v1, ringP EN w2 64 v2, ringP EN q0 64 t0, ringP EN q1 64 t1] H32 := On.flat hs34
     by_cases c38 : (0 : Int) < (t1.length : Int)
     ·
      have hcall39 : Runs pg an 26 [.one (.ptr c 0)] H12 [.one (vb false)] H32 := by
       refine runs_of ?_
       refine Runs.of (fn := Try.f26) Try.func26 rfl (by kernel_rfl) [(0, yp c)] (by kernel_rfl) ?_
       refine rS0 [(0, yp c)] (by kernel_rfl) ?_
       refine wS ?_
       refine rS0 [(0, yp c), (4, xi 0)] (by kernel_rfl) ?_
       refine wB ?_
       refine Wp.loopU [(0, yp c), (4, xi 0)] (some ([0, 4], false)) (List.length H12) (by kernel_rfl) ?_
       refine WpL.step ?_
       refine rS0 [(0, yp c), (4, xi 0), (5, xb true)] (by kernel_rfl) ?_
       refine wS (wTk ?_)
       refine wS (wB ?_)
       refine rS0 [(0, yp c), (3, xi 0), (4, xi 0)] (by kernel_rfl) ?_
       have hcall40 : Runs pg an 33 [.one (.ptr c 0)] H12 [.one (vb true)] H12 := by
        refine runs_of ?_
        refine Runs.of (fn := Try.f33) Try.func33 rfl (by kernel_rfl) [(0, yp c)] (by kernel_rfl) ?_
        refine rS0 [(0, yp c)] (by kernel_rfl) ?_
        refine rSq [(6, .y (.one (rff ks S)), H12), (7, xi (S.length : Int), H12), (8, xb true, H12)] [(2, xb true)] H12
          (cast (Jai (Ja (t := 36) (off := 0) (v := .one (rff ks S)) (On.at hs13 2 rfl) (by kernel_rfl)) (Jai (Jm (H := H12) (s := NI) (t := 36) (ty := 0) (pu := true) (capd := false) (id := ks) (d := 0) (o := 0) (n := S.length) (l := S) (e := (S.length : Int)) (On.at hs13 3 rfl) (by kernel_rfl) (by first | rfl | omega | simp <;> omega)) (JZ (Jd (H := H12) (t := 3) (u := 3) (a := (S.length : Int)) (b := 0) (by omega))))) (by kernel_rfl)) (by kernel_rfl) ?_
        refine wE ?_
        exact ⟨Or.inr rfl, [.one (vb true)], (by kernel_rfl), ⟨rfl, rfl⟩⟩
       refine rSq [(1, xb true, H12), (9, yp q0, H12), (10, xi (t0.length : Int), H19), (11, xb false, H19)] [(0, yp c), (4, xi 0), (19, xb false)] H19
         (cast (Jai (Jb hcall40 (by kernel_rfl)) (Jai (Ja (t := 50) (off := 2) (v := .one (.ptr q0 0)) (On.at hs13 2 rfl) (by kernel_rfl)) (Jai (Jb hr20 (by kernel_rfl)) (JZ (Jk (H := H19) (t := 3) (u := 3) (a := (t0.length : Int)) (b := 0) (by omega)))))) (by kernel_rfl)) (by kernel_rfl) ?_
       refine wFk ?_
       refine wR [] [(0, yp c), (4, xi 1)] H19
         (cast trivial (by kernel_rfl)) (by kernel_rfl) ?_
       refine ⟨_, _, rfl, ?_⟩
       refine WpL.step ?_
       refine rS0 [(0, yp c), (4, xi 1), (5, xb true)] (by kernel_rfl) ?_
       refine wS (wTk ?_)
       refine wS (wB ?_)
       refine rS0 [(0, yp c), (3, xi 1), (4, xi 1)] (by kernel_rfl) ?_
       have hcall41 : Runs pg an 33 [.one (.ptr c 0)] H19 [.one (vb true)] H19 := by
        refine runs_of ?_
        refine Runs.of (fn := Try.f33) Try.func33 rfl (by kernel_rfl) [(0, yp c)] (by kernel_rfl) ?_
        refine rS0 [(0, yp c)] (by kernel_rfl) ?_
        refine rSq [(6, .y (.one (rff ks S)), H19), (7, xi (S.length : Int), H19), (8, xb true, H19)] [(2, xb true)] H19
          (cast (Jai (Ja (t := 36) (off := 0) (v := .one (rff ks S)) (On.at hs21 2 rfl) (by kernel_rfl)) (Jai (Jm (H := H19) (s := NI) (t := 36) (ty := 0) (pu := true) (capd := false) (id := ks) (d := 0) (o := 0) (n := S.length) (l := S) (e := (S.length : Int)) (On.at hs21 3 rfl) (by kernel_rfl) (by first | rfl | omega | simp <;> omega)) (JZ (Jd (H := H19) (t := 3) (u := 3) (a := (S.length : Int)) (b := 0) (by omega))))) (by kernel_rfl)) (by kernel_rfl) ?_
        refine wE ?_
        exact ⟨Or.inr rfl, [.one (vb true)], (by kernel_rfl), ⟨rfl, rfl⟩⟩
       refine rSq [(1, xb true, H19), (9, yp q1, H19), (10, xi (t1.length : Int), H32), (11, xb true, H32)] [(0, yp c), (4, xi 1), (19, xb true)] H32
         (cast (Jai (Jb hcall41 (by kernel_rfl)) (Jai (Ja (t := 50) (off := 3) (v := .one (.ptr q1 0)) (On.at hs21 2 rfl) (by kernel_rfl)) (Jai (Jb hr33 (by kernel_rfl)) (JZ (Jd (H := H32) (t := 3) (u := 3) (a := (t1.length : Int)) (b := 0) (by omega)))))) (by kernel_rfl)) (by kernel_rfl) ?_
       refine wTa ?_
       refine rS0 [(2, xb false)] (by kernel_rfl) ?_
       refine wE ?_
       exact ⟨Or.inr rfl, [.one (vb false)], (by kernel_rfl), ⟨rfl, rfl⟩⟩
      refine rSq [(1, xb false, H32)] [(0, yp c), (1, yp d), (5, yp n1), (36, xb true)] H32
        (cast (JZ (Jb hcall39 (by kernel_rfl))) (by kernel_rfl)) (by kernel_rfl) ?_
      refine wG hs34 ?_
      intro H42 hs43
      refine wTa ?_
      refine rS0 [(6, xi 0), (7, .y (.one (nilC))), (8, xi 2)] (by kernel_rfl) ?_
      refine wE ?_
      refine ⟨Or.inr rfl, [.one (vi 0), .one (nilC), .one (vi 2)], (by kernel_rfl), ?_⟩
      exact .inr (.inl ⟨⟨by omega, by omega, by omega⟩, by omega, rfl, (On.pick [0, 2, 3, 10, 11, 4, 5, 6, 7, 8, 9] [1] (by kernel_rfl) hs43)⟩)
     ·
      obtain ⟨_, H48, hr49, rfl, hs50⟩ := len_ok _ (H32 : HH) (On.call [4] [0, 1, 2, 3, 5, 6, 7, 8, 9, 10, 11] (by kernel_rfl) hs34) (q := q2) (room := 64) (l := t2)
      have hs50 : On [R, pts n1 (.obj [vi r0, vi r1, vi r2]), pts c (.obj [rff ks S, vi hand, .ptr q0 0, .ptr q1 0, .ptr q2 0]), pts ks (rowO NI true 0 S), pts d (.obj [rff kv S2, vi hand2, .ptr w0 0, .ptr w1 0, .ptr w2 0]), pts kv (rowO NI true 0 S2), ringP EN w0 64 v0, ringP EN w1 64 v1, ringP EN w2 64 v2, ringP EN q0 64 t0, ringP EN q1 64 t1, ringP EN q2 64 t2] H48 := On.flat hs50
      by_cases c55 : (0 : Int) < (t2.length : Int)
      ·
       have hcall56 : Runs pg an 26 [.one (.ptr c 0)] H12 [.one (vb false)] H48 := by
        refine runs_of ?_
        refine Runs.of (fn := Try.f26) Try.func26 rfl (by kernel_rfl) [(0, yp c)] (by kernel_rfl) ?_
        refine rS0 [(0, yp c)] (by kernel_rfl) ?_
        refine wS ?_
        refine rS0 [(0, yp c), (4, xi 0)] (by kernel_rfl) ?_
        refine wB ?_
        refine Wp.loopU [(0, yp c), (4, xi 0)] (some ([0, 4], false)) (List.length H12) (by kernel_rfl) ?_
        refine WpL.step ?_
        refine rS0 [(0, yp c), (4, xi 0), (5, xb true)] (by kernel_rfl) ?_
        refine wS (wTk ?_)
        refine wS (wB ?_)
        refine rS0 [(0, yp c), (3, xi 0), (4, xi 0)] (by kernel_rfl) ?_
        have hcall57 : Runs pg an 33 [.one (.ptr c 0)] H12 [.one (vb true)] H12 := by
         refine runs_of ?_
         refine Runs.of (fn := Try.f33) Try.func33 rfl (by kernel_rfl) [(0, yp c)] (by kernel_rfl) ?_
         refine rS0 [(0, yp c)] (by kernel_rfl) ?_
         refine rSq [(6, .y (.one (rff ks S)), H12), (7, xi (S.length : Int), H12), (8, xb true, H12)] [(2, xb true)] H12
           (cast (Jai (Ja (t := 36) (off := 0) (v := .one (rff ks S)) (On.at hs13 2 rfl) (by kernel_rfl)) (Jai (Jm (H := H12) (s := NI) (t := 36) (ty := 0) (pu := true) (capd := false) (id := ks) (d := 0) (o := 0) (n := S.length) (l := S) (e := (S.length : Int)) (On.at hs13 3 rfl) (by kernel_rfl) (by first | rfl | omega | simp <;> omega)) (JZ (Jd (H := H12) (t := 3) (u := 3) (a := (S.length : Int)) (b := 0) (by omega))))) (by kernel_rfl)) (by kernel_rfl) ?_
         refine wE ?_
         exact ⟨Or.inr rfl, [.one (vb true)], (by kernel_rfl), ⟨rfl, rfl⟩⟩
        refine rSq [(1, xb true, H12), (9, yp q0, H12), (10, xi (t0.length : Int), H19), (11, xb false, H19)] [(0, yp c), (4, xi 0), (19, xb false)] H19
          (cast (Jai (Jb hcall57 (by kernel_rfl)) (Jai (Ja (t := 50) (off := 2) (v := .one (.ptr q0 0)) (On.at hs13 2 rfl) (by kernel_rfl)) (Jai (Jb hr20 (by kernel_rfl)) (JZ (Jk (H := H19) (t := 3) (u := 3) (a := (t0.length : Int)) (b := 0) (by omega)))))) (by kernel_rfl)) (by kernel_rfl) ?_
        refine wFk ?_
        refine wR [] [(0, yp c), (4, xi 1)] H19
          (cast trivial (by kernel_rfl)) (by kernel_rfl) ?_
        refine ⟨_, _, rfl, ?_⟩
        refine WpL.step ?_
        refine rS0 [(0, yp c), (4, xi 1), (5, xb true)] (by kernel_rfl) ?_
        refine wS (wTk ?_)
        refine wS (wB ?_)
        refine rS0 [(0, yp c), (3, xi 1), (4, xi 1)] (by kernel_rfl) ?_
        have hcall58 : Runs pg an 33 [.one (.ptr c 0)] H19 [.one (vb true)] H19 := by
         refine runs_of ?_
         refine Runs.of (fn := Try.f33) Try.func33 rfl (by kernel_rfl) [(0, yp c)] (by kernel_rfl) ?_
         refine rS0 [(0, yp c)] (by kernel_rfl) ?_
         refine rSq [(6, .y (.one (rff ks S)), H19), (7, xi (S.length : Int), H19), (8, xb true, H19)] [(2, xb true)] H19
           (cast (Jai (Ja (t := 36) (off := 0) (v := .one (rff ks S)) (On.at hs21 2 rfl) (by kernel_rfl)) (Jai (Jm (H := H19) (s := NI) (t := 36) (ty := 0) (pu := true) (capd := false) (id := ks) (d := 0) (o := 0) (n := S.length) (l := S) (e := (S.length : Int)) (On.at hs21 3 rfl) (by kernel_rfl) (by first | rfl | omega | simp <;> omega)) (JZ (Jd (H := H19) (t := 3) (u := 3) (a := (S.length : Int)) (b := 0) (by omega))))) (by kernel_rfl)) (by kernel_rfl) ?_
         refine wE ?_
         exact ⟨Or.inr rfl, [.one (vb true)], (by kernel_rfl), ⟨rfl, rfl⟩⟩
        refine rSq [(1, xb true, H19), (9, yp q1, H19), (10, xi (t1.length : Int), H32), (11, xb false, H32)] [(0, yp c), (4, xi 1), (19, xb false)] H32
          (cast (Jai (Jb hcall58 (by kernel_rfl)) (Jai (Ja (t := 50) (off := 3) (v := .one (.ptr q1 0)) (On.at hs21 2 rfl) (by kernel_rfl)) (Jai (Jb hr33 (by kernel_rfl)) (JZ (Jk (H := H32) (t := 3) (u := 3) (a := (t1.length : Int)) (b := 0) (by omega)))))) (by kernel_rfl)) (by kernel_rfl) ?_
        refine wFk ?_
        refine wR [] [(0, yp c), (4, xi 2)] H32
          (cast trivial (by kernel_rfl)) (by kernel_rfl) ?_
        refine ⟨_, _, rfl, ?_⟩
        refine WpL.step ?_
        refine rS0 [(0, yp c), (4, xi 2), (5, xb true)] (by kernel_rfl) ?_
        refine wS (wTk ?_)
        refine wS (wB ?_)
        refine rS0 [(0, yp c), (3, xi 2), (4, xi 2)] (by kernel_rfl) ?_
        have hcall59 : Runs pg an 33 [.one (.ptr c 0)] H32 [.one (vb true)] H32 := by
         refine runs_of ?_
         refine Runs.of (fn := Try.f33) Try.func33 rfl (by kernel_rfl) [(0, yp c)] (by kernel_rfl) ?_
         refine rS0 [(0, yp c)] (by kernel_rfl) ?_
         refine rSq [(6, .y (.one (rff ks S)), H32), (7, xi (S.length : Int), H32), (8, xb true, H32)] [(2, xb true)] H32
           (cast (Jai (Ja (t := 36) (off := 0) (v := .one (rff ks S)) (On.at hs34 2 rfl) (by kernel_rfl)) (Jai (Jm (H := H32) (s := NI) (t := 36) (ty := 0) (pu := true) (capd := false) (id := ks) (d := 0) (o := 0) (n := S.length) (l := S) (e := (S.length : Int)) (On.at hs34 3 rfl) (by kernel_rfl) (by first | rfl | omega | simp <;> omega)) (JZ (Jd (H := H32) (t := 3) (u := 3) (a := (S.length : Int)) (b := 0) (by omega))))) (by kernel_rfl)) (by kernel_rfl) ?_
         refine wE ?_
         exact ⟨Or.inr rfl, [.one (vb true)], (by kernel_rfl), ⟨rfl, rfl⟩⟩
        refine rSq [(1, xb true, H32), (9, yp q2, H32), (10, xi (t2.length : Int), H48), (11, xb true, H48)] [(0, yp c), (4, xi 2), (19, xb true)] H48
          (cast (Jai (Jb hcall59 (by kernel_rfl)) (Jai (Ja (t := 50) (off := 4) (v := .one (.ptr q2 0)) (On.at hs34 2 rfl) (by kernel_rfl)) (Jai (Jb hr49 (by kernel_rfl)) (JZ (Jd (H := H48) (t := 3) (u := 3) (a := (t2.length : Int)) (b := 0) (by omega)))))) (by kernel_rfl)) (by kernel_rfl) ?_
        refine wTa ?_
        refine rS0 [(2, xb false)] (by kernel_rfl) ?_
        refine wE ?_
        exact ⟨Or.inr rfl, [.one (vb false)], (by kernel_rfl), ⟨rfl, rfl⟩⟩
       refine rSq [(1, xb false, H48)] [(0, yp c), (1, yp d), (5, yp n1), (36, xb true)] H48
         (cast (JZ (Jb hcall56 (by kernel_rfl))) (by kernel_rfl)) (by kernel_rfl) ?_
       refine wG hs50 ?_
       intro H60 hs61
       refine wTa ?_
       refine rS0 [(6, xi 0), (7, .y (.one (nilC))), (8, xi 2)] (by kernel_rfl) ?_
       refine wE ?_
       refine ⟨Or.inr rfl, [.one (vi 0), .one (nilC), .one (vi 2)], (by kernel_rfl), ?_⟩
       exact .inr (.inl ⟨⟨by omega, by omega, by omega⟩, by omega, rfl, (On.pick [0, 2, 3, 9, 10, 11, 4, 5, 6, 7, 8] [1] (by kernel_rfl) hs61)⟩)
      ·
       have hcall62 : Runs pg an 26 [.one (.ptr c 0)] H12 [.one (vb true)] H48 := by
        refine runs_of ?_
        refine Runs.of (fn := Try.f26) Try.func26 rfl (by kernel_rfl) [(0, yp c)] (by kernel_rfl) ?_
        refine rS0 [(0, yp c)] (by kernel_rfl) ?_
        refine wS ?_
        refine rS0 [(0, yp c), (4, xi 0)] (by kernel_rfl) ?_
        refine wB ?_
        refine Wp.loopU [(0, yp c), (4, xi 0)] (some ([0, 4], false)) (List.length H12) (by kernel_rfl) ?_
        refine WpL.step ?_
        refine rS0 [(0, yp c), (4, xi 0), (5, xb true)] (by kernel_rfl) ?_
        refine wS (wTk ?_)
        refine wS (wB ?_)
        refine rS0 [(0, yp c), (3, xi 0), (4, xi 0)] (by kernel_rfl) ?_
        have hcall63 : Runs pg an 33 [.one (.ptr c 0)] H12 [.one (vb true)] H12 := by
         refine runs_of ?_
         refine Runs.of (fn := Try.f33) Try.func33 rfl (by kernel_rfl) [(0, yp c)] (by kernel_rfl) ?_
         refine rS0 [(0, yp c)] (by kernel_rfl) ?_
         refine rSq [(6, .y (.one (rff ks S)), H12), (7, xi (S.length : Int), H12), (8, xb true, H12)] [(2, xb true)] H12
           (cast (Jai (Ja (t := 36) (off := 0) (v := .one (rff ks S)) (On.at hs13 2 rfl) (by kernel_rfl)) (Jai (Jm (H := H12) (s := NI) (t := 36) (ty := 0) (pu := true) (capd := false) (id := ks) (d := 0) (o := 0) (n := S.length) (l := S) (e := (S.length : Int)) (On.at hs13 3 rfl) (by kernel_rfl) (by first | rfl | omega | simp <;> omega)) (JZ (Jd (H := H12) (t := 3) (u := 3) (a := (S.length : Int)) (b := 0) (by omega))))) (by kernel_rfl)) (by kernel_rfl) ?_
         refine wE ?_
         exact ⟨Or.inr rfl, [.one (vb true)], (by kernel_rfl), ⟨rfl, rfl⟩⟩
        refine rSq [(1, xb true, H12), (9, yp q0, H12), (10, xi (t0.length : Int), H19), (11, xb false, H19)] [(0, yp c), (4, xi 0), (19, xb false)] H19
          (cast (Jai (Jb hcall63 (by kernel_rfl)) (Jai (Ja (t := 50) (off := 2) (v := .one (.ptr q0 0)) (On.at hs13 2 rfl) (by kernel_rfl)) (Jai (Jb hr20 (by kernel_rfl)) (JZ (Jk (H := H19) (t := 3) (u := 3) (a := (t0.length : Int)) (b := 0) (by omega)))))) (by kernel_rfl)) (by kernel_rfl) ?_
        refine wFk ?_
        refine wR [] [(0, yp c), (4, xi 1)] H19
          (cast trivial (by kernel_rfl)) (by kernel_rfl) ?_
        refine ⟨_, _, rfl, ?_⟩
        refine WpL.step ?_
        refine rS0 [(0, yp c), (4, xi 1), (5, xb true)] (by kernel_rfl) ?_
        refine wS (wTk ?_)
        refine wS (wB ?_)
        refine rS0 [(0, yp c), (3, xi 1), (4, xi 1)] (by kernel_rfl) ?_
        have hcall64 : Runs pg an 33 [.one (.ptr c 0)] H19 [.one (vb true)] H19 := by
         refine runs_of ?_
         refine Runs.of (fn := Try.f33) Try.func33 rfl (by kernel_rfl) [(0, yp c)] (by kernel_rfl) ?_
         refine rS0 [(0, yp c)] (by kernel_rfl) ?_
         refine rSq [(6, .y (.one (rff ks S)), H19), (7, xi (S.length : Int), H19), (8, xb true, H19)] [(2, xb true)] H19
           (cast (Jai (Ja (t := 36) (off := 0) (v := .one (rff ks S)) (On.at hs21 2 rfl) (by kernel_rfl)) (Jai (Jm (H := H19) (s := NI) (t := 36) (ty := 0) (pu := true) (capd := false) (id := ks) (d := 0) (o := 0) (n := S.length) (l := S) (e := (S.length : Int)) (On.at hs21 3 rfl) (by kernel_rfl) (by first | rfl | omega | simp <;> omega)) (JZ (Jd (H := H19) (t := 3) (u := 3) (a := (S.length : Int)) (b := 0) (by omega))))) (by kernel_rfl)) (by kernel_rfl) ?_
         refine wE ?_
         exact ⟨Or.inr rfl, [.one (vb true)], (by kernel_rfl), ⟨rfl, rfl⟩⟩
        refine rSq [(1, xb true, H19), (9, yp q1, H19), (10, xi (t1.length : Int), H32), (11, xb false, H32)] [(0, yp c), (4, xi 1), (19, xb false)] H32
          (cast (Jai (Jb hcall64 (by kernel_rfl)) (Jai (Ja (t := 50) (off := 3) (v := .one (.ptr q1 0)) (On.at hs21 2 rfl) (by kernel_rfl)) (Jai (Jb hr33 (by kernel_rfl)) (JZ (Jk (H := H32) (t := 3) (u := 3) (a := (t1.length : Int)) (b := 0) (by omega)))))) (by kernel_rfl)) (by kernel_rfl) ?_
        refine wFk ?_
        refine wR [] [(0, yp c), (4, xi 2)] H32
          (cast trivial (by kernel_rfl)) (by kernel_rfl) ?_
        refine ⟨_, _, rfl, ?_⟩
        refine WpL.step ?_
        refine rS0 [(0, yp c), (4, xi 2), (5, xb true)] (by kernel_rfl) ?_
        refine wS (wTk ?_)
        refine wS (wB ?_)
        refine rS0 [(0, yp c), (3, xi 2), (4, xi 2)] (by kernel_rfl) ?_
        have hcall65 : Runs pg an 33 [.one (.ptr c 0)] H32 [.one (vb true)] H32 := by
         refine runs_of ?_
         refine Runs.of (fn := Try.f33) Try.func33 rfl (by kernel_rfl) [(0, yp c)] (by kernel_rfl) ?_
         refine rS0 [(0, yp c)] (by kernel_rfl) ?_
         refine rSq [(6, .y (.one (rff ks S)), H32), (7, xi (S.length : Int), H32), (8, xb true, H32)] [(2, xb true)] H32
           (cast (Jai (Ja (t := 36) (off := 0) (v := .one (rff ks S)) (On.at hs34 2 rfl) (by kernel_rfl)) (Jai (Jm (H := H32) (s := NI) (t := 36) (ty := 0) (pu := true) (capd := false) (id := ks) (d := 0) (o := 0) (n := S.length) (l := S) (e := (S.length : Int)) (On.at hs34 3 rfl) (by kernel_rfl) (by first | rfl | omega | simp <;> omega)) (JZ (Jd (H := H32) (t := 3) (u := 3) (a := (S.length : Int)) (b := 0) (by omega))))) (by kernel_rfl)) (by kernel_rfl) ?_
         refine wE ?_
         exact ⟨Or.inr rfl, [.one (vb true)], (by kernel_rfl), ⟨rfl, rfl⟩⟩
        refine rSq [(1, xb true, H32), (9, yp q2, H32), (10, xi (t2.length : Int), H48), (11, xb false, H48)] [(0, yp c), (4, xi 2), (19, xb false)] H48
          (cast (Jai (Jb hcall65 (by kernel_rfl)) (Jai (Ja (t := 50) (off := 4) (v := .one (.ptr q2 0)) (On.at hs34 2 rfl) (by kernel_rfl)) (Jai (Jb hr49 (by kernel_rfl)) (JZ (Jk (H := H48) (t := 3) (u := 3) (a := (t2.length : Int)) (b := 0) (by omega)))))) (by kernel_rfl)) (by kernel_rfl) ?_
        refine wFk ?_
        refine wR [] [(0, yp c), (4, xi 3)] H48
          (cast trivial (by kernel_rfl)) (by kernel_rfl) ?_
        refine ⟨_, _, rfl, ?_⟩
        refine WpL.step ?_
        refine rS0 [(0, yp c), (4, xi 3), (5, xb false)] (by kernel_rfl) ?_
        refine wS ?_
        refine wFa ?_
        refine wX ?_
        refine Eq.mpr (if_pos rfl) ?_
        refine rS0 [(2, xb true)] (by kernel_rfl) ?_
        refine wE ?_
        exact ⟨Or.inr rfl, [.one (vb true)], (by kernel_rfl), ⟨rfl, rfl⟩⟩
       refine rSq [(1, xb true, H48)] [(0, yp c), (1, yp d), (5, yp n1), (36, xb false)] H48
         (cast (JZ (Jb hcall62 (by kernel_rfl))) (by kernel_rfl)) (by kernel_rfl) ?_
       refine wG hs50 ?_
       intro H66 hs67
       refine wFk ?_
       obtain ⟨n68, hn68⟩ : ∃ n, n = List.length (H66 : HH) := ⟨_, rfl⟩
       refine rSq [(0, yp n68, (H66 ++ [.obj [nilC, nilC, nilC]]))] [(0, yp c), (1, yp d), (5, yp n1), (11, yp n68)] (H66 ++ [.obj [nilC, nilC, nilC]])
         (cast (JZ (Jg (H := H66) (t := 23) (ty := 0) (n := n68) (cs := [nilC, nilC, nilC]) hn68 (by kernel_rfl))) (by kernel_rfl)) (by kernel_rfl) ?_
       refine wG (On.new' hn68 (.obj [nilC, nilC, nilC]) hs67) ?_
       intro H69 hs70
       refine wS ?_
       refine rS0 [(0, yp c), (1, yp d), (5, yp n1), (11, yp n68), (37, xi 0)] (by kernel_rfl) ?_
       refine wB ?_
       refine Wp.loopU [(0, yp c), (1, yp d), (5, yp n1), (11, yp n68), (37, xi 0)] (some ([0, 1, 5, 11, 37], false)) (List.length H69) (by kernel_rfl) ?_
       refine WpL.step ?_
       refine rS0 [(0, yp c), (1, yp d), (5, yp n1), (11, yp n68), (37, xi 0), (38, xb true)] (by kernel_rfl) ?_
       refine wS (wTk ?_)
       refine wS (wB ?_)
       refine rS0 [(0, yp c), (1, yp d), (5, yp n1), (11, yp n68), (12, xi 0), (37, xi 0)] (by kernel_rfl) ?_
       obtain ⟨_, H72, hr73, k71, rfl, hs74⟩ := queue_0 _ (H69 : HH) (On.call [4, 5, 6, 7, 8] [0, 1, 2, 3, 9, 10, 11, 12] (by kernel_rfl) hs70) (c := d) (ks := kv) (q0 := w0) (q1 := w1) (q2 := w2) (S := S2) (hand := hand2) (l0 := v0) (l1 := v1) (l2 := v2) (by omega) (by omega) (by first | rfl | omega | simp <;> omega) (by first | rfl | omega | simp <;> omega) (by first | rfl | omega | simp <;> omega)
       have hs74 : On [R, pts n1 (.obj [vi r0, vi r1, vi r2]), pts c (.obj [rff ks S, vi hand, .ptr q0 0, .ptr q1 0, .ptr q2 0]), pts ks (rowO NI true 0 S), ringP EN q0 64 t0, ringP EN q1 64 t1, ringP EN q2 64 t2, pts n68 (.obj [nilC, nilC, nilC]), pts d (.obj [rff kv S2, vi hand2, .ptr w0 0, .ptr w1 0, .ptr w2 0]), pts kv (rowO NI true 0 S2), ringP EN w0 64 v0, ringP EN w1 64 v1, ringP EN w2 64 v2, pts k71 (rowO EN true 0 v0)] H72 := On.flat hs74
       refine rKq [(3, .y (.one (rft k71 v0)), H72), (5, .tup [], (sto H72 n68 (.obj [rft k71 v0, nilC, nilC])))] [(0, yp c), (1, yp d), (5, yp n1), (11, yp n68), (37, xi 0)] (sto H72 n68 (.obj [rft k71 v0, nilC, nilC]))
         (cast (Jai (Jn hr73 (by kernel_rfl)) (JZ (Jc (t := 22) (off := 0) (v := .one (rft k71 v0)) (On.at hs74 7 rfl) (by kernel_rfl)))) (by kernel_rfl)) (by kernel_rfl) ?_
       refine wG (On.put (.obj [rft k71 v0, nilC, nilC]) hs74 7 rfl) ?_
       intro H75 hs76
       refine wK ?_
       refine wR [] [(0, yp c), (1, yp d), (5, yp n1), (11, yp n68), (37, xi 1)] H75
         (cast trivial (by kernel_rfl)) (by kernel_rfl) ?_
       refine ⟨_, _, rfl, ?_⟩
       refine WpL.step ?_
       refine rS0 [(0, yp c), (1, yp d), (5, yp n1), (11, yp n68), (37, xi 1), (38, xb true)] (by kernel_rfl) ?_
       refine wS (wTk ?_)
       refine wS (wB ?_)
       refine rS0 [(0, yp c), (1, yp d), (5, yp n1), (11, yp n68), (12, xi 1), (37, xi 1)] (by kernel_rfl) ?_
       obtain ⟨_, H78, hr79, k77, rfl, hs80⟩ := queue_1 _ (H75 : HH) (On.call [8, 9, 10, 11, 12] [0, 1, 2, 3, 4, 5, 6, 7, 13] (by kernel_rfl) hs76) (c := d) (ks := kv) (q0 := w0) (q1 := w1) (q2 := w2) (S := S2) (hand := hand2) (l0 := v0) (l1 := v1) (l2 := v2) (by omega) (by omega) (by first | rfl | omega | simp <;> omega) (by first | rfl | omega | simp <;> omega) (by first | rfl | omega | simp <;> omega)
       have hs80 : On [R, pts n1 (.obj [vi r0, vi r1, vi r2]), pts c (.obj [rff ks S, vi hand, .ptr q0 0, .ptr q1 0, .ptr q2 0]), pts ks (rowO NI true 0 S), ringP EN q0 64 t0, ringP EN q1 64 t1, ringP EN q2 64 t2, pts n68 (.obj [rft k71 v0, nilC, nilC]), pts k71 (rowO EN true 0 v0), pts d (.obj [rff kv S2, vi hand2, .ptr w0 0, .ptr w1 0, .ptr w2 0]), pts kv (rowO NI true 0 S2), ringP EN w0 64 v0, ringP EN w1 64 v1, ringP EN w2 64 v2, pts k77 (rowO EN true 0 v1)] H78 := On.flat hs80
       refine rKq [(3, .y (.one (rft k77 v1)), H78), (5, .tup [], (sto H78 n68 (.obj [rft k71 v0, rft k77 v1, nilC])))] [(0, yp c), (1, yp d), (5, yp n1), (11, yp n68), (37, xi 1)] (sto H78 n68 (.obj [rft k71 v0, rft k77 v1, nilC]))
         (cast (Jai (Jn hr79 (by kernel_rfl)) (JZ (Jc (t := 22) (off := 1) (v := .one (rft k77 v1)) (On.at hs80 7 rfl) (by kernel_rfl)))) (by kernel_rfl)) (by kernel_rfl) ?_
       refine wG (On.put (.obj [rft k71 v0, rft k77 v1, nilC]) hs80 7 rfl) ?_
       intro H81 hs82
       refine wK ?_
       refine wR [] [(0, yp c), (1, yp d), (5, yp n1), (11, yp n68), (37, xi 2)] H81
         (cast trivial (by kernel_rfl)) (by kernel_rfl) ?_
       refine ⟨_, _, rfl, ?_⟩
       refine WpL.step ?_
       refine rS0 [(0, yp c), (1, yp d), (5, yp n1), (11, yp n68), (37, xi 2), (38, xb true)] (by kernel_rfl) ?_
       refine wS (wTk ?_)
       refine wS (wB ?_)
       refine rS0 [(0, yp c), (1, yp d), (5, yp n1), (11, yp n68), (12, xi 2), (37, xi 2)] (by kernel_rfl) ?_
       obtain ⟨_, H84, hr85, k83, rfl, hs86⟩ := queue_2 _ (H81 : HH) (On.call [9, 10, 11, 12, 13] [0, 1, 2, 3, 4, 5, 6, 7, 8, 14] (by kernel_rfl) hs82) (c := d) (ks := kv) (q0 := w0) (q1 := w1) (q2 := w2) (S := S2) (hand := hand2) (l0 := v0) (l1 := v1) (l2 := v2) (by omega) (by omega) (by first | rfl | omega | simp <;> omega) (by first | rfl | omega | simp <;> omega) (by first | rfl | omega | simp <;> omega)
       have hs86 : On [R, pts n1 (.obj [vi r0, vi r1, vi r2]), pts c (.obj [rff ks S, vi hand, .ptr q0 0, .ptr q1 0, .ptr q2 0]), pts ks (rowO NI true 0 S), ringP EN q0 64 t0, ringP EN q1 64 t1, ringP EN q2 64 t2, pts n68 (.obj [rft k71 v0, rft k77 v1, nilC]), pts k71 (rowO EN true 0 v0), pts k77 (rowO EN true 0 v1), pts d (.obj [rff kv S2, vi hand2, .ptr w0 0, .ptr w1 0, .ptr w2 0]), pts kv (rowO NI true 0 S2), ringP EN w0 64 v0, ringP EN w1 64 v1, ringP EN w2 64 v2, pts k83 (rowO EN true 0 v2)] H84 := On.flat hs86
       refine rKq [(3, .y (.one (rft k83 v2)), H84), (5, .tup [], (sto H84 n68 (.obj [rft k71 v0, rft k77 v1, rft k83 v2])))] [(0, yp c), (1, yp d), (5, yp n1), (11, yp n68), (37, xi 2)] (sto H84 n68 (.obj [rft k71 v0, rft k77 v1, rft k83 v2]))
         (cast (Jai (Jn hr85 (by kernel_rfl)) (JZ (Jc (t := 22) (off := 2) (v := .one (rft k83 v2)) (On.at hs86 7 rfl) (by kernel_rfl)))) (by kernel_rfl)) (by kernel_rfl) ?_
       refine wG (On.put (.obj [rft k71 v0, rft k77 v1, rft k83 v2]) hs86 7 rfl) ?_
       intro H87 hs88
       refine wK ?_
       refine wR [] [(0, yp c), (1, yp d), (5, yp n1), (11, yp n68), (37, xi 3)] H87
         (cast trivial (by kernel_rfl)) (by kernel_rfl) ?_
       refine ⟨_, _, rfl, ?_⟩
       refine WpL.step ?_
       refine rS0 [(0, yp c), (1, yp d), (5, yp n1), (11, yp n68), (37, xi 3), (38, xb false)] (by kernel_rfl) ?_
       refine wS ?_
       refine wFa ?_
       refine wX ?_
       refine Eq.mpr (if_pos rfl) ?_
       rcases plan_cases (h0 := half v0) (h1 := half v1) (h2 := half v2) (r0 := r0) (r1 := r1) (r2 := r2) ⟨by omega, by omega, by omega⟩ with hpl | ⟨n, hn1, hn2, hn3, hpl⟩ | ⟨n, hn1, hn2, hn3, hpl⟩ | ⟨n, hn1, hn2, hn3, hpl⟩
       ·
        refine rSq [(0, .y (.agg [rft k71 v0, rft k77 v1, rft k83 v2]), H87), (1, .y (.agg [vi r0, vi r1, vi r2]), H87), (2, .tup [.one (vi 0), .one (vi 0), .one (vi 3)], H87)] [(0, yp c), (1, yp d), (6, xi 0), (8, xi 3), (11, yp n68), (13, xi 0)] H87
          (cast (Jai (Ja (t := 23) (off := 0) (v := .agg [rft k71 v0, rft k77 v1, rft k83 v2]) (On.at hs88 7 rfl) (by kernel_rfl)) (Jai (Ja (t := 24) (off := 0) (v := .agg [vi r0, vi r1, vi r2]) (On.at hs88 1 rfl) (by kernel_rfl)) (JZ (Jr (H := H87) (g := 11) (vals := [.y (.agg [rft k71 v0, rft k77 v1, rft k83 v2]), .y (.agg [vi r0, vi r1, vi r2])]) (xs0 := [.agg [rft k71 v0, rft k77 v1, rft k83 v2], .agg [vi r0, vi r1, vi r2]]) (xs1 := [.agg [sv EN true false true v0, sv EN true false true v1, sv EN true false true v2], .agg [vi r0, vi r1, vi r2]]) (res := [.one (vi 0), .one (vi 0), .one (vi 3)]) (ats := #[]) (ty := 0) (v := .tup [.one (vi 0), .one (vi 0), .one (vi 3)]) [.tmp 0, .tmp 1] (by kernel_rfl) (by kernel_rfl) (snap_cons (snap_agg (mapM_cons' (snapC_rowO (H := H87) (s := EN) (id := k71) (d := 0) (o := 0) (n := v0.length) (capd := true) (l := v0) (m := v0) (On.at hs88 8 rfl) (by first | rfl | omega | simp <;> omega) (dt0 rfl (Nat.le_refl _))) (mapM_cons' (snapC_rowO (H := H87) (s := EN) (id := k77) (d := 0) (o := 0) (n := v1.length) (capd := true) (l := v1) (m := v1) (On.at hs88 9 rfl) (by first | rfl | omega | simp <;> omega) (dt0 rfl (Nat.le_refl _))) (mapM_cons' (snapC_rowO (H := H87) (s := EN) (id := k83) (d := 0) (o := 0) (n := v2.length) (capd := true) (l := v2) (m := v2) (On.at hs88 15 rfl) (by first | rfl | omega | simp <;> omega) (dt0 rfl (Nat.le_refl _))) mapM_nil')))) (snap_cons (by kernel_rfl) (snap_nil))) (by have := (fn11 true false true true false true true false true v0 v1 v2 r0 r1 r2 (by omega) (by omega) (by omega)); rw [hpl] at this; exact this) (by kernel_rfl))))) (by kernel_rfl)) (by kernel_rfl) ?_
        refine wS ?_
        refine rS0 [(0, yp c), (1, yp d), (6, xi 0), (8, xi 3), (11, yp n68), (13, xi 0), (54, xb true)] (by kernel_rfl) ?_
        refine wTa ?_
        refine rS0 [(6, xi 0), (7, .y (.one (nilC))), (8, xi 3)] (by kernel_rfl) ?_
        refine wE ?_
        refine ⟨Or.inr rfl, [.one (vi 0), .one (nilC), .one (vi 3)], (by kernel_rfl), ?_⟩
        exact .inr (.inr (.inl ⟨⟨by omega, by omega, by omega⟩, ⟨by omega, by omega, by omega⟩, hpl, rfl, (On.pick [0, 2, 3, 4, 5, 6, 10, 11, 12, 13, 14] [1, 7, 8, 9, 15] (by kernel_rfl) hs88)⟩))
       ·
        have hn9 := half_len hn1 hn2
        refine rSq [(0, .y (.agg [rft k71 v0, rft k77 v1, rft k83 v2]), H87), (1, .y (.agg [vi r0, vi r1, vi r2]), H87), (2, .tup [.one (vi 0), .one (vi n), .one (vi 0)], H87)] [(0, yp c), (1, yp d), (6, xi 0), (8, xi 0), (11, yp n68), (13, xi n)] H87
          (cast (Jai (Ja (t := 23) (off := 0) (v := .agg [rft k71 v0, rft k77 v1, rft k83 v2]) (On.at hs88 7 rfl) (by kernel_rfl)) (Jai (Ja (t := 24) (off := 0) (v := .agg [vi r0, vi r1, vi r2]) (On.at hs88 1 rfl) (by kernel_rfl)) (JZ (Jr (H := H87) (g := 11) (vals := [.y (.agg [rft k71 v0, rft k77 v1, rft k83 v2]), .y (.agg [vi r0, vi r1, vi r2])]) (xs0 := [.agg [rft k71 v0, rft k77 v1, rft k83 v2], .agg [vi r0, vi r1, vi r2]]) (xs1 := [.agg [sv EN true false true v0, sv EN true false true v1, sv EN true false true v2], .agg [vi r0, vi r1, vi r2]]) (res := [.one (vi 0), .one (vi n), .one (vi 0)]) (ats := #[]) (ty := 0) (v := .tup [.one (vi 0), .one (vi n), .one (vi 0)]) [.tmp 0, .tmp 1] (by kernel_rfl) (by kernel_rfl) (snap_cons (snap_agg (mapM_cons' (snapC_rowO (H := H87) (s := EN) (id := k71) (d := 0) (o := 0) (n := v0.length) (capd := true) (l := v0) (m := v0) (On.at hs88 8 rfl) (by first | rfl | omega | simp <;> omega) (dt0 rfl (Nat.le_refl _))) (mapM_cons' (snapC_rowO (H := H87) (s := EN) (id := k77) (d := 0) (o := 0) (n := v1.length) (capd := true) (l := v1) (m := v1) (On.at hs88 9 rfl) (by first | rfl | omega | simp <;> omega) (dt0 rfl (Nat.le_refl _))) (mapM_cons' (snapC_rowO (H := H87) (s := EN) (id := k83) (d := 0) (o := 0) (n := v2.length) (capd := true) (l := v2) (m := v2) (On.at hs88 15 rfl) (by first | rfl | omega | simp <;> omega) (dt0 rfl (Nat.le_refl _))) mapM_nil')))) (snap_cons (by kernel_rfl) (snap_nil))) (by have := (fn11 true false true true false true true false true v0 v1 v2 r0 r1 r2 (by omega) (by omega) (by omega)); rw [hpl] at this; exact this) (by kernel_rfl))))) (by kernel_rfl)) (by kernel_rfl) ?_
        refine wS ?_
        refine rS0 [(0, yp c), (1, yp d), (6, xi 0), (8, xi 0), (11, yp n68), (13, xi n), (54, xb false)] (by kernel_rfl) ?_
        refine wFk ?_
        refine wS ?_
        have hlfz93 : ((v0.drop ((v0.length : Int) - n).toNat).length : Int) = n := by { first | rfl | omega | simp <;> omega }
        have hlfz99 : ((v0.take ((v0.length : Int) - n).toNat).length : Int) = ((v0.length : Int) - n) := by { first | rfl | omega | simp <;> omega }
        obtain ⟨_, H106, hr107, k103, rfl, hs108⟩ := cut_ok _ (H87 : HH) (On.call [12] [0, 1, 2, 3, 4, 5, 6, 7, 8, 9, 10, 11, 13, 14, 15] (by kernel_rfl) hs88) (q := w0) (room := 64) (l := v0) (i := n) (by omega) (by first | rfl | omega | simp <;> omega)
        have hs108 : On [R, pts n1 (.obj [vi r0, vi r1, vi r2]), pts c (.obj [rff ks S, vi hand, .ptr q0 0, .ptr q1 0, .ptr q2 0]), pts ks (rowO NI true 0 S), ringP EN q0 64 t0, ringP EN q1 64 t1, ringP EN q2 64 t2, pts n68 (.obj [rft k71 v0, rft k77 v1, rft k83 v2]), pts k71 (rowO EN true 0 v0), pts k77 (rowO EN true 0 v1), pts d (.obj [rff kv S2, vi hand2, .ptr w0 0, .ptr w1 0, .ptr w2 0]), pts kv (rowO NI true 0 S2), ringP EN w1 64 v1, ringP EN w2 64 v2, pts k83 (rowO EN true 0 v2), ringP EN w0 64 (v0.take ((v0.length : Int) - n).toNat), pts k103 (rowO EN true 0 (v0.drop ((v0.length : Int) - n).toNat))] H106 := On.flat hs108
        have hcall109 : Runs pg an 27 [.one (.ptr d 0), .one (vi 0), .one (vi n)] H87 [.one (rowC k103 0 (v0.drop ((v0.length : Int) - n).toNat).length 0 ((v0.drop ((v0.length : Int) - n).toNat).length) true), .one (vi 0)] H106 := by
         refine runs_of ?_
         refine Runs.of (fn := Try.f27) Try.func27 rfl (by kernel_rfl) [(0, yp d), (1, xi 0), (2, xi n)] (by kernel_rfl) ?_
         refine rS0 [(0, yp d), (1, xi 0), (2, xi n)] (by kernel_rfl) ?_
         refine wS ?_
         have hcall110 : Runs pg an 33 [.one (.ptr d 0)] H87 [.one (vb true)] H87 := by
          refine runs_of ?_
          refine Runs.of (fn := Try.f33) Try.func33 rfl (by kernel_rfl) [(0, yp d)] (by kernel_rfl) ?_
          refine rS0 [(0, yp d)] (by kernel_rfl) ?_
          refine rSq [(6, .y (.one (rff kv S2)), H87), (7, xi (S2.length : Int), H87), (8, xb true, H87)] [(2, xb true)] H87
            (cast (Jai (Ja (t := 36) (off := 0) (v := .one (rff kv S2)) (On.at hs88 10 rfl) (by kernel_rfl)) (Jai (Jm (H := H87) (s := NI) (t := 36) (ty := 0) (pu := true) (capd := false) (id := kv) (d := 0) (o := 0) (n := S2.length) (l := S2) (e := (S2.length : Int)) (On.at hs88 11 rfl) (by kernel_rfl) (by first | rfl | omega | simp <;> omega)) (JZ (Jd (H := H87) (t := 3) (u := 3) (a := (S2.length : Int)) (b := 0) (by omega))))) (by kernel_rfl)) (by kernel_rfl) ?_
          refine wE ?_
          exact ⟨Or.inr rfl, [.one (vb true)], (by kernel_rfl), ⟨rfl, rfl⟩⟩
         have hcall111 : Runs pg an 34 [.one (vi 0)] H87 [.one (vb true)] H87 := by
          refine runs_of ?_
          refine Runs.of (fn := Try.f34) Try.func34 rfl (by kernel_rfl) [(0, xi 0)] (by kernel_rfl) ?_
          refine rS0 [(0, xi 0)] (by kernel_rfl) ?_
          refine rS0 [(2, xb true)] (by kernel_rfl) ?_
          refine wE ?_
          exact ⟨Or.inr rfl, [.one (vb true)], (by kernel_rfl), ⟨rfl, rfl⟩⟩
         refine rSq [(1, xb true, H87), (5, xb true, H87)] [(0, yp d), (1, xi 0), (2, xi n), (15, xb false)] H87
           (cast (Jai (Jb hcall110 (by kernel_rfl)) (JZ (Jb hcall111 (by kernel_rfl)))) (by kernel_rfl)) (by kernel_rfl) ?_
         refine wFk ?_
         refine rSq [(6, yp w0, H87), (8, .tup [.one (rowC k103 0 (v0.drop ((v0.length : Int) - n).toNat).length 0 ((v0.drop ((v0.length : Int) - n).toNat).length) true), .one (vi 0)], H106)] [(6, .y (.one (rowC k103 0 (v0.drop ((v0.length : Int) - n).toNat).length 0 ((v0.drop ((v0.length : Int) - n).toNat).length) true))), (7, xi 0)] H106
           (cast (Jai (Ja (t := 50) (off := 2) (v := .one (.ptr w0 0)) (On.at hs88 10 rfl) (by kernel_rfl)) (JZ (Jn hr107 (by kernel_rfl)))) (by kernel_rfl)) (by kernel_rfl) ?_
         refine wE ?_
         exact ⟨Or.inr rfl, [.one (rowC k103 0 (v0.drop ((v0.length : Int) - n).toNat).length 0 ((v0.drop ((v0.length : Int) - n).toNat).length) true), .one (vi 0)], (by kernel_rfl), ⟨rfl, rfl⟩⟩
        refine rSq [(3, .tup [.one (rowC k103 0 (v0.drop ((v0.length : Int) - n).toNat).length 0 ((v0.drop ((v0.length : Int) - n).toNat).length) true), .one (vi 0)], H106)] [(0, yp c), (1, yp d), (6, xi 0), (7, .y (.one (rowC k103 0 (v0.drop ((v0.length : Int) - n).toNat).length 0 ((v0.drop ((v0.length : Int) - n).toNat).length) true))), (8, xi 0), (11, yp n68)] H106
          (cast (JZ (Js hcall109 (by kernel_rfl))) (by kernel_rfl)) (by kernel_rfl) ?_
        refine wG hs108 ?_
        intro H112 hs113
        refine rS0 [(0, yp c), (1, yp d), (6, xi 0), (7, .y (.one (rowC k103 0 (v0.drop ((v0.length : Int) - n).toNat).length 0 ((v0.drop ((v0.length : Int) - n).toNat).length) true))), (8, xi 0), (11, yp n68), (64, xb false)] (by kernel_rfl) ?_
        refine wFk ?_
        refine wS ?_
        obtain ⟨_, H118, hr119, ⟨hz114, rfl, hs120⟩ | ⟨hz114, rfl, hs120⟩ | ⟨hz114, rfl, hs120⟩⟩ := join_e _ (H112 : HH) (On.call [2, 3, 4, 5, 6, 16] [0, 1, 7, 8, 9, 10, 11, 12, 13, 14, 15] (by kernel_rfl) hs113) (c := c) (ks := ks) (q0 := q0) (q1 := q1) (q2 := q2) (S := S) (hand := hand) (l0 := t0) (l1 := t1) (l2 := t2) (kk := 0) (k := k103) (d := 0) (o := 0) (cp := true) (L := (v0.drop ((v0.length : Int) - n).toNat)) (m := (v0.drop ((v0.length : Int) - n).toNat)) (by omega) (by omega) (by first | rfl | omega | simp <;> omega) (by first | rfl | omega | simp <;> omega) (by first | rfl | omega | simp <;> omega) (by first | rfl | omega | simp <;> omega) (dt0 rfl (Nat.le_refl _)) (by omega) (by omega) (by omega) (nd_drop (ndv0 hvok) _) (by omega) (by omega) (by omega) (by omega)
        ·
         have hs121 : On [R, pts n1 (.obj [vi r0, vi r1, vi r2]), pts n68 (.obj [rft k71 v0, rft k77 v1, rft k83 v2]), pts k71 (rowO EN true 0 v0), pts k77 (rowO EN true 0 v1), pts d (.obj [rff kv S2, vi hand2, .ptr w0 0, .ptr w1 0, .ptr w2 0]), pts kv (rowO NI true 0 S2), ringP EN w1 64 v1, ringP EN w2 64 v2, pts k83 (rowO EN true 0 v2), ringP EN w0 64 (v0.take ((v0.length : Int) - n).toNat), pts c (.obj [rff ks S, vi hand, .ptr q0 0, .ptr q1 0, .ptr q2 0]), pts ks (rowO NI true 0 S), ringP EN q0 64 (t0 ++ pin (v0.drop ((v0.length : Int) - n).toNat)), ringP EN q1 64 t1, ringP EN q2 64 t2, pts k103 (rowO EN true 0 (v0.drop ((v0.length : Int) - n).toNat))] H118 := On.flat hs120
         have hl115 : ((t0 ++ pin (v0.drop ((v0.length : Int) - n).toNat)).length : Int) = t0.length + (v0.drop ((v0.length : Int) - n).toNat).length := by simp
         refine rSq [(3, xi 0, H118)] [(0, yp c), (1, yp d), (6, xi 0), (8, xi 0), (11, yp n68)] H118
           (cast (JZ (Js hr119 (by kernel_rfl))) (by kernel_rfl)) (by kernel_rfl) ?_
         refine wG hs121 ?_
         intro H122 hs123
         refine rS0 [(0, yp c), (1, yp d), (6, xi 0), (8, xi 0), (11, yp n68), (71, xb false)] (by kernel_rfl) ?_
         refine wFk ?_
         obtain ⟨_, H125, hr126, k124, rfl, hs127⟩ := queue_0 _ (H122 : HH) (On.call [11, 12, 13, 14, 15] [0, 1, 2, 3, 4, 5, 6, 7, 8, 9, 10, 16] (by kernel_rfl) hs123) (c := c) (ks := ks) (q0 := q0) (q1 := q1) (q2 := q2) (S := S) (hand := hand) (l0 := (t0 ++ pin (v0.drop ((v0.length : Int) - n).toNat))) (l1 := t1) (l2 := t2) (by omega) (by omega) (by first | rfl | omega | simp <;> omega) (by first | rfl | omega | simp <;> omega) (by first | rfl | omega | simp <;> omega)
         have hs127 : On [R, pts n1 (.obj [vi r0, vi r1, vi r2]), pts n68 (.obj [rft k71 v0, rft k77 v1, rft k83 v2]), pts k71 (rowO EN true 0 v0), pts k77 (rowO EN true 0 v1), pts d (.obj [rff kv S2, vi hand2, .ptr w0 0, .ptr w1 0, .ptr w2 0]), pts kv (rowO NI true 0 S2), ringP EN w1 64 v1, ringP EN w2 64 v2, pts k83 (rowO EN true 0 v2), ringP EN w0 64 (v0.take ((v0.length : Int) - n).toNat), pts k103 (rowO EN true 0 (v0.drop ((v0.length : Int) - n).toNat)), pts c (.obj [rff ks S, vi hand, .ptr q0 0, .ptr q1 0, .ptr q2 0]), pts ks (rowO NI true 0 S), ringP EN q0 64 (t0 ++ pin (v0.drop ((v0.length : Int) - n).toNat)), ringP EN q1 64 t1, ringP EN q2 64 t2, pts k124 (rowO EN true 0 (t0 ++ pin (v0.drop ((v0.length : Int) - n).toNat)))] H125 := On.flat hs127
         refine rSq [(3, .y (.one (rowC k124 0 (t0 ++ pin (v0.drop ((v0.length : Int) - n).toNat)).length 0 ((t0 ++ pin (v0.drop ((v0.length : Int) - n).toNat)).length) true)), H125)] [(6, xi 0), (7, .y (.one (rowC k124 0 (t0 ++ pin (v0.drop ((v0.length : Int) - n).toNat)).length 0 ((t0 ++ pin (v0.drop ((v0.length : Int) - n).toNat)).length) true))), (8, xi 0)] H125
           (cast (JZ (Jn hr126 (by kernel_rfl))) (by kernel_rfl)) (by kernel_rfl) ?_
         refine wG hs127 ?_
         intro H128 hs129
         refine wE ?_
         refine ⟨Or.inr rfl, [.one (vi 0), .one (rowC k124 0 (t0 ++ pin (v0.drop ((v0.length : Int) - n).toNat)).length 0 ((t0 ++ pin (v0.drop ((v0.length : Int) - n).toNat)).length) true), .one (vi 0)], (by kernel_rfl), ?_⟩
         exact .inr (.inr (.inr (.inl ⟨⟨by omega, by omega, by omega⟩, ⟨by omega, by omega, by omega⟩, n, k124, hn1, hn2, hn3, hn9, hpl, rfl, (On.pick [0, 12, 13, 14, 15, 16, 5, 6, 10, 7, 8, 17] [1, 2, 3, 4, 9, 11] (by kernel_rfl) hs129)⟩)))
        ·
         exfalso; omega
        ·
         exfalso; omega
       ·
        have hn9 := half_len hn1 hn2
        refine rSq [(0, .y (.agg [rft k71 v0, rft k77 v1, rft k83 v2]), H87), (1, .y (.agg [vi r0, vi r1, vi r2]), H87), (2, .tup [.one (vi 1), .one (vi n), .one (vi 0)], H87)] [(0, yp c), (1, yp d), (6, xi 1), (8, xi 0), (11, yp n68), (13, xi n)] H87
          (cast (Jai (Ja (t := 23) (off := 0) (v := .agg [rft k71 v0, rft k77 v1, rft k83 v2]) (On.at hs88 7 rfl) (by kernel_rfl)) (Jai (Ja (t := 24) (off := 0) (v := .agg [vi r0, vi r1, vi r2]) (On.at hs88 1 rfl) (by kernel_rfl)) (JZ (Jr (H := H87) (g := 11) (vals := [.y (.agg [rft k71 v0, rft k77 v1, rft k83 v2]), .y (.agg [vi r0, vi r1, vi r2])]) (xs0 := [.agg [rft k71 v0, rft k77 v1, rft k83 v2], .agg [vi r0, vi r1, vi r2]]) (xs1 := [.agg [sv EN true false true v0, sv EN true false true v1, sv EN true false true v2], .agg [vi r0, vi r1, vi r2]]) (res := [.one (vi 1), .one (vi n), .one (vi 0)]) (ats := #[]) (ty := 0) (v := .tup [.one (vi 1), .one (vi n), .one (vi 0)]) [.tmp 0, .tmp 1] (by kernel_rfl) (by kernel_rfl) (snap_cons (snap_agg (mapM_cons' (snapC_rowO (H := H87) (s := EN) (id := k71) (d := 0) (o := 0) (n := v0.length) (capd := true) (l := v0) (m := v0) (On.at hs88 8 rfl) (by first | rfl | omega | simp <;> omega) (dt0 rfl (Nat.le_refl _))) (mapM_cons' (snapC_rowO (H := H87) (s := EN) (id := k77) (d := 0) (o := 0) (n := v1.length) (capd := true) (l := v1) (m := v1) (On.at hs88 9 rfl) (by first | rfl | omega | simp <;> omega) (dt0 rfl (Nat.le_refl _))) (mapM_cons' (snapC_rowO (H := H87) (s := EN) (id := k83) (d := 0) (o := 0) (n := v2.length) (capd := true) (l := v2) (m := v2) (On.at hs88 15 rfl) (by first | rfl | omega | simp <;> omega) (dt0 rfl (Nat.le_refl _))) mapM_nil')))) (snap_cons (by kernel_rfl) (snap_nil))) (by have := (fn11 true false true true false true true false true v0 v1 v2 r0 r1 r2 (by omega) (by omega) (by omega)); rw [hpl] at this; exact this) (by kernel_rfl))))) (by kernel_rfl)) (by kernel_rfl) ?_
        refine wS ?_
        refine rS0 [(0, yp c), (1, yp d), (6, xi 1), (8, xi 0), (11, yp n68), (13, xi n), (54, xb false)] (by kernel_rfl) ?_
        refine wFk ?_
        refine wS ?_
        have hlfz134 : ((v1.drop ((v1.length : Int) - n).toNat).length : Int) = n := by { first | rfl | omega | simp <;> omega }
        have hlfz140 : ((v1.take ((v1.length : Int) - n).toNat).length : Int) = ((v1.length : Int) - n) := by { first | rfl | omega | simp <;> omega }
        obtain ⟨_, H147, hr148, k144, rfl, hs149⟩ := cut_ok _ (H87 : HH) (On.call [13] [0, 1, 2, 3, 4, 5, 6, 7, 8, 9, 10, 11, 12, 14, 15] (by kernel_rfl) hs88) (q := w1) (room := 64) (l := v1) (i := n) (by omega) (by first | rfl | omega | simp <;> omega)
        have hs149 : On [R, pts n1 (.obj [vi r0, vi r1, vi r2]), pts c (.obj [rff ks S, vi hand, .ptr q0 0, .ptr q1 0, .ptr q2 0]), pts ks (rowO NI true 0 S), ringP EN q0 64 t0, ringP EN q1 64 t1, ringP EN q2 64 t2, pts n68 (.obj [rft k71 v0, rft k77 v1, rft k83 v2]), pts k71 (rowO EN true 0 v0), pts k77 (rowO EN true 0 v1), pts d (.obj [rff kv S2, vi hand2, .ptr w0 0, .ptr w1 0, .ptr w2 0]), pts kv (rowO NI true 0 S2), ringP EN w0 64 v0, ringP EN w2 64 v2, pts k83 (rowO EN true 0 v2), ringP EN w1 64 (v1.take ((v1.length : Int) - n).toNat), pts k144 (rowO EN true 0 (v1.drop ((v1.length : Int) - n).toNat))] H147 := On.flat hs149
        have hcall150 : Runs pg an 27 [.one (.ptr d 0), .one (vi 1), .one (vi n)] H87 [.one (rowC k144 0 (v1.drop ((v1.length : Int) - n).toNat).length 0 ((v1.drop ((v1.length : Int) - n).toNat).length) true), .one (vi 0)] H147 := by
         refine runs_of ?_
         refine Runs.of (fn := Try.f27) Try.func27 rfl (by kernel_rfl) [(0, yp d), (1, xi 1), (2, xi n)] (by kernel_rfl) ?_
         refine rS0 [(0, yp d), (1, xi 1), (2, xi n)] (by kernel_rfl) ?_
         refine wS ?_
         have hcall151 : Runs pg an 33 [.one (.ptr d 0)] H87 [.one (vb true)] H87 := by
          refine runs_of ?_
          refine Runs.of (fn := Try.f33) Try.func33 rfl (by kernel_rfl) [(0, yp d)] (by kernel_rfl) ?_
          refine rS0 [(0, yp d)] (by kernel_rfl) ?_
          refine rSq [(6, .y (.one (rff kv S2)), H87), (7, xi (S2.length : Int), H87), (8, xb true, H87)] [(2, xb true)] H87
            (cast (Jai (Ja (t := 36) (off := 0) (v := .one (rff kv S2)) (On.at hs88 10 rfl) (by kernel_rfl)) (Jai (Jm (H := H87) (s := NI) (t := 36) (ty := 0) (pu := true) (capd := false) (id := kv) (d := 0) (o := 0) (n := S2.length) (l := S2) (e := (S2.length : Int)) (On.at hs88 11 rfl) (by kernel_rfl) (by first | rfl | omega | simp <;> omega)) (JZ (Jd (H := H87) (t := 3) (u := 3) (a := (S2.length : Int)) (b := 0) (by omega))))) (by kernel_rfl)) (by kernel_rfl) ?_
          refine wE ?_
          exact ⟨Or.inr rfl, [.one (vb true)], (by kernel_rfl), ⟨rfl, rfl⟩⟩
         have hcall152 : Runs pg an 34 [.one (vi 1)] H87 [.one (vb true)] H87 := by
          refine runs_of ?_
          refine Runs.of (fn := Try.f34) Try.func34 rfl (by kernel_rfl) [(0, xi 1)] (by kernel_rfl) ?_
          refine rS0 [(0, xi 1)] (by kernel_rfl) ?_
          refine rS0 [(2, xb true)] (by kernel_rfl) ?_
          refine wE ?_
          exact ⟨Or.inr rfl, [.one (vb true)], (by kernel_rfl), ⟨rfl, rfl⟩⟩
         refine rSq [(1, xb true, H87), (5, xb true, H87)] [(0, yp d), (1, xi 1), (2, xi n), (15, xb false)] H87
           (cast (Jai (Jb hcall151 (by kernel_rfl)) (JZ (Jb hcall152 (by kernel_rfl)))) (by kernel_rfl)) (by kernel_rfl) ?_
         refine wFk ?_
         refine rSq [(6, yp w1, H87), (8, .tup [.one (rowC k144 0 (v1.drop ((v1.length : Int) - n).toNat).length 0 ((v1.drop ((v1.length : Int) - n).toNat).length) true), .one (vi 0)], H147)] [(6, .y (.one (rowC k144 0 (v1.drop ((v1.length : Int) - n).toNat).length 0 ((v1.drop ((v1.length : Int) - n).toNat).length) true))), (7, xi 0)] H147
           (cast (Jai (Ja (t := 50) (off := 3) (v := .one (.ptr w1 0)) (On.at hs88 10 rfl) (by kernel_rfl)) (JZ (Jn hr148 (by kernel_rfl)))) (by kernel_rfl)) (by kernel_rfl) ?_
         refine wE ?_
         exact ⟨Or.inr rfl, [.one (rowC k144 0 (v1.drop ((v1.length : Int) - n).toNat).length 0 ((v1.drop ((v1.length : Int) - n).toNat).length) true), .one (vi 0)], (by kernel_rfl), ⟨rfl, rfl⟩⟩
        refine rSq [(3, .tup [.one (rowC k144 0 (v1.drop ((v1.length : Int) - n).toNat).length 0 ((v1.drop ((v1.length : Int) - n).toNat).length) true), .one (vi 0)], H147)] [(0, yp c), (1, yp d), (6, xi 1), (7, .y (.one (rowC k144 0 (v1.drop ((v1.length : Int) - n).toNat).length 0 ((v1.drop ((v1.length : Int) - n).toNat).length) true))), (8, xi 0), (11, yp n68)] H147
          (cast (JZ (Js hcall150 (by kernel_rfl))) (by kernel_rfl)) (by kernel_rfl) ?_
        refine wG hs149 ?_
        intro H153 hs154
        refine rS0 [(0, yp c), (1, yp d), (6, xi 1), (7, .y (.one (rowC k144 0 (v1.drop ((v1.length : Int) - n).toNat).length 0 ((v1.drop ((v1.length : Int) - n).toNat).length) true))), (8, xi 0), (11, yp n68), (64, xb false)] (by kernel_rfl) ?_
        refine wFk ?_
        refine wS ?_
        obtain ⟨_, H159, hr160, ⟨hz155, rfl, hs161⟩ | ⟨hz155, rfl, hs161⟩ | ⟨hz155, rfl, hs161⟩⟩ := join_e _ (H153 : HH) (On.call [2, 3, 4, 5, 6, 16] [0, 1, 7, 8, 9, 10, 11, 12, 13, 14, 15] (by kernel_rfl) hs154) (c := c) (ks := ks) (q0 := q0) (q1 := q1) (q2 := q2) (S := S) (hand := hand) (l0 := t0) (l1 := t1) (l2 := t2) (kk := 1) (k := k144) (d := 0) (o := 0) (cp := true) (L := (v1.drop ((v1.length : Int) - n).toNat)) (m := (v1.drop ((v1.length : Int) - n).toNat)) (by omega) (by omega) (by first | rfl | omega | simp <;> omega) (by first | rfl | omega | simp <;> omega) (by first | rfl | omega | simp <;> omega) (by first | rfl | omega | simp <;> omega) (dt0 rfl (Nat.le_refl _)) (by omega) (by omega) (by omega) (nd_drop (ndv1 hvok) _) (by omega) (by omega) (by omega) (by omega)
        ·
         exfalso; omega
        ·
         have hs162 : On [R, pts n1 (.obj [vi r0, vi r1, vi r2]), pts n68 (.obj [rft k71 v0, rft k77 v1, rft k83 v2]), pts k71 (rowO EN true 0 v0), pts k77 (rowO EN true 0 v1), pts d (.obj [rff kv S2, vi hand2, .ptr w0 0, .ptr w1 0, .ptr w2 0]), pts kv (rowO NI true 0 S2), ringP EN w0 64 v0, ringP EN w2 64 v2, pts k83 (rowO EN true 0 v2), ringP EN w1 64 (v1.take ((v1.length : Int) - n).toNat), pts c (.obj [rff ks S, vi hand, .ptr q0 0, .ptr q1 0, .ptr q2 0]), pts ks (rowO NI true 0 S), ringP EN q0 64 t0, ringP EN q1 64 (t1 ++ pin (v1.drop ((v1.length : Int) - n).toNat)), ringP EN q2 64 t2, pts k144 (rowO EN true 0 (v1.drop ((v1.length : Int) - n).toNat))] H159 := On.flat hs161
         have hl157 : ((t1 ++ pin (v1.drop ((v1.length : Int) - n).toNat)).length : Int) = t1.length + (v1.drop ((v1.length : Int) - n).toNat).length := by simp
         refine rSq [(3, xi 0, H159)] [(0, yp c), (1, yp d), (6, xi 1), (8, xi 0), (11, yp n68)] H159
           (cast (JZ (Js hr160 (by kernel_rfl))) (by kernel_rfl)) (by kernel_rfl) ?_
         refine wG hs162 ?_
         intro H163 hs164
         refine rS0 [(0, yp c), (1, yp d), (6, xi 1), (8, xi 0), (11, yp n68), (71, xb false)] (by kernel_rfl) ?_
         refine wFk ?_
         obtain ⟨_, H166, hr167, k165, rfl, hs168⟩ := queue_1 _ (H163 : HH) (On.call [11, 12, 13, 14, 15] [0, 1, 2, 3, 4, 5, 6, 7, 8, 9, 10, 16] (by kernel_rfl) hs164) (c := c) (ks := ks) (q0 := q0) (q1 := q1) (q2 := q2) (S := S) (hand := hand) (l0 := t0) (l1 := (t1 ++ pin (v1.drop ((v1.length : Int) - n).toNat))) (l2 := t2) (by omega) (by omega) (by first | rfl | omega | simp <;> omega) (by first | rfl | omega | simp <;> omega) (by first | rfl | omega | simp <;> omega)
         have hs168 : On [R, pts n1 (.obj [vi r0, vi r1, vi r2]), pts n68 (.obj [rft k71 v0, rft k77 v1, rft k83 v2]), pts k71 (rowO EN true 0 v0), pts k77 (rowO EN true 0 v1), pts d (.obj [rff kv S2, vi hand2, .ptr w0 0, .ptr w1 0, .ptr w2 0]), pts kv (rowO NI true 0 S2), ringP EN w0 64 v0, ringP EN w2 64 v2, pts k83 (rowO EN true 0 v2), ringP EN w1 64 (v1.take ((v1.length : Int) - n).toNat), pts k144 (rowO EN true 0 (v1.drop ((v1.length : Int) - n).toNat)), pts c (.obj [rff ks S, vi hand, .ptr q0 0, .ptr q1 0, .ptr q2 0]), pts ks (rowO NI true 0 S), ringP EN q0 64 t0, ringP EN q1 64 (t1 ++ pin (v1.drop ((v1.length : Int) - n).toNat)), ringP EN q2 64 t2, pts k165 (rowO EN true 0 (t1 ++ pin (v1.drop ((v1.length : Int) - n).toNat)))] H166 := On.flat hs168
         refine rSq [(3, .y (.one (rowC k165 0 (t1 ++ pin (v1.drop ((v1.length : Int) - n).toNat)).length 0 ((t1 ++ pin (v1.drop ((v1.length : Int) - n).toNat)).length) true)), H166)] [(6, xi 1), (7, .y (.one (rowC k165 0 (t1 ++ pin (v1.drop ((v1.length : Int) - n).toNat)).length 0 ((t1 ++ pin (v1.drop ((v1.length : Int) - n).toNat)).length) true))), (8, xi 0)] H166
           (cast (JZ (Jn hr167 (by kernel_rfl))) (by kernel_rfl)) (by kernel_rfl) ?_
         refine wG hs168 ?_
         intro H169 hs170
         refine wE ?_
         refine ⟨Or.inr rfl, [.one (vi 1), .one (rowC k165 0 (t1 ++ pin (v1.drop ((v1.length : Int) - n).toNat)).length 0 ((t1 ++ pin (v1.drop ((v1.length : Int) - n).toNat)).length) true), .one (vi 0)], (by kernel_rfl), ?_⟩
         exact .inr (.inr (.inr (.inr (.inl ⟨⟨by omega, by omega, by omega⟩, ⟨by omega, by omega, by omega⟩, n, k165, hn1, hn2, hn3, hn9, hpl, rfl, (On.pick [0, 12, 13, 14, 15, 16, 5, 6, 7, 10, 8, 17] [1, 2, 3, 4, 9, 11] (by kernel_rfl) hs170)⟩))))
        ·
         exfalso; omega
       ·
        have hn9 := half_len hn1 hn2
        refine rSq [(0, .y (.agg [rft k71 v0, rft k77 v1, rft k83 v2]), H87), (1, .y (.agg [vi r0, vi r1, vi r2]), H87), (2, .tup [.one (vi 2), .one (vi n), .one (vi 0)], H87)] [(0, yp c), (1, yp d), (6, xi 2), (8, xi 0), (11, yp n68), (13, xi n)] H87
          (cast (Jai (Ja (t := 23) (off := 0) (v := .agg [rft k71 v0, rft k77 v1, rft k83 v2]) (On.at hs88 7 rfl) (by kernel_rfl)) (Jai (Ja (t := 24) (off := 0) (v := .agg [vi r0, vi r1, vi r2]) (On.at hs88 1 rfl) (by kernel_rfl)) (JZ (Jr (H := H87) (g := 11) (vals := [.y (.agg [rft k71 v0, rft k77 v1, rft k83 v2]), .y (.agg [vi r0, vi r1, vi r2])]) (xs0 := [.agg [rft k71 v0, rft k77 v1, rft k83 v2], .agg [vi r0, vi r1, vi r2]]) (xs1 := [.agg [sv EN true false true v0, sv EN true false true v1, sv EN true false true v2], .agg [vi r0, vi r1, vi r2]]) (res := [.one (vi 2), .one (vi n), .one (vi 0)]) (ats := #[]) (ty := 0) (v := .tup [.one (vi 2), .one (vi n), .one (vi 0)]) [.tmp 0, .tmp 1] (by kernel_rfl) (by kernel_rfl) (snap_cons (snap_agg (mapM_cons' (snapC_rowO (H := H87) (s := EN) (id := k71) (d := 0) (o := 0) (n := v0.length) (capd := true) (l := v0) (m := v0) (On.at hs88 8 rfl) (by first | rfl | omega | simp <;> omega) (dt0 rfl (Nat.le_refl _))) (mapM_cons' (snapC_rowO (H := H87) (s := EN) (id := k77) (d := 0) (o := 0) (n := v1.length) (capd := true) (l := v1) (m := v1) (On.at hs88 9 rfl) (by first | rfl | omega | simp <;> omega) (dt0 rfl (Nat.le_refl _))) (mapM_cons' (snapC_rowO (H := H87) (s := EN) (id := k83) (d := 0) (o := 0) (n := v2.length) (capd := true) (l := v2) (m := v2) (On.at hs88 15 rfl) (by first | rfl | omega | simp <;> omega) (dt0 rfl (Nat.le_refl _))) mapM_nil')))) (snap_cons (by kernel_rfl) (snap_nil))) (by have := (fn11 true false true true false true true false true v0 v1 v2 r0 r1 r2 (by omega) (by omega) (by omega)); rw [hpl] at this; exact this) (by kernel_rfl))))) (by kernel_rfl)) (by kernel_rfl) ?_
        refine wS ?_
        refine rS0 [(0, yp c), (1, yp d), (6, xi 2), (8, xi 0), (11, yp n68), (13, xi n), (54, xb false)] (by kernel_rfl) ?_
        refine wFk ?_
        refine wS ?_
        have hlfz175 : ((v2.drop ((v2.length : Int) - n).toNat).length : Int) = n := by { first | rfl | omega | simp <;> omega }
        have hlfz181 : ((v2.take ((v2.length : Int) - n).toNat).length : Int) = ((v2.length : Int) - n) := by { first | rfl | omega | simp <;> omega }
        obtain ⟨_, H188, hr189, k185, rfl, hs190⟩ := cut_ok _ (H87 : HH) (On.call [14] [0, 1, 2, 3, 4, 5, 6, 7, 8, 9, 10, 11, 12, 13, 15] (by kernel_rfl) hs88) (q := w2) (room := 64) (l := v2) (i := n) (by omega) (by first | rfl | omega | simp <;> omega)
        have hs190 : On [R, pts n1 (.obj [vi r0, vi r1, vi r2]), pts c (.obj [rff ks S, vi hand, .ptr q0 0, .ptr q1 0, .ptr q2 0]), pts ks (rowO NI true 0 S), ringP EN q0 64 t0, ringP EN q1 64 t1, ringP EN q2 64 t2, pts n68 (.obj [rft k71 v0, rft k77 v1, rft k83 v2]), pts k71 (rowO EN true 0 v0), pts k77 (rowO EN true 0 v1), pts d (.obj [rff kv S2, vi hand2, .ptr w0 0, .ptr w1 0, .ptr w2 0]), pts kv (rowO NI true 0 S2), ringP EN w0 64 v0, ringP EN w1 64 v1, pts k83 (rowO EN true 0 v2), ringP EN w2 64 (v2.take ((v2.length : Int) - n).toNat), pts k185 (rowO EN true 0 (v2.drop ((v2.length : Int) - n).toNat))] H188 := On.flat hs190
        have hcall191 : Runs pg an 27 [.one (.ptr d 0), .one (vi 2), .one (vi n)] H87 [.one (rowC k185 0 (v2.drop ((v2.length : Int) - n).toNat).length 0 ((v2.drop ((v2.length : Int) - n).toNat).length) true), .one (vi 0)] H188 := by
         refine runs_of ?_
         refine Runs.of (fn := Try.f27) Try.func27 rfl (by kernel_rfl) [(0, yp d), (1, xi 2), (2, xi n)] (by kernel_rfl) ?_
         refine rS0 [(0, yp d), (1, xi 2), (2, xi n)] (by kernel_rfl) ?_
         refine wS ?_
         have hcall192 : Runs pg an 33 [.one (.ptr d 0)] H87 [.one (vb true)] H87 := by
          refine runs_of ?_
          refine Runs.of (fn := Try.f33) Try.func33 rfl (by kernel_rfl) [(0, yp d)] (by kernel_rfl) ?_
          refine rS0 [(0, yp d)] (by kernel_rfl) ?_
          refine rSq [(6, .y (.one (rff kv S2)), H87), (7, xi (S2.length : Int), H87), (8, xb true, H87)] [(2, xb true)] H87
            (cast (Jai (Ja (t := 36) (off := 0) (v := .one (rff kv S2)) (On.at hs88 10 rfl) (by kernel_rfl)) (Jai (Jm (H := H87) (s := NI) (t := 36) (ty := 0) (pu := true) (capd := false) (id := kv) (d := 0) (o := 0) (n := S2.length) (l := S2) (e := (S2.length : Int)) (On.at hs88 11 rfl) (by kernel_rfl) (by first | rfl | omega | simp <;> omega)) (JZ (Jd (H := H87) (t := 3) (u := 3) (a := (S2.length : Int)) (b := 0) (by omega))))) (by kernel_rfl)) (by kernel_rfl) ?_
          refine wE ?_
          exact ⟨Or.inr rfl, [.one (vb true)], (by kernel_rfl), ⟨rfl, rfl⟩⟩
         have hcall193 : Runs pg an 34 [.one (vi 2)] H87 [.one (vb true)] H87 := by
          refine runs_of ?_
          refine Runs.of (fn := Try.f34) Try.func34 rfl (by kernel_rfl) [(0, xi 2)] (by kernel_rfl) ?_
          refine rS0 [(0, xi 2)] (by kernel_rfl) ?_
          refine rS0 [(2, xb true)] (by kernel_rfl) ?_
          refine wE ?_
          exact ⟨Or.inr rfl, [.one (vb true)], (by kernel_rfl), ⟨rfl, rfl⟩⟩
         refine rSq [(1, xb true, H87), (5, xb true, H87)] [(0, yp d), (1, xi 2), (2, xi n), (15, xb false)] H87
           (cast (Jai (Jb hcall192 (by kernel_rfl)) (JZ (Jb hcall193 (by kernel_rfl)))) (by kernel_rfl)) (by kernel_rfl) ?_
         refine wFk ?_
         refine rSq [(6, yp w2, H87), (8, .tup [.one (rowC k185 0 (v2.drop ((v2.length : Int) - n).toNat).length 0 ((v2.drop ((v2.length : Int) - n).toNat).length) true), .one (vi 0)], H188)] [(6, .y (.one (rowC k185 0 (v2.drop ((v2.length : Int) - n).toNat).length 0 ((v2.drop ((v2.length : Int) - n).toNat).length) true))), (7, xi 0)] H188
           (cast (Jai (Ja (t := 50) (off := 4) (v := .one (.ptr w2 0)) (On.at hs88 10 rfl) (by kernel_rfl)) (JZ (Jn hr189 (by kernel_rfl)))) (by kernel_rfl)) (by kernel_rfl) ?_
         refine wE ?_
         exact ⟨Or.inr rfl, [.one (rowC k185 0 (v2.drop ((v2.length : Int) - n).toNat).length 0 ((v2.drop ((v2.length : Int) - n).toNat).length) true), .one (vi 0)], (by kernel_rfl), ⟨rfl, rfl⟩⟩
        refine rSq [(3, .tup [.one (rowC k185 0 (v2.drop ((v2.length : Int) - n).toNat).length 0 ((v2.drop ((v2.length : Int) - n).toNat).length) true), .one (vi 0)], H188)] [(0, yp c), (1, yp d), (6, xi 2), (7, .y (.one (rowC k185 0 (v2.drop ((v2.length : Int) - n).toNat).length 0 ((v2.drop ((v2.length : Int) - n).toNat).length) true))), (8, xi 0), (11, yp n68)] H188
          (cast (JZ (Js hcall191 (by kernel_rfl))) (by kernel_rfl)) (by kernel_rfl) ?_
        refine wG hs190 ?_
        intro H194 hs195
        refine rS0 [(0, yp c), (1, yp d), (6, xi 2), (7, .y (.one (rowC k185 0 (v2.drop ((v2.length : Int) - n).toNat).length 0 ((v2.drop ((v2.length : Int) - n).toNat).length) true))), (8, xi 0), (11, yp n68), (64, xb false)] (by kernel_rfl) ?_
        refine wFk ?_
        refine wS ?_
        obtain ⟨_, H200, hr201, ⟨hz196, rfl, hs202⟩ | ⟨hz196, rfl, hs202⟩ | ⟨hz196, rfl, hs202⟩⟩ := join_e _ (H194 : HH) (On.call [2, 3, 4, 5, 6, 16] [0, 1, 7, 8, 9, 10, 11, 12, 13, 14, 15] (by kernel_rfl) hs195) (c := c) (ks := ks) (q0 := q0) (q1 := q1) (q2 := q2) (S := S) (hand := hand) (l0 := t0) (l1 := t1) (l2 := t2) (kk := 2) (k := k185) (d := 0) (o := 0) (cp := true) (L := (v2.drop ((v2.length : Int) - n).toNat)) (m := (v2.drop ((v2.length : Int) - n).toNat)) (by omega) (by omega) (by first | rfl | omega | simp <;> omega) (by first | rfl | omega | simp <;> omega) (by first | rfl | omega | simp <;> omega) (by first | rfl | omega | simp <;> omega) (dt0 rfl (Nat.le_refl _)) (by omega) (by omega) (by omega) (nd_drop (ndv2 hvok) _) (by omega) (by omega) (by omega) (by omega)
        ·
         exfalso; omega
        ·
         exfalso; omega
        ·
         have hs203 : On [R, pts n1 (.obj [vi r0, vi r1, vi r2]), pts n68 (.obj [rft k71 v0, rft k77 v1, rft k83 v2]), pts k71 (rowO EN true 0 v0), pts k77 (rowO EN true 0 v1), pts d (.obj [rff kv S2, vi hand2, .ptr w0 0, .ptr w1 0, .ptr w2 0]), pts kv (rowO NI true 0 S2), ringP EN w0 64 v0, ringP EN w1 64 v1, pts k83 (rowO EN true 0 v2), ringP EN w2 64 (v2.take ((v2.length : Int) - n).toNat), pts c (.obj [rff ks S, vi hand, .ptr q0 0, .ptr q1 0, .ptr q2 0]), pts ks (rowO NI true 0 S), ringP EN q0 64 t0, ringP EN q1 64 t1, ringP EN q2 64 (t2 ++ pin (v2.drop ((v2.length : Int) - n).toNat)), pts k185 (rowO EN true 0 (v2.drop ((v2.length : Int) - n).toNat))] H200 := On.flat hs202
         have hl199 : ((t2 ++ pin (v2.drop ((v2.length : Int) - n).toNat)).length : Int) = t2.length + (v2.drop ((v2.length : Int) - n).toNat).length := by simp
         refine rSq [(3, xi 0, H200)] [(0, yp c), (1, yp d), (6, xi 2), (8, xi 0), (11, yp n68)] H200
           (cast (JZ (Js hr201 (by kernel_rfl))) (by kernel_rfl)) (by kernel_rfl) ?_
         refine wG hs203 ?_
         intro H204 hs205
         refine rS0 [(0, yp c), (1, yp d), (6, xi 2), (8, xi 0), (11, yp n68), (71, xb false)] (by kernel_rfl) ?_
         refine wFk ?_
         obtain ⟨_, H207, hr208, k206, rfl, hs209⟩ := queue_2 _ (H204 : HH) (On.call [11, 12, 13, 14, 15] [0, 1, 2, 3, 4, 5, 6, 7, 8, 9, 10, 16] (by kernel_rfl) hs205) (c := c) (ks := ks) (q0 := q0) (q1 := q1) (q2 := q2) (S := S) (hand := hand) (l0 := t0) (l1 := t1) (l2 := (t2 ++ pin (v2.drop ((v2.length : Int) - n).toNat))) (by omega) (by omega) (by first | rfl | omega | simp <;> omega) (by first | rfl | omega | simp <;> omega) (by first | rfl | omega | simp <;> omega)
         have hs209 : On [R, pts n1 (.obj [vi r0, vi r1, vi r2]), pts n68 (.obj [rft k71 v0, rft k77 v1, rft k83 v2]), pts k71 (rowO EN true 0 v0), pts k77 (rowO EN true 0 v1), pts d (.obj [rff kv S2, vi hand2, .ptr w0 0, .ptr w1 0, .ptr w2 0]), pts kv (rowO NI true 0 S2), ringP EN w0 64 v0, ringP EN w1 64 v1, pts k83 (rowO EN true 0 v2), ringP EN w2 64 (v2.take ((v2.length : Int) - n).toNat), pts k185 (rowO EN true 0 (v2.drop ((v2.length : Int) - n).toNat)), pts c (.obj [rff ks S, vi hand, .ptr q0 0, .ptr q1 0, .ptr q2 0]), pts ks (rowO NI true 0 S), ringP EN q0 64 t0, ringP EN q1 64 t1, ringP EN q2 64 (t2 ++ pin (v2.drop ((v2.length : Int) - n).toNat)), pts k206 (rowO EN true 0 (t2 ++ pin (v2.drop ((v2.length : Int) - n).toNat)))] H207 := On.flat hs209
         refine rSq [(3, .y (.one (rowC k206 0 (t2 ++ pin (v2.drop ((v2.length : Int) - n).toNat)).length 0 ((t2 ++ pin (v2.drop ((v2.length : Int) - n).toNat)).length) true)), H207)] [(6, xi 2), (7, .y (.one (rowC k206 0 (t2 ++ pin (v2.drop ((v2.length : Int) - n).toNat)).length 0 ((t2 ++ pin (v2.drop ((v2.length : Int) - n).toNat)).length) true))), (8, xi 0)] H207
           (cast (JZ (Jn hr208 (by kernel_rfl))) (by kernel_rfl)) (by kernel_rfl) ?_
         refine wG hs209 ?_
         intro H210 hs211
         refine wE ?_
         refine ⟨Or.inr rfl, [.one (vi 2), .one (rowC k206 0 (t2 ++ pin (v2.drop ((v2.length : Int) - n).toNat)).length 0 ((t2 ++ pin (v2.drop ((v2.length : Int) - n).toNat)).length) true), .one (vi 0)], (by kernel_rfl), ?_⟩
         exact .inr (.inr (.inr (.inr (.inr (⟨⟨by omega, by omega, by omega⟩, ⟨by omega, by omega, by omega⟩, n, k206, hn1, hn2, hn3, hn9, hpl, rfl, (On.pick [0, 12, 13, 14, 15, 16, 5, 6, 7, 8, 10, 17] [1, 2, 3, 4, 9, 11] (by kernel_rfl) hs211)⟩)))))
end Go.Proofs.Ytoidoeappihplaa
