/- Lemmas. -/
import Derived.Test.YtjdnhbnpdbpgbaaR18F
namespace Go.Proofs.Ytjdnhbnpdbpgbaa
open Go.Lg
set_option linter.unusedVariables false
set_option maxRecDepth 100000
set_option maxHeartbeats 8000000
set_option linter.unusedSimpArgs false
theorem rfind (rb rn rc w0 u0 v0 w1 u1 v1 w2 u2 v2 : Bool) (S : List Int) (hand : Int) (l0 l1 l2 : List EN.T) (p : PN.T) (b0 : (l0.length : Int) ≤ 70368744177664) (b1 : (l1.length : Int) ≤ 70368744177664) (b2 : (l2.length : Int) ≤ 70368744177664)  : ((0 ≤ posI p l0) ∧ PureC pg an 52 [.agg (gW rb rn rc w0 u0 v0 w1 u1 v1 w2 u2 v2 S hand l0 l1 l2), .agg [vi p.1, vi p.2.1]] [.one (vi 0), .one (vi (posI p l0)), .one (vi 0)]) ∨ ((posI p l0 < 0) ∧ (0 ≤ posI p l1) ∧ PureC pg an 52 [.agg (gW rb rn rc w0 u0 v0 w1 u1 v1 w2 u2 v2 S hand l0 l1 l2), .agg [vi p.1, vi p.2.1]] [.one (vi 1), .one (vi (posI p l1)), .one (vi 0)]) ∨ ((posI p l0 < 0) ∧ (posI p l1 < 0) ∧ (0 ≤ posI p l2) ∧ PureC pg an 52 [.agg (gW rb rn rc w0 u0 v0 w1 u1 v1 w2 u2 v2 S hand l0 l1 l2), .agg [vi p.1, vi p.2.1]] [.one (vi 2), .one (vi (posI p l2)), .one (vi 0)]) ∨ ((posI p l0 < 0) ∧ (posI p l1 < 0) ∧ (posI p l2 < 0) ∧ PureC pg an 52 [.agg (gW rb rn rc w0 u0 v0 w1 u1 v1 w2 u2 v2 S hand l0 l1 l2), .agg [vi p.1, vi p.2.1]] [.one (vi 0), .one (vi 0), .one (vi 3)]) := by
 suffices h : ∃ rs H', Runs pg an 52 [.agg (gW rb rn rc w0 u0 v0 w1 u1 v1 w2 u2 v2 S hand l0 l1 l2), .agg [vi p.1, vi p.2.1]] [] rs H' ∧ (((0 ≤ posI p l0) ∧ rs.mapM (backY H') = some [.one (vi 0), .one (vi (posI p l0)), .one (vi 0)]) ∨ ((posI p l0 < 0) ∧ (0 ≤ posI p l1) ∧ rs.mapM (backY H') = some [.one (vi 1), .one (vi (posI p l1)), .one (vi 0)]) ∨ ((posI p l0 < 0) ∧ (posI p l1 < 0) ∧ (0 ≤ posI p l2) ∧ rs.mapM (backY H') = some [.one (vi 2), .one (vi (posI p l2)), .one (vi 0)]) ∨ ((posI p l0 < 0) ∧ (posI p l1 < 0) ∧ (posI p l2 < 0) ∧ rs.mapM (backY H') = some [.one (vi 0), .one (vi 0), .one (vi 3)])) by
  obtain ⟨rs, H', h1, h2⟩ := h
  rcases h2 with ⟨pr0, h2⟩ | ⟨pr0, pr1, h2⟩ | ⟨pr0, pr1, pr2, h2⟩ | ⟨pr0, pr1, pr2, h2⟩
  · exact .inl (⟨pr0, rs, H', h1, h2⟩)
  · exact .inr (.inl (⟨pr0, pr1, rs, H', h1, h2⟩))
  · exact .inr (.inr (.inl (⟨pr0, pr1, pr2, rs, H', h1, h2⟩)))
  · exact .inr (.inr (.inr (⟨pr0, pr1, pr2, rs, H', h1, h2⟩)))
 refine rOF Try.func52 rfl ?_
 obtain ⟨n1, hn1⟩ := lX []
 obtain ⟨n2, hn2⟩ := lX ([] ++ [.obj (gW rb rn rc w0 u0 v0 w1 u1 v1 w2 u2 v2 S hand l0 l1 l2)])
 refine rGz [(2, yp n1), (3, yp n2)] (On.new' hn2 (.obj [vi p.1, vi p.2.1]) (On.new' hn1 (.obj (gW rb rn rc w0 u0 v0 w1 u1 v1 w2 u2 v2 S hand l0 l1 l2)) (On.nil []))) (zA 0 (qB 31 (gW rb rn rc w0 u0 v0 w1 u1 v1 w2 u2 v2 S hand l0 l1 l2) hn1) (zL 1 (qB 38 [vi p.1, vi p.2.1] hn2))) fun H3 hs4 => ?_
 refine wS ?_
 refine rs0 [(2, yp n1), (3, yp n2), (7, xi 0)] ?_
 refine wB ?_
 refine Wp.loopU [(2, yp n1), (3, yp n2), (7, xi 0)] (some ([2, 3, 7], false)) (List.length H3) (by kernel_rfl) ?_
 refine WpL.step ?_
 refine wS ?_
 refine rs0 [(2, yp n1), (3, yp n2), (7, xi 0), (10, xb true)] ?_
 refine wTk ?_
 refine wS (wB ?_)
 refine rs0 [(2, yp n1), (3, yp n2), (7, xi 0), (8, xi 0)] ?_
 refine wB ?_
 refine Wp.loop (T := HH × Int) (fun t => match t with | (H6, i0) => (((l0.length : Int) - i0).toNat : Nat)) (fun t => match t with | (H6, i0) => ([(2, yp n1), (3, yp n2), (7, xi 0), (8, xi i0)] : Env)) (fun t => match t with | (H6, i0) => (H6 : HH))
   (fun t => match t with | (H6, i0) => (On [pts n1 (.obj (gW rb rn rc w0 u0 v0 w1 u1 v1 w2 u2 v2 S hand l0 l1 l2)), pts n2 (.obj [vi p.1, vi p.2.1])] H6 ∧ (0 ≤ i0) ∧ (i0 ≤ (l0.length : Int)) ∧ (∀ y ∈ l0.take i0.toNat, eqb PN y.1 p = false) : Prop)) (H3, 0) (by kernel_rfl) (⟨(On.pick [0, 1] [] (by kernel_rfl) hs4), by omega, by omega, by simp⟩) ?_
 rintro ⟨H6, i0⟩ ⟨hs7, g1i0, g2i0, g3i0⟩
 show Wp _ _ _ _ [(2, yp n1), (3, yp n2), (7, xi 0), (8, xi i0)] H6 _
 refine wS ?_
 by_cases c8 : (i0 : Int) < (l0.length : Int)
 ·
  refine rSz [(2, yp n1), (3, yp n2), (7, xi 0), (8, xi i0), (19, xb true)] H6 (zA 4 (qL 23 2 (.one (sv EN w0 u0 v0 l0)) (On.at hs7 0 rfl)) (zL 6 (qlssT H6 i0 (l0.length : Int)))) ?_
  refine wTk ?_
  refine wS (wB ?_)
  obtain ⟨x9, hx9⟩ : ∃ x, l0[(i0 : Int).toNat]? = some x := get_of (by omega)
  rcases Bool.eq_false_or_eq_true ((eqb PN x9.1 p)) with c10 | c10
  ·
   refine rSz [(2, yp n1), (3, yp n2), (7, xi 0), (8, xi i0), (31, xb true)] H6 (zA 3 (qL 23 2 (.one (sv EN w0 u0 v0 l0)) (On.at hs7 0 rfl)) (zA 5 (Jb (H := H6) (s := EN) (b := w0) (nil := u0) (capd := v0) (t := 23) (el := 40) (i := i0) Try.underlying23 (by kernel_rfl) (by kernel_rfl) (by omega) hx9) (zA 8 (qL 38 0 (.agg [vi p.1, vi p.2.1]) (On.at hs7 1 rfl)) (zL 9 (Ji (H := H6) (s := PN) (t := 38) (u := 38) (ty := 0) (x := x9.1) (y := p) (r := true) (by kernel_rfl) c10))))) ?_
   refine wTa ?_
   refine rs0 [(4, xi 0), (5, xi i0), (6, xi 0)] ?_
   refine wE ?_
   refine ⟨Or.inr rfl, [.one (vi 0), .one (vi i0), .one (vi 0)], (by kernel_rfl), ?_⟩
   exact .inl (⟨(by have := posI_at g1i0 hx9 c10 g3i0; omega), Eq.trans (b := some [.one (vi 0), .one (vi i0), .one (vi 0)]) (by kernel_rfl) (congrArg (fun z : Int => some [Y.one (vi 0), Y.one (vi z), Y.one (vi 0)]) (Eq.symm (posI_at g1i0 hx9 c10 g3i0)))⟩)
  refine rSz [(2, yp n1), (3, yp n2), (7, xi 0), (8, xi i0), (31, xb false)] H6 (zA 3 (qL 23 2 (.one (sv EN w0 u0 v0 l0)) (On.at hs7 0 rfl)) (zA 5 (Jb (H := H6) (s := EN) (b := w0) (nil := u0) (capd := v0) (t := 23) (el := 40) (i := i0) Try.underlying23 (by kernel_rfl) (by kernel_rfl) (by omega) hx9) (zA 8 (qL 38 0 (.agg [vi p.1, vi p.2.1]) (On.at hs7 1 rfl)) (zL 9 (Ji (H := H6) (s := PN) (t := 38) (u := 38) (ty := 0) (x := x9.1) (y := p) (r := false) (by kernel_rfl) c10))))) ?_
  refine wFk ?_
  refine rRz [(2, yp n1), (3, yp n2), (7, xi 0), (8, xi (i0 + 1))] H6 (zL 1 (qoAdd H6 i0 1 (i0 + 1))) ?_
  exact ⟨(H6, (i0 + 1)), by kernel_rfl, (⟨(On.pick [0, 1] [] (by kernel_rfl) hs7), by omega, by omega, idx_step g1i0 g3i0 hx9 c10⟩), (by show (_ : Nat) < _; simp only []; omega)⟩
 refine rSz [(2, yp n1), (3, yp n2), (7, xi 0), (8, xi i0), (19, xb false)] H6 (zA 4 (qL 23 2 (.one (sv EN w0 u0 v0 l0)) (On.at hs7 0 rfl)) (zL 6 (qlssF H6 i0 (l0.length : Int)))) ?_
 refine wFa ?_
 refine wX ?_
 refine Eq.mpr (if_pos rfl) ?_
 refine rRz [(2, yp n1), (3, yp n2), (7, xi 1)] H6 zN ?_
 refine ⟨_, _, rfl, ?_⟩
 refine WpL.step ?_
 refine wS ?_
 refine rs0 [(2, yp n1), (3, yp n2), (7, xi 1), (10, xb true)] ?_
 refine wTk ?_
 refine wS (wB ?_)
 refine rs0 [(2, yp n1), (3, yp n2), (7, xi 1), (8, xi 0)] ?_
 refine wB ?_
 refine Wp.loop (T := HH × Int) (fun t => match t with | (H12, i1) => (((l1.length : Int) - i1).toNat : Nat)) (fun t => match t with | (H12, i1) => ([(2, yp n1), (3, yp n2), (7, xi 1), (8, xi i1)] : Env)) (fun t => match t with | (H12, i1) => (H12 : HH))
   (fun t => match t with | (H12, i1) => (On [pts n1 (.obj (gW rb rn rc w0 u0 v0 w1 u1 v1 w2 u2 v2 S hand l0 l1 l2)), pts n2 (.obj [vi p.1, vi p.2.1])] H12 ∧ (0 ≤ i1) ∧ (i1 ≤ (l1.length : Int)) ∧ (∀ y ∈ l1.take i1.toNat, eqb PN y.1 p = false) : Prop)) (H6, 0) (by kernel_rfl) (⟨(On.pick [0, 1] [] (by kernel_rfl) hs7), by omega, by omega, by simp⟩) ?_
 rintro ⟨H12, i1⟩ ⟨hs13, g1i1, g2i1, g3i1⟩
 show Wp _ _ _ _ [(2, yp n1), (3, yp n2), (7, xi 1), (8, xi i1)] H12 _
 refine wS ?_
 by_cases c14 : (i1 : Int) < (l1.length : Int)
 ·
  refine rSz [(2, yp n1), (3, yp n2), (7, xi 1), (8, xi i1), (19, xb true)] H12 (zA 4 (qL 23 3 (.one (sv EN w1 u1 v1 l1)) (On.at hs13 0 rfl)) (zL 6 (qlssT H12 i1 (l1.length : Int)))) ?_
  refine wTk ?_
  refine wS (wB ?_)
  obtain ⟨x15, hx15⟩ : ∃ x, l1[(i1 : Int).toNat]? = some x := get_of (by omega)
  rcases Bool.eq_false_or_eq_true ((eqb PN x15.1 p)) with c16 | c16
  ·
   refine rSz [(2, yp n1), (3, yp n2), (7, xi 1), (8, xi i1), (31, xb true)] H12 (zA 3 (qL 23 3 (.one (sv EN w1 u1 v1 l1)) (On.at hs13 0 rfl)) (zA 5 (Jb (H := H12) (s := EN) (b := w1) (nil := u1) (capd := v1) (t := 23) (el := 40) (i := i1) Try.underlying23 (by kernel_rfl) (by kernel_rfl) (by omega) hx15) (zA 8 (qL 38 0 (.agg [vi p.1, vi p.2.1]) (On.at hs13 1 rfl)) (zL 9 (Ji (H := H12) (s := PN) (t := 38) (u := 38) (ty := 0) (x := x15.1) (y := p) (r := true) (by kernel_rfl) c16))))) ?_
   refine wTa ?_
   refine rs0 [(4, xi 1), (5, xi i1), (6, xi 0)] ?_
   refine wE ?_
   refine ⟨Or.inr rfl, [.one (vi 1), .one (vi i1), .one (vi 0)], (by kernel_rfl), ?_⟩
   exact .inr (.inl (⟨(by have := posI_none (all_of_take g3i0 (by omega)); omega), (by have := posI_at g1i1 hx15 c16 g3i1; omega), Eq.trans (b := some [.one (vi 1), .one (vi i1), .one (vi 0)]) (by kernel_rfl) (congrArg (fun z : Int => some [Y.one (vi 1), Y.one (vi z), Y.one (vi 0)]) (Eq.symm (posI_at g1i1 hx15 c16 g3i1)))⟩))
  refine rSz [(2, yp n1), (3, yp n2), (7, xi 1), (8, xi i1), (31, xb false)] H12 (zA 3 (qL 23 3 (.one (sv EN w1 u1 v1 l1)) (On.at hs13 0 rfl)) (zA 5 (Jb (H := H12) (s := EN) (b := w1) (nil := u1) (capd := v1) (t := 23) (el := 40) (i := i1) Try.underlying23 (by kernel_rfl) (by kernel_rfl) (by omega) hx15) (zA 8 (qL 38 0 (.agg [vi p.1, vi p.2.1]) (On.at hs13 1 rfl)) (zL 9 (Ji (H := H12) (s := PN) (t := 38) (u := 38) (ty := 0) (x := x15.1) (y := p) (r := false) (by kernel_rfl) c16))))) ?_
  refine wFk ?_
  refine rRz [(2, yp n1), (3, yp n2), (7, xi 1), (8, xi (i1 + 1))] H12 (zL 1 (qoAdd H12 i1 1 (i1 + 1))) ?_
  exact ⟨(H12, (i1 + 1)), by kernel_rfl, (⟨(On.pick [0, 1] [] (by kernel_rfl) hs13), by omega, by omega, idx_step g1i1 g3i1 hx15 c16⟩), (by show (_ : Nat) < _; simp only []; omega)⟩
 refine rSz [(2, yp n1), (3, yp n2), (7, xi 1), (8, xi i1), (19, xb false)] H12 (zA 4 (qL 23 3 (.one (sv EN w1 u1 v1 l1)) (On.at hs13 0 rfl)) (zL 6 (qlssF H12 i1 (l1.length : Int)))) ?_
 refine wFa ?_
 refine wX ?_
 refine Eq.mpr (if_pos rfl) ?_
 refine rRz [(2, yp n1), (3, yp n2), (7, xi 2)] H12 zN ?_
 refine ⟨_, _, rfl, ?_⟩
 refine WpL.step ?_
 refine wS ?_
 refine rs0 [(2, yp n1), (3, yp n2), (7, xi 2), (10, xb true)] ?_
 refine wTk ?_
 refine wS (wB ?_)
 refine rs0 [(2, yp n1), (3, yp n2), (7, xi 2), (8, xi 0)] ?_
 refine wB ?_
 refine Wp.loop (T := HH × Int) (fun t => match t with | (H18, i2) => (((l2.length : Int) - i2).toNat : Nat)) (fun t => match t with | (H18, i2) => ([(2, yp n1), (3, yp n2), (7, xi 2), (8, xi i2)] : Env)) (fun t => match t with | (H18, i2) => (H18 : HH))
   (fun t => match t with | (H18, i2) => (On [pts n1 (.obj (gW rb rn rc w0 u0 v0 w1 u1 v1 w2 u2 v2 S hand l0 l1 l2)), pts n2 (.obj [vi p.1, vi p.2.1])] H18 ∧ (0 ≤ i2) ∧ (i2 ≤ (l2.length : Int)) ∧ (∀ y ∈ l2.take i2.toNat, eqb PN y.1 p = false) : Prop)) (H12, 0) (by kernel_rfl) (⟨(On.pick [0, 1] [] (by kernel_rfl) hs13), by omega, by omega, by simp⟩) ?_
 rintro ⟨H18, i2⟩ ⟨hs19, g1i2, g2i2, g3i2⟩
 show Wp _ _ _ _ [(2, yp n1), (3, yp n2), (7, xi 2), (8, xi i2)] H18 _
 refine wS ?_
 by_cases c20 : (i2 : Int) < (l2.length : Int)
 ·
  refine rSz [(2, yp n1), (3, yp n2), (7, xi 2), (8, xi i2), (19, xb true)] H18 (zA 4 (qL 23 4 (.one (sv EN w2 u2 v2 l2)) (On.at hs19 0 rfl)) (zL 6 (qlssT H18 i2 (l2.length : Int)))) ?_
  refine wTk ?_
  refine wS (wB ?_)
  obtain ⟨x21, hx21⟩ : ∃ x, l2[(i2 : Int).toNat]? = some x := get_of (by omega)
  rcases Bool.eq_false_or_eq_true ((eqb PN x21.1 p)) with c22 | c22
  ·
   refine rSz [(2, yp n1), (3, yp n2), (7, xi 2), (8, xi i2), (31, xb true)] H18 (zA 3 (qL 23 4 (.one (sv EN w2 u2 v2 l2)) (On.at hs19 0 rfl)) (zA 5 (Jb (H := H18) (s := EN) (b := w2) (nil := u2) (capd := v2) (t := 23) (el := 40) (i := i2) Try.underlying23 (by kernel_rfl) (by kernel_rfl) (by omega) hx21) (zA 8 (qL 38 0 (.agg [vi p.1, vi p.2.1]) (On.at hs19 1 rfl)) (zL 9 (Ji (H := H18) (s := PN) (t := 38) (u := 38) (ty := 0) (x := x21.1) (y := p) (r := true) (by kernel_rfl) c22))))) ?_
   refine wTa ?_
   refine rs0 [(4, xi 2), (5, xi i2), (6, xi 0)] ?_
   refine wE ?_
   refine ⟨Or.inr rfl, [.one (vi 2), .one (vi i2), .one (vi 0)], (by kernel_rfl), ?_⟩
   exact .inr (.inr (.inl (⟨(by have := posI_none (all_of_take g3i0 (by omega)); omega), (by have := posI_none (all_of_take g3i1 (by omega)); omega), (by have := posI_at g1i2 hx21 c22 g3i2; omega), Eq.trans (b := some [.one (vi 2), .one (vi i2), .one (vi 0)]) (by kernel_rfl) (congrArg (fun z : Int => some [Y.one (vi 2), Y.one (vi z), Y.one (vi 0)]) (Eq.symm (posI_at g1i2 hx21 c22 g3i2)))⟩)))
  refine rSz [(2, yp n1), (3, yp n2), (7, xi 2), (8, xi i2), (31, xb false)] H18 (zA 3 (qL 23 4 (.one (sv EN w2 u2 v2 l2)) (On.at hs19 0 rfl)) (zA 5 (Jb (H := H18) (s := EN) (b := w2) (nil := u2) (capd := v2) (t := 23) (el := 40) (i := i2) Try.underlying23 (by kernel_rfl) (by kernel_rfl) (by omega) hx21) (zA 8 (qL 38 0 (.agg [vi p.1, vi p.2.1]) (On.at hs19 1 rfl)) (zL 9 (Ji (H := H18) (s := PN) (t := 38) (u := 38) (ty := 0) (x := x21.1) (y := p) (r := false) (by kernel_rfl) c22))))) ?_
  refine wFk ?_
  refine rRz [(2, yp n1), (3, yp n2), (7, xi 2), (8, xi (i2 + 1))] H18 (zL 1 (qoAdd H18 i2 1 (i2 + 1))) ?_
  exact ⟨(H18, (i2 + 1)), by kernel_rfl, (⟨(On.pick [0, 1] [] (by kernel_rfl) hs19), by omega, by omega, idx_step g1i2 g3i2 hx21 c22⟩), (by show (_ : Nat) < _; simp only []; omega)⟩
 refine rSz [(2, yp n1), (3, yp n2), (7, xi 2), (8, xi i2), (19, xb false)] H18 (zA 4 (qL 23 4 (.one (sv EN w2 u2 v2 l2)) (On.at hs19 0 rfl)) (zL 6 (qlssF H18 i2 (l2.length : Int)))) ?_
 refine wFa ?_
 refine wX ?_
 refine Eq.mpr (if_pos rfl) ?_
 refine rRz [(2, yp n1), (3, yp n2), (7, xi 3)] H18 zN ?_
 refine ⟨_, _, rfl, ?_⟩
 refine WpL.step ?_
 refine wS ?_
 refine rs0 [(2, yp n1), (3, yp n2), (7, xi 3), (10, xb false)] ?_
 refine wFa ?_
 refine wX ?_
 refine Eq.mpr (if_pos rfl) ?_
 refine rs0 [(4, xi 0), (5, xi 0), (6, xi 3)] ?_
 refine wE ?_
 refine ⟨Or.inr rfl, [.one (vi 0), .one (vi 0), .one (vi 3)], (by kernel_rfl), ?_⟩
 exact .inr (.inr (.inr (⟨(by have := posI_none (all_of_take g3i0 (by omega)); omega), (by have := posI_none (all_of_take g3i1 (by omega)); omega), (by have := posI_none (all_of_take g3i2 (by omega)); omega), (by kernel_rfl)⟩)))
theorem rfind_0 (rb rn rc w0 u0 v0 w1 u1 v1 w2 u2 v2 : Bool) (S : List Int) (hand : Int) (l0 l1 l2 : List EN.T) (p : PN.T) (b0 : (l0.length : Int) ≤ 70368744177664) (b1 : (l1.length : Int) ≤ 70368744177664) (b2 : (l2.length : Int) ≤ 70368744177664) (h0 : 0 ≤ posI p l0)  : PureC pg an 52 [.agg (gW rb rn rc w0 u0 v0 w1 u1 v1 w2 u2 v2 S hand l0 l1 l2), .agg [vi p.1, vi p.2.1]] [.one (vi 0), .one (vi (posI p l0)), .one (vi 0)] := by
  rcases rfind rb rn rc w0 u0 v0 w1 u1 v1 w2 u2 v2 S hand l0 l1 l2 p b0 b1 b2 with ⟨_, e2⟩ | ⟨_, _, e2⟩ | ⟨_, _, _, e2⟩ | ⟨_, _, _, e2⟩ <;> first | (exfalso; omega) | exact e2
theorem rfind_1 (rb rn rc w0 u0 v0 w1 u1 v1 w2 u2 v2 : Bool) (S : List Int) (hand : Int) (l0 l1 l2 : List EN.T) (p : PN.T) (b0 : (l0.length : Int) ≤ 70368744177664) (b1 : (l1.length : Int) ≤ 70368744177664) (b2 : (l2.length : Int) ≤ 70368744177664) (h0 : posI p l0 < 0) (h1 : 0 ≤ posI p l1)  : PureC pg an 52 [.agg (gW rb rn rc w0 u0 v0 w1 u1 v1 w2 u2 v2 S hand l0 l1 l2), .agg [vi p.1, vi p.2.1]] [.one (vi 1), .one (vi (posI p l1)), .one (vi 0)] := by
  rcases rfind rb rn rc w0 u0 v0 w1 u1 v1 w2 u2 v2 S hand l0 l1 l2 p b0 b1 b2 with ⟨_, e2⟩ | ⟨_, _, e2⟩ | ⟨_, _, _, e2⟩ | ⟨_, _, _, e2⟩ <;> first | (exfalso; omega) | exact e2
theorem rfind_2 (rb rn rc w0 u0 v0 w1 u1 v1 w2 u2 v2 : Bool) (S : List Int) (hand : Int) (l0 l1 l2 : List EN.T) (p : PN.T) (b0 : (l0.length : Int) ≤ 70368744177664) (b1 : (l1.length : Int) ≤ 70368744177664) (b2 : (l2.length : Int) ≤ 70368744177664) (h0 : posI p l0 < 0) (h1 : posI p l1 < 0) (h2 : 0 ≤ posI p l2)  : PureC pg an 52 [.agg (gW rb rn rc w0 u0 v0 w1 u1 v1 w2 u2 v2 S hand l0 l1 l2), .agg [vi p.1, vi p.2.1]] [.one (vi 2), .one (vi (posI p l2)), .one (vi 0)] := by
  rcases rfind rb rn rc w0 u0 v0 w1 u1 v1 w2 u2 v2 S hand l0 l1 l2 p b0 b1 b2 with ⟨_, e2⟩ | ⟨_, _, e2⟩ | ⟨_, _, _, e2⟩ | ⟨_, _, _, e2⟩ <;> first | (exfalso; omega) | exact e2
theorem rfind_3 (rb rn rc w0 u0 v0 w1 u1 v1 w2 u2 v2 : Bool) (S : List Int) (hand : Int) (l0 l1 l2 : List EN.T) (p : PN.T) (b0 : (l0.length : Int) ≤ 70368744177664) (b1 : (l1.length : Int) ≤ 70368744177664) (b2 : (l2.length : Int) ≤ 70368744177664) (h0 : posI p l0 < 0) (h1 : posI p l1 < 0) (h2 : posI p l2 < 0)  : PureC pg an 52 [.agg (gW rb rn rc w0 u0 v0 w1 u1 v1 w2 u2 v2 S hand l0 l1 l2), .agg [vi p.1, vi p.2.1]] [.one (vi 0), .one (vi 0), .one (vi 3)] := by
  rcases rfind rb rn rc w0 u0 v0 w1 u1 v1 w2 u2 v2 S hand l0 l1 l2 p b0 b1 b2 with ⟨_, e2⟩ | ⟨_, _, e2⟩ | ⟨_, _, _, e2⟩ | ⟨_, _, _, e2⟩ <;> first | (exfalso; omega) | exact e2
end Go.Proofs.Ytjdnhbnpdbpgbaa
