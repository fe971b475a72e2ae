/- Lemmas. -/
import Derived.Test.YtoidoeappihplaaR19SG
namespace Go.Proofs.Ytoidoeappihplaa
open Go.Lg
set_option linter.unusedVariables false
set_option maxRecDepth 100000
set_option maxHeartbeats 8000000
set_option linter.unusedSimpArgs false
theorem rfind (rb rn rc w0 u0 v0 w1 u1 v1 w2 u2 v2 : Bool) (S : List Int) (hand : Int) (l0 l1 l2 : List EN.T) (p : PN.T) (b0 : (l0.length : Int) ≤ 70368744177664) (b1 : (l1.length : Int) ≤ 70368744177664) (b2 : (l2.length : Int) ≤ 70368744177664)  : ((0 ≤ posI p l0) ∧ PureC pg an 53 [.agg [sv NI rb rn rc S, vi hand, sv EN w0 u0 v0 l0, sv EN w1 u1 v1 l1, sv EN w2 u2 v2 l2], .agg [vi p.1, vi p.2.1]] [.one (vi 0), .one (vi (posI p l0)), .one (vi 0)]) ∨ ((posI p l0 < 0) ∧ (0 ≤ posI p l1) ∧ PureC pg an 53 [.agg [sv NI rb rn rc S, vi hand, sv EN w0 u0 v0 l0, sv EN w1 u1 v1 l1, sv EN w2 u2 v2 l2], .agg [vi p.1, vi p.2.1]] [.one (vi 1), .one (vi (posI p l1)), .one (vi 0)]) ∨ ((posI p l0 < 0) ∧ (posI p l1 < 0) ∧ (0 ≤ posI p l2) ∧ PureC pg an 53 [.agg [sv NI rb rn rc S, vi hand, sv EN w0 u0 v0 l0, sv EN w1 u1 v1 l1, sv EN w2 u2 v2 l2], .agg [vi p.1, vi p.2.1]] [.one (vi 2), .one (vi (posI p l2)), .one (vi 0)]) ∨ ((posI p l0 < 0) ∧ (posI p l1 < 0) ∧ (posI p l2 < 0) ∧ PureC pg an 53 [.agg [sv NI rb rn rc S, vi hand, sv EN w0 u0 v0 l0, sv EN w1 u1 v1 l1, sv EN w2 u2 v2 l2], .agg [vi p.1, vi p.2.1]] [.one (vi 0), .one (vi 0), .one (vi 3)]) := by
 suffices h : ∃ rs H', Runs pg an 53 [.agg [sv NI rb rn rc S, vi hand, sv EN w0 u0 v0 l0, sv EN w1 u1 v1 l1, sv EN w2 u2 v2 l2], .agg [vi p.1, vi p.2.1]] [] rs H' ∧ (((0 ≤ posI p l0) ∧ rs.mapM (backY H') = some [.one (vi 0), .one (vi (posI p l0)), .one (vi 0)]) ∨ ((posI p l0 < 0) ∧ (0 ≤ posI p l1) ∧ rs.mapM (backY H') = some [.one (vi 1), .one (vi (posI p l1)), .one (vi 0)]) ∨ ((posI p l0 < 0) ∧ (posI p l1 < 0) ∧ (0 ≤ posI p l2) ∧ rs.mapM (backY H') = some [.one (vi 2), .one (vi (posI p l2)), .one (vi 0)]) ∨ ((posI p l0 < 0) ∧ (posI p l1 < 0) ∧ (posI p l2 < 0) ∧ rs.mapM (backY H') = some [.one (vi 0), .one (vi 0), .one (vi 3)])) by
  obtain ⟨rs, H', h1, h2⟩ := h
  rcases h2 with ⟨pr0, h2⟩ | ⟨pr0, pr1, h2⟩ | ⟨pr0, pr1, pr2, h2⟩ | ⟨pr0, pr1, pr2, h2⟩
  · exact .inl (⟨pr0, rs, H', h1, h2⟩)
  · exact .inr (.inl (⟨pr0, pr1, rs, H', h1, h2⟩))
  · exact .inr (.inr (.inl (⟨pr0, pr1, pr2, rs, H', h1, h2⟩)))
  · exact .inr (.inr (.inr (⟨pr0, pr1, pr2, rs, H', h1, h2⟩)))
 refine Runs.of (fn := Try.f53) Try.func53 rfl (by kernel_rfl) [(0, .y (.agg [sv NI rb rn rc S, vi hand, sv EN w0 u0 v0 l0, sv EN w1 u1 v1 l1, sv EN w2 u2 v2 l2])), (1, .y (.agg [vi p.1, vi p.2.1]))] (by kernel_rfl) ?_
 obtain ⟨n1, hn1⟩ : ∃ n, n = List.length ([] : HH) := ⟨_, rfl⟩
 obtain ⟨n2, hn2⟩ : ∃ n, n = List.length (([] ++ [.obj [sv NI rb rn rc S, vi hand, sv EN w0 u0 v0 l0, sv EN w1 u1 v1 l1, sv EN w2 u2 v2 l2]]) : HH) := ⟨_, rfl⟩
 refine rSq [(0, yp n1, ([] ++ [.obj [sv NI rb rn rc S, vi hand, sv EN w0 u0 v0 l0, sv EN w1 u1 v1 l1, sv EN w2 u2 v2 l2]])), (1, yp n2, (([] ++ [.obj [sv NI rb rn rc S, vi hand, sv EN w0 u0 v0 l0, sv EN w1 u1 v1 l1, sv EN w2 u2 v2 l2]]) ++ [.obj [vi p.1, vi p.2.1]]))] [(2, yp n1), (3, yp n2)] (([] ++ [.obj [sv NI rb rn rc S, vi hand, sv EN w0 u0 v0 l0, sv EN w1 u1 v1 l1, sv EN w2 u2 v2 l2]]) ++ [.obj [vi p.1, vi p.2.1]])
   (cast (Jai (Ji (H := []) (t := 41) (ty := 0) (n := n1) (v := .agg [sv NI rb rn rc S, vi hand, sv EN w0 u0 v0 l0, sv EN w1 u1 v1 l1, sv EN w2 u2 v2 l2]) (cs := [sv NI rb rn rc S, vi hand, sv EN w0 u0 v0 l0, sv EN w1 u1 v1 l1, sv EN w2 u2 v2 l2]) hn1 (by kernel_rfl) (by kernel_rfl) (by kernel_rfl)) (JZ (Ji (H := ([] ++ [.obj [sv NI rb rn rc S, vi hand, sv EN w0 u0 v0 l0, sv EN w1 u1 v1 l1, sv EN w2 u2 v2 l2]])) (t := 33) (ty := 0) (n := n2) (v := .agg [vi p.1, vi p.2.1]) (cs := [vi p.1, vi p.2.1]) hn2 (by kernel_rfl) (by kernel_rfl) (by kernel_rfl)))) (by kernel_rfl)) (by kernel_rfl) ?_
 refine wG (On.new' hn2 (.obj [vi p.1, vi p.2.1]) (On.new' hn1 (.obj [sv NI rb rn rc S, vi hand, sv EN w0 u0 v0 l0, sv EN w1 u1 v1 l1, sv EN w2 u2 v2 l2]) (On.nil []))) ?_
 intro H3 hs4
 refine wS ?_
 refine rS0 [(2, yp n1), (3, yp n2), (7, xi 0)] (by kernel_rfl) ?_
 refine wB ?_
 refine Wp.loopU [(2, yp n1), (3, yp n2), (7, xi 0)] (some ([2, 3, 7], false)) (List.length H3) (by kernel_rfl) ?_
 refine WpL.step ?_
 refine wS ?_
 refine rS0 [(2, yp n1), (3, yp n2), (7, xi 0), (10, xb true)] (by kernel_rfl) ?_
 refine wTk ?_
 refine wS (wB ?_)
 refine rS0 [(2, yp n1), (3, yp n2), (7, xi 0), (8, xi 0)] (by kernel_rfl) ?_
 refine wB ?_
 refine Wp.loop (T := HH × Int) (fun t => match t with | (H6, i0) => (((l0.length : Int) - i0).toNat : Nat)) (fun t => match t with | (H6, i0) => ([(2, yp n1), (3, yp n2), (7, xi 0), (8, xi i0)] : Env)) (fun t => match t with | (H6, i0) => (H6 : HH))
   (fun t => match t with | (H6, i0) => (On [pts n1 (.obj [sv NI rb rn rc S, vi hand, sv EN w0 u0 v0 l0, sv EN w1 u1 v1 l1, sv EN w2 u2 v2 l2]), pts n2 (.obj [vi p.1, vi p.2.1])] H6 ∧ (0 ≤ i0) ∧ (i0 ≤ (l0.length : Int)) ∧ (∀ y ∈ l0.take i0.toNat, eqb PN y.1 p = false) : Prop)) (H3, 0) (by kernel_rfl) (⟨(On.pick [0, 1] [] (by kernel_rfl) hs4), by omega, by omega, by simp⟩) ?_
 rintro ⟨H6, i0⟩ ⟨hs7, g1i0, g2i0, g3i0⟩
 show Wp _ _ _ _ [(2, yp n1), (3, yp n2), (7, xi 0), (8, xi i0)] H6 _
 refine wS ?_
 by_cases c8 : (i0 : Int) < (l0.length : Int)
 ·
  refine rSq [(4, .y (.one (sv EN w0 u0 v0 l0)), H6), (6, xb true, H6)] [(2, yp n1), (3, yp n2), (7, xi 0), (8, xi i0), (19, xb true)] H6
    (cast (Jai (Ja (t := 22) (off := 2) (v := .one (sv EN w0 u0 v0 l0)) (On.at hs7 0 rfl) (by kernel_rfl)) (JZ (Jh (H := H6) (t := 3) (u := 3) (a := i0) (b := (l0.length : Int)) (by omega)))) (by kernel_rfl)) (by kernel_rfl) ?_
  refine wTk ?_
  refine wS (wB ?_)
  obtain ⟨x9, hx9⟩ : ∃ x, l0[(i0 : Int).toNat]? = some x := get_of (by omega)
  rcases Bool.eq_false_or_eq_true ((eqb PN x9.1 p)) with c10 | c10
  ·
   refine rSq [(3, .y (.one (sv EN w0 u0 v0 l0)), H6), (5, .y (.one (.rd ([vi x9.1.1, vi x9.1.2.1, vb x9.2.1] ++ (l0.drop ((i0 : Int).toNat + 1)).flatMap (enc EN)))), H6), (8, .y (.agg [vi p.1, vi p.2.1]), H6), (9, xb true, H6)] [(2, yp n1), (3, yp n2), (7, xi 0), (8, xi i0), (31, xb true)] H6
     (cast (Jai (Ja (t := 22) (off := 2) (v := .one (sv EN w0 u0 v0 l0)) (On.at hs7 0 rfl) (by kernel_rfl)) (Jai (Jf (H := H6) (s := EN) (b := w0) (nil := u0) (capd := v0) (t := 22) (el := 35) (i := i0) Try.underlying22 (by kernel_rfl) (by kernel_rfl) (by omega) hx9) (Jai (Ja (t := 33) (off := 0) (v := .agg [vi p.1, vi p.2.1]) (On.at hs7 1 rfl) (by kernel_rfl)) (JZ (Jt (H := H6) (s := PN) (t := 33) (u := 33) (ty := 0) (x := x9.1) (y := p) (r := true) (by kernel_rfl) c10))))) (by kernel_rfl)) (by kernel_rfl) ?_
   refine wTa ?_
   refine rS0 [(4, xi 0), (5, xi i0), (6, xi 0)] (by kernel_rfl) ?_
   refine wE ?_
   refine ⟨Or.inr rfl, [.one (vi 0), .one (vi i0), .one (vi 0)], (by kernel_rfl), ?_⟩
   exact .inl (⟨(by have := posI_at g1i0 hx9 c10 g3i0; omega), Eq.trans (b := some [.one (vi 0), .one (vi i0), .one (vi 0)]) (by kernel_rfl) (congrArg (fun z : Int => some [Y.one (vi 0), Y.one (vi z), Y.one (vi 0)]) (Eq.symm (posI_at g1i0 hx9 c10 g3i0)))⟩)
  ·
   refine rSq [(3, .y (.one (sv EN w0 u0 v0 l0)), H6), (5, .y (.one (.rd ([vi x9.1.1, vi x9.1.2.1, vb x9.2.1] ++ (l0.drop ((i0 : Int).toNat + 1)).flatMap (enc EN)))), H6), (8, .y (.agg [vi p.1, vi p.2.1]), H6), (9, xb false, H6)] [(2, yp n1), (3, yp n2), (7, xi 0), (8, xi i0), (31, xb false)] H6
     (cast (Jai (Ja (t := 22) (off := 2) (v := .one (sv EN w0 u0 v0 l0)) (On.at hs7 0 rfl) (by kernel_rfl)) (Jai (Jf (H := H6) (s := EN) (b := w0) (nil := u0) (capd := v0) (t := 22) (el := 35) (i := i0) Try.underlying22 (by kernel_rfl) (by kernel_rfl) (by omega) hx9) (Jai (Ja (t := 33) (off := 0) (v := .agg [vi p.1, vi p.2.1]) (On.at hs7 1 rfl) (by kernel_rfl)) (JZ (Jt (H := H6) (s := PN) (t := 33) (u := 33) (ty := 0) (x := x9.1) (y := p) (r := false) (by kernel_rfl) c10))))) (by kernel_rfl)) (by kernel_rfl) ?_
   refine wFk ?_
   refine wR [(1, xi (i0 + 1), H6)] [(2, yp n1), (3, yp n2), (7, xi 0), (8, xi (i0 + 1))] H6
     (cast (JZ (Jj (H := H6) (t := 3) (u := 3) (a := i0) (b := 1) (c := (i0 + 1)) (by omega))) (by kernel_rfl)) (by kernel_rfl) ?_
   exact ⟨(H6, (i0 + 1)), by kernel_rfl, (⟨(On.pick [0, 1] [] (by kernel_rfl) hs7), by omega, by omega, idx_step g1i0 g3i0 hx9 c10⟩), (by show (_ : Nat) < _; simp only []; omega)⟩
 ·
  refine rSq [(4, .y (.one (sv EN w0 u0 v0 l0)), H6), (6, xb false, H6)] [(2, yp n1), (3, yp n2), (7, xi 0), (8, xi i0), (19, xb false)] H6
    (cast (Jai (Ja (t := 22) (off := 2) (v := .one (sv EN w0 u0 v0 l0)) (On.at hs7 0 rfl) (by kernel_rfl)) (JZ (Je (H := H6) (t := 3) (u := 3) (a := i0) (b := (l0.length : Int)) (by omega)))) (by kernel_rfl)) (by kernel_rfl) ?_
  refine wFa ?_
  refine wX ?_
  refine Eq.mpr (if_pos rfl) ?_
  refine wR [] [(2, yp n1), (3, yp n2), (7, xi 1)] H6
    (cast trivial (by kernel_rfl)) (by kernel_rfl) ?_
  refine ⟨_, _, rfl, ?_⟩
  refine WpL.step ?_
  refine wS ?_
  refine rS0 [(2, yp n1), (3, yp n2), (7, xi 1), (10, xb true)] (by kernel_rfl) ?_
  refine wTk ?_
  refine wS (wB ?_)
  refine rS0 [(2, yp n1), (3, yp n2), (7, xi 1), (8, xi 0)] (by kernel_rfl) ?_
  refine wB ?_
  refine Wp.loop (T := HH × Int) (fun t => match t with | (H12, i1) => (((l1.length : Int) - i1).toNat : Nat)) (fun t => match t with | (H12, i1) => ([(2, yp n1), (3, yp n2), (7, xi 1), (8, xi i1)] : Env)) (fun t => match t with | (H12, i1) => (H12 : HH))
    (fun t => match t with | (H12, i1) => (On [pts n1 (.obj [sv NI rb rn rc S, vi hand, sv EN w0 u0 v0 l0, sv EN w1 u1 v1 l1, sv EN w2 u2 v2 l2]), pts n2 (.obj [vi p.1, vi p.2.1])] H12 ∧ (0 ≤ i1) ∧ (i1 ≤ (l1.length : Int)) ∧ (∀ y ∈ l1.take i1.toNat, eqb PN y.1 p = false) : Prop)) (H6, 0) (by kernel_rfl) (⟨(On.pick [0, 1] [] (by kernel_rfl) hs7), by omega, by omega, by simp⟩) ?_
  rintro ⟨H12, i1⟩ ⟨hs13, g1i1, g2i1, g3i1⟩
  show Wp _ _ _ _ [(2, yp n1), (3, yp n2), (7, xi 1), (8, xi i1)] H12 _
  refine wS ?_
  by_cases c14 : (i1 : Int) < (l1.length : Int)
  ·
   refine rSq [(4, .y (.one (sv EN w1 u1 v1 l1)), H12), (6, xb true, H12)] [(2, yp n1), (3, yp n2), (7, xi 1), (8, xi i1), (19, xb true)] H12
     (cast (Jai (Ja (t := 22) (off := 3) (v := .one (sv EN w1 u1 v1 l1)) (On.at hs13 0 rfl) (by kernel_rfl)) (JZ (Jh (H := H12) (t := 3) (u := 3) (a := i1) (b := (l1.length : Int)) (by omega)))) (by kernel_rfl)) (by kernel_rfl) ?_
   refine wTk ?_
   refine wS (wB ?_)
   obtain ⟨x15, hx15⟩ : ∃ x, l1[(i1 : Int).toNat]? = some x := get_of (by omega)
   rcases Bool.eq_false_or_eq_true ((eqb PN x15.1 p)) with c16 | c16
   ·
    refine rSq [(3, .y (.one (sv EN w1 u1 v1 l1)), H12), (5, .y (.one (.rd ([vi x15.1.1, vi x15.1.2.1, vb x15.2.1] ++ (l1.drop ((i1 : Int).toNat + 1)).flatMap (enc EN)))), H12), (8, .y (.agg [vi p.1, vi p.2.1]), H12), (9, xb true, H12)] [(2, yp n1), (3, yp n2), (7, xi 1), (8, xi i1), (31, xb true)] H12
      (cast (Jai (Ja (t := 22) (off := 3) (v := .one (sv EN w1 u1 v1 l1)) (On.at hs13 0 rfl) (by kernel_rfl)) (Jai (Jf (H := H12) (s := EN) (b := w1) (nil := u1) (capd := v1) (t := 22) (el := 35) (i := i1) Try.underlying22 (by kernel_rfl) (by kernel_rfl) (by omega) hx15) (Jai (Ja (t := 33) (off := 0) (v := .agg [vi p.1, vi p.2.1]) (On.at hs13 1 rfl) (by kernel_rfl)) (JZ (Jt (H := H12) (s := PN) (t := 33) (u := 33) (ty := 0) (x := x15.1) (y := p) (r := true) (by kernel_rfl) c16))))) (by kernel_rfl)) (by kernel_rfl) ?_
    refine wTa ?_
    refine rS0 [(4, xi 1), (5, xi i1), (6, xi 0)] (by kernel_rfl) ?_
    refine wE ?_
    refine ⟨Or.inr rfl, [.one (vi 1), .one (vi i1), .one (vi 0)], (by kernel_rfl), ?_⟩
    exact .inr (.inl (⟨(by have := posI_none (all_of_take g3i0 (by omega)); omega), (by have := posI_at g1i1 hx15 c16 g3i1; omega), Eq.trans (b := some [.one (vi 1), .one (vi i1), .one (vi 0)]) (by kernel_rfl) (congrArg (fun z : Int => some [Y.one (vi 1), Y.one (vi z), Y.one (vi 0)]) (Eq.symm (posI_at g1i1 hx15 c16 g3i1)))⟩))
   ·
    refine rSq [(3, .y (.one (sv EN w1 u1 v1 l1)), H12), (5, .y (.one (.rd ([vi x15.1.1, vi x15.1.2.1, vb x15.2.1] ++ (l1.drop ((i1 : Int).toNat + 1)).flatMap (enc EN)))), H12), (8, .y (.agg [vi p.1, vi p.2.1]), H12), (9, xb false, H12)] [(2, yp n1), (3, yp n2), (7, xi 1), (8, xi i1), (31, xb false)] H12
      (cast (Jai (Ja (t := 22) (off := 3) (v := .one (sv EN w1 u1 v1 l1)) (On.at hs13 0 rfl) (by kernel_rfl)) (Jai (Jf (H := H12) (s := EN) (b := w1) (nil := u1) (capd := v1) (t := 22) (el := 35) (i := i1) Try.underlying22 (by kernel_rfl) (by kernel_rfl) (by omega) hx15) (Jai (Ja (t := 33) (off := 0) (v := .agg [vi p.1, vi p.2.1]) (On.at hs13 1 rfl) (by kernel_rfl)) (JZ (Jt (H := H12) (s := PN) (t := 33) (u := 33) (ty := 0) (x := x15.1) (y := p) (r := false) (by kernel_rfl) c16))))) (by kernel_rfl)) (by kernel_rfl) ?_
    refine wFk ?_
    refine wR [(1, xi (i1 + 1), H12)] [(2, yp n1), (3, yp n2), (7, xi 1), (8, xi (i1 + 1))] H12
      (cast (JZ (Jj (H := H12) (t := 3) (u := 3) (a := i1) (b := 1) (c := (i1 + 1)) (by omega))) (by kernel_rfl)) (by kernel_rfl) ?_
    exact ⟨(H12, (i1 + 1)), by kernel_rfl, (⟨(On.pick [0, 1] [] (by kernel_rfl) hs13), by omega, by omega, idx_step g1i1 g3i1 hx15 c16⟩), (by show (_ : Nat) < _; simp only []; omega)⟩
  ·
   refine rSq [(4, .y (.one (sv EN w1 u1 v1 l1)), H12), (6, xb false, H12)] [(2, yp n1), (3, yp n2), (7, xi 1), (8, xi i1), (19, xb false)] H12
     (cast (Jai (Ja (t := 22) (off := 3) (v := .one (sv EN w1 u1 v1 l1)) (On.at hs13 0 rfl) (by kernel_rfl)) (JZ (Je (H := H12) (t := 3) (u := 3) (a := i1) (b := (l1.length : Int)) (by omega)))) (by kernel_rfl)) (by kernel_rfl) ?_
   refine wFa ?_
   refine wX ?_
   refine Eq.mpr (if_pos rfl) ?_
   refine wR [] [(2, yp n1), (3, yp n2), (7, xi 2)] H12
     (cast trivial (by kernel_rfl)) (by kernel_rfl) ?_
   refine ⟨_, _, rfl, ?_⟩
   refine WpL.step ?_
   refine wS ?_
   refine rS0 [(2, yp n1), (3, yp n2), (7, xi 2), (10, xb true)] (by kernel_rfl) ?_
   refine wTk ?_
   refine wS (wB ?_)
   refine rS0 [(2, yp n1), (3, yp n2), (7, xi 2), (8, xi 0)] (by kernel_rfl) ?_
   refine wB ?_
   refine Wp.loop (T := HH × Int) (fun t => match t with | (H18, i2) => (((l2.length : Int) - i2).toNat : Nat)) (fun t => match t with | (H18, i2) => ([(2, yp n1), (3, yp n2), (7, xi 2), (8, xi i2)] : Env)) (fun t => match t with | (H18, i2) => (H18 : HH))
     (fun t => match t with | (H18, i2) => (On [pts n1 (.obj [sv NI rb rn rc S, vi hand, sv EN w0 u0 v0 l0, sv EN w1 u1 v1 l1, sv EN w2 u2 v2 l2]), pts n2 (.obj [vi p.1, vi p.2.1])] H18 ∧ (0 ≤ i2) ∧ (i2 ≤ (l2.length : Int)) ∧ (∀ y ∈ l2.take i2.toNat, eqb PN y.1 p = false) : Prop)) (H12, 0) (by kernel_rfl) (⟨(On.pick [0, 1] [] (by kernel_rfl) hs13), by omega, by omega, by simp⟩) ?_
   rintro ⟨H18, i2⟩ ⟨hs19, g1i2, g2i2, g3i2⟩
   show Wp _ _ _ _ [(2, yp n1), (3, yp n2), (7, xi 2), (8, xi i2)] H18 _
   refine wS ?_
   by_cases c20 : (i2 : Int) < (l2.length : Int)
   ·
    refine rSq [(4, .y (.one (sv EN w2 u2 v2 l2)), H18), (6, xb true, H18)] [(2, yp n1), (3, yp n2), (7, xi 2), (8, xi i2), (19, xb true)] H18
      (cast (Jai (Ja (t := 22) (off := 4) (v := .one (sv EN w2 u2 v2 l2)) (On.at hs19 0 rfl) (by kernel_rfl)) (JZ (Jh (H := H18) (t := 3) (u := 3) (a := i2) (b := (l2.length : Int)) (by omega)))) (by kernel_rfl)) (by kernel_rfl) ?_
    refine wTk ?_
    refine wS (wB ?_)
    obtain ⟨x21, hx21⟩ : ∃ x, l2[(i2 : Int).toNat]? = some x := get_of (by omega)
    rcases Bool.eq_false_or_eq_true ((eqb PN x21.1 p)) with c22 | c22
    ·
     refine rSq [(3, .y (.one (sv EN w2 u2 v2 l2)), H18), (5, .y (.one (.rd ([vi x21.1.1, vi x21.1.2.1, vb x21.2.1] ++ (l2.drop ((i2 : Int).toNat + 1)).flatMap (enc EN)))), H18), (8, .y (.agg [vi p.1, vi p.2.1]), H18), (9, xb true, H18)] [(2, yp n1), (3, yp n2), (7, xi 2), (8, xi i2), (31, xb true)] H18
       (cast (Jai (Ja (t := 22) (off := 4) (v := .one (sv EN w2 u2 v2 l2)) (On.at hs19 0 rfl) (by kernel_rfl)) (Jai (Jf (H := H18) (s := EN) (b := w2) (nil := u2) (capd := v2) (t := 22) (el := 35) (i := i2) Try.underlying22 (by kernel_rfl) (by kernel_rfl) (by omega) hx21) (Jai (Ja (t := 33) (off := 0) (v := .agg [vi p.1, vi p.2.1]) (On.at hs19 1 rfl) (by kernel_rfl)) (JZ (Jt (H := H18) (s := PN) (t := 33) (u := 33) (ty := 0) (x := x21.1) (y := p) (r := true) (by kernel_rfl) c22))))) (by kernel_rfl)) (by kernel_rfl) ?_
     refine wTa ?_
     refine rS0 [(4, xi 2), (5, xi i2), (6, xi 0)] (by kernel_rfl) ?_
     refine wE ?_
     refine ⟨Or.inr rfl, [.one (vi 2), .one (vi i2), .one (vi 0)], (by kernel_rfl), ?_⟩
     exact .inr (.inr (.inl (⟨(by have := posI_none (all_of_take g3i0 (by omega)); omega), (by have := posI_none (all_of_take g3i1 (by omega)); omega), (by have := posI_at g1i2 hx21 c22 g3i2; omega), Eq.trans (b := some [.one (vi 2), .one (vi i2), .one (vi 0)]) (by kernel_rfl) (congrArg (fun z : Int => some [Y.one (vi 2), Y.one (vi z), Y.one (vi 0)]) (Eq.symm (posI_at g1i2 hx21 c22 g3i2)))⟩)))
    ·
     refine rSq [(3, .y (.one (sv EN w2 u2 v2 l2)), H18), (5, .y (.one (.rd ([vi x21.1.1, vi x21.1.2.1, vb x21.2.1] ++ (l2.drop ((i2 : Int).toNat + 1)).flatMap (enc EN)))), H18), (8, .y (.agg [vi p.1, vi p.2.1]), H18), (9, xb false, H18)] [(2, yp n1), (3, yp n2), (7, xi 2), (8, xi i2), (31, xb false)] H18
       (cast (Jai (Ja (t := 22) (off := 4) (v := .one (sv EN w2 u2 v2 l2)) (On.at hs19 0 rfl) (by kernel_rfl)) (Jai (Jf (H := H18) (s := EN) (b := w2) (nil := u2) (capd := v2) (t := 22) (el := 35) (i := i2) Try.underlying22 (by kernel_rfl) (by kernel_rfl) (by omega) hx21) (Jai (Ja (t := 33) (off := 0) (v := .agg [vi p.1, vi p.2.1]) (On.at hs19 1 rfl) (by kernel_rfl)) (JZ (Jt (H := H18) (s := PN) (t := 33) (u := 33) (ty := 0) (x := x21.1) (y := p) (r := false) (by kernel_rfl) c22))))) (by kernel_rfl)) (by kernel_rfl) ?_
     refine wFk ?_
     refine wR [(1, xi (i2 + 1), H18)] [(2, yp n1), (3, yp n2), (7, xi 2), (8, xi (i2 + 1))] H18
       (cast (JZ (Jj (H := H18) (t := 3) (u := 3) (a := i2) (b := 1) (c := (i2 + 1)) (by omega))) (by kernel_rfl)) (by kernel_rfl) ?_
     exact ⟨(H18, (i2 + 1)), by kernel_rfl, (⟨(On.pick [0, 1] [] (by kernel_rfl) hs19), by omega, by omega, idx_step g1i2 g3i2 hx21 c22⟩), (by show (_ : Nat) < _; simp only []; omega)⟩
   ·
    refine rSq [(4, .y (.one (sv EN w2 u2 v2 l2)), H18), (6, xb false, H18)] [(2, yp n1), (3, yp n2), (7, xi 2), (8, xi i2), (19, xb false)] H18
      (cast (Jai (Ja (t := 22) (off := 4) (v := .one (sv EN w2 u2 v2 l2)) (On.at hs19 0 rfl) (by kernel_rfl)) (JZ (Je (H := H18) (t := 3) (u := 3) (a := i2) (b := (l2.length : Int)) (by omega)))) (by kernel_rfl)) (by kernel_rfl) ?_
    refine wFa ?_
    refine wX ?_
    refine Eq.mpr (if_pos rfl) ?_
    refine wR [] [(2, yp n1), (3, yp n2), (7, xi 3)] H18
      (cast trivial (by kernel_rfl)) (by kernel_rfl) ?_
    refine ⟨_, _, rfl, ?_⟩
    refine WpL.step ?_
    refine wS ?_
    refine rS0 [(2, yp n1), (3, yp n2), (7, xi 3), (10, xb false)] (by kernel_rfl) ?_
    refine wFa ?_
    refine wX ?_
    refine Eq.mpr (if_pos rfl) ?_
    refine rS0 [(4, xi 0), (5, xi 0), (6, xi 3)] (by kernel_rfl) ?_
    refine wE ?_
    refine ⟨Or.inr rfl, [.one (vi 0), .one (vi 0), .one (vi 3)], (by kernel_rfl), ?_⟩
    exact .inr (.inr (.inr (⟨(by have := posI_none (all_of_take g3i0 (by omega)); omega), (by have := posI_none (all_of_take g3i1 (by omega)); omega), (by have := posI_none (all_of_take g3i2 (by omega)); omega), (by kernel_rfl)⟩)))
theorem rfind_0 (rb rn rc w0 u0 v0 w1 u1 v1 w2 u2 v2 : Bool) (S : List Int) (hand : Int) (l0 l1 l2 : List EN.T) (p : PN.T) (b0 : (l0.length : Int) ≤ 70368744177664) (b1 : (l1.length : Int) ≤ 70368744177664) (b2 : (l2.length : Int) ≤ 70368744177664) (h0 : 0 ≤ posI p l0)  : PureC pg an 53 [.agg [sv NI rb rn rc S, vi hand, sv EN w0 u0 v0 l0, sv EN w1 u1 v1 l1, sv EN w2 u2 v2 l2], .agg [vi p.1, vi p.2.1]] [.one (vi 0), .one (vi (posI p l0)), .one (vi 0)] := by
  rcases rfind rb rn rc w0 u0 v0 w1 u1 v1 w2 u2 v2 S hand l0 l1 l2 p b0 b1 b2 with ⟨_, e2⟩ | ⟨_, _, e2⟩ | ⟨_, _, _, e2⟩ | ⟨_, _, _, e2⟩ <;> first | (exfalso; omega) | exact e2
theorem rfind_1 (rb rn rc w0 u0 v0 w1 u1 v1 w2 u2 v2 : Bool) (S : List Int) (hand : Int) (l0 l1 l2 : List EN.T) (p : PN.T) (b0 : (l0.length : Int) ≤ 70368744177664) (b1 : (l1.length : Int) ≤ 70368744177664) (b2 : (l2.length : Int) ≤ 70368744177664) (h0 : posI p l0 < 0) (h1 : 0 ≤ posI p l1)  : PureC pg an 53 [.agg [sv NI rb rn rc S, vi hand, sv EN w0 u0 v0 l0, sv EN w1 u1 v1 l1, sv EN w2 u2 v2 l2], .agg [vi p.1, vi p.2.1]] [.one (vi 1), .one (vi (posI p l1)), .one (vi 0)] := by
  rcases rfind rb rn rc w0 u0 v0 w1 u1 v1 w2 u2 v2 S hand l0 l1 l2 p b0 b1 b2 with ⟨_, e2⟩ | ⟨_, _, e2⟩ | ⟨_, _, _, e2⟩ | ⟨_, _, _, e2⟩ <;> first | (exfalso; omega) | exact e2
theorem rfind_3 (rb rn rc w0 u0 v0 w1 u1 v1 w2 u2 v2 : Bool) (S : List Int) (hand : Int) (l0 l1 l2 : List EN.T) (p : PN.T) (b0 : (l0.length : Int) ≤ 70368744177664) (b1 : (l1.length : Int) ≤ 70368744177664) (b2 : (l2.length : Int) ≤ 70368744177664) (h0 : posI p l0 < 0) (h1 : posI p l1 < 0) (h2 : posI p l2 < 0)  : PureC pg an 53 [.agg [sv NI rb rn rc S, vi hand, sv EN w0 u0 v0 l0, sv EN w1 u1 v1 l1, sv EN w2 u2 v2 l2], .agg [vi p.1, vi p.2.1]] [.one (vi 0), .one (vi 0), .one (vi 3)] := by
  rcases rfind rb rn rc w0 u0 v0 w1 u1 v1 w2 u2 v2 S hand l0 l1 l2 p b0 b1 b2 with ⟨_, e2⟩ | ⟨_, _, e2⟩ | ⟨_, _, _, e2⟩ | ⟨_, _, _, e2⟩ <;> first | (exfalso; omega) | exact e2
theorem rstands_0 (rb rn rc w0 u0 v0 w1 u1 v1 w2 u2 v2 : Bool) (S : List Int) (hand : Int) (l0 l1 l2 : List EN.T) (p : PN.T) (b0 : (l0.length : Int) ≤ 70368744177664) (b1 : (l1.length : Int) ≤ 70368744177664) (b2 : (l2.length : Int) ≤ 70368744177664) (h0 : 0 ≤ posI p l0)  : PureC pg an 40 [.agg [sv NI rb rn rc S, vi hand, sv EN w0 u0 v0 l0, sv EN w1 u1 v1 l1, sv EN w2 u2 v2 l2], .agg [vi p.1, vi p.2.1]] [.one (vb true)] := by
 suffices h : ∃ rs H', Runs pg an 40 [.agg [sv NI rb rn rc S, vi hand, sv EN w0 u0 v0 l0, sv EN w1 u1 v1 l1, sv EN w2 u2 v2 l2], .agg [vi p.1, vi p.2.1]] [] rs H' ∧ rs.mapM (backY H') = some [.one (vb true)] by
  obtain ⟨rs, H', h1, h2⟩ := h
  exact ⟨rs, H', h1, h2⟩
 refine Runs.of (fn := Try.f40) Try.func40 rfl (by kernel_rfl) [(0, .y (.agg [sv NI rb rn rc S, vi hand, sv EN w0 u0 v0 l0, sv EN w1 u1 v1 l1, sv EN w2 u2 v2 l2])), (1, .y (.agg [vi p.1, vi p.2.1]))] (by kernel_rfl) ?_
 obtain ⟨n1, hn1⟩ : ∃ n, n = List.length ([] : HH) := ⟨_, rfl⟩
 obtain ⟨n2, hn2⟩ : ∃ n, n = List.length (([] ++ [.obj [sv NI rb rn rc S, vi hand, sv EN w0 u0 v0 l0, sv EN w1 u1 v1 l1, sv EN w2 u2 v2 l2]]) : HH) := ⟨_, rfl⟩
 refine rSq [(0, yp n1, ([] ++ [.obj [sv NI rb rn rc S, vi hand, sv EN w0 u0 v0 l0, sv EN w1 u1 v1 l1, sv EN w2 u2 v2 l2]])), (1, yp n2, (([] ++ [.obj [sv NI rb rn rc S, vi hand, sv EN w0 u0 v0 l0, sv EN w1 u1 v1 l1, sv EN w2 u2 v2 l2]]) ++ [.obj [vi p.1, vi p.2.1]]))] [(2, yp n1), (3, yp n2)] (([] ++ [.obj [sv NI rb rn rc S, vi hand, sv EN w0 u0 v0 l0, sv EN w1 u1 v1 l1, sv EN w2 u2 v2 l2]]) ++ [.obj [vi p.1, vi p.2.1]])
   (cast (Jai (Ji (H := []) (t := 41) (ty := 0) (n := n1) (v := .agg [sv NI rb rn rc S, vi hand, sv EN w0 u0 v0 l0, sv EN w1 u1 v1 l1, sv EN w2 u2 v2 l2]) (cs := [sv NI rb rn rc S, vi hand, sv EN w0 u0 v0 l0, sv EN w1 u1 v1 l1, sv EN w2 u2 v2 l2]) hn1 (by kernel_rfl) (by kernel_rfl) (by kernel_rfl)) (JZ (Ji (H := ([] ++ [.obj [sv NI rb rn rc S, vi hand, sv EN w0 u0 v0 l0, sv EN w1 u1 v1 l1, sv EN w2 u2 v2 l2]])) (t := 33) (ty := 0) (n := n2) (v := .agg [vi p.1, vi p.2.1]) (cs := [vi p.1, vi p.2.1]) hn2 (by kernel_rfl) (by kernel_rfl) (by kernel_rfl)))) (by kernel_rfl)) (by kernel_rfl) ?_
 refine wG (On.new' hn2 (.obj [vi p.1, vi p.2.1]) (On.new' hn1 (.obj [sv NI rb rn rc S, vi hand, sv EN w0 u0 v0 l0, sv EN w1 u1 v1 l1, sv EN w2 u2 v2 l2]) (On.nil []))) ?_
 intro H3 hs4
 have hz5 := posI_bd p l0
 have hz7 := posI_bd p l1
 have hz10 := posI_bd p l2
 refine rSq [(0, .y (.agg [sv NI rb rn rc S, vi hand, sv EN w0 u0 v0 l0, sv EN w1 u1 v1 l1, sv EN w2 u2 v2 l2]), H3), (1, .y (.agg [vi p.1, vi p.2.1]), H3), (2, .tup [.one (vi 0), .one (vi (posI p l0)), .one (vi 0)], H3)] [(7, xi 0)] H3
   (cast (Jai (Ja (t := 41) (off := 0) (v := .agg [sv NI rb rn rc S, vi hand, sv EN w0 u0 v0 l0, sv EN w1 u1 v1 l1, sv EN w2 u2 v2 l2]) (On.at hs4 0 rfl) (by kernel_rfl)) (Jai (Ja (t := 33) (off := 0) (v := .agg [vi p.1, vi p.2.1]) (On.at hs4 1 rfl) (by kernel_rfl)) (JZ (Jx (H := H3) (g := 53) (x := .agg [sv NI rb rn rc S, vi hand, sv EN w0 u0 v0 l0, sv EN w1 u1 v1 l1, sv EN w2 u2 v2 l2]) (y := .agg [vi p.1, vi p.2.1]) (res := [.one (vi 0), .one (vi (posI p l0)), .one (vi 0)]) (rfind_0 rb rn rc w0 u0 v0 w1 u1 v1 w2 u2 v2 S hand l0 l1 l2 p (by first | rfl | omega | simp <;> omega) (by first | rfl | omega | simp <;> omega) (by first | rfl | omega | simp <;> omega) (by omega)) (by kernel_rfl) (by kernel_rfl))))) (by kernel_rfl)) (by kernel_rfl) ?_
 refine rS0 [(4, xb true)] (by kernel_rfl) ?_
 refine wE ?_
 refine ⟨Or.inr rfl, [.one (vb true)], (by kernel_rfl), ?_⟩
 exact (by kernel_rfl)
theorem rstands_1 (rb rn rc w0 u0 v0 w1 u1 v1 w2 u2 v2 : Bool) (S : List Int) (hand : Int) (l0 l1 l2 : List EN.T) (p : PN.T) (b0 : (l0.length : Int) ≤ 70368744177664) (b1 : (l1.length : Int) ≤ 70368744177664) (b2 : (l2.length : Int) ≤ 70368744177664) (h0 : posI p l0 < 0) (h1 : 0 ≤ posI p l1)  : PureC pg an 40 [.agg [sv NI rb rn rc S, vi hand, sv EN w0 u0 v0 l0, sv EN w1 u1 v1 l1, sv EN w2 u2 v2 l2], .agg [vi p.1, vi p.2.1]] [.one (vb true)] := by
 suffices h : ∃ rs H', Runs pg an 40 [.agg [sv NI rb rn rc S, vi hand, sv EN w0 u0 v0 l0, sv EN w1 u1 v1 l1, sv EN w2 u2 v2 l2], .agg [vi p.1, vi p.2.1]] [] rs H' ∧ rs.mapM (backY H') = some [.one (vb true)] by
  obtain ⟨rs, H', h1, h2⟩ := h
  exact ⟨rs, H', h1, h2⟩
 refine Runs.of (fn := Try.f40) Try.func40 rfl (by kernel_rfl) [(0, .y (.agg [sv NI rb rn rc S, vi hand, sv EN w0 u0 v0 l0, sv EN w1 u1 v1 l1, sv EN w2 u2 v2 l2])), (1, .y (.agg [vi p.1, vi p.2.1]))] (by kernel_rfl) ?_
 obtain ⟨n1, hn1⟩ : ∃ n, n = List.length ([] : HH) := ⟨_, rfl⟩
 obtain ⟨n2, hn2⟩ : ∃ n, n = List.length (([] ++ [.obj [sv NI rb rn rc S, vi hand, sv EN w0 u0 v0 l0, sv EN w1 u1 v1 l1, sv EN w2 u2 v2 l2]]) : HH) := ⟨_, rfl⟩
 refine rSq [(0, yp n1, ([] ++ [.obj [sv NI rb rn rc S, vi hand, sv EN w0 u0 v0 l0, sv EN w1 u1 v1 l1, sv EN w2 u2 v2 l2]])), (1, yp n2, (([] ++ [.obj [sv NI rb rn rc S, vi hand, sv EN w0 u0 v0 l0, sv EN w1 u1 v1 l1, sv EN w2 u2 v2 l2]]) ++ [.obj [vi p.1, vi p.2.1]]))] [(2, yp n1), (3, yp n2)] (([] ++ [.obj [sv NI rb rn rc S, vi hand, sv EN w0 u0 v0 l0, sv EN w1 u1 v1 l1, sv EN w2 u2 v2 l2]]) ++ [.obj [vi p.1, vi p.2.1]])
   (cast (Jai (Ji (H := []) (t := 41) (ty := 0) (n := n1) (v := .agg [sv NI rb rn rc S, vi hand, sv EN w0 u0 v0 l0, sv EN w1 u1 v1 l1, sv EN w2 u2 v2 l2]) (cs := [sv NI rb rn rc S, vi hand, sv EN w0 u0 v0 l0, sv EN w1 u1 v1 l1, sv EN w2 u2 v2 l2]) hn1 (by kernel_rfl) (by kernel_rfl) (by kernel_rfl)) (JZ (Ji (H := ([] ++ [.obj [sv NI rb rn rc S, vi hand, sv EN w0 u0 v0 l0, sv EN w1 u1 v1 l1, sv EN w2 u2 v2 l2]])) (t := 33) (ty := 0) (n := n2) (v := .agg [vi p.1, vi p.2.1]) (cs := [vi p.1, vi p.2.1]) hn2 (by kernel_rfl) (by kernel_rfl) (by kernel_rfl)))) (by kernel_rfl)) (by kernel_rfl) ?_
 refine wG (On.new' hn2 (.obj [vi p.1, vi p.2.1]) (On.new' hn1 (.obj [sv NI rb rn rc S, vi hand, sv EN w0 u0 v0 l0, sv EN w1 u1 v1 l1, sv EN w2 u2 v2 l2]) (On.nil []))) ?_
 intro H3 hs4
 have hz5 := posI_bd p l0
 have hz7 := posI_bd p l1
 have hz10 := posI_bd p l2
 refine rSq [(0, .y (.agg [sv NI rb rn rc S, vi hand, sv EN w0 u0 v0 l0, sv EN w1 u1 v1 l1, sv EN w2 u2 v2 l2]), H3), (1, .y (.agg [vi p.1, vi p.2.1]), H3), (2, .tup [.one (vi 1), .one (vi (posI p l1)), .one (vi 0)], H3)] [(7, xi 0)] H3
   (cast (Jai (Ja (t := 41) (off := 0) (v := .agg [sv NI rb rn rc S, vi hand, sv EN w0 u0 v0 l0, sv EN w1 u1 v1 l1, sv EN w2 u2 v2 l2]) (On.at hs4 0 rfl) (by kernel_rfl)) (Jai (Ja (t := 33) (off := 0) (v := .agg [vi p.1, vi p.2.1]) (On.at hs4 1 rfl) (by kernel_rfl)) (JZ (Jx (H := H3) (g := 53) (x := .agg [sv NI rb rn rc S, vi hand, sv EN w0 u0 v0 l0, sv EN w1 u1 v1 l1, sv EN w2 u2 v2 l2]) (y := .agg [vi p.1, vi p.2.1]) (res := [.one (vi 1), .one (vi (posI p l1)), .one (vi 0)]) (rfind_1 rb rn rc w0 u0 v0 w1 u1 v1 w2 u2 v2 S hand l0 l1 l2 p (by first | rfl | omega | simp <;> omega) (by first | rfl | omega | simp <;> omega) (by first | rfl | omega | simp <;> omega) (by omega) (by omega)) (by kernel_rfl) (by kernel_rfl))))) (by kernel_rfl)) (by kernel_rfl) ?_
 refine rS0 [(4, xb true)] (by kernel_rfl) ?_
 refine wE ?_
 refine ⟨Or.inr rfl, [.one (vb true)], (by kernel_rfl), ?_⟩
 exact (by kernel_rfl)
theorem rstands_3 (rb rn rc w0 u0 v0 w1 u1 v1 w2 u2 v2 : Bool) (S : List Int) (hand : Int) (l0 l1 l2 : List EN.T) (p : PN.T) (b0 : (l0.length : Int) ≤ 70368744177664) (b1 : (l1.length : Int) ≤ 70368744177664) (b2 : (l2.length : Int) ≤ 70368744177664) (h0 : posI p l0 < 0) (h1 : posI p l1 < 0) (h2 : posI p l2 < 0)  : PureC pg an 40 [.agg [sv NI rb rn rc S, vi hand, sv EN w0 u0 v0 l0, sv EN w1 u1 v1 l1, sv EN w2 u2 v2 l2], .agg [vi p.1, vi p.2.1]] [.one (vb false)] := by
 suffices h : ∃ rs H', Runs pg an 40 [.agg [sv NI rb rn rc S, vi hand, sv EN w0 u0 v0 l0, sv EN w1 u1 v1 l1, sv EN w2 u2 v2 l2], .agg [vi p.1, vi p.2.1]] [] rs H' ∧ rs.mapM (backY H') = some [.one (vb false)] by
  obtain ⟨rs, H', h1, h2⟩ := h
  exact ⟨rs, H', h1, h2⟩
 refine Runs.of (fn := Try.f40) Try.func40 rfl (by kernel_rfl) [(0, .y (.agg [sv NI rb rn rc S, vi hand, sv EN w0 u0 v0 l0, sv EN w1 u1 v1 l1, sv EN w2 u2 v2 l2])), (1, .y (.agg [vi p.1, vi p.2.1]))] (by kernel_rfl) ?_
 obtain ⟨n1, hn1⟩ : ∃ n, n = List.length ([] : HH) := ⟨_, rfl⟩
 obtain ⟨n2, hn2⟩ : ∃ n, n = List.length (([] ++ [.obj [sv NI rb rn rc S, vi hand, sv EN w0 u0 v0 l0, sv EN w1 u1 v1 l1, sv EN w2 u2 v2 l2]]) : HH) := ⟨_, rfl⟩
 refine rSq [(0, yp n1, ([] ++ [.obj [sv NI rb rn rc S, vi hand, sv EN w0 u0 v0 l0, sv EN w1 u1 v1 l1, sv EN w2 u2 v2 l2]])), (1, yp n2, (([] ++ [.obj [sv NI rb rn rc S, vi hand, sv EN w0 u0 v0 l0, sv EN w1 u1 v1 l1, sv EN w2 u2 v2 l2]]) ++ [.obj [vi p.1, vi p.2.1]]))] [(2, yp n1), (3, yp n2)] (([] ++ [.obj [sv NI rb rn rc S, vi hand, sv EN w0 u0 v0 l0, sv EN w1 u1 v1 l1, sv EN w2 u2 v2 l2]]) ++ [.obj [vi p.1, vi p.2.1]])
   (cast (Jai (Ji (H := []) (t := 41) (ty := 0) (n := n1) (v := .agg [sv NI rb rn rc S, vi hand, sv EN w0 u0 v0 l0, sv EN w1 u1 v1 l1, sv EN w2 u2 v2 l2]) (cs := [sv NI rb rn rc S, vi hand, sv EN w0 u0 v0 l0, sv EN w1 u1 v1 l1, sv EN w2 u2 v2 l2]) hn1 (by kernel_rfl) (by kernel_rfl) (by kernel_rfl)) (JZ (Ji (H := ([] ++ [.obj [sv NI rb rn rc S, vi hand, sv EN w0 u0 v0 l0, sv EN w1 u1 v1 l1, sv EN w2 u2 v2 l2]])) (t := 33) (ty := 0) (n := n2) (v := .agg [vi p.1, vi p.2.1]) (cs := [vi p.1, vi p.2.1]) hn2 (by kernel_rfl) (by kernel_rfl) (by kernel_rfl)))) (by kernel_rfl)) (by kernel_rfl) ?_
 refine wG (On.new' hn2 (.obj [vi p.1, vi p.2.1]) (On.new' hn1 (.obj [sv NI rb rn rc S, vi hand, sv EN w0 u0 v0 l0, sv EN w1 u1 v1 l1, sv EN w2 u2 v2 l2]) (On.nil []))) ?_
 intro H3 hs4
 have hz5 := posI_bd p l0
 have hz7 := posI_bd p l1
 have hz10 := posI_bd p l2
 refine rSq [(0, .y (.agg [sv NI rb rn rc S, vi hand, sv EN w0 u0 v0 l0, sv EN w1 u1 v1 l1, sv EN w2 u2 v2 l2]), H3), (1, .y (.agg [vi p.1, vi p.2.1]), H3), (2, .tup [.one (vi 0), .one (vi 0), .one (vi 3)], H3)] [(7, xi 3)] H3
   (cast (Jai (Ja (t := 41) (off := 0) (v := .agg [sv NI rb rn rc S, vi hand, sv EN w0 u0 v0 l0, sv EN w1 u1 v1 l1, sv EN w2 u2 v2 l2]) (On.at hs4 0 rfl) (by kernel_rfl)) (Jai (Ja (t := 33) (off := 0) (v := .agg [vi p.1, vi p.2.1]) (On.at hs4 1 rfl) (by kernel_rfl)) (JZ (Jx (H := H3) (g := 53) (x := .agg [sv NI rb rn rc S, vi hand, sv EN w0 u0 v0 l0, sv EN w1 u1 v1 l1, sv EN w2 u2 v2 l2]) (y := .agg [vi p.1, vi p.2.1]) (res := [.one (vi 0), .one (vi 0), .one (vi 3)]) (rfind_3 rb rn rc w0 u0 v0 w1 u1 v1 w2 u2 v2 S hand l0 l1 l2 p (by first | rfl | omega | simp <;> omega) (by first | rfl | omega | simp <;> omega) (by first | rfl | omega | simp <;> omega) (by omega) (by omega) (by omega)) (by kernel_rfl) (by kernel_rfl))))) (by kernel_rfl)) (by kernel_rfl) ?_
 refine rS0 [(4, xb false)] (by kernel_rfl) ?_
 refine wE ?_
 refine ⟨Or.inr rfl, [.one (vb false)], (by kernel_rfl), ?_⟩
 exact (by kernel_rfl)
theorem rclass_in (k : Int) (h0 : 0 ≤ k) (h1 : k < 3)  : PureC pg an 47 [.one (vi k)] [.one (vb true)] := by
 suffices h : ∃ rs H', Runs pg an 47 [.one (vi k)] [] rs H' ∧ rs.mapM (backY H') = some [.one (vb true)] by
  obtain ⟨rs, H', h1, h2⟩ := h
  exact ⟨rs, H', h1, h2⟩
 refine Runs.of (fn := Try.f47) Try.func47 rfl (by kernel_rfl) [(0, xi k)] (by kernel_rfl) ?_
 refine rS0 [(0, xi k)] (by kernel_rfl) ?_
 refine rSq [(1, xb true, []), (4, xb true, [])] [(2, xb true)] []
   (cast (Jai (Jw (H := []) (t := 3) (u := 3) (a := k) (b := 0) (by omega)) (JZ (Jh (H := []) (t := 3) (u := 3) (a := k) (b := 3) (by omega)))) (by kernel_rfl)) (by kernel_rfl) ?_
 refine wE ?_
 refine ⟨Or.inr rfl, [.one (vb true)], (by kernel_rfl), ?_⟩
 exact (by kernel_rfl)
theorem rempty_t (rn rc u0 v0 u1 v1 u2 v2 : Bool) (S : List Int) (hand : Int) (l0 l1 l2 : List EN.T) (hS : 3 ≤ (S.length : Int)) (hT : (S.length : Int) ≤ 64) (b0 : (l0.length : Int) ≤ 64) (b1 : (l1.length : Int) ≤ 64) (b2 : (l2.length : Int) ≤ 64) (h0 : l0.length = 0) (h1 : l1.length = 0) (h2 : l2.length = 0)  : PureC pg an 30 [.agg [sv NI false rn rc S, vi hand, sv EN false u0 v0 l0, sv EN false u1 v1 l1, sv EN false u2 v2 l2]] [.one (vb true)] := by
 suffices h : ∃ rs H', Runs pg an 30 [.agg [sv NI false rn rc S, vi hand, sv EN false u0 v0 l0, sv EN false u1 v1 l1, sv EN false u2 v2 l2]] [] rs H' ∧ rs.mapM (backY H') = some [.one (vb true)] by
  obtain ⟨rs, H', h1, h2⟩ := h
  exact ⟨rs, H', h1, h2⟩
 refine Runs.of (fn := Try.f30) Try.func30 rfl (by kernel_rfl) [(0, .y (.agg [sv NI false rn rc S, vi hand, sv EN false u0 v0 l0, sv EN false u1 v1 l1, sv EN false u2 v2 l2]))] (by kernel_rfl) ?_
 obtain ⟨n1, hn1⟩ : ∃ n, n = List.length ([] : HH) := ⟨_, rfl⟩
 refine rSq [(0, yp n1, ([] ++ [.obj [sv NI false rn rc S, vi hand, sv EN false u0 v0 l0, sv EN false u1 v1 l1, sv EN false u2 v2 l2]]))] [(1, yp n1)] ([] ++ [.obj [sv NI false rn rc S, vi hand, sv EN false u0 v0 l0, sv EN false u1 v1 l1, sv EN false u2 v2 l2]])
   (cast (JZ (Ji (H := []) (t := 41) (ty := 0) (n := n1) (v := .agg [sv NI false rn rc S, vi hand, sv EN false u0 v0 l0, sv EN false u1 v1 l1, sv EN false u2 v2 l2]) (cs := [sv NI false rn rc S, vi hand, sv EN false u0 v0 l0, sv EN false u1 v1 l1, sv EN false u2 v2 l2]) hn1 (by kernel_rfl) (by kernel_rfl) (by kernel_rfl))) (by kernel_rfl)) (by kernel_rfl) ?_
 refine wG (On.new' hn1 (.obj [sv NI false rn rc S, vi hand, sv EN false u0 v0 l0, sv EN false u1 v1 l1, sv EN false u2 v2 l2]) (On.nil [])) ?_
 intro H2 hs3
 refine rSq [(2, .y (.one (sv EN false u0 v0 l0)), H2), (6, .y (.one (sv EN false u1 v1 l1)), H2), (8, xi ((l0.length : Int) + (l1.length : Int)), H2), (11, .y (.one (sv EN false u2 v2 l2)), H2), (13, xi ((l0.length : Int) + (l1.length : Int) + (l2.length : Int)), H2), (14, xb true, H2)] [(2, xb true)] H2
   (cast (Jai (Ja (t := 22) (off := 2) (v := .one (sv EN false u0 v0 l0)) (On.at hs3 0 rfl) (by kernel_rfl)) (Jai (Ja (t := 22) (off := 3) (v := .one (sv EN false u1 v1 l1)) (On.at hs3 0 rfl) (by kernel_rfl)) (Jai (Jj (H := H2) (t := 3) (u := 3) (a := (l0.length : Int)) (b := (l1.length : Int)) (c := ((l0.length : Int) + (l1.length : Int))) (by omega)) (Jai (Ja (t := 22) (off := 4) (v := .one (sv EN false u2 v2 l2)) (On.at hs3 0 rfl) (by kernel_rfl)) (Jai (Jj (H := H2) (t := 3) (u := 3) (a := ((l0.length : Int) + (l1.length : Int))) (b := (l2.length : Int)) (c := ((l0.length : Int) + (l1.length : Int) + (l2.length : Int))) (by omega)) (JZ (Jl (vals := [xi ((l0.length : Int) + (l1.length : Int) + (l2.length : Int)), xi 0]) (H := H2) (op := .binOp .eql 3 (.tmp 0) (.tmp 1) 3) (ty := 0) (r := xb ((((l0.length : Int) + (l1.length : Int) + (l2.length : Int)) : Int) == 0)) (v := xb true) (by kernel_rfl) (congrArg (fun z => xb z) (beq_t (by omega)))))))))) (by kernel_rfl)) (by kernel_rfl) ?_
 refine wE ?_
 refine ⟨Or.inr rfl, [.one (vb true)], (by kernel_rfl), ?_⟩
 exact (by kernel_rfl)
theorem rempty_f (rn rc u0 v0 u1 v1 u2 v2 : Bool) (S : List Int) (hand : Int) (l0 l1 l2 : List EN.T) (hS : 3 ≤ (S.length : Int)) (hT : (S.length : Int) ≤ 64) (b0 : (l0.length : Int) ≤ 64) (b1 : (l1.length : Int) ≤ 64) (b2 : (l2.length : Int) ≤ 64) (h0 : 0 < l0.length + l1.length + l2.length)  : PureC pg an 30 [.agg [sv NI false rn rc S, vi hand, sv EN false u0 v0 l0, sv EN false u1 v1 l1, sv EN false u2 v2 l2]] [.one (vb false)] := by
 suffices h : ∃ rs H', Runs pg an 30 [.agg [sv NI false rn rc S, vi hand, sv EN false u0 v0 l0, sv EN false u1 v1 l1, sv EN false u2 v2 l2]] [] rs H' ∧ rs.mapM (backY H') = some [.one (vb false)] by
  obtain ⟨rs, H', h1, h2⟩ := h
  exact ⟨rs, H', h1, h2⟩
 refine Runs.of (fn := Try.f30) Try.func30 rfl (by kernel_rfl) [(0, .y (.agg [sv NI false rn rc S, vi hand, sv EN false u0 v0 l0, sv EN false u1 v1 l1, sv EN false u2 v2 l2]))] (by kernel_rfl) ?_
 obtain ⟨n1, hn1⟩ : ∃ n, n = List.length ([] : HH) := ⟨_, rfl⟩
 refine rSq [(0, yp n1, ([] ++ [.obj [sv NI false rn rc S, vi hand, sv EN false u0 v0 l0, sv EN false u1 v1 l1, sv EN false u2 v2 l2]]))] [(1, yp n1)] ([] ++ [.obj [sv NI false rn rc S, vi hand, sv EN false u0 v0 l0, sv EN false u1 v1 l1, sv EN false u2 v2 l2]])
   (cast (JZ (Ji (H := []) (t := 41) (ty := 0) (n := n1) (v := .agg [sv NI false rn rc S, vi hand, sv EN false u0 v0 l0, sv EN false u1 v1 l1, sv EN false u2 v2 l2]) (cs := [sv NI false rn rc S, vi hand, sv EN false u0 v0 l0, sv EN false u1 v1 l1, sv EN false u2 v2 l2]) hn1 (by kernel_rfl) (by kernel_rfl) (by kernel_rfl))) (by kernel_rfl)) (by kernel_rfl) ?_
 refine wG (On.new' hn1 (.obj [sv NI false rn rc S, vi hand, sv EN false u0 v0 l0, sv EN false u1 v1 l1, sv EN false u2 v2 l2]) (On.nil [])) ?_
 intro H2 hs3
 refine rSq [(2, .y (.one (sv EN false u0 v0 l0)), H2), (6, .y (.one (sv EN false u1 v1 l1)), H2), (8, xi ((l0.length : Int) + (l1.length : Int)), H2), (11, .y (.one (sv EN false u2 v2 l2)), H2), (13, xi ((l0.length : Int) + (l1.length : Int) + (l2.length : Int)), H2), (14, xb false, H2)] [(2, xb false)] H2
   (cast (Jai (Ja (t := 22) (off := 2) (v := .one (sv EN false u0 v0 l0)) (On.at hs3 0 rfl) (by kernel_rfl)) (Jai (Ja (t := 22) (off := 3) (v := .one (sv EN false u1 v1 l1)) (On.at hs3 0 rfl) (by kernel_rfl)) (Jai (Jj (H := H2) (t := 3) (u := 3) (a := (l0.length : Int)) (b := (l1.length : Int)) (c := ((l0.length : Int) + (l1.length : Int))) (by omega)) (Jai (Ja (t := 22) (off := 4) (v := .one (sv EN false u2 v2 l2)) (On.at hs3 0 rfl) (by kernel_rfl)) (Jai (Jj (H := H2) (t := 3) (u := 3) (a := ((l0.length : Int) + (l1.length : Int))) (b := (l2.length : Int)) (c := ((l0.length : Int) + (l1.length : Int) + (l2.length : Int))) (by omega)) (JZ (Jl (vals := [xi ((l0.length : Int) + (l1.length : Int) + (l2.length : Int)), xi 0]) (H := H2) (op := .binOp .eql 3 (.tmp 0) (.tmp 1) 3) (ty := 0) (r := xb ((((l0.length : Int) + (l1.length : Int) + (l2.length : Int)) : Int) == 0)) (v := xb false) (by kernel_rfl) (congrArg (fun z => xb z) (beq_f (by omega)))))))))) (by kernel_rfl)) (by kernel_rfl) ?_
 refine wE ?_
 refine ⟨Or.inr rfl, [.one (vb false)], (by kernel_rfl), ?_⟩
 exact (by kernel_rfl)
end Go.Proofs.Ytoidoeappihplaa
