/- Lemmas. -/
import Derived.Test.YtoidoeappihplaaR19SH
namespace Go.Proofs.Ytoidoeappihplaa
open Go.Lg
set_option linter.unusedVariables false
set_option maxRecDepth 100000
set_option maxHeartbeats 8000000
set_option linter.unusedSimpArgs false
theorem nd_ne {m : List EN.T} {i j : Int} {x y : EN.T} (h : (pids m).Nodup) (h0 : 0 ≤ j) (h1 : j < i) (hx : m[i.toNat]? = some x) (hy : m[j.toNat]? = some y) : eqb PN y.1 x.1 = false := by
  apply eqb_ne rfl
  intro e
  obtain ⟨hi, rfl⟩ := List.getElem?_eq_some_iff.1 hx
  obtain ⟨hj, rfl⟩ := List.getElem?_eq_some_iff.1 hy
  have := List.pairwise_iff_getElem.1 h j.toNat i.toNat (by simpa using hj) (by simpa using hi) (by omega)
  simp only [List.getElem_map] at this
  exact this e
theorem take_all {α : Type} {m : List α} {i : Int} (h : (m.length : Int) ≤ i) : m.take i.toNat = m := List.take_of_length_le (by omega)
theorem pin_snoc {l q : List EN.T} {i : Int} {x : EN.T} (h0 : 0 ≤ i) (hx : q[i.toNat]? = some x) : (l ++ pin (q.take i.toNat)) ++ [(x.1, (true, ()))] = l ++ pin (q.take (i + 1).toNat) := by
  rw [List.append_assoc, pin_step h0 hx]
theorem rjoin_e (rn rc u0 v0 u1 v1 u2 v2 : Bool) (S : List Int) (hand : Int) (l0 l1 l2 : List EN.T) (kk : Int) (b nil cc : Bool) (m : List EN.T) (hS : 3 ≤ (S.length : Int)) (hT : (S.length : Int) ≤ 64) (b0 : (l0.length : Int) ≤ 64) (b1 : (l1.length : Int) ≤ 64) (b2 : (l2.length : Int) ≤ 64) (hm : (m.length : Int) ≤ 70368744177664) (hk0 : 0 ≤ kk) (hk1 : kk < 3) (hnd : (pids m).Nodup) (e0 : l0.length = 0) (e1 : l1.length = 0) (e2 : l2.length = 0) (hm64 : (m.length : Int) ≤ 64)  : ((kk = 0) ∧ ∃ nl : Bool, ∃ cp : Bool, PureC pg an 32 [.agg [sv NI false rn rc S, vi hand, sv EN false u0 v0 l0, sv EN false u1 v1 l1, sv EN false u2 v2 l2], .one (vi kk), .one (sv EN b nil cc m)] [.agg [sv NI false rn rc S, vi hand, sv EN false nl cp (l0 ++ pin m), sv EN false u1 v1 l1, sv EN false u2 v2 l2], .one (vi 0)]) ∨ ((kk = 1) ∧ ∃ nl : Bool, ∃ cp : Bool, PureC pg an 32 [.agg [sv NI false rn rc S, vi hand, sv EN false u0 v0 l0, sv EN false u1 v1 l1, sv EN false u2 v2 l2], .one (vi kk), .one (sv EN b nil cc m)] [.agg [sv NI false rn rc S, vi hand, sv EN false u0 v0 l0, sv EN false nl cp (l1 ++ pin m), sv EN false u2 v2 l2], .one (vi 0)]) ∨ ((kk = 2) ∧ ∃ nl : Bool, ∃ cp : Bool, PureC pg an 32 [.agg [sv NI false rn rc S, vi hand, sv EN false u0 v0 l0, sv EN false u1 v1 l1, sv EN false u2 v2 l2], .one (vi kk), .one (sv EN b nil cc m)] [.agg [sv NI false rn rc S, vi hand, sv EN false u0 v0 l0, sv EN false u1 v1 l1, sv EN false nl cp (l2 ++ pin m)], .one (vi 0)]) := by
 suffices h : ∃ rs H', Runs pg an 32 [.agg [sv NI false rn rc S, vi hand, sv EN false u0 v0 l0, sv EN false u1 v1 l1, sv EN false u2 v2 l2], .one (vi kk), .one (sv EN b nil cc m)] [] rs H' ∧ (((kk = 0) ∧ ∃ nl : Bool, ∃ cp : Bool, rs.mapM (backY H') = some [.agg [sv NI false rn rc S, vi hand, sv EN false nl cp (l0 ++ pin m), sv EN false u1 v1 l1, sv EN false u2 v2 l2], .one (vi 0)]) ∨ ((kk = 1) ∧ ∃ nl : Bool, ∃ cp : Bool, rs.mapM (backY H') = some [.agg [sv NI false rn rc S, vi hand, sv EN false u0 v0 l0, sv EN false nl cp (l1 ++ pin m), sv EN false u2 v2 l2], .one (vi 0)]) ∨ ((kk = 2) ∧ ∃ nl : Bool, ∃ cp : Bool, rs.mapM (backY H') = some [.agg [sv NI false rn rc S, vi hand, sv EN false u0 v0 l0, sv EN false u1 v1 l1, sv EN false nl cp (l2 ++ pin m)], .one (vi 0)])) by
  obtain ⟨rs, H', h1, h2⟩ := h
  rcases h2 with ⟨pr0, ex0, ex1, h2⟩ | ⟨pr0, ex0, ex1, h2⟩ | ⟨pr0, ex0, ex1, h2⟩
  · exact .inl (⟨pr0, ex0, ex1, rs, H', h1, h2⟩)
  · exact .inr (.inl (⟨pr0, ex0, ex1, rs, H', h1, h2⟩))
  · exact .inr (.inr (⟨pr0, ex0, ex1, rs, H', h1, h2⟩))
 refine Runs.of (fn := Try.f32) Try.func32 rfl (by kernel_rfl) [(0, .y (.agg [sv NI false rn rc S, vi hand, sv EN false u0 v0 l0, sv EN false u1 v1 l1, sv EN false u2 v2 l2])), (1, xi kk), (2, .y (.one (sv EN b nil cc m)))] (by kernel_rfl) ?_
 obtain ⟨n1, hn1⟩ : ∃ n, n = List.length ([] : HH) := ⟨_, rfl⟩
 obtain ⟨n2, hn2⟩ : ∃ n, n = List.length (([] ++ [.obj [sv NI false rn rc S, vi hand, sv EN false u0 v0 l0, sv EN false u1 v1 l1, sv EN false u2 v2 l2]]) : HH) := ⟨_, rfl⟩
 refine rSq [(0, yp n1, ([] ++ [.obj [sv NI false rn rc S, vi hand, sv EN false u0 v0 l0, sv EN false u1 v1 l1, sv EN false u2 v2 l2]])), (1, yp n2, (([] ++ [.obj [sv NI false rn rc S, vi hand, sv EN false u0 v0 l0, sv EN false u1 v1 l1, sv EN false u2 v2 l2]]) ++ [.obj [nilC, vi 0, nilC, nilC, nilC]]))] [(1, xi kk), (2, .y (.one (sv EN b nil cc m))), (3, yp n1), (6, yp n2)] (([] ++ [.obj [sv NI false rn rc S, vi hand, sv EN false u0 v0 l0, sv EN false u1 v1 l1, sv EN false u2 v2 l2]]) ++ [.obj [nilC, vi 0, nilC, nilC, nilC]])
   (cast (Jai (Ji (H := []) (t := 41) (ty := 0) (n := n1) (v := .agg [sv NI false rn rc S, vi hand, sv EN false u0 v0 l0, sv EN false u1 v1 l1, sv EN false u2 v2 l2]) (cs := [sv NI false rn rc S, vi hand, sv EN false u0 v0 l0, sv EN false u1 v1 l1, sv EN false u2 v2 l2]) hn1 (by kernel_rfl) (by kernel_rfl) (by kernel_rfl)) (JZ (Jg (H := ([] ++ [.obj [sv NI false rn rc S, vi hand, sv EN false u0 v0 l0, sv EN false u1 v1 l1, sv EN false u2 v2 l2]])) (t := 41) (ty := 0) (n := n2) (cs := [nilC, vi 0, nilC, nilC, nilC]) hn2 (by kernel_rfl)))) (by kernel_rfl)) (by kernel_rfl) ?_
 refine wG (On.new' hn2 (.obj [nilC, vi 0, nilC, nilC, nilC]) (On.new' hn1 (.obj [sv NI false rn rc S, vi hand, sv EN false u0 v0 l0, sv EN false u1 v1 l1, sv EN false u2 v2 l2]) (On.nil []))) ?_
 intro H3 hs4
 refine wS ?_
 refine rSq [(1, xb true, H3)] [(1, xi kk), (2, .y (.one (sv EN b nil cc m))), (3, yp n1), (6, yp n2), (14, xb false)] H3
   (cast (JZ (Jo (H := H3) (g := 47) (x := .one (vi kk)) (res := [.one (vb true)]) (rclass_in kk (by omega) (by omega)) (by kernel_rfl) (by kernel_rfl))) (by kernel_rfl)) (by kernel_rfl) ?_
 refine wFk ?_
 refine wS ?_
 refine rS0 [(1, xi kk), (2, .y (.one (sv EN b nil cc m))), (3, yp n1), (6, yp n2), (8, xi 0)] (by kernel_rfl) ?_
 refine wB ?_
 refine Wp.loop (T := HH × Int) (fun t => match t with | (H6, i) => (((m.length : Int) - i).toNat : Nat)) (fun t => match t with | (H6, i) => ([(1, xi kk), (2, .y (.one (sv EN b nil cc m))), (3, yp n1), (6, yp n2), (8, xi i)] : Env)) (fun t => match t with | (H6, i) => (H6 : HH))
   (fun t => match t with | (H6, i) => (On [pts n1 (.obj [sv NI false rn rc S, vi hand, sv EN false u0 v0 l0, sv EN false u1 v1 l1, sv EN false u2 v2 l2]), pts n2 (.obj [nilC, vi 0, nilC, nilC, nilC])] H6 ∧ (0 ≤ i) ∧ (i ≤ (m.length : Int)) : Prop)) (H3, 0) (by kernel_rfl) (⟨(On.pick [0, 1] [] (by kernel_rfl) hs4), by omega, by omega⟩) ?_
 rintro ⟨H6, i⟩ ⟨hs7, g1, g2⟩
 show Wp _ _ _ _ [(1, xi kk), (2, .y (.one (sv EN b nil cc m))), (3, yp n1), (6, yp n2), (8, xi i)] H6 _
 refine wS ?_
 by_cases c8 : (i : Int) < (m.length : Int)
 ·
  refine rSq [(3, xb true, H6)] [(1, xi kk), (2, .y (.one (sv EN b nil cc m))), (3, yp n1), (6, yp n2), (8, xi i), (19, xb true)] H6
    (cast (JZ (Jh (H := H6) (t := 3) (u := 3) (a := i) (b := (m.length : Int)) (by omega))) (by kernel_rfl)) (by kernel_rfl) ?_
  refine wTk ?_
  refine wS (wB ?_)
  refine wS ?_
  obtain ⟨x9, hx9⟩ : ∃ x, m[(i : Int).toNat]? = some x := get_of (by omega)
  have hz10 := posI_bd x9.1 l0
  have hz12 := posI_bd x9.1 l1
  have hz15 := posI_bd x9.1 l2
  refine rSq [(0, .y (.agg [sv NI false rn rc S, vi hand, sv EN false u0 v0 l0, sv EN false u1 v1 l1, sv EN false u2 v2 l2]), H6), (3, .y (.one (.rd ([vi x9.1.1, vi x9.1.2.1, vb x9.2.1] ++ (m.drop ((i : Int).toNat + 1)).flatMap (enc EN)))), H6), (6, xb false, H6)] [(1, xi kk), (2, .y (.one (sv EN b nil cc m))), (3, yp n1), (6, yp n2), (8, xi i), (28, xb false)] H6
    (cast (Jai (Ja (t := 41) (off := 0) (v := .agg [sv NI false rn rc S, vi hand, sv EN false u0 v0 l0, sv EN false u1 v1 l1, sv EN false u2 v2 l2]) (On.at hs7 0 rfl) (by kernel_rfl)) (Jai (Jf (H := H6) (s := EN) (b := b) (nil := nil) (capd := cc) (t := 22) (el := 35) (i := i) Try.underlying22 (by kernel_rfl) (by kernel_rfl) (by omega) hx9) (JZ (Jx (H := H6) (g := 40) (x := .agg [sv NI false rn rc S, vi hand, sv EN false u0 v0 l0, sv EN false u1 v1 l1, sv EN false u2 v2 l2]) (y := .agg [vi x9.1.1, vi x9.1.2.1]) (res := [.one (vb false)]) (rstands_3 false rn rc false u0 v0 false u1 v1 false u2 v2 S hand l0 l1 l2 x9.1 (by first | rfl | omega | simp <;> omega) (by first | rfl | omega | simp <;> omega) (by first | rfl | omega | simp <;> omega) (by omega) (by omega) (by omega)) (by kernel_rfl) (by kernel_rfl))))) (by kernel_rfl)) (by kernel_rfl) ?_
  refine wFk ?_
  refine rS0 [(1, xi kk), (2, .y (.one (sv EN b nil cc m))), (3, yp n1), (6, yp n2), (8, xi i), (9, xi 0)] (by kernel_rfl) ?_
  refine wB ?_
  refine Wp.loop (T := HH × Int) (fun t => match t with | (H20, j) => ((i - j).toNat : Nat)) (fun t => match t with | (H20, j) => ([(1, xi kk), (2, .y (.one (sv EN b nil cc m))), (3, yp n1), (6, yp n2), (8, xi i), (9, xi j)] : Env)) (fun t => match t with | (H20, j) => (H20 : HH))
    (fun t => match t with | (H20, j) => (On [pts n1 (.obj [sv NI false rn rc S, vi hand, sv EN false u0 v0 l0, sv EN false u1 v1 l1, sv EN false u2 v2 l2]), pts n2 (.obj [nilC, vi 0, nilC, nilC, nilC])] H20 ∧ (0 ≤ j) ∧ (j ≤ i) : Prop)) (H6, 0) (by kernel_rfl) (⟨(On.pick [0, 1] [] (by kernel_rfl) hs7), by omega, by omega⟩) ?_
  rintro ⟨H20, j⟩ ⟨hs21, k1, k2⟩
  show Wp _ _ _ _ [(1, xi kk), (2, .y (.one (sv EN b nil cc m))), (3, yp n1), (6, yp n2), (8, xi i), (9, xi j)] H20 _
  refine wS ?_
  by_cases c22 : (j : Int) < i
  ·
   refine rSq [(2, xb true, H20)] [(1, xi kk), (2, .y (.one (sv EN b nil cc m))), (3, yp n1), (6, yp n2), (8, xi i), (9, xi j), (32, xb true)] H20
     (cast (JZ (Jh (H := H20) (t := 3) (u := 3) (a := j) (b := i) (by omega))) (by kernel_rfl)) (by kernel_rfl) ?_
   refine wTk ?_
   refine wS (wB ?_)
   obtain ⟨x23, hx23⟩ : ∃ x, m[(j : Int).toNat]? = some x := get_of (by omega)
   have hm24 := nd_ne hnd k1 (by omega) hx9 hx23
   refine rSq [(2, .y (.one (.rd ([vi x23.1.1, vi x23.1.2.1, vb x23.2.1] ++ (m.drop ((j : Int).toNat + 1)).flatMap (enc EN)))), H20), (7, .y (.one (.rd ([vi x9.1.1, vi x9.1.2.1, vb x9.2.1] ++ (m.drop ((i : Int).toNat + 1)).flatMap (enc EN)))), H20), (10, xb false, H20)] [(1, xi kk), (2, .y (.one (sv EN b nil cc m))), (3, yp n1), (6, yp n2), (8, xi i), (9, xi j), (45, xb false)] H20
     (cast (Jai (Jf (H := H20) (s := EN) (b := b) (nil := nil) (capd := cc) (t := 22) (el := 35) (i := j) Try.underlying22 (by kernel_rfl) (by kernel_rfl) (by omega) hx23) (Jai (Jf (H := H20) (s := EN) (b := b) (nil := nil) (capd := cc) (t := 22) (el := 35) (i := i) Try.underlying22 (by kernel_rfl) (by kernel_rfl) (by omega) hx9) (JZ (Jt (H := H20) (s := PN) (t := 33) (u := 33) (ty := 0) (x := x23.1) (y := x9.1) (r := false) (by kernel_rfl) hm24)))) (by kernel_rfl)) (by kernel_rfl) ?_
   refine wFk ?_
   refine wR [(1, xi (j + 1), H20)] [(1, xi kk), (2, .y (.one (sv EN b nil cc m))), (3, yp n1), (6, yp n2), (8, xi i), (9, xi (j + 1))] H20
     (cast (JZ (Jj (H := H20) (t := 3) (u := 3) (a := j) (b := 1) (c := (j + 1)) (by omega))) (by kernel_rfl)) (by kernel_rfl) ?_
   exact ⟨(H20, (j + 1)), by kernel_rfl, (⟨(On.pick [0, 1] [] (by kernel_rfl) hs21), by omega, by omega⟩), (by show (_ : Nat) < _; simp only []; omega)⟩
  ·
   refine rSq [(2, xb false, H20)] [(1, xi kk), (2, .y (.one (sv EN b nil cc m))), (3, yp n1), (6, yp n2), (8, xi i), (9, xi j), (32, xb false)] H20
     (cast (JZ (Je (H := H20) (t := 3) (u := 3) (a := j) (b := i) (by omega))) (by kernel_rfl)) (by kernel_rfl) ?_
   refine wFa ?_
   refine wX ?_
   refine Eq.mpr (if_pos rfl) ?_
   refine wR [(1, xi (i + 1), H20)] [(1, xi kk), (2, .y (.one (sv EN b nil cc m))), (3, yp n1), (6, yp n2), (8, xi (i + 1))] H20
     (cast (JZ (Jj (H := H20) (t := 3) (u := 3) (a := i) (b := 1) (c := (i + 1)) (by omega))) (by kernel_rfl)) (by kernel_rfl) ?_
   exact ⟨(H20, (i + 1)), by kernel_rfl, (⟨(On.pick [0, 1] [] (by kernel_rfl) hs21), by omega, by omega⟩), (by show (_ : Nat) < _; simp only []; omega)⟩
 ·
  refine rSq [(3, xb false, H6)] [(1, xi kk), (2, .y (.one (sv EN b nil cc m))), (3, yp n1), (6, yp n2), (8, xi i), (19, xb false)] H6
    (cast (JZ (Je (H := H6) (t := 3) (u := 3) (a := i) (b := (m.length : Int)) (by omega))) (by kernel_rfl)) (by kernel_rfl) ?_
  refine wFa ?_
  refine wX ?_
  refine Eq.mpr (if_pos rfl) ?_
  refine wS ?_
  rcases (show kk = 0 ∨ kk = 1 ∨ kk = 2 from by omega) with rfl | rfl | rfl
  ·
   refine rSq [(5, .y (.one (sv EN false u0 v0 l0)), H6), (7, xi (-(l0.length : Int) + 64), H6), (8, xb false, H6)] [(1, xi 0), (2, .y (.one (sv EN b nil cc m))), (3, yp n1), (6, yp n2), (55, xb false)] H6
     (cast (Jai (Ja (t := 22) (off := 2) (v := .one (sv EN false u0 v0 l0)) (On.at hs7 0 rfl) (by kernel_rfl)) (Jai (Jq (H := H6) (t := 3) (u := 3) (a := 64) (b := (l0.length : Int)) (c := (-(l0.length : Int) + 64)) (by omega)) (JZ (Jk (H := H6) (t := 3) (u := 3) (a := (m.length : Int)) (b := (-(l0.length : Int) + 64)) (by omega))))) (by kernel_rfl)) (by kernel_rfl) ?_
   refine wFk ?_
   refine rS0 [(1, xi 0), (2, .y (.one (sv EN b nil cc m))), (3, yp n1), (6, yp n2), (10, .y (.one (nilC)))] (by kernel_rfl) ?_
   obtain ⟨cv25, H26, ho27, hs28⟩ := or_append_nil (P := pg) (A := an) (s := EN) (t := 22) (u := 22) (el := 35) (by_ := 24) (z := [vi 0, vi 0, vb false]) (ty := 0) (y := sv EN false u0 v0 l0) (lm := l0) (m := l0.length) hs7 ((slCells_slO (H := H6) (s := EN) (b := false) (nil := u0) (capd := v0) (l := l0) (n := l0.length) (by first | rfl | omega | simp <;> omega))) (by kernel_rfl) (by kernel_rfl) (by kernel_rfl) (by kernel_rfl) (by kernel_rfl) (by kernel_rfl) (by kernel_rfl) (by first | rfl | omega | simp <;> omega) (by omega) (by omega)
   have hs28l : (l0.length : Int) = (l0.length : Int) := by { first | omega | (simp only [List.length_append]; omega) | (simp; done) | (simp; omega) }
   refine rSq [(4, .y (.one (sv EN false u0 v0 l0)), H6), (5, .y (.one (cv25)), H26)] [(1, xi 0), (2, .y (.one (sv EN b nil cc m))), (3, yp n1), (6, yp n2), (10, .y (.one (cv25)))] H26
     (cast (Jai (Ja (t := 22) (off := 2) (v := .one (sv EN false u0 v0 l0)) (On.at hs7 0 rfl) (by kernel_rfl)) (JZ ho27)) (by kernel_rfl)) (by kernel_rfl) ?_
   refine wG hs28 ?_
   intro H29 hs30
   refine wS ?_
   refine rS0 [(1, xi 0), (2, .y (.one (sv EN b nil cc m))), (3, yp n1), (6, yp n2), (10, .y (.one (cv25))), (11, xi 0)] (by kernel_rfl) ?_
   refine wB ?_
   refine Wp.loop (T := HH × Int × C) (fun t => match t with | (H32, i3, cv) => (((m.length : Int) - i3).toNat : Nat)) (fun t => match t with | (H32, i3, cv) => ([(1, xi 0), (2, .y (.one (sv EN b nil cc m))), (3, yp n1), (6, yp n2), (10, .y (.one (cv))), (11, xi i3)] : Env)) (fun t => match t with | (H32, i3, cv) => (H32 : HH))
     (fun t => match t with | (H32, i3, cv) => (On [pts n1 (.obj [sv NI false rn rc S, vi hand, sv EN false u0 v0 l0, sv EN false u1 v1 l1, sv EN false u2 v2 l2]), pts n2 (.obj [nilC, vi 0, nilC, nilC, nilC]), itemsP EN cv (l0 ++ pin (m.take (i3 : Int).toNat))] H32 ∧ (0 ≤ i3) ∧ (i3 ≤ (m.length : Int)) ∧ (((l0 ++ pin (m.take (i3 : Int).toNat)).length : Int) = l0.length + i3) : Prop)) (H29, 0, cv25) (by kernel_rfl) (⟨(On.pick [0, 1, 2] [] (by kernel_rfl) (On.mono (A' := itemsP EN cv25 (l0 ++ pin (m.take (0 : Int).toNat))) 2 rfl (fun _ x => by rw [← (show l0 = (l0 ++ pin (m.take (0 : Int).toNat)) from (by simp))]; exact x) hs30)), by omega, by omega, by simp⟩) ?_
   rintro ⟨H32, i3, cv⟩ ⟨hs33, q1, q2, q3⟩
   show Wp _ _ _ _ [(1, xi 0), (2, .y (.one (sv EN b nil cc m))), (3, yp n1), (6, yp n2), (10, .y (.one (cv))), (11, xi i3)] H32 _
   refine wS ?_
   by_cases c34 : (i3 : Int) < (m.length : Int)
   ·
    refine rSq [(3, xb true, H32)] [(1, xi 0), (2, .y (.one (sv EN b nil cc m))), (3, yp n1), (6, yp n2), (10, .y (.one (cv))), (11, xi i3), (66, xb true)] H32
      (cast (JZ (Jh (H := H32) (t := 3) (u := 3) (a := i3) (b := (m.length : Int)) (by omega))) (by kernel_rfl)) (by kernel_rfl) ?_
    refine wTk ?_
    refine wS (wB ?_)
    obtain ⟨x35, hx35⟩ : ∃ x, m[(i3 : Int).toNat]? = some x := get_of (by omega)
    obtain ⟨cv36, H37, ho38, hs39⟩ := or_append_items (P := pg) (A := an) (s := EN) (t := 22) (u := 22) (el := 35) (by_ := 24) (z := [vi 0, vi 0, vb false]) (ty := 0) (y := .sl false false true [vi x35.1.1, vi x35.1.2.1, vb true] 1) (lm := ([(x35.1, (true, ()))])) (m := 1) hs33 2 rfl ((slCells_slO (H := H32) (s := EN) (b := false) (nil := false) (capd := true) (l := [(x35.1, (true, ()))]) (n := 1) (by first | rfl | omega | simp <;> omega))) (by kernel_rfl) (by kernel_rfl) (by kernel_rfl) (by kernel_rfl) (by kernel_rfl) (by kernel_rfl) (by kernel_rfl) (by first | rfl | omega | simp <;> omega) (by omega) (by omega)
    have hs39l : (((l0 ++ pin (m.take (i3 : Int).toNat)) ++ ([(x35.1, (true, ()))])).length : Int) = (((l0 ++ pin (m.take (i3 : Int).toNat)).length : Int) + 1) := by { first | omega | (simp only [List.length_append]; omega) | (simp; done) | (simp; omega) }
    refine rKq [(3, .y (.one (.rd ([vi x35.1.1, vi x35.1.2.1, vb x35.2.1] ++ (m.drop ((i3 : Int).toNat + 1)).flatMap (enc EN)))), H32), (8, .y (.one (cv36)), H37)] [(1, xi 0), (2, .y (.one (sv EN b nil cc m))), (3, yp n1), (6, yp n2), (10, .y (.one (cv36))), (11, xi i3)] H37
      (cast (Jai (Jf (H := H32) (s := EN) (b := b) (nil := nil) (capd := cc) (t := 22) (el := 35) (i := i3) Try.underlying22 (by kernel_rfl) (by kernel_rfl) (by omega) hx35) (JZ ho38)) (by kernel_rfl)) (by kernel_rfl) ?_
    refine wG hs39 ?_
    intro H40 hs41
    refine wK ?_
    refine wR [(1, xi (i3 + 1), H40)] [(1, xi 0), (2, .y (.one (sv EN b nil cc m))), (3, yp n1), (6, yp n2), (10, .y (.one (cv36))), (11, xi (i3 + 1))] H40
      (cast (JZ (Jj (H := H40) (t := 3) (u := 3) (a := i3) (b := 1) (c := (i3 + 1)) (by omega))) (by kernel_rfl)) (by kernel_rfl) ?_
    exact ⟨(H40, (i3 + 1), cv36), by kernel_rfl, (⟨(On.pick [0, 1, 2] [] (by kernel_rfl) (On.mono (A' := itemsP EN cv36 (l0 ++ pin (m.take ((i3 + 1) : Int).toNat))) 2 rfl (fun _ x => by rw [← (show ((l0 ++ pin (m.take (i3 : Int).toNat)) ++ ([(x35.1, (true, ()))])) = (l0 ++ pin (m.take ((i3 + 1) : Int).toNat)) from (pin_snoc q1 hx35))]; exact x) hs41)), by omega, by omega, by simp only [List.length_append, List.length_map, List.length_take]; omega⟩), (by show (_ : Nat) < _; simp only []; omega)⟩
   ·
    refine rSq [(3, xb false, H32)] [(1, xi 0), (2, .y (.one (sv EN b nil cc m))), (3, yp n1), (6, yp n2), (10, .y (.one (cv))), (11, xi i3), (66, xb false)] H32
      (cast (JZ (Je (H := H32) (t := 3) (u := 3) (a := i3) (b := (m.length : Int)) (by omega))) (by kernel_rfl)) (by kernel_rfl) ?_
    refine wFa ?_
    refine wX ?_
    refine Eq.mpr (if_pos rfl) ?_
    have hv42 : C.live cv = true := items_live hs33 2 rfl
    refine rSq [(4, .tup [], (sto H32 n1 (.obj [sv NI false rn rc S, vi hand, cv, sv EN false u1 v1 l1, sv EN false u2 v2 l2])))] [(3, yp n1), (6, yp n2)] (sto H32 n1 (.obj [sv NI false rn rc S, vi hand, cv, sv EN false u1 v1 l1, sv EN false u2 v2 l2]))
      (cast (JZ (Jp (H := H32) (t := 22) (ty := 0) (id := n1) (off := 2) (cs := [sv NI false rn rc S, vi hand, sv EN false u0 v0 l0, sv EN false u1 v1 l1, sv EN false u2 v2 l2]) (cs' := [sv NI false rn rc S, vi hand, cv, sv EN false u1 v1 l1, sv EN false u2 v2 l2]) (v := .one (cv)) (On.at hs33 0 rfl) (by kernel_rfl) (live_cons hv42 live_nil) (by kernel_rfl) (by kernel_rfl))) (by kernel_rfl)) (by kernel_rfl) ?_
    refine wG (On.put (.obj [sv NI false rn rc S, vi hand, cv, sv EN false u1 v1 l1, sv EN false u2 v2 l2]) hs33 0 rfl) ?_
    intro H43 hs44
    refine rSq [(0, .y (.agg [sv NI false rn rc S, vi hand, cv, sv EN false u1 v1 l1, sv EN false u2 v2 l2]), H43), (1, .tup [], (sto H43 n2 (.obj [sv NI false rn rc S, vi hand, cv, sv EN false u1 v1 l1, sv EN false u2 v2 l2])))] [(6, yp n2), (7, xi 0)] (sto H43 n2 (.obj [sv NI false rn rc S, vi hand, cv, sv EN false u1 v1 l1, sv EN false u2 v2 l2]))
      (cast (Jai (Ja (t := 41) (off := 0) (v := .agg [sv NI false rn rc S, vi hand, cv, sv EN false u1 v1 l1, sv EN false u2 v2 l2]) (On.at hs44 0 rfl) (by kernel_rfl)) (JZ (Jp (H := H43) (t := 41) (ty := 0) (id := n2) (off := 0) (cs := [nilC, vi 0, nilC, nilC, nilC]) (cs' := [sv NI false rn rc S, vi hand, cv, sv EN false u1 v1 l1, sv EN false u2 v2 l2]) (v := .agg [sv NI false rn rc S, vi hand, cv, sv EN false u1 v1 l1, sv EN false u2 v2 l2]) (On.at hs44 1 rfl) (by kernel_rfl) (live_cons rfl (live_cons rfl (live_cons hv42 (live_cons rfl (live_cons rfl live_nil))))) (by kernel_rfl) (by kernel_rfl)))) (by kernel_rfl)) (by kernel_rfl) ?_
    refine wG (On.put (.obj [sv NI false rn rc S, vi hand, cv, sv EN false u1 v1 l1, sv EN false u2 v2 l2]) hs44 1 rfl) ?_
    intro H45 hs46
    refine wE ?_
    refine ⟨Or.inr rfl, [.agg [sv NI false rn rc S, vi hand, cv, sv EN false u1 v1 l1, sv EN false u2 v2 l2], .one (vi 0)], (cast (res_cons (P := pg) (e := [(6, yp n2), (7, xi 0)]) (H := H45) (res_cell (P := pg) (e := [(6, yp n2), (7, xi 0)]) (H := H45) (a := 6) (t := 41) (id := n2) (off := 0) (n := 5) (cs := [sv NI false rn rc S, vi hand, cv, sv EN false u1 v1 l1, sv EN false u2 v2 l2]) (cs' := [sv NI false rn rc S, vi hand, cv, sv EN false u1 v1 l1, sv EN false u2 v2 l2]) (v := .agg [sv NI false rn rc S, vi hand, cv, sv EN false u1 v1 l1, sv EN false u2 v2 l2]) (by kernel_rfl) (by kernel_rfl) (On.at hs46 1 rfl) (by kernel_rfl) (by kernel_rfl) (by kernel_rfl)) (res_cons (P := pg) (e := [(6, yp n2), (7, xi 0)]) (H := H45) (r := .tmp 7) (y := .one (vi 0)) (by kernel_rfl) res_nil)) (by kernel_rfl)), ?_⟩
    obtain ⟨fn47, fp48, hf49⟩ := items_back hs46 2 rfl
    exact .inl (⟨rfl, fn47, fp48, (by have e9 : (l0 ++ pin (m.take (i3 : Int).toNat)) = (l0 ++ pin m) := (by rw [take_all (show (m.length : Int) ≤ i3 by omega)]); rw [← e9]; exact (back_cons (back_agg (mapM_cons' (by kernel_rfl) (mapM_cons' (by kernel_rfl) (mapM_cons' hf49 (mapM_cons' (by kernel_rfl) (mapM_cons' (by kernel_rfl) mapM_nil')))))) (back_cons (by kernel_rfl) rfl)))⟩)
  ·
   refine rSq [(5, .y (.one (sv EN false u1 v1 l1)), H6), (7, xi (-(l1.length : Int) + 64), H6), (8, xb false, H6)] [(1, xi 1), (2, .y (.one (sv EN b nil cc m))), (3, yp n1), (6, yp n2), (55, xb false)] H6
     (cast (Jai (Ja (t := 22) (off := 3) (v := .one (sv EN false u1 v1 l1)) (On.at hs7 0 rfl) (by kernel_rfl)) (Jai (Jq (H := H6) (t := 3) (u := 3) (a := 64) (b := (l1.length : Int)) (c := (-(l1.length : Int) + 64)) (by omega)) (JZ (Jk (H := H6) (t := 3) (u := 3) (a := (m.length : Int)) (b := (-(l1.length : Int) + 64)) (by omega))))) (by kernel_rfl)) (by kernel_rfl) ?_
   refine wFk ?_
   refine rS0 [(1, xi 1), (2, .y (.one (sv EN b nil cc m))), (3, yp n1), (6, yp n2), (10, .y (.one (nilC)))] (by kernel_rfl) ?_
   obtain ⟨cv50, H51, ho52, hs53⟩ := or_append_nil (P := pg) (A := an) (s := EN) (t := 22) (u := 22) (el := 35) (by_ := 24) (z := [vi 0, vi 0, vb false]) (ty := 0) (y := sv EN false u1 v1 l1) (lm := l1) (m := l1.length) hs7 ((slCells_slO (H := H6) (s := EN) (b := false) (nil := u1) (capd := v1) (l := l1) (n := l1.length) (by first | rfl | omega | simp <;> omega))) (by kernel_rfl) (by kernel_rfl) (by kernel_rfl) (by kernel_rfl) (by kernel_rfl) (by kernel_rfl) (by kernel_rfl) (by first | rfl | omega | simp <;> omega) (by omega) (by omega)
   have hs53l : (l1.length : Int) = (l1.length : Int) := by { first | omega | (simp only [List.length_append]; omega) | (simp; done) | (simp; omega) }
   refine rSq [(4, .y (.one (sv EN false u1 v1 l1)), H6), (5, .y (.one (cv50)), H51)] [(1, xi 1), (2, .y (.one (sv EN b nil cc m))), (3, yp n1), (6, yp n2), (10, .y (.one (cv50)))] H51
     (cast (Jai (Ja (t := 22) (off := 3) (v := .one (sv EN false u1 v1 l1)) (On.at hs7 0 rfl) (by kernel_rfl)) (JZ ho52)) (by kernel_rfl)) (by kernel_rfl) ?_
   refine wG hs53 ?_
   intro H54 hs55
   refine wS ?_
   refine rS0 [(1, xi 1), (2, .y (.one (sv EN b nil cc m))), (3, yp n1), (6, yp n2), (10, .y (.one (cv50))), (11, xi 0)] (by kernel_rfl) ?_
   refine wB ?_
   refine Wp.loop (T := HH × Int × C) (fun t => match t with | (H57, i3, cv) => (((m.length : Int) - i3).toNat : Nat)) (fun t => match t with | (H57, i3, cv) => ([(1, xi 1), (2, .y (.one (sv EN b nil cc m))), (3, yp n1), (6, yp n2), (10, .y (.one (cv))), (11, xi i3)] : Env)) (fun t => match t with | (H57, i3, cv) => (H57 : HH))
     (fun t => match t with | (H57, i3, cv) => (On [pts n1 (.obj [sv NI false rn rc S, vi hand, sv EN false u0 v0 l0, sv EN false u1 v1 l1, sv EN false u2 v2 l2]), pts n2 (.obj [nilC, vi 0, nilC, nilC, nilC]), itemsP EN cv (l1 ++ pin (m.take (i3 : Int).toNat))] H57 ∧ (0 ≤ i3) ∧ (i3 ≤ (m.length : Int)) ∧ (((l1 ++ pin (m.take (i3 : Int).toNat)).length : Int) = l1.length + i3) : Prop)) (H54, 0, cv50) (by kernel_rfl) (⟨(On.pick [0, 1, 2] [] (by kernel_rfl) (On.mono (A' := itemsP EN cv50 (l1 ++ pin (m.take (0 : Int).toNat))) 2 rfl (fun _ x => by rw [← (show l1 = (l1 ++ pin (m.take (0 : Int).toNat)) from (by simp))]; exact x) hs55)), by omega, by omega, by simp⟩) ?_
   rintro ⟨H57, i3, cv⟩ ⟨hs58, q1, q2, q3⟩
   show Wp _ _ _ _ [(1, xi 1), (2, .y (.one (sv EN b nil cc m))), (3, yp n1), (6, yp n2), (10, .y (.one (cv))), (11, xi i3)] H57 _
   refine wS ?_
   by_cases c59 : (i3 : Int) < (m.length : Int)
   ·
    refine rSq [(3, xb true, H57)] [(1, xi 1), (2, .y (.one (sv EN b nil cc m))), (3, yp n1), (6, yp n2), (10, .y (.one (cv))), (11, xi i3), (66, xb true)] H57
      (cast (JZ (Jh (H := H57) (t := 3) (u := 3) (a := i3) (b := (m.length : Int)) (by omega))) (by kernel_rfl)) (by kernel_rfl) ?_
    refine wTk ?_
    refine wS (wB ?_)
    obtain ⟨x60, hx60⟩ : ∃ x, m[(i3 : Int).toNat]? = some x := get_of (by omega)
    obtain ⟨cv61, H62, ho63, hs64⟩ := or_append_items (P := pg) (A := an) (s := EN) (t := 22) (u := 22) (el := 35) (by_ := 24) (z := [vi 0, vi 0, vb false]) (ty := 0) (y := .sl false false true [vi x60.1.1, vi x60.1.2.1, vb true] 1) (lm := ([(x60.1, (true, ()))])) (m := 1) hs58 2 rfl ((slCells_slO (H := H57) (s := EN) (b := false) (nil := false) (capd := true) (l := [(x60.1, (true, ()))]) (n := 1) (by first | rfl | omega | simp <;> omega))) (by kernel_rfl) (by kernel_rfl) (by kernel_rfl) (by kernel_rfl) (by kernel_rfl) (by kernel_rfl) (by kernel_rfl) (by first | rfl | omega | simp <;> omega) (by omega) (by omega)
    have hs64l : (((l1 ++ pin (m.take (i3 : Int).toNat)) ++ ([(x60.1, (true, ()))])).length : Int) = (((l1 ++ pin (m.take (i3 : Int).toNat)).length : Int) + 1) := by { first | omega | (simp only [List.length_append]; omega) | (simp; done) | (simp; omega) }
    refine rKq [(3, .y (.one (.rd ([vi x60.1.1, vi x60.1.2.1, vb x60.2.1] ++ (m.drop ((i3 : Int).toNat + 1)).flatMap (enc EN)))), H57), (8, .y (.one (cv61)), H62)] [(1, xi 1), (2, .y (.one (sv EN b nil cc m))), (3, yp n1), (6, yp n2), (10, .y (.one (cv61))), (11, xi i3)] H62
      (cast (Jai (Jf (H := H57) (s := EN) (b := b) (nil := nil) (capd := cc) (t := 22) (el := 35) (i := i3) Try.underlying22 (by kernel_rfl) (by kernel_rfl) (by omega) hx60) (JZ ho63)) (by kernel_rfl)) (by kernel_rfl) ?_
    refine wG hs64 ?_
    intro H65 hs66
    refine wK ?_
    refine wR [(1, xi (i3 + 1), H65)] [(1, xi 1), (2, .y (.one (sv EN b nil cc m))), (3, yp n1), (6, yp n2), (10, .y (.one (cv61))), (11, xi (i3 + 1))] H65
      (cast (JZ (Jj (H := H65) (t := 3) (u := 3) (a := i3) (b := 1) (c := (i3 + 1)) (by omega))) (by kernel_rfl)) (by kernel_rfl) ?_
    exact ⟨(H65, (i3 + 1), cv61), by kernel_rfl, (⟨(On.pick [0, 1, 2] [] (by kernel_rfl) (On.mono (A' := itemsP EN cv61 (l1 ++ pin (m.take ((i3 + 1) : Int).toNat))) 2 rfl (fun _ x => by rw [← (show ((l1 ++ pin (m.take (i3 : Int).toNat)) ++ ([(x60.1, (true, ()))])) = (l1 ++ pin (m.take ((i3 + 1) : Int).toNat)) from (pin_snoc q1 hx60))]; exact x) hs66)), by omega, by omega, by simp only [List.length_append, List.length_map, List.length_take]; omega⟩), (by show (_ : Nat) < _; simp only []; omega)⟩
   ·
    refine rSq [(3, xb false, H57)] [(1, xi 1), (2, .y (.one (sv EN b nil cc m))), (3, yp n1), (6, yp n2), (10, .y (.one (cv))), (11, xi i3), (66, xb false)] H57
      (cast (JZ (Je (H := H57) (t := 3) (u := 3) (a := i3) (b := (m.length : Int)) (by omega))) (by kernel_rfl)) (by kernel_rfl) ?_
    refine wFa ?_
    refine wX ?_
    refine Eq.mpr (if_pos rfl) ?_
    have hv67 : C.live cv = true := items_live hs58 2 rfl
    refine rSq [(4, .tup [], (sto H57 n1 (.obj [sv NI false rn rc S, vi hand, sv EN false u0 v0 l0, cv, sv EN false u2 v2 l2])))] [(3, yp n1), (6, yp n2)] (sto H57 n1 (.obj [sv NI false rn rc S, vi hand, sv EN false u0 v0 l0, cv, sv EN false u2 v2 l2]))
      (cast (JZ (Jp (H := H57) (t := 22) (ty := 0) (id := n1) (off := 3) (cs := [sv NI false rn rc S, vi hand, sv EN false u0 v0 l0, sv EN false u1 v1 l1, sv EN false u2 v2 l2]) (cs' := [sv NI false rn rc S, vi hand, sv EN false u0 v0 l0, cv, sv EN false u2 v2 l2]) (v := .one (cv)) (On.at hs58 0 rfl) (by kernel_rfl) (live_cons hv67 live_nil) (by kernel_rfl) (by kernel_rfl))) (by kernel_rfl)) (by kernel_rfl) ?_
    refine wG (On.put (.obj [sv NI false rn rc S, vi hand, sv EN false u0 v0 l0, cv, sv EN false u2 v2 l2]) hs58 0 rfl) ?_
    intro H68 hs69
    refine rSq [(0, .y (.agg [sv NI false rn rc S, vi hand, sv EN false u0 v0 l0, cv, sv EN false u2 v2 l2]), H68), (1, .tup [], (sto H68 n2 (.obj [sv NI false rn rc S, vi hand, sv EN false u0 v0 l0, cv, sv EN false u2 v2 l2])))] [(6, yp n2), (7, xi 0)] (sto H68 n2 (.obj [sv NI false rn rc S, vi hand, sv EN false u0 v0 l0, cv, sv EN false u2 v2 l2]))
      (cast (Jai (Ja (t := 41) (off := 0) (v := .agg [sv NI false rn rc S, vi hand, sv EN false u0 v0 l0, cv, sv EN false u2 v2 l2]) (On.at hs69 0 rfl) (by kernel_rfl)) (JZ (Jp (H := H68) (t := 41) (ty := 0) (id := n2) (off := 0) (cs := [nilC, vi 0, nilC, nilC, nilC]) (cs' := [sv NI false rn rc S, vi hand, sv EN false u0 v0 l0, cv, sv EN false u2 v2 l2]) (v := .agg [sv NI false rn rc S, vi hand, sv EN false u0 v0 l0, cv, sv EN false u2 v2 l2]) (On.at hs69 1 rfl) (by kernel_rfl) (live_cons rfl (live_cons rfl (live_cons rfl (live_cons hv67 (live_cons rfl live_nil))))) (by kernel_rfl) (by kernel_rfl)))) (by kernel_rfl)) (by kernel_rfl) ?_
    refine wG (On.put (.obj [sv NI false rn rc S, vi hand, sv EN false u0 v0 l0, cv, sv EN false u2 v2 l2]) hs69 1 rfl) ?_
    intro H70 hs71
    refine wE ?_
    refine ⟨Or.inr rfl, [.agg [sv NI false rn rc S, vi hand, sv EN false u0 v0 l0, cv, sv EN false u2 v2 l2], .one (vi 0)], (cast (res_cons (P := pg) (e := [(6, yp n2), (7, xi 0)]) (H := H70) (res_cell (P := pg) (e := [(6, yp n2), (7, xi 0)]) (H := H70) (a := 6) (t := 41) (id := n2) (off := 0) (n := 5) (cs := [sv NI false rn rc S, vi hand, sv EN false u0 v0 l0, cv, sv EN false u2 v2 l2]) (cs' := [sv NI false rn rc S, vi hand, sv EN false u0 v0 l0, cv, sv EN false u2 v2 l2]) (v := .agg [sv NI false rn rc S, vi hand, sv EN false u0 v0 l0, cv, sv EN false u2 v2 l2]) (by kernel_rfl) (by kernel_rfl) (On.at hs71 1 rfl) (by kernel_rfl) (by kernel_rfl) (by kernel_rfl)) (res_cons (P := pg) (e := [(6, yp n2), (7, xi 0)]) (H := H70) (r := .tmp 7) (y := .one (vi 0)) (by kernel_rfl) res_nil)) (by kernel_rfl)), ?_⟩
    obtain ⟨fn72, fp73, hf74⟩ := items_back hs71 2 rfl
    exact .inr (.inl (⟨rfl, fn72, fp73, (by have e9 : (l1 ++ pin (m.take (i3 : Int).toNat)) = (l1 ++ pin m) := (by rw [take_all (show (m.length : Int) ≤ i3 by omega)]); rw [← e9]; exact (back_cons (back_agg (mapM_cons' (by kernel_rfl) (mapM_cons' (by kernel_rfl) (mapM_cons' (by kernel_rfl) (mapM_cons' hf74 (mapM_cons' (by kernel_rfl) mapM_nil')))))) (back_cons (by kernel_rfl) rfl)))⟩))
  ·
   refine rSq [(5, .y (.one (sv EN false u2 v2 l2)), H6), (7, xi (-(l2.length : Int) + 64), H6), (8, xb false, H6)] [(1, xi 2), (2, .y (.one (sv EN b nil cc m))), (3, yp n1), (6, yp n2), (55, xb false)] H6
     (cast (Jai (Ja (t := 22) (off := 4) (v := .one (sv EN false u2 v2 l2)) (On.at hs7 0 rfl) (by kernel_rfl)) (Jai (Jq (H := H6) (t := 3) (u := 3) (a := 64) (b := (l2.length : Int)) (c := (-(l2.length : Int) + 64)) (by omega)) (JZ (Jk (H := H6) (t := 3) (u := 3) (a := (m.length : Int)) (b := (-(l2.length : Int) + 64)) (by omega))))) (by kernel_rfl)) (by kernel_rfl) ?_
   refine wFk ?_
   refine rS0 [(1, xi 2), (2, .y (.one (sv EN b nil cc m))), (3, yp n1), (6, yp n2), (10, .y (.one (nilC)))] (by kernel_rfl) ?_
   obtain ⟨cv75, H76, ho77, hs78⟩ := or_append_nil (P := pg) (A := an) (s := EN) (t := 22) (u := 22) (el := 35) (by_ := 24) (z := [vi 0, vi 0, vb false]) (ty := 0) (y := sv EN false u2 v2 l2) (lm := l2) (m := l2.length) hs7 ((slCells_slO (H := H6) (s := EN) (b := false) (nil := u2) (capd := v2) (l := l2) (n := l2.length) (by first | rfl | omega | simp <;> omega))) (by kernel_rfl) (by kernel_rfl) (by kernel_rfl) (by kernel_rfl) (by kernel_rfl) (by kernel_rfl) (by kernel_rfl) (by first | rfl | omega | simp <;> omega) (by omega) (by omega)
   have hs78l : (l2.length : Int) = (l2.length : Int) := by { first | omega | (simp only [List.length_append]; omega) | (simp; done) | (simp; omega) }
   refine rSq [(4, .y (.one (sv EN false u2 v2 l2)), H6), (5, .y (.one (cv75)), H76)] [(1, xi 2), (2, .y (.one (sv EN b nil cc m))), (3, yp n1), (6, yp n2), (10, .y (.one (cv75)))] H76
     (cast (Jai (Ja (t := 22) (off := 4) (v := .one (sv EN false u2 v2 l2)) (On.at hs7 0 rfl) (by kernel_rfl)) (JZ ho77)) (by kernel_rfl)) (by kernel_rfl) ?_
   refine wG hs78 ?_
   intro H79 hs80
   refine wS ?_
   refine rS0 [(1, xi 2), (2, .y (.one (sv EN b nil cc m))), (3, yp n1), (6, yp n2), (10, .y (.one (cv75))), (11, xi 0)] (by kernel_rfl) ?_
   refine wB ?_
   refine Wp.loop (T := HH × Int × C) (fun t => match t with | (H82, i3, cv) => (((m.length : Int) - i3).toNat : Nat)) (fun t => match t with | (H82, i3, cv) => ([(1, xi 2), (2, .y (.one (sv EN b nil cc m))), (3, yp n1), (6, yp n2), (10, .y (.one (cv))), (11, xi i3)] : Env)) (fun t => match t with | (H82, i3, cv) => (H82 : HH))
     (fun t => match t with | (H82, i3, cv) => (On [pts n1 (.obj [sv NI false rn rc S, vi hand, sv EN false u0 v0 l0, sv EN false u1 v1 l1, sv EN false u2 v2 l2]), pts n2 (.obj [nilC, vi 0, nilC, nilC, nilC]), itemsP EN cv (l2 ++ pin (m.take (i3 : Int).toNat))] H82 ∧ (0 ≤ i3) ∧ (i3 ≤ (m.length : Int)) ∧ (((l2 ++ pin (m.take (i3 : Int).toNat)).length : Int) = l2.length + i3) : Prop)) (H79, 0, cv75) (by kernel_rfl) (⟨(On.pick [0, 1, 2] [] (by kernel_rfl) (On.mono (A' := itemsP EN cv75 (l2 ++ pin (m.take (0 : Int).toNat))) 2 rfl (fun _ x => by rw [← (show l2 = (l2 ++ pin (m.take (0 : Int).toNat)) from (by simp))]; exact x) hs80)), by omega, by omega, by simp⟩) ?_
   rintro ⟨H82, i3, cv⟩ ⟨hs83, q1, q2, q3⟩
   show Wp _ _ _ _ [(1, xi 2), (2, .y (.one (sv EN b nil cc m))), (3, yp n1), (6, yp n2), (10, .y (.one (cv))), (11, xi i3)] H82 _
   refine wS ?_
   by_cases c84 : (i3 : Int) < (m.length : Int)
   ·
    refine rSq [(3, xb true, H82)] [(1, xi 2), (2, .y (.one (sv EN b nil cc m))), (3, yp n1), (6, yp n2), (10, .y (.one (cv))), (11, xi i3), (66, xb true)] H82
      (cast (JZ (Jh (H := H82) (t := 3) (u := 3) (a := i3) (b := (m.length : Int)) (by omega))) (by kernel_rfl)) (by kernel_rfl) ?_
    refine wTk ?_
    refine wS (wB ?_)
    obtain ⟨x85, hx85⟩ : ∃ x, m[(i3 : Int).toNat]? = some x := get_of (by omega)
    obtain ⟨cv86, H87, ho88, hs89⟩ := or_append_items (P := pg) (A := an) (s := EN) (t := 22) (u := 22) (el := 35) (by_ := 24) (z := [vi 0, vi 0, vb false]) (ty := 0) (y := .sl false false true [vi x85.1.1, vi x85.1.2.1, vb true] 1) (lm := ([(x85.1, (true, ()))])) (m := 1) hs83 2 rfl ((slCells_slO (H := H82) (s := EN) (b := false) (nil := false) (capd := true) (l := [(x85.1, (true, ()))]) (n := 1) (by first | rfl | omega | simp <;> omega))) (by kernel_rfl) (by kernel_rfl) (by kernel_rfl) (by kernel_rfl) (by kernel_rfl) (by kernel_rfl) (by kernel_rfl) (by first | rfl | omega | simp <;> omega) (by omega) (by omega)
    have hs89l : (((l2 ++ pin (m.take (i3 : Int).toNat)) ++ ([(x85.1, (true, ()))])).length : Int) = (((l2 ++ pin (m.take (i3 : Int).toNat)).length : Int) + 1) := by { first | omega | (simp only [List.length_append]; omega) | (simp; done) | (simp; omega) }
    refine rKq [(3, .y (.one (.rd ([vi x85.1.1, vi x85.1.2.1, vb x85.2.1] ++ (m.drop ((i3 : Int).toNat + 1)).flatMap (enc EN)))), H82), (8, .y (.one (cv86)), H87)] [(1, xi 2), (2, .y (.one (sv EN b nil cc m))), (3, yp n1), (6, yp n2), (10, .y (.one (cv86))), (11, xi i3)] H87
      (cast (Jai (Jf (H := H82) (s := EN) (b := b) (nil := nil) (capd := cc) (t := 22) (el := 35) (i := i3) Try.underlying22 (by kernel_rfl) (by kernel_rfl) (by omega) hx85) (JZ ho88)) (by kernel_rfl)) (by kernel_rfl) ?_
    refine wG hs89 ?_
    intro H90 hs91
    refine wK ?_
    refine wR [(1, xi (i3 + 1), H90)] [(1, xi 2), (2, .y (.one (sv EN b nil cc m))), (3, yp n1), (6, yp n2), (10, .y (.one (cv86))), (11, xi (i3 + 1))] H90
      (cast (JZ (Jj (H := H90) (t := 3) (u := 3) (a := i3) (b := 1) (c := (i3 + 1)) (by omega))) (by kernel_rfl)) (by kernel_rfl) ?_
    exact ⟨(H90, (i3 + 1), cv86), by kernel_rfl, (⟨(On.pick [0, 1, 2] [] (by kernel_rfl) (On.mono (A' := itemsP EN cv86 (l2 ++ pin (m.take ((i3 + 1) : Int).toNat))) 2 rfl (fun _ x => by rw [← (show ((l2 ++ pin (m.take (i3 : Int).toNat)) ++ ([(x85.1, (true, ()))])) = (l2 ++ pin (m.take ((i3 + 1) : Int).toNat)) from (pin_snoc q1 hx85))]; exact x) hs91)), by omega, by omega, by simp only [List.length_append, List.length_map, List.length_take]; omega⟩), (by show (_ : Nat) < _; simp only []; omega)⟩
   ·
    refine rSq [(3, xb false, H82)] [(1, xi 2), (2, .y (.one (sv EN b nil cc m))), (3, yp n1), (6, yp n2), (10, .y (.one (cv))), (11, xi i3), (66, xb false)] H82
      (cast (JZ (Je (H := H82) (t := 3) (u := 3) (a := i3) (b := (m.length : Int)) (by omega))) (by kernel_rfl)) (by kernel_rfl) ?_
    refine wFa ?_
    refine wX ?_
    refine Eq.mpr (if_pos rfl) ?_
    have hv92 : C.live cv = true := items_live hs83 2 rfl
    refine rSq [(4, .tup [], (sto H82 n1 (.obj [sv NI false rn rc S, vi hand, sv EN false u0 v0 l0, sv EN false u1 v1 l1, cv])))] [(3, yp n1), (6, yp n2)] (sto H82 n1 (.obj [sv NI false rn rc S, vi hand, sv EN false u0 v0 l0, sv EN false u1 v1 l1, cv]))
      (cast (JZ (Jp (H := H82) (t := 22) (ty := 0) (id := n1) (off := 4) (cs := [sv NI false rn rc S, vi hand, sv EN false u0 v0 l0, sv EN false u1 v1 l1, sv EN false u2 v2 l2]) (cs' := [sv NI false rn rc S, vi hand, sv EN false u0 v0 l0, sv EN false u1 v1 l1, cv]) (v := .one (cv)) (On.at hs83 0 rfl) (by kernel_rfl) (live_cons hv92 live_nil) (by kernel_rfl) (by kernel_rfl))) (by kernel_rfl)) (by kernel_rfl) ?_
    refine wG (On.put (.obj [sv NI false rn rc S, vi hand, sv EN false u0 v0 l0, sv EN false u1 v1 l1, cv]) hs83 0 rfl) ?_
    intro H93 hs94
    refine rSq [(0, .y (.agg [sv NI false rn rc S, vi hand, sv EN false u0 v0 l0, sv EN false u1 v1 l1, cv]), H93), (1, .tup [], (sto H93 n2 (.obj [sv NI false rn rc S, vi hand, sv EN false u0 v0 l0, sv EN false u1 v1 l1, cv])))] [(6, yp n2), (7, xi 0)] (sto H93 n2 (.obj [sv NI false rn rc S, vi hand, sv EN false u0 v0 l0, sv EN false u1 v1 l1, cv]))
      (cast (Jai (Ja (t := 41) (off := 0) (v := .agg [sv NI false rn rc S, vi hand, sv EN false u0 v0 l0, sv EN false u1 v1 l1, cv]) (On.at hs94 0 rfl) (by kernel_rfl)) (JZ (Jp (H := H93) (t := 41) (ty := 0) (id := n2) (off := 0) (cs := [nilC, vi 0, nilC, nilC, nilC]) (cs' := [sv NI false rn rc S, vi hand, sv EN false u0 v0 l0, sv EN false u1 v1 l1, cv]) (v := .agg [sv NI false rn rc S, vi hand, sv EN false u0 v0 l0, sv EN false u1 v1 l1, cv]) (On.at hs94 1 rfl) (by kernel_rfl) (live_cons rfl (live_cons rfl (live_cons rfl (live_cons rfl (live_cons hv92 live_nil))))) (by kernel_rfl) (by kernel_rfl)))) (by kernel_rfl)) (by kernel_rfl) ?_
    refine wG (On.put (.obj [sv NI false rn rc S, vi hand, sv EN false u0 v0 l0, sv EN false u1 v1 l1, cv]) hs94 1 rfl) ?_
    intro H95 hs96
    refine wE ?_
    refine ⟨Or.inr rfl, [.agg [sv NI false rn rc S, vi hand, sv EN false u0 v0 l0, sv EN false u1 v1 l1, cv], .one (vi 0)], (cast (res_cons (P := pg) (e := [(6, yp n2), (7, xi 0)]) (H := H95) (res_cell (P := pg) (e := [(6, yp n2), (7, xi 0)]) (H := H95) (a := 6) (t := 41) (id := n2) (off := 0) (n := 5) (cs := [sv NI false rn rc S, vi hand, sv EN false u0 v0 l0, sv EN false u1 v1 l1, cv]) (cs' := [sv NI false rn rc S, vi hand, sv EN false u0 v0 l0, sv EN false u1 v1 l1, cv]) (v := .agg [sv NI false rn rc S, vi hand, sv EN false u0 v0 l0, sv EN false u1 v1 l1, cv]) (by kernel_rfl) (by kernel_rfl) (On.at hs96 1 rfl) (by kernel_rfl) (by kernel_rfl) (by kernel_rfl)) (res_cons (P := pg) (e := [(6, yp n2), (7, xi 0)]) (H := H95) (r := .tmp 7) (y := .one (vi 0)) (by kernel_rfl) res_nil)) (by kernel_rfl)), ?_⟩
    obtain ⟨fn97, fp98, hf99⟩ := items_back hs96 2 rfl
    exact .inr (.inr (⟨rfl, fn97, fp98, (by have e9 : (l2 ++ pin (m.take (i3 : Int).toNat)) = (l2 ++ pin m) := (by rw [take_all (show (m.length : Int) ≤ i3 by omega)]); rw [← e9]; exact (back_cons (back_agg (mapM_cons' (by kernel_rfl) (mapM_cons' (by kernel_rfl) (mapM_cons' (by kernel_rfl) (mapM_cons' (by kernel_rfl) (mapM_cons' hf99 mapM_nil')))))) (back_cons (by kernel_rfl) rfl)))⟩))
end Go.Proofs.Ytoidoeappihplaa
