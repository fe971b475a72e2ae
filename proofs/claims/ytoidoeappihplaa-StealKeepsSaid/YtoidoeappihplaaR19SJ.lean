/-
  Steal: Same and Cut of the document. (Printed by sx/r19s.py.)
-/
import Derived.Test.YtoidoeappihplaaR19SH
namespace Go.Proofs.Ytoidoeappihplaa
open Go.Lg
set_option linter.unusedVariables false
set_option maxRecDepth 100000
set_option maxHeartbeats 8000000
set_option linter.unusedSimpArgs false
theorem same_next {a b : List EN.T} {i : Int} {x y : EN.T} (h0 : 0 ≤ i) (h : a.take i.toNat = b.take i.toNat) (hx : a[i.toNat]? = some x) (hy : b[i.toNat]? = some y) (e : eqb EN x y = true) : a.take (i + 1).toNat = b.take (i + 1).toNat := by
  rw [show (i + 1).toNat = i.toNat + 1 by omega, List.take_add_one, List.take_add_one, h, hx, hy, eqb_eq rfl e]
theorem same_not {a b : List EN.T} {i : Int} {x y : EN.T} (hx : a[i.toNat]? = some x) (hy : b[i.toNat]? = some y) (e : eqb EN x y = false) : a ≠ b := by
  rintro rfl
  rw [hx] at hy
  cases hy
  rw [eqb_refl rfl] at e
  cases e
theorem same_t (b nil capd b2 nil2 capd2 : Bool) (l r : List EN.T) (hl : (l.length : Int) ≤ 70368744177664) (hr : (r.length : Int) ≤ 70368744177664) (he : l = r)  : PureC pg an 17 [.one (sv EN b nil capd l), .one (sv EN b2 nil2 capd2 r)] [.one (vb true)] := by
 suffices h : ∃ rs H', Runs pg an 17 [.one (sv EN b nil capd l), .one (sv EN b2 nil2 capd2 r)] [] rs H' ∧ rs.mapM (backY H') = some [.one (vb true)] by
  obtain ⟨rs, H', h1, h2⟩ := h
  exact ⟨rs, H', h1, h2⟩
 refine Runs.of (fn := Try.f17) Try.func17 rfl (by kernel_rfl) [(0, .y (.one (sv EN b nil capd l))), (1, .y (.one (sv EN b2 nil2 capd2 r)))] (by kernel_rfl) ?_
 refine rS0 [(0, .y (.one (sv EN b nil capd l))), (1, .y (.one (sv EN b2 nil2 capd2 r)))] (by kernel_rfl) (by kernel_rfl) ?_
 refine Wp.seq ?_
 by_cases c1 : ((l.length : Int) : Int) = (r.length : Int)
 ·
  refine rSq [(4, xb false, [])] [(0, .y (.one (sv EN b nil capd l))), (1, .y (.one (sv EN b2 nil2 capd2 r))), (10, xb false)] []
    (cast (Jai (Jh (vals := [xi (l.length : Int), xi (r.length : Int)]) (H := []) (op := .binOp .neq 3 (.tmp 0) (.tmp 1) 3) (ty := 0) (r := xb (((l.length : Int) : Int) != (r.length : Int))) (v := xb false) (by kernel_rfl) (congrArg (fun z => xb z) (bne_f (by omega)))) trivial) (by kernel_rfl)) (by kernel_rfl) ?_
  refine Wp.condF (by kernel_rfl) (Wp.skip ?_)
  refine Wp.seq ?_
  refine rS0 [(0, .y (.one (sv EN b nil capd l))), (1, .y (.one (sv EN b2 nil2 capd2 r))), (5, xi 0)] (by kernel_rfl) (by kernel_rfl) ?_
  refine Wp.block ?_
  refine Wp.loop (T := Go.Lg.Heap × Int) (fun (t : Go.Lg.Heap × Int) => match t with | (H3, i) => (((l.length : Int) - i).toNat : Nat)) (fun (t : Go.Lg.Heap × Int) => match t with | (H3, i) => ([(0, .y (.one (sv EN b nil capd l))), (1, .y (.one (sv EN b2 nil2 capd2 r))), (5, xi i)] : Env)) (fun (t : Go.Lg.Heap × Int) => match t with | (H3, i) => (H3 : Go.Lg.Heap))
    (fun (t : Go.Lg.Heap × Int) => match t with | (H3, i) => (On [] H3 ∧ (0 ≤ i) ∧ (i ≤ (l.length : Int)) ∧ (l.take i.toNat = r.take i.toNat) : Prop)) ([], 0) (by kernel_rfl) (⟨(On.pick [] [] (by kernel_rfl) (On.nil [])), by omega, by omega, by simp⟩) ?_
  rintro ⟨H3, i⟩ ⟨hs4, h1, h2, h3⟩
  show Wp _ _ _ _ [(0, .y (.one (sv EN b nil capd l))), (1, .y (.one (sv EN b2 nil2 capd2 r))), (5, xi i)] H3 _
  refine Wp.seq ?_
  by_cases c5 : (i : Int) < (l.length : Int)
  ·
   refine rSq [(3, xb true, H3)] [(0, .y (.one (sv EN b nil capd l))), (1, .y (.one (sv EN b2 nil2 capd2 r))), (5, xi i), (14, xb true)] H3
     (cast (Jai (Ji (H := H3) (t := 3) (u := 3) (a := i) (b := (l.length : Int)) (by omega)) trivial) (by kernel_rfl)) (by kernel_rfl) ?_
   refine Wp.condT (by kernel_rfl) (Wp.skip ?_)
   refine Wp.seq (Wp.block ?_)
   obtain ⟨x6, hx6⟩ : ∃ x, l[(i : Int).toNat]? = some x := get_of (by omega)
   obtain ⟨x7, hx7⟩ : ∃ x, r[(i : Int).toNat]? = some x := get_of (by omega)
   rcases Bool.eq_false_or_eq_true ((eqb EN x6 x7)) with c8 | c8
   ·
    refine rSq [(2, .y (.one (.rd ([vi x6.1.1, vi x6.1.2.1, vb x6.2.1] ++ (l.drop ((i : Int).toNat + 1)).flatMap (enc EN)))), H3), (6, .y (.one (.rd ([vi x7.1.1, vi x7.1.2.1, vb x7.2.1] ++ (r.drop ((i : Int).toNat + 1)).flatMap (enc EN)))), H3), (8, xb false, H3)] [(0, .y (.one (sv EN b nil capd l))), (1, .y (.one (sv EN b2 nil2 capd2 r))), (5, xi i), (25, xb false)] H3
      (cast (Jai (Jd (H := H3) (s := EN) (b := b) (nil := nil) (capd := capd) (t := 22) (el := 35) (i := i) Try.underlying22 (by kernel_rfl) (by kernel_rfl) (by omega) hx6) (Jai (Jd (H := H3) (s := EN) (b := b2) (nil := nil2) (capd := capd2) (t := 22) (el := 35) (i := i) Try.underlying22 (by kernel_rfl) (by kernel_rfl) (by omega) hx7) (Jai (Jy (H := H3) (s := EN) (t := 35) (u := 35) (ty := 0) (x := x6) (y := x7) (r := false) (by kernel_rfl) c8) trivial))) (by kernel_rfl)) (by kernel_rfl) ?_
    refine Wp.condF (by kernel_rfl) (Wp.skip ?_)
    refine Wp.region [(1, xi (i + 1), H3)] [(0, .y (.one (sv EN b nil capd l))), (1, .y (.one (sv EN b2 nil2 capd2 r))), (5, xi (i + 1))] H3
      (cast (Jai (Jk (H := H3) (t := 3) (u := 3) (a := i) (b := 1) (c := (i + 1)) (by omega)) trivial) (by kernel_rfl)) (by kernel_rfl) ?_
    exact ⟨(H3, (i + 1)), by kernel_rfl, (⟨(On.pick [] [] (by kernel_rfl) hs4), by omega, by omega, same_next (by omega) h3 hx6 hx7 c8⟩), (by show (_ : Nat) < _; simp only []; omega)⟩
   ·
    refine rSq [(2, .y (.one (.rd ([vi x6.1.1, vi x6.1.2.1, vb x6.2.1] ++ (l.drop ((i : Int).toNat + 1)).flatMap (enc EN)))), H3), (6, .y (.one (.rd ([vi x7.1.1, vi x7.1.2.1, vb x7.2.1] ++ (r.drop ((i : Int).toNat + 1)).flatMap (enc EN)))), H3), (8, xb true, H3)] [(0, .y (.one (sv EN b nil capd l))), (1, .y (.one (sv EN b2 nil2 capd2 r))), (5, xi i), (25, xb true)] H3
      (cast (Jai (Jd (H := H3) (s := EN) (b := b) (nil := nil) (capd := capd) (t := 22) (el := 35) (i := i) Try.underlying22 (by kernel_rfl) (by kernel_rfl) (by omega) hx6) (Jai (Jd (H := H3) (s := EN) (b := b2) (nil := nil2) (capd := capd2) (t := 22) (el := 35) (i := i) Try.underlying22 (by kernel_rfl) (by kernel_rfl) (by omega) hx7) (Jai (Jy (H := H3) (s := EN) (t := 35) (u := 35) (ty := 0) (x := x6) (y := x7) (r := true) (by kernel_rfl) c8) trivial))) (by kernel_rfl)) (by kernel_rfl) ?_
    refine Wp.condT (by kernel_rfl) ?_
    refine rS0 [(4, xb false)] (by kernel_rfl) (by kernel_rfl) ?_
    refine Wp.ret ?_
    refine ⟨Or.inr rfl, [.one (vb false)], (by kernel_rfl), ?_⟩
    exact absurd he (same_not hx6 hx7 c8)
  ·
   refine rSq [(3, xb false, H3)] [(0, .y (.one (sv EN b nil capd l))), (1, .y (.one (sv EN b2 nil2 capd2 r))), (5, xi i), (14, xb false)] H3
     (cast (Jai (Jf (H := H3) (t := 3) (u := 3) (a := i) (b := (l.length : Int)) (by omega)) trivial) (by kernel_rfl)) (by kernel_rfl) ?_
   refine Wp.condF (by kernel_rfl) ?_
   refine Wp.exit ?_
   refine Eq.mpr (if_pos rfl) ?_
   refine rS0 [(4, xb true)] (by kernel_rfl) (by kernel_rfl) ?_
   refine Wp.ret ?_
   refine ⟨Or.inr rfl, [.one (vb true)], (by kernel_rfl), ?_⟩
   exact (by kernel_rfl)
 ·
  refine rSq [(4, xb true, [])] [(0, .y (.one (sv EN b nil capd l))), (1, .y (.one (sv EN b2 nil2 capd2 r))), (10, xb true)] []
    (cast (Jai (Jh (vals := [xi (l.length : Int), xi (r.length : Int)]) (H := []) (op := .binOp .neq 3 (.tmp 0) (.tmp 1) 3) (ty := 0) (r := xb (((l.length : Int) : Int) != (r.length : Int))) (v := xb true) (by kernel_rfl) (congrArg (fun z => xb z) (bne_t (by omega)))) trivial) (by kernel_rfl)) (by kernel_rfl) ?_
  refine Wp.condT (by kernel_rfl) ?_
  refine rS0 [(4, xb false)] (by kernel_rfl) (by kernel_rfl) ?_
  refine Wp.ret ?_
  refine ⟨Or.inr rfl, [.one (vb false)], (by kernel_rfl), ?_⟩
  exact absurd (congrArg List.length he) (by omega)
end Go.Proofs.Ytoidoeappihplaa
