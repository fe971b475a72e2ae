/-
  Core: more of the document's functions. (Printed by sx/r18.py.)
-/
import Derived.Test.YtjdnhbnpdbpgbaaR18H
namespace Go.Proofs.Ytjdnhbnpdbpgbaa
open Go.Lg
set_option linter.unusedVariables false
set_option maxRecDepth 100000
set_option maxHeartbeats 8000000
set_option linter.unusedSimpArgs false
theorem rstands_0 (rb rn rc w0 u0 v0 w1 u1 v1 w2 u2 v2 : Bool) (S : List Int) (hand : Int) (l0 l1 l2 : List EN.T) (p : PN.T) (b0 : (l0.length : Int) ≤ 70368744177664) (b1 : (l1.length : Int) ≤ 70368744177664) (b2 : (l2.length : Int) ≤ 70368744177664) (h0 : 0 ≤ posI p l0)  : PureC pg an 28 [.agg [sv NI rb rn rc S, vi hand, sv EN w0 u0 v0 l0, sv EN w1 u1 v1 l1, sv EN w2 u2 v2 l2], .agg [vi p.1, vi p.2.1]] [.one (vb true)] := by
 suffices h : ∃ rs H', Runs pg an 28 [.agg [sv NI rb rn rc S, vi hand, sv EN w0 u0 v0 l0, sv EN w1 u1 v1 l1, sv EN w2 u2 v2 l2], .agg [vi p.1, vi p.2.1]] [] rs H' ∧ rs.mapM (backY H') = some [.one (vb true)] by
  obtain ⟨rs, H', h1, h2⟩ := h
  exact ⟨rs, H', h1, h2⟩
 refine Runs.of (fn := Try.f28) Try.func28 rfl (by kernel_rfl) [(0, .y (.agg [sv NI rb rn rc S, vi hand, sv EN w0 u0 v0 l0, sv EN w1 u1 v1 l1, sv EN w2 u2 v2 l2])), (1, .y (.agg [vi p.1, vi p.2.1]))] (by kernel_rfl) ?_
 obtain ⟨n1, hn1⟩ : ∃ n, n = List.length ([] : Go.Lg.Heap) := ⟨_, rfl⟩
 obtain ⟨n2, hn2⟩ : ∃ n, n = List.length (([] ++ [.obj [sv NI rb rn rc S, vi hand, sv EN w0 u0 v0 l0, sv EN w1 u1 v1 l1, sv EN w2 u2 v2 l2]]) : Go.Lg.Heap) := ⟨_, rfl⟩
 refine rSq [(0, .y (.one (.ptr n1 0)), ([] ++ [.obj [sv NI rb rn rc S, vi hand, sv EN w0 u0 v0 l0, sv EN w1 u1 v1 l1, sv EN w2 u2 v2 l2]])), (1, .y (.one (.ptr n2 0)), (([] ++ [.obj [sv NI rb rn rc S, vi hand, sv EN w0 u0 v0 l0, sv EN w1 u1 v1 l1, sv EN w2 u2 v2 l2]]) ++ [.obj [vi p.1, vi p.2.1]]))] [(2, .y (.one (.ptr n1 0))), (3, .y (.one (.ptr n2 0)))] (([] ++ [.obj [sv NI rb rn rc S, vi hand, sv EN w0 u0 v0 l0, sv EN w1 u1 v1 l1, sv EN w2 u2 v2 l2]]) ++ [.obj [vi p.1, vi p.2.1]])
   (cast (Jai (Jh (H := []) (t := 31) (ty := 0) (n := n1) (v := .agg [sv NI rb rn rc S, vi hand, sv EN w0 u0 v0 l0, sv EN w1 u1 v1 l1, sv EN w2 u2 v2 l2]) (cs := [sv NI rb rn rc S, vi hand, sv EN w0 u0 v0 l0, sv EN w1 u1 v1 l1, sv EN w2 u2 v2 l2]) hn1 (by kernel_rfl) (by kernel_rfl) (by kernel_rfl)) (Jai (Jh (H := ([] ++ [.obj [sv NI rb rn rc S, vi hand, sv EN w0 u0 v0 l0, sv EN w1 u1 v1 l1, sv EN w2 u2 v2 l2]])) (t := 38) (ty := 0) (n := n2) (v := .agg [vi p.1, vi p.2.1]) (cs := [vi p.1, vi p.2.1]) hn2 (by kernel_rfl) (by kernel_rfl) (by kernel_rfl)) trivial)) (by kernel_rfl)) (by kernel_rfl) ?_
 refine Wp.gen (cs := [pts n1 (.obj [sv NI rb rn rc S, vi hand, sv EN w0 u0 v0 l0, sv EN w1 u1 v1 l1, sv EN w2 u2 v2 l2]), pts n2 (.obj [vi p.1, vi p.2.1])]) (On.new' hn2 (.obj [vi p.1, vi p.2.1]) (On.new' hn1 (.obj [sv NI rb rn rc S, vi hand, sv EN w0 u0 v0 l0, sv EN w1 u1 v1 l1, sv EN w2 u2 v2 l2]) (On.nil []))) ?_
 intro H3 hs4
 have hz5 := posI_bd p l0
 have hz7 := posI_bd p l1
 have hz10 := posI_bd p l2
 refine rSq [(0, .y (.agg [sv NI rb rn rc S, vi hand, sv EN w0 u0 v0 l0, sv EN w1 u1 v1 l1, sv EN w2 u2 v2 l2]), H3), (1, .y (.agg [vi p.1, vi p.2.1]), H3), (2, .tup [.one (vi 0), .one (vi (posI p l0)), .one (vi 0)], H3)] [(7, xi 0)] H3
   (cast (Jai (Jb (H := H3) (t := 31) (ty := 0) (id := n1) (off := 0) (n := 5) (cs := [sv NI rb rn rc S, vi hand, sv EN w0 u0 v0 l0, sv EN w1 u1 v1 l1, sv EN w2 u2 v2 l2]) (cs' := [sv NI rb rn rc S, vi hand, sv EN w0 u0 v0 l0, sv EN w1 u1 v1 l1, sv EN w2 u2 v2 l2]) (v := .agg [sv NI rb rn rc S, vi hand, sv EN w0 u0 v0 l0, sv EN w1 u1 v1 l1, sv EN w2 u2 v2 l2]) (On.at hs4 0 rfl) (by kernel_rfl) (by kernel_rfl) (by kernel_rfl) (by kernel_rfl)) (Jai (Jb (H := H3) (t := 38) (ty := 0) (id := n2) (off := 0) (n := 2) (cs := [vi p.1, vi p.2.1]) (cs' := [vi p.1, vi p.2.1]) (v := .agg [vi p.1, vi p.2.1]) (On.at hs4 1 rfl) (by kernel_rfl) (by kernel_rfl) (by kernel_rfl) (by kernel_rfl)) (Jai (Jf (H := H3) (g := 52) (vals := [.y (.agg [sv NI rb rn rc S, vi hand, sv EN w0 u0 v0 l0, sv EN w1 u1 v1 l1, sv EN w2 u2 v2 l2]), .y (.agg [vi p.1, vi p.2.1])]) (xs0 := [.agg [sv NI rb rn rc S, vi hand, sv EN w0 u0 v0 l0, sv EN w1 u1 v1 l1, sv EN w2 u2 v2 l2], .agg [vi p.1, vi p.2.1]]) (xs1 := [.agg [sv NI rb rn rc S, vi hand, sv EN w0 u0 v0 l0, sv EN w1 u1 v1 l1, sv EN w2 u2 v2 l2], .agg [vi p.1, vi p.2.1]]) (res := [.one (vi 0), .one (vi (posI p l0)), .one (vi 0)]) (ats := #[]) (ty := 0) (v := .tup [.one (vi 0), .one (vi (posI p l0)), .one (vi 0)]) [.tmp 0, .tmp 1] (by kernel_rfl) (by kernel_rfl) (snap_cons (by kernel_rfl) (snap_cons (by kernel_rfl) (snap_nil))) (rfind_0 rb rn rc w0 u0 v0 w1 u1 v1 w2 u2 v2 S hand l0 l1 l2 p (by first | rfl | omega | (simp; done) | (simp; omega)) (by first | rfl | omega | (simp; done) | (simp; omega)) (by first | rfl | omega | (simp; done) | (simp; omega)) (by omega)) (by kernel_rfl)) trivial))) (by kernel_rfl)) (by kernel_rfl) ?_
 refine rSq [] [(4, xb true)] H3
   (cast trivial (by kernel_rfl)) (by kernel_rfl) ?_
 refine Wp.ret ?_
 refine ⟨Or.inr rfl, [.one (vb true)], (by kernel_rfl), ?_⟩
 exact (by kernel_rfl)
theorem rstands_1 (rb rn rc w0 u0 v0 w1 u1 v1 w2 u2 v2 : Bool) (S : List Int) (hand : Int) (l0 l1 l2 : List EN.T) (p : PN.T) (b0 : (l0.length : Int) ≤ 70368744177664) (b1 : (l1.length : Int) ≤ 70368744177664) (b2 : (l2.length : Int) ≤ 70368744177664) (h0 : posI p l0 < 0) (h1 : 0 ≤ posI p l1)  : PureC pg an 28 [.agg [sv NI rb rn rc S, vi hand, sv EN w0 u0 v0 l0, sv EN w1 u1 v1 l1, sv EN w2 u2 v2 l2], .agg [vi p.1, vi p.2.1]] [.one (vb true)] := by
 suffices h : ∃ rs H', Runs pg an 28 [.agg [sv NI rb rn rc S, vi hand, sv EN w0 u0 v0 l0, sv EN w1 u1 v1 l1, sv EN w2 u2 v2 l2], .agg [vi p.1, vi p.2.1]] [] rs H' ∧ rs.mapM (backY H') = some [.one (vb true)] by
  obtain ⟨rs, H', h1, h2⟩ := h
  exact ⟨rs, H', h1, h2⟩
 refine Runs.of (fn := Try.f28) Try.func28 rfl (by kernel_rfl) [(0, .y (.agg [sv NI rb rn rc S, vi hand, sv EN w0 u0 v0 l0, sv EN w1 u1 v1 l1, sv EN w2 u2 v2 l2])), (1, .y (.agg [vi p.1, vi p.2.1]))] (by kernel_rfl) ?_
 obtain ⟨n1, hn1⟩ : ∃ n, n = List.length ([] : Go.Lg.Heap) := ⟨_, rfl⟩
 obtain ⟨n2, hn2⟩ : ∃ n, n = List.length (([] ++ [.obj [sv NI rb rn rc S, vi hand, sv EN w0 u0 v0 l0, sv EN w1 u1 v1 l1, sv EN w2 u2 v2 l2]]) : Go.Lg.Heap) := ⟨_, rfl⟩
 refine rSq [(0, .y (.one (.ptr n1 0)), ([] ++ [.obj [sv NI rb rn rc S, vi hand, sv EN w0 u0 v0 l0, sv EN w1 u1 v1 l1, sv EN w2 u2 v2 l2]])), (1, .y (.one (.ptr n2 0)), (([] ++ [.obj [sv NI rb rn rc S, vi hand, sv EN w0 u0 v0 l0, sv EN w1 u1 v1 l1, sv EN w2 u2 v2 l2]]) ++ [.obj [vi p.1, vi p.2.1]]))] [(2, .y (.one (.ptr n1 0))), (3, .y (.one (.ptr n2 0)))] (([] ++ [.obj [sv NI rb rn rc S, vi hand, sv EN w0 u0 v0 l0, sv EN w1 u1 v1 l1, sv EN w2 u2 v2 l2]]) ++ [.obj [vi p.1, vi p.2.1]])
   (cast (Jai (Jh (H := []) (t := 31) (ty := 0) (n := n1) (v := .agg [sv NI rb rn rc S, vi hand, sv EN w0 u0 v0 l0, sv EN w1 u1 v1 l1, sv EN w2 u2 v2 l2]) (cs := [sv NI rb rn rc S, vi hand, sv EN w0 u0 v0 l0, sv EN w1 u1 v1 l1, sv EN w2 u2 v2 l2]) hn1 (by kernel_rfl) (by kernel_rfl) (by kernel_rfl)) (Jai (Jh (H := ([] ++ [.obj [sv NI rb rn rc S, vi hand, sv EN w0 u0 v0 l0, sv EN w1 u1 v1 l1, sv EN w2 u2 v2 l2]])) (t := 38) (ty := 0) (n := n2) (v := .agg [vi p.1, vi p.2.1]) (cs := [vi p.1, vi p.2.1]) hn2 (by kernel_rfl) (by kernel_rfl) (by kernel_rfl)) trivial)) (by kernel_rfl)) (by kernel_rfl) ?_
 refine Wp.gen (cs := [pts n1 (.obj [sv NI rb rn rc S, vi hand, sv EN w0 u0 v0 l0, sv EN w1 u1 v1 l1, sv EN w2 u2 v2 l2]), pts n2 (.obj [vi p.1, vi p.2.1])]) (On.new' hn2 (.obj [vi p.1, vi p.2.1]) (On.new' hn1 (.obj [sv NI rb rn rc S, vi hand, sv EN w0 u0 v0 l0, sv EN w1 u1 v1 l1, sv EN w2 u2 v2 l2]) (On.nil []))) ?_
 intro H3 hs4
 have hz5 := posI_bd p l0
 have hz7 := posI_bd p l1
 have hz10 := posI_bd p l2
 refine rSq [(0, .y (.agg [sv NI rb rn rc S, vi hand, sv EN w0 u0 v0 l0, sv EN w1 u1 v1 l1, sv EN w2 u2 v2 l2]), H3), (1, .y (.agg [vi p.1, vi p.2.1]), H3), (2, .tup [.one (vi 1), .one (vi (posI p l1)), .one (vi 0)], H3)] [(7, xi 0)] H3
   (cast (Jai (Jb (H := H3) (t := 31) (ty := 0) (id := n1) (off := 0) (n := 5) (cs := [sv NI rb rn rc S, vi hand, sv EN w0 u0 v0 l0, sv EN w1 u1 v1 l1, sv EN w2 u2 v2 l2]) (cs' := [sv NI rb rn rc S, vi hand, sv EN w0 u0 v0 l0, sv EN w1 u1 v1 l1, sv EN w2 u2 v2 l2]) (v := .agg [sv NI rb rn rc S, vi hand, sv EN w0 u0 v0 l0, sv EN w1 u1 v1 l1, sv EN w2 u2 v2 l2]) (On.at hs4 0 rfl) (by kernel_rfl) (by kernel_rfl) (by kernel_rfl) (by kernel_rfl)) (Jai (Jb (H := H3) (t := 38) (ty := 0) (id := n2) (off := 0) (n := 2) (cs := [vi p.1, vi p.2.1]) (cs' := [vi p.1, vi p.2.1]) (v := .agg [vi p.1, vi p.2.1]) (On.at hs4 1 rfl) (by kernel_rfl) (by kernel_rfl) (by kernel_rfl) (by kernel_rfl)) (Jai (Jf (H := H3) (g := 52) (vals := [.y (.agg [sv NI rb rn rc S, vi hand, sv EN w0 u0 v0 l0, sv EN w1 u1 v1 l1, sv EN w2 u2 v2 l2]), .y (.agg [vi p.1, vi p.2.1])]) (xs0 := [.agg [sv NI rb rn rc S, vi hand, sv EN w0 u0 v0 l0, sv EN w1 u1 v1 l1, sv EN w2 u2 v2 l2], .agg [vi p.1, vi p.2.1]]) (xs1 := [.agg [sv NI rb rn rc S, vi hand, sv EN w0 u0 v0 l0, sv EN w1 u1 v1 l1, sv EN w2 u2 v2 l2], .agg [vi p.1, vi p.2.1]]) (res := [.one (vi 1), .one (vi (posI p l1)), .one (vi 0)]) (ats := #[]) (ty := 0) (v := .tup [.one (vi 1), .one (vi (posI p l1)), .one (vi 0)]) [.tmp 0, .tmp 1] (by kernel_rfl) (by kernel_rfl) (snap_cons (by kernel_rfl) (snap_cons (by kernel_rfl) (snap_nil))) (rfind_1 rb rn rc w0 u0 v0 w1 u1 v1 w2 u2 v2 S hand l0 l1 l2 p (by first | rfl | omega | (simp; done) | (simp; omega)) (by first | rfl | omega | (simp; done) | (simp; omega)) (by first | rfl | omega | (simp; done) | (simp; omega)) (by omega) (by omega)) (by kernel_rfl)) trivial))) (by kernel_rfl)) (by kernel_rfl) ?_
 refine rSq [] [(4, xb true)] H3
   (cast trivial (by kernel_rfl)) (by kernel_rfl) ?_
 refine Wp.ret ?_
 refine ⟨Or.inr rfl, [.one (vb true)], (by kernel_rfl), ?_⟩
 exact (by kernel_rfl)
theorem rstands_3 (rb rn rc w0 u0 v0 w1 u1 v1 w2 u2 v2 : Bool) (S : List Int) (hand : Int) (l0 l1 l2 : List EN.T) (p : PN.T) (b0 : (l0.length : Int) ≤ 70368744177664) (b1 : (l1.length : Int) ≤ 70368744177664) (b2 : (l2.length : Int) ≤ 70368744177664) (h0 : posI p l0 < 0) (h1 : posI p l1 < 0) (h2 : posI p l2 < 0)  : PureC pg an 28 [.agg [sv NI rb rn rc S, vi hand, sv EN w0 u0 v0 l0, sv EN w1 u1 v1 l1, sv EN w2 u2 v2 l2], .agg [vi p.1, vi p.2.1]] [.one (vb false)] := by
 suffices h : ∃ rs H', Runs pg an 28 [.agg [sv NI rb rn rc S, vi hand, sv EN w0 u0 v0 l0, sv EN w1 u1 v1 l1, sv EN w2 u2 v2 l2], .agg [vi p.1, vi p.2.1]] [] rs H' ∧ rs.mapM (backY H') = some [.one (vb false)] by
  obtain ⟨rs, H', h1, h2⟩ := h
  exact ⟨rs, H', h1, h2⟩
 refine Runs.of (fn := Try.f28) Try.func28 rfl (by kernel_rfl) [(0, .y (.agg [sv NI rb rn rc S, vi hand, sv EN w0 u0 v0 l0, sv EN w1 u1 v1 l1, sv EN w2 u2 v2 l2])), (1, .y (.agg [vi p.1, vi p.2.1]))] (by kernel_rfl) ?_
 obtain ⟨n1, hn1⟩ : ∃ n, n = List.length ([] : Go.Lg.Heap) := ⟨_, rfl⟩
 obtain ⟨n2, hn2⟩ : ∃ n, n = List.length (([] ++ [.obj [sv NI rb rn rc S, vi hand, sv EN w0 u0 v0 l0, sv EN w1 u1 v1 l1, sv EN w2 u2 v2 l2]]) : Go.Lg.Heap) := ⟨_, rfl⟩
 refine rSq [(0, .y (.one (.ptr n1 0)), ([] ++ [.obj [sv NI rb rn rc S, vi hand, sv EN w0 u0 v0 l0, sv EN w1 u1 v1 l1, sv EN w2 u2 v2 l2]])), (1, .y (.one (.ptr n2 0)), (([] ++ [.obj [sv NI rb rn rc S, vi hand, sv EN w0 u0 v0 l0, sv EN w1 u1 v1 l1, sv EN w2 u2 v2 l2]]) ++ [.obj [vi p.1, vi p.2.1]]))] [(2, .y (.one (.ptr n1 0))), (3, .y (.one (.ptr n2 0)))] (([] ++ [.obj [sv NI rb rn rc S, vi hand, sv EN w0 u0 v0 l0, sv EN w1 u1 v1 l1, sv EN w2 u2 v2 l2]]) ++ [.obj [vi p.1, vi p.2.1]])
   (cast (Jai (Jh (H := []) (t := 31) (ty := 0) (n := n1) (v := .agg [sv NI rb rn rc S, vi hand, sv EN w0 u0 v0 l0, sv EN w1 u1 v1 l1, sv EN w2 u2 v2 l2]) (cs := [sv NI rb rn rc S, vi hand, sv EN w0 u0 v0 l0, sv EN w1 u1 v1 l1, sv EN w2 u2 v2 l2]) hn1 (by kernel_rfl) (by kernel_rfl) (by kernel_rfl)) (Jai (Jh (H := ([] ++ [.obj [sv NI rb rn rc S, vi hand, sv EN w0 u0 v0 l0, sv EN w1 u1 v1 l1, sv EN w2 u2 v2 l2]])) (t := 38) (ty := 0) (n := n2) (v := .agg [vi p.1, vi p.2.1]) (cs := [vi p.1, vi p.2.1]) hn2 (by kernel_rfl) (by kernel_rfl) (by kernel_rfl)) trivial)) (by kernel_rfl)) (by kernel_rfl) ?_
 refine Wp.gen (cs := [pts n1 (.obj [sv NI rb rn rc S, vi hand, sv EN w0 u0 v0 l0, sv EN w1 u1 v1 l1, sv EN w2 u2 v2 l2]), pts n2 (.obj [vi p.1, vi p.2.1])]) (On.new' hn2 (.obj [vi p.1, vi p.2.1]) (On.new' hn1 (.obj [sv NI rb rn rc S, vi hand, sv EN w0 u0 v0 l0, sv EN w1 u1 v1 l1, sv EN w2 u2 v2 l2]) (On.nil []))) ?_
 intro H3 hs4
 have hz5 := posI_bd p l0
 have hz7 := posI_bd p l1
 have hz10 := posI_bd p l2
 refine rSq [(0, .y (.agg [sv NI rb rn rc S, vi hand, sv EN w0 u0 v0 l0, sv EN w1 u1 v1 l1, sv EN w2 u2 v2 l2]), H3), (1, .y (.agg [vi p.1, vi p.2.1]), H3), (2, .tup [.one (vi 0), .one (vi 0), .one (vi 3)], H3)] [(7, xi 3)] H3
   (cast (Jai (Jb (H := H3) (t := 31) (ty := 0) (id := n1) (off := 0) (n := 5) (cs := [sv NI rb rn rc S, vi hand, sv EN w0 u0 v0 l0, sv EN w1 u1 v1 l1, sv EN w2 u2 v2 l2]) (cs' := [sv NI rb rn rc S, vi hand, sv EN w0 u0 v0 l0, sv EN w1 u1 v1 l1, sv EN w2 u2 v2 l2]) (v := .agg [sv NI rb rn rc S, vi hand, sv EN w0 u0 v0 l0, sv EN w1 u1 v1 l1, sv EN w2 u2 v2 l2]) (On.at hs4 0 rfl) (by kernel_rfl) (by kernel_rfl) (by kernel_rfl) (by kernel_rfl)) (Jai (Jb (H := H3) (t := 38) (ty := 0) (id := n2) (off := 0) (n := 2) (cs := [vi p.1, vi p.2.1]) (cs' := [vi p.1, vi p.2.1]) (v := .agg [vi p.1, vi p.2.1]) (On.at hs4 1 rfl) (by kernel_rfl) (by kernel_rfl) (by kernel_rfl) (by kernel_rfl)) (Jai (Jf (H := H3) (g := 52) (vals := [.y (.agg [sv NI rb rn rc S, vi hand, sv EN w0 u0 v0 l0, sv EN w1 u1 v1 l1, sv EN w2 u2 v2 l2]), .y (.agg [vi p.1, vi p.2.1])]) (xs0 := [.agg [sv NI rb rn rc S, vi hand, sv EN w0 u0 v0 l0, sv EN w1 u1 v1 l1, sv EN w2 u2 v2 l2], .agg [vi p.1, vi p.2.1]]) (xs1 := [.agg [sv NI rb rn rc S, vi hand, sv EN w0 u0 v0 l0, sv EN w1 u1 v1 l1, sv EN w2 u2 v2 l2], .agg [vi p.1, vi p.2.1]]) (res := [.one (vi 0), .one (vi 0), .one (vi 3)]) (ats := #[]) (ty := 0) (v := .tup [.one (vi 0), .one (vi 0), .one (vi 3)]) [.tmp 0, .tmp 1] (by kernel_rfl) (by kernel_rfl) (snap_cons (by kernel_rfl) (snap_cons (by kernel_rfl) (snap_nil))) (rfind_3 rb rn rc w0 u0 v0 w1 u1 v1 w2 u2 v2 S hand l0 l1 l2 p (by first | rfl | omega | (simp; done) | (simp; omega)) (by first | rfl | omega | (simp; done) | (simp; omega)) (by first | rfl | omega | (simp; done) | (simp; omega)) (by omega) (by omega) (by omega)) (by kernel_rfl)) trivial))) (by kernel_rfl)) (by kernel_rfl) ?_
 refine rSq [] [(4, xb false)] H3
   (cast trivial (by kernel_rfl)) (by kernel_rfl) ?_
 refine Wp.ret ?_
 refine ⟨Or.inr rfl, [.one (vb false)], (by kernel_rfl), ?_⟩
 exact (by kernel_rfl)
end Go.Proofs.Ytjdnhbnpdbpgbaa
