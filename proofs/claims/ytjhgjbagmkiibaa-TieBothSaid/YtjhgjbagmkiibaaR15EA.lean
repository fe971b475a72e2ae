/-
  Ties: what a pid may be, how two stand; New, Link, Unlink. (Printed by sx/r15t.py.)
-/
import Derived.Test.YtjhgjbagmkiibaaR15TA
namespace Go.Proofs.Ytjhgjbagmkiibaa.E
open Go.Lg
set_option linter.unusedVariables false
set_option maxRecDepth 100000
set_option maxHeartbeats 8000000
set_option linter.unusedSimpArgs false
def mayP (a : PD.T) : Bool := decide (ILe 0 a.1 ∧ ILt a.1 256 ∧ ILe 1 a.2.1 ∧ ILe a.2.1 4611686018427387903)
theorem may_is {a : PD.T} (h : mayP a = true) : ILe 0 a.1 ∧ ILt a.1 256 ∧ ILe 1 a.2.1 ∧ ILe a.2.1 4611686018427387903 := of_decide_eq_true h
def ordP (a b : PD.T) : Int := cmpP (a.1, a.2.1) (b.1, b.2.1)
def pairOf (a b : PD.T) : PR.T := if 0 < ordP a b then (b, (a, ())) else (a, (b, ()))
theorem may_ok (a : PD.T)  : PureC pg an 32 [.agg [vi a.1, vi a.2.1]] [.one (vb (mayP a))] := by
 refine Runs.of (fn := Try.f32) Try.func32 rfl (by kernel_rfl) [(0, .y (.agg [vi a.1, vi a.2.1]))] (by kernel_rfl) ?_
 obtain ⟨n1, hn1⟩ : ∃ n, n = List.length ([] : Go.Lg.Heap) := ⟨_, rfl⟩
 refine Wp.regionSeq [(0, .y (.one (.ptr n1 0)), ([] ++ [.obj [vi a.1, vi a.2.1]]))] [(1, .y (.one (.ptr n1 0)))] ([] ++ [.obj [vi a.1, vi a.2.1]])
   (cast (And.intro (ob_box (P := pg) (A := an) (H := []) (t := 24) (ty := 0) (n := n1) (v := .agg [vi a.1, vi a.2.1]) (cs := [vi a.1, vi a.2.1]) hn1 (by kernel_rfl) (by kernel_rfl) (by kernel_rfl)) trivial) (by kernel_rfl)) (by kernel_rfl) ?_
 refine Wp.gen (cs := [pts n1 (.obj [vi a.1, vi a.2.1])]) (On.new' hn1 (.obj [vi a.1, vi a.2.1]) (On.nil [])) ?_
 intro H2 hs3
 rcases ile (0) (a.1) with c4 | c4
 ·
  rcases ilt (a.1) (256) with c5 | c5
  ·
   rcases ile (1) (a.2.1) with c6 | c6
   ·
    rcases ile (a.2.1) (4611686018427387903) with c7 | c7
    ·
     refine Wp.regionSeq [(1, xi a.1, H2), (2, xb true, H2), (5, xi a.1, H2), (6, xb true, H2), (10, xi a.2.1, H2), (11, xb true, H2), (15, xi a.2.1, H2), (16, xb true, H2)] [(2, xb true)] H2
       (cast (And.intro (ob_load_ptr (P := pg) (A := an) (H := H2) (t := 3) (ty := 0) (id := n1) (off := 0) (n := 1) (cs := [vi a.1, vi a.2.1]) (cs' := [vi a.1]) (v := .one (vi a.1)) (On.at hs3 0 rfl) (by kernel_rfl) (by kernel_rfl) (by kernel_rfl) (by kernel_rfl)) (And.intro (ob_raw (P := pg) (A := an) (vals := [xi a.1, xi 0]) (H := H2) (op := .binOp .geq 3 (.tmp 0) (.tmp 1) 3) (ty := 0) (r := xb (decide (ILe (0) (a.1)))) (v := xb true) (by kernel_rfl) (congrArg (fun z => xb z) (decide_eq_true (by omega)))) (And.intro (ob_load_ptr (P := pg) (A := an) (H := H2) (t := 3) (ty := 0) (id := n1) (off := 0) (n := 1) (cs := [vi a.1, vi a.2.1]) (cs' := [vi a.1]) (v := .one (vi a.1)) (On.at hs3 0 rfl) (by kernel_rfl) (by kernel_rfl) (by kernel_rfl) (by kernel_rfl)) (And.intro (ob_raw (P := pg) (A := an) (vals := [xi a.1, xi 256]) (H := H2) (op := .binOp .lss 3 (.tmp 0) (.tmp 1) 3) (ty := 0) (r := xb (decide (ILt (a.1) (256)))) (v := xb true) (by kernel_rfl) (congrArg (fun z => xb z) (decide_eq_true (by omega)))) (And.intro (ob_load_ptr (P := pg) (A := an) (H := H2) (t := 3) (ty := 0) (id := n1) (off := 1) (n := 1) (cs := [vi a.1, vi a.2.1]) (cs' := [vi a.2.1]) (v := .one (vi a.2.1)) (On.at hs3 0 rfl) (by kernel_rfl) (by kernel_rfl) (by kernel_rfl) (by kernel_rfl)) (And.intro (ob_raw (P := pg) (A := an) (vals := [xi a.2.1, xi 1]) (H := H2) (op := .binOp .geq 3 (.tmp 0) (.tmp 1) 3) (ty := 0) (r := xb (decide (ILe (1) (a.2.1)))) (v := xb true) (by kernel_rfl) (congrArg (fun z => xb z) (decide_eq_true (by omega)))) (And.intro (ob_load_ptr (P := pg) (A := an) (H := H2) (t := 3) (ty := 0) (id := n1) (off := 1) (n := 1) (cs := [vi a.1, vi a.2.1]) (cs' := [vi a.2.1]) (v := .one (vi a.2.1)) (On.at hs3 0 rfl) (by kernel_rfl) (by kernel_rfl) (by kernel_rfl) (by kernel_rfl)) (And.intro (ob_raw (P := pg) (A := an) (vals := [xi a.2.1, xi 4611686018427387903]) (H := H2) (op := .binOp .leq 3 (.tmp 0) (.tmp 1) 3) (ty := 0) (r := xb (decide (ILe (a.2.1) (4611686018427387903)))) (v := xb true) (by kernel_rfl) (congrArg (fun z => xb z) (decide_eq_true (by omega)))) trivial)))))))) (by kernel_rfl)) (by kernel_rfl) ?_
     refine Wp.ret ?_
     refine ⟨Or.inr rfl, [.one (vb true)], (by kernel_rfl), ?_⟩
     exact congrArg (fun z => some [Y.one (vb z)]) (show true = mayP a by unfold mayP; exact (decide_eq_true ⟨by omega, by omega, by omega, by omega⟩).symm)
    ·
     refine Wp.regionSeq [(1, xi a.1, H2), (2, xb true, H2), (5, xi a.1, H2), (6, xb true, H2), (10, xi a.2.1, H2), (11, xb true, H2), (15, xi a.2.1, H2), (16, xb false, H2)] [(2, xb false)] H2
       (cast (And.intro (ob_load_ptr (P := pg) (A := an) (H := H2) (t := 3) (ty := 0) (id := n1) (off := 0) (n := 1) (cs := [vi a.1, vi a.2.1]) (cs' := [vi a.1]) (v := .one (vi a.1)) (On.at hs3 0 rfl) (by kernel_rfl) (by kernel_rfl) (by kernel_rfl) (by kernel_rfl)) (And.intro (ob_raw (P := pg) (A := an) (vals := [xi a.1, xi 0]) (H := H2) (op := .binOp .geq 3 (.tmp 0) (.tmp 1) 3) (ty := 0) (r := xb (decide (ILe (0) (a.1)))) (v := xb true) (by kernel_rfl) (congrArg (fun z => xb z) (decide_eq_true (by omega)))) (And.intro (ob_load_ptr (P := pg) (A := an) (H := H2) (t := 3) (ty := 0) (id := n1) (off := 0) (n := 1) (cs := [vi a.1, vi a.2.1]) (cs' := [vi a.1]) (v := .one (vi a.1)) (On.at hs3 0 rfl) (by kernel_rfl) (by kernel_rfl) (by kernel_rfl) (by kernel_rfl)) (And.intro (ob_raw (P := pg) (A := an) (vals := [xi a.1, xi 256]) (H := H2) (op := .binOp .lss 3 (.tmp 0) (.tmp 1) 3) (ty := 0) (r := xb (decide (ILt (a.1) (256)))) (v := xb true) (by kernel_rfl) (congrArg (fun z => xb z) (decide_eq_true (by omega)))) (And.intro (ob_load_ptr (P := pg) (A := an) (H := H2) (t := 3) (ty := 0) (id := n1) (off := 1) (n := 1) (cs := [vi a.1, vi a.2.1]) (cs' := [vi a.2.1]) (v := .one (vi a.2.1)) (On.at hs3 0 rfl) (by kernel_rfl) (by kernel_rfl) (by kernel_rfl) (by kernel_rfl)) (And.intro (ob_raw (P := pg) (A := an) (vals := [xi a.2.1, xi 1]) (H := H2) (op := .binOp .geq 3 (.tmp 0) (.tmp 1) 3) (ty := 0) (r := xb (decide (ILe (1) (a.2.1)))) (v := xb true) (by kernel_rfl) (congrArg (fun z => xb z) (decide_eq_true (by omega)))) (And.intro (ob_load_ptr (P := pg) (A := an) (H := H2) (t := 3) (ty := 0) (id := n1) (off := 1) (n := 1) (cs := [vi a.1, vi a.2.1]) (cs' := [vi a.2.1]) (v := .one (vi a.2.1)) (On.at hs3 0 rfl) (by kernel_rfl) (by kernel_rfl) (by kernel_rfl) (by kernel_rfl)) (And.intro (ob_raw (P := pg) (A := an) (vals := [xi a.2.1, xi 4611686018427387903]) (H := H2) (op := .binOp .leq 3 (.tmp 0) (.tmp 1) 3) (ty := 0) (r := xb (decide (ILe (a.2.1) (4611686018427387903)))) (v := xb false) (by kernel_rfl) (congrArg (fun z => xb z) (decide_eq_false (by omega)))) trivial)))))))) (by kernel_rfl)) (by kernel_rfl) ?_
     refine Wp.ret ?_
     refine ⟨Or.inr rfl, [.one (vb false)], (by kernel_rfl), ?_⟩
     exact congrArg (fun z => some [Y.one (vb z)]) (show false = mayP a by unfold mayP; exact (decide_eq_false (by rintro ⟨g1, g2, g3, g4⟩; omega)).symm)
   ·
    refine Wp.regionSeq [(1, xi a.1, H2), (2, xb true, H2), (5, xi a.1, H2), (6, xb true, H2), (10, xi a.2.1, H2), (11, xb false, H2)] [(2, xb false)] H2
      (cast (And.intro (ob_load_ptr (P := pg) (A := an) (H := H2) (t := 3) (ty := 0) (id := n1) (off := 0) (n := 1) (cs := [vi a.1, vi a.2.1]) (cs' := [vi a.1]) (v := .one (vi a.1)) (On.at hs3 0 rfl) (by kernel_rfl) (by kernel_rfl) (by kernel_rfl) (by kernel_rfl)) (And.intro (ob_raw (P := pg) (A := an) (vals := [xi a.1, xi 0]) (H := H2) (op := .binOp .geq 3 (.tmp 0) (.tmp 1) 3) (ty := 0) (r := xb (decide (ILe (0) (a.1)))) (v := xb true) (by kernel_rfl) (congrArg (fun z => xb z) (decide_eq_true (by omega)))) (And.intro (ob_load_ptr (P := pg) (A := an) (H := H2) (t := 3) (ty := 0) (id := n1) (off := 0) (n := 1) (cs := [vi a.1, vi a.2.1]) (cs' := [vi a.1]) (v := .one (vi a.1)) (On.at hs3 0 rfl) (by kernel_rfl) (by kernel_rfl) (by kernel_rfl) (by kernel_rfl)) (And.intro (ob_raw (P := pg) (A := an) (vals := [xi a.1, xi 256]) (H := H2) (op := .binOp .lss 3 (.tmp 0) (.tmp 1) 3) (ty := 0) (r := xb (decide (ILt (a.1) (256)))) (v := xb true) (by kernel_rfl) (congrArg (fun z => xb z) (decide_eq_true (by omega)))) (And.intro (ob_load_ptr (P := pg) (A := an) (H := H2) (t := 3) (ty := 0) (id := n1) (off := 1) (n := 1) (cs := [vi a.1, vi a.2.1]) (cs' := [vi a.2.1]) (v := .one (vi a.2.1)) (On.at hs3 0 rfl) (by kernel_rfl) (by kernel_rfl) (by kernel_rfl) (by kernel_rfl)) (And.intro (ob_raw (P := pg) (A := an) (vals := [xi a.2.1, xi 1]) (H := H2) (op := .binOp .geq 3 (.tmp 0) (.tmp 1) 3) (ty := 0) (r := xb (decide (ILe (1) (a.2.1)))) (v := xb false) (by kernel_rfl) (congrArg (fun z => xb z) (decide_eq_false (by omega)))) trivial)))))) (by kernel_rfl)) (by kernel_rfl) ?_
    refine Wp.ret ?_
    refine ⟨Or.inr rfl, [.one (vb false)], (by kernel_rfl), ?_⟩
    exact congrArg (fun z => some [Y.one (vb z)]) (show false = mayP a by unfold mayP; exact (decide_eq_false (by rintro ⟨g1, g2, g3, g4⟩; omega)).symm)
  ·
   refine Wp.regionSeq [(1, xi a.1, H2), (2, xb true, H2), (5, xi a.1, H2), (6, xb false, H2)] [(2, xb false)] H2
     (cast (And.intro (ob_load_ptr (P := pg) (A := an) (H := H2) (t := 3) (ty := 0) (id := n1) (off := 0) (n := 1) (cs := [vi a.1, vi a.2.1]) (cs' := [vi a.1]) (v := .one (vi a.1)) (On.at hs3 0 rfl) (by kernel_rfl) (by kernel_rfl) (by kernel_rfl) (by kernel_rfl)) (And.intro (ob_raw (P := pg) (A := an) (vals := [xi a.1, xi 0]) (H := H2) (op := .binOp .geq 3 (.tmp 0) (.tmp 1) 3) (ty := 0) (r := xb (decide (ILe (0) (a.1)))) (v := xb true) (by kernel_rfl) (congrArg (fun z => xb z) (decide_eq_true (by omega)))) (And.intro (ob_load_ptr (P := pg) (A := an) (H := H2) (t := 3) (ty := 0) (id := n1) (off := 0) (n := 1) (cs := [vi a.1, vi a.2.1]) (cs' := [vi a.1]) (v := .one (vi a.1)) (On.at hs3 0 rfl) (by kernel_rfl) (by kernel_rfl) (by kernel_rfl) (by kernel_rfl)) (And.intro (ob_raw (P := pg) (A := an) (vals := [xi a.1, xi 256]) (H := H2) (op := .binOp .lss 3 (.tmp 0) (.tmp 1) 3) (ty := 0) (r := xb (decide (ILt (a.1) (256)))) (v := xb false) (by kernel_rfl) (congrArg (fun z => xb z) (decide_eq_false (by omega)))) trivial)))) (by kernel_rfl)) (by kernel_rfl) ?_
   refine Wp.ret ?_
   refine ⟨Or.inr rfl, [.one (vb false)], (by kernel_rfl), ?_⟩
   exact congrArg (fun z => some [Y.one (vb z)]) (show false = mayP a by unfold mayP; exact (decide_eq_false (by rintro ⟨g1, g2, g3, g4⟩; omega)).symm)
 ·
  refine Wp.regionSeq [(1, xi a.1, H2), (2, xb false, H2)] [(2, xb false)] H2
    (cast (And.intro (ob_load_ptr (P := pg) (A := an) (H := H2) (t := 3) (ty := 0) (id := n1) (off := 0) (n := 1) (cs := [vi a.1, vi a.2.1]) (cs' := [vi a.1]) (v := .one (vi a.1)) (On.at hs3 0 rfl) (by kernel_rfl) (by kernel_rfl) (by kernel_rfl) (by kernel_rfl)) (And.intro (ob_raw (P := pg) (A := an) (vals := [xi a.1, xi 0]) (H := H2) (op := .binOp .geq 3 (.tmp 0) (.tmp 1) 3) (ty := 0) (r := xb (decide (ILe (0) (a.1)))) (v := xb false) (by kernel_rfl) (congrArg (fun z => xb z) (decide_eq_false (by omega)))) trivial)) (by kernel_rfl)) (by kernel_rfl) ?_
  refine Wp.ret ?_
  refine ⟨Or.inr rfl, [.one (vb false)], (by kernel_rfl), ?_⟩
  exact congrArg (fun z => some [Y.one (vb z)]) (show false = mayP a by unfold mayP; exact (decide_eq_false (by rintro ⟨g1, g2, g3, g4⟩; omega)).symm)
theorem order_ok (a b : PD.T) (ha0 : ILe 0 a.1) (ha1 : ILt a.1 256) (hb0 : ILe 0 b.1) (hb1 : ILt b.1 256)  : PureC pg an 31 [.agg [vi a.1, vi a.2.1], .agg [vi b.1, vi b.2.1]] [.one (vi (ordP a b))] := by
 refine Runs.of (fn := Try.f31) Try.func31 rfl (by kernel_rfl) [(0, .y (.agg [vi a.1, vi a.2.1])), (1, .y (.agg [vi b.1, vi b.2.1]))] (by kernel_rfl) ?_
 obtain ⟨n1, hn1⟩ : ∃ n, n = List.length ([] : Go.Lg.Heap) := ⟨_, rfl⟩
 obtain ⟨n2, hn2⟩ : ∃ n, n = List.length (([] ++ [.obj [vi a.1, vi a.2.1]]) : Go.Lg.Heap) := ⟨_, rfl⟩
 refine Wp.regionSeq [(0, .y (.one (.ptr n1 0)), ([] ++ [.obj [vi a.1, vi a.2.1]])), (1, .y (.one (.ptr n2 0)), (([] ++ [.obj [vi a.1, vi a.2.1]]) ++ [.obj [vi b.1, vi b.2.1]]))] [(2, .y (.one (.ptr n1 0))), (3, .y (.one (.ptr n2 0)))] (([] ++ [.obj [vi a.1, vi a.2.1]]) ++ [.obj [vi b.1, vi b.2.1]])
   (cast (And.intro (ob_box (P := pg) (A := an) (H := []) (t := 24) (ty := 0) (n := n1) (v := .agg [vi a.1, vi a.2.1]) (cs := [vi a.1, vi a.2.1]) hn1 (by kernel_rfl) (by kernel_rfl) (by kernel_rfl)) (And.intro (ob_box (P := pg) (A := an) (H := ([] ++ [.obj [vi a.1, vi a.2.1]])) (t := 24) (ty := 0) (n := n2) (v := .agg [vi b.1, vi b.2.1]) (cs := [vi b.1, vi b.2.1]) hn2 (by kernel_rfl) (by kernel_rfl) (by kernel_rfl)) trivial)) (by kernel_rfl)) (by kernel_rfl) ?_
 refine Wp.gen (cs := [pts n1 (.obj [vi a.1, vi a.2.1]), pts n2 (.obj [vi b.1, vi b.2.1])]) (On.new' hn2 (.obj [vi b.1, vi b.2.1]) (On.new' hn1 (.obj [vi a.1, vi a.2.1]) (On.nil []))) ?_
 intro H3 hs4
 refine Wp.seq ?_
 rcases ieq (a.1) (b.1) with c5 | c5
 ·
  refine Wp.regionSeq [(1, xi a.1, H3), (3, xi b.1, H3), (4, xb false, H3)] [(2, .y (.one (.ptr n1 0))), (3, .y (.one (.ptr n2 0))), (9, xb false)] H3
    (cast (And.intro (ob_load_ptr (P := pg) (A := an) (H := H3) (t := 3) (ty := 0) (id := n1) (off := 0) (n := 1) (cs := [vi a.1, vi a.2.1]) (cs' := [vi a.1]) (v := .one (vi a.1)) (On.at hs4 0 rfl) (by kernel_rfl) (by kernel_rfl) (by kernel_rfl) (by kernel_rfl)) (And.intro (ob_load_ptr (P := pg) (A := an) (H := H3) (t := 3) (ty := 0) (id := n2) (off := 0) (n := 1) (cs := [vi b.1, vi b.2.1]) (cs' := [vi b.1]) (v := .one (vi b.1)) (On.at hs4 1 rfl) (by kernel_rfl) (by kernel_rfl) (by kernel_rfl) (by kernel_rfl)) (And.intro (ob_raw (P := pg) (A := an) (vals := [xi a.1, xi b.1]) (H := H3) (op := .binOp .neq 3 (.tmp 0) (.tmp 1) 3) (ty := 0) (r := xb (bneI (a.1) (b.1))) (v := xb false) (by kernel_rfl) (congrArg (fun z => xb z) (bne_f (by omega)))) trivial))) (by kernel_rfl)) (by kernel_rfl) ?_
  refine Wp.condF (by kernel_rfl) ?_
  refine Wp.skip ?_
  refine Wp.seq ?_
  refine Wp.block ?_
  rcases ilt (a.2.1) (b.2.1) with c6 | c6
  ·
   refine Wp.regionSeq [(1, xi a.2.1, H3), (3, xi b.2.1, H3), (4, xb true, H3)] [(2, .y (.one (.ptr n1 0))), (3, .y (.one (.ptr n2 0))), (15, xb true)] H3
     (cast (And.intro (ob_load_ptr (P := pg) (A := an) (H := H3) (t := 3) (ty := 0) (id := n1) (off := 1) (n := 1) (cs := [vi a.1, vi a.2.1]) (cs' := [vi a.2.1]) (v := .one (vi a.2.1)) (On.at hs4 0 rfl) (by kernel_rfl) (by kernel_rfl) (by kernel_rfl) (by kernel_rfl)) (And.intro (ob_load_ptr (P := pg) (A := an) (H := H3) (t := 3) (ty := 0) (id := n2) (off := 1) (n := 1) (cs := [vi b.1, vi b.2.1]) (cs' := [vi b.2.1]) (v := .one (vi b.2.1)) (On.at hs4 1 rfl) (by kernel_rfl) (by kernel_rfl) (by kernel_rfl) (by kernel_rfl)) (And.intro (ob_raw (P := pg) (A := an) (vals := [xi a.2.1, xi b.2.1]) (H := H3) (op := .binOp .lss 3 (.tmp 0) (.tmp 1) 3) (ty := 0) (r := xb (decide (ILt (a.2.1) (b.2.1)))) (v := xb true) (by kernel_rfl) (congrArg (fun z => xb z) (decide_eq_true (by omega)))) trivial))) (by kernel_rfl)) (by kernel_rfl) ?_
   refine Wp.condT (by kernel_rfl) ?_
   refine Wp.regionSeq [] [(4, xi (-1))] H3
     (cast trivial (by kernel_rfl)) (by kernel_rfl) ?_
   refine Wp.ret ?_
   refine ⟨Or.inr rfl, [.one (vi (-1))], (by kernel_rfl), ?_⟩
   exact congrArg (fun z : Int => some [Y.one (vi z)]) (show (-1) = ordP a b by unfold ordP cmpP; dsimp only; split <;> (first | rfl | omega | (split <;> first | rfl | omega | (split <;> omega)) | (exfalso; omega)))
  ·
   refine Wp.regionSeq [(1, xi a.2.1, H3), (3, xi b.2.1, H3), (4, xb false, H3)] [(2, .y (.one (.ptr n1 0))), (3, .y (.one (.ptr n2 0))), (15, xb false)] H3
     (cast (And.intro (ob_load_ptr (P := pg) (A := an) (H := H3) (t := 3) (ty := 0) (id := n1) (off := 1) (n := 1) (cs := [vi a.1, vi a.2.1]) (cs' := [vi a.2.1]) (v := .one (vi a.2.1)) (On.at hs4 0 rfl) (by kernel_rfl) (by kernel_rfl) (by kernel_rfl) (by kernel_rfl)) (And.intro (ob_load_ptr (P := pg) (A := an) (H := H3) (t := 3) (ty := 0) (id := n2) (off := 1) (n := 1) (cs := [vi b.1, vi b.2.1]) (cs' := [vi b.2.1]) (v := .one (vi b.2.1)) (On.at hs4 1 rfl) (by kernel_rfl) (by kernel_rfl) (by kernel_rfl) (by kernel_rfl)) (And.intro (ob_raw (P := pg) (A := an) (vals := [xi a.2.1, xi b.2.1]) (H := H3) (op := .binOp .lss 3 (.tmp 0) (.tmp 1) 3) (ty := 0) (r := xb (decide (ILt (a.2.1) (b.2.1)))) (v := xb false) (by kernel_rfl) (congrArg (fun z => xb z) (decide_eq_false (by omega)))) trivial))) (by kernel_rfl)) (by kernel_rfl) ?_
   refine Wp.condF (by kernel_rfl) ?_
   rcases ilt (b.2.1) (a.2.1) with c7 | c7
   ·
    refine Wp.regionSeq [(1, xi a.2.1, H3), (3, xi b.2.1, H3), (4, xb true, H3)] [(21, xb true)] H3
      (cast (And.intro (ob_load_ptr (P := pg) (A := an) (H := H3) (t := 3) (ty := 0) (id := n1) (off := 1) (n := 1) (cs := [vi a.1, vi a.2.1]) (cs' := [vi a.2.1]) (v := .one (vi a.2.1)) (On.at hs4 0 rfl) (by kernel_rfl) (by kernel_rfl) (by kernel_rfl) (by kernel_rfl)) (And.intro (ob_load_ptr (P := pg) (A := an) (H := H3) (t := 3) (ty := 0) (id := n2) (off := 1) (n := 1) (cs := [vi b.1, vi b.2.1]) (cs' := [vi b.2.1]) (v := .one (vi b.2.1)) (On.at hs4 1 rfl) (by kernel_rfl) (by kernel_rfl) (by kernel_rfl) (by kernel_rfl)) (And.intro (ob_raw (P := pg) (A := an) (vals := [xi a.2.1, xi b.2.1]) (H := H3) (op := .binOp .gtr 3 (.tmp 0) (.tmp 1) 3) (ty := 0) (r := xb (decide (ILt (b.2.1) (a.2.1)))) (v := xb true) (by kernel_rfl) (congrArg (fun z => xb z) (decide_eq_true (by omega)))) trivial))) (by kernel_rfl)) (by kernel_rfl) ?_
    refine Wp.condT (by kernel_rfl) ?_
    refine Wp.regionSeq [] [(4, xi 1)] H3
      (cast trivial (by kernel_rfl)) (by kernel_rfl) ?_
    refine Wp.ret ?_
    refine ⟨Or.inr rfl, [.one (vi 1)], (by kernel_rfl), ?_⟩
    exact congrArg (fun z : Int => some [Y.one (vi z)]) (show 1 = ordP a b by unfold ordP cmpP; dsimp only; split <;> (first | rfl | omega | (split <;> first | rfl | omega | (split <;> omega)) | (exfalso; omega)))
   ·
    refine Wp.regionSeq [(1, xi a.2.1, H3), (3, xi b.2.1, H3), (4, xb false, H3)] [(21, xb false)] H3
      (cast (And.intro (ob_load_ptr (P := pg) (A := an) (H := H3) (t := 3) (ty := 0) (id := n1) (off := 1) (n := 1) (cs := [vi a.1, vi a.2.1]) (cs' := [vi a.2.1]) (v := .one (vi a.2.1)) (On.at hs4 0 rfl) (by kernel_rfl) (by kernel_rfl) (by kernel_rfl) (by kernel_rfl)) (And.intro (ob_load_ptr (P := pg) (A := an) (H := H3) (t := 3) (ty := 0) (id := n2) (off := 1) (n := 1) (cs := [vi b.1, vi b.2.1]) (cs' := [vi b.2.1]) (v := .one (vi b.2.1)) (On.at hs4 1 rfl) (by kernel_rfl) (by kernel_rfl) (by kernel_rfl) (by kernel_rfl)) (And.intro (ob_raw (P := pg) (A := an) (vals := [xi a.2.1, xi b.2.1]) (H := H3) (op := .binOp .gtr 3 (.tmp 0) (.tmp 1) 3) (ty := 0) (r := xb (decide (ILt (b.2.1) (a.2.1)))) (v := xb false) (by kernel_rfl) (congrArg (fun z => xb z) (decide_eq_false (by omega)))) trivial))) (by kernel_rfl)) (by kernel_rfl) ?_
    refine Wp.condF (by kernel_rfl) ?_
    refine Wp.skip ?_
    refine Wp.regionSeq [] [(4, xi 0)] H3
      (cast trivial (by kernel_rfl)) (by kernel_rfl) ?_
    refine Wp.ret ?_
    refine ⟨Or.inr rfl, [.one (vi 0)], (by kernel_rfl), ?_⟩
    exact congrArg (fun z : Int => some [Y.one (vi z)]) (show 0 = ordP a b by unfold ordP cmpP; dsimp only; split <;> (first | rfl | omega | (split <;> first | rfl | omega | (split <;> omega)) | (exfalso; omega)))
 ·
  refine Wp.regionSeq [(1, xi a.1, H3), (3, xi b.1, H3), (4, xb true, H3)] [(2, .y (.one (.ptr n1 0))), (3, .y (.one (.ptr n2 0))), (9, xb true)] H3
    (cast (And.intro (ob_load_ptr (P := pg) (A := an) (H := H3) (t := 3) (ty := 0) (id := n1) (off := 0) (n := 1) (cs := [vi a.1, vi a.2.1]) (cs' := [vi a.1]) (v := .one (vi a.1)) (On.at hs4 0 rfl) (by kernel_rfl) (by kernel_rfl) (by kernel_rfl) (by kernel_rfl)) (And.intro (ob_load_ptr (P := pg) (A := an) (H := H3) (t := 3) (ty := 0) (id := n2) (off := 0) (n := 1) (cs := [vi b.1, vi b.2.1]) (cs' := [vi b.1]) (v := .one (vi b.1)) (On.at hs4 1 rfl) (by kernel_rfl) (by kernel_rfl) (by kernel_rfl) (by kernel_rfl)) (And.intro (ob_raw (P := pg) (A := an) (vals := [xi a.1, xi b.1]) (H := H3) (op := .binOp .neq 3 (.tmp 0) (.tmp 1) 3) (ty := 0) (r := xb (bneI (a.1) (b.1))) (v := xb true) (by kernel_rfl) (congrArg (fun z => xb z) (bne_t (by omega)))) trivial))) (by kernel_rfl)) (by kernel_rfl) ?_
  refine Wp.condT (by kernel_rfl) ?_
  refine Wp.regionSeq [(1, xi a.1, H3), (3, xi b.1, H3), (4, xi (a.1 - b.1), H3)] [(4, xi (a.1 - b.1))] H3
    (cast (And.intro (ob_load_ptr (P := pg) (A := an) (H := H3) (t := 3) (ty := 0) (id := n1) (off := 0) (n := 1) (cs := [vi a.1, vi a.2.1]) (cs' := [vi a.1]) (v := .one (vi a.1)) (On.at hs4 0 rfl) (by kernel_rfl) (by kernel_rfl) (by kernel_rfl) (by kernel_rfl)) (And.intro (ob_load_ptr (P := pg) (A := an) (H := H3) (t := 3) (ty := 0) (id := n2) (off := 0) (n := 1) (cs := [vi b.1, vi b.2.1]) (cs' := [vi b.1]) (v := .one (vi b.1)) (On.at hs4 1 rfl) (by kernel_rfl) (by kernel_rfl) (by kernel_rfl) (by kernel_rfl)) (And.intro (ob_raw (P := pg) (A := an) (vals := [xi a.1, xi b.1]) (H := H3) (op := .binOp .sub 3 (.tmp 0) (.tmp 1) 3) (ty := 0) (r := xi (IntKind.wrap .i64 (a.1 - b.1))) (v := xi (a.1 - b.1)) (by kernel_rfl) (congrArg (fun z => xi z) ((wrap64 (by omega)).trans (by omega)))) trivial))) (by kernel_rfl)) (by kernel_rfl) ?_
  refine Wp.ret ?_
  refine ⟨Or.inr rfl, [.one (vi (a.1 - b.1))], (by kernel_rfl), ?_⟩
  exact congrArg (fun z : Int => some [Y.one (vi z)]) (show (a.1 - b.1) = ordP a b by unfold ordP cmpP; dsimp only; split <;> (first | rfl | omega | (split <;> first | rfl | omega | (split <;> omega)) | (exfalso; omega)))
theorem paired_ok (a b : PD.T) (ha0 : ILe 0 a.1) (ha1 : ILt a.1 256) (hb0 : ILe 0 b.1) (hb1 : ILt b.1 256)  : PureC pg an 27 [.agg [vi a.1, vi a.2.1], .agg [vi b.1, vi b.2.1]] [.agg (enc PR (pairOf a b))] := by
 refine Runs.of (fn := Try.f27) Try.func27 rfl (by kernel_rfl) [(0, .y (.agg [vi a.1, vi a.2.1])), (1, .y (.agg [vi b.1, vi b.2.1]))] (by kernel_rfl) ?_
 obtain ⟨n1, hn1⟩ : ∃ n, n = List.length ([] : Go.Lg.Heap) := ⟨_, rfl⟩
 obtain ⟨n2, hn2⟩ : ∃ n, n = List.length (([] ++ [.obj [vi a.1, vi a.2.1]]) : Go.Lg.Heap) := ⟨_, rfl⟩
 obtain ⟨n3, hn3⟩ : ∃ n, n = List.length ((([] ++ [.obj [vi a.1, vi a.2.1]]) ++ [.obj [vi b.1, vi b.2.1]]) : Go.Lg.Heap) := ⟨_, rfl⟩
 refine Wp.regionSeq [(0, .y (.one (.ptr n1 0)), ([] ++ [.obj [vi a.1, vi a.2.1]])), (1, .y (.one (.ptr n2 0)), (([] ++ [.obj [vi a.1, vi a.2.1]]) ++ [.obj [vi b.1, vi b.2.1]])), (2, .y (.one (.ptr n3 0)), ((([] ++ [.obj [vi a.1, vi a.2.1]]) ++ [.obj [vi b.1, vi b.2.1]]) ++ [.obj [vi 0, vi 0, vi 0, vi 0]]))] [(2, .y (.one (.ptr n1 0))), (3, .y (.one (.ptr n2 0))), (4, .y (.one (.ptr n3 0)))] ((([] ++ [.obj [vi a.1, vi a.2.1]]) ++ [.obj [vi b.1, vi b.2.1]]) ++ [.obj [vi 0, vi 0, vi 0, vi 0]])
   (cast (And.intro (ob_box (P := pg) (A := an) (H := []) (t := 24) (ty := 0) (n := n1) (v := .agg [vi a.1, vi a.2.1]) (cs := [vi a.1, vi a.2.1]) hn1 (by kernel_rfl) (by kernel_rfl) (by kernel_rfl)) (And.intro (ob_box (P := pg) (A := an) (H := ([] ++ [.obj [vi a.1, vi a.2.1]])) (t := 24) (ty := 0) (n := n2) (v := .agg [vi b.1, vi b.2.1]) (cs := [vi b.1, vi b.2.1]) hn2 (by kernel_rfl) (by kernel_rfl) (by kernel_rfl)) (And.intro (ob_alloc (P := pg) (A := an) (H := (([] ++ [.obj [vi a.1, vi a.2.1]]) ++ [.obj [vi b.1, vi b.2.1]])) (t := 67) (ty := 0) (n := n3) (cs := [vi 0, vi 0, vi 0, vi 0]) hn3 (by kernel_rfl)) trivial))) (by kernel_rfl)) (by kernel_rfl) ?_
 refine Wp.gen (cs := [pts n1 (.obj [vi a.1, vi a.2.1]), pts n2 (.obj [vi b.1, vi b.2.1]), pts n3 (.obj [vi 0, vi 0, vi 0, vi 0])]) (On.new' hn3 (.obj [vi 0, vi 0, vi 0, vi 0]) (On.new' hn2 (.obj [vi b.1, vi b.2.1]) (On.new' hn1 (.obj [vi a.1, vi a.2.1]) (On.nil [])))) ?_
 intro H4 hs5
 refine Wp.seq ?_
 rcases ilt (0) ((ordP a b)) with c6 | c6
 ·
  refine Wp.regionSeq [(0, .y (.agg [vi a.1, vi a.2.1]), H4), (1, .y (.agg [vi b.1, vi b.2.1]), H4), (2, xi (ordP a b), H4), (3, xb true, H4)] [(2, .y (.one (.ptr n1 0))), (3, .y (.one (.ptr n2 0))), (4, .y (.one (.ptr n3 0))), (8, xb true)] H4
    (cast (And.intro (ob_load_ptr (P := pg) (A := an) (H := H4) (t := 24) (ty := 0) (id := n1) (off := 0) (n := 2) (cs := [vi a.1, vi a.2.1]) (cs' := [vi a.1, vi a.2.1]) (v := .agg [vi a.1, vi a.2.1]) (On.at hs5 0 rfl) (by kernel_rfl) (by kernel_rfl) (by kernel_rfl) (by kernel_rfl)) (And.intro (ob_load_ptr (P := pg) (A := an) (H := H4) (t := 24) (ty := 0) (id := n2) (off := 0) (n := 2) (cs := [vi b.1, vi b.2.1]) (cs' := [vi b.1, vi b.2.1]) (v := .agg [vi b.1, vi b.2.1]) (On.at hs5 1 rfl) (by kernel_rfl) (by kernel_rfl) (by kernel_rfl) (by kernel_rfl)) (And.intro (ob_pure (P := pg) (A := an) (H := H4) (g := 31) (vals := [.y (.agg [vi a.1, vi a.2.1]), .y (.agg [vi b.1, vi b.2.1])]) (xs0 := [.agg [vi a.1, vi a.2.1], .agg [vi b.1, vi b.2.1]]) (xs1 := [.agg [vi a.1, vi a.2.1], .agg [vi b.1, vi b.2.1]]) (res := [.one (vi (ordP a b))]) (ats := #[]) (ty := 0) (v := xi (ordP a b)) [.tmp 0, .tmp 1] (by kernel_rfl) (by kernel_rfl) (snap_cons (by kernel_rfl) (snap_cons (by kernel_rfl) (snap_nil))) (order_ok a b (by omega) (by omega) (by omega) (by omega)) (by kernel_rfl)) (And.intro (ob_raw (P := pg) (A := an) (vals := [xi (ordP a b), xi 0]) (H := H4) (op := .binOp .gtr 3 (.tmp 0) (.tmp 1) 3) (ty := 0) (r := xb (decide (ILt (0) ((ordP a b))))) (v := xb true) (by kernel_rfl) (congrArg (fun z => xb z) (decide_eq_true (by omega)))) trivial)))) (by kernel_rfl)) (by kernel_rfl) ?_
  refine Wp.condT (by kernel_rfl) ?_
  refine Wp.regionSeq [(0, .y (.agg [vi b.1, vi b.2.1]), H4), (1, .y (.agg [vi a.1, vi a.2.1]), H4), (3, .tup [], (List.set (α := O) H4 n3 (.obj [vi b.1, vi b.2.1, vi a.1, vi a.2.1])))] [(4, .y (.one (.ptr n3 0)))] (List.set (α := O) H4 n3 (.obj [vi b.1, vi b.2.1, vi a.1, vi a.2.1]))
    (cast (And.intro (ob_load_ptr (P := pg) (A := an) (H := H4) (t := 24) (ty := 0) (id := n2) (off := 0) (n := 2) (cs := [vi b.1, vi b.2.1]) (cs' := [vi b.1, vi b.2.1]) (v := .agg [vi b.1, vi b.2.1]) (On.at hs5 1 rfl) (by kernel_rfl) (by kernel_rfl) (by kernel_rfl) (by kernel_rfl)) (And.intro (ob_load_ptr (P := pg) (A := an) (H := H4) (t := 24) (ty := 0) (id := n1) (off := 0) (n := 2) (cs := [vi a.1, vi a.2.1]) (cs' := [vi a.1, vi a.2.1]) (v := .agg [vi a.1, vi a.2.1]) (On.at hs5 0 rfl) (by kernel_rfl) (by kernel_rfl) (by kernel_rfl) (by kernel_rfl)) (And.intro (ob_store_ptr (P := pg) (A := an) (H := H4) (t := 67) (ty := 0) (id := n3) (off := 0) (cs := [vi 0, vi 0, vi 0, vi 0]) (cs' := [vi b.1, vi b.2.1, vi a.1, vi a.2.1]) (v := .agg [vi b.1, vi b.2.1, vi a.1, vi a.2.1]) (On.at hs5 2 rfl) (by kernel_rfl) (by kernel_rfl) (by kernel_rfl)) trivial))) (by kernel_rfl)) (by kernel_rfl) ?_
  refine Wp.gen (cs := [pts n1 (.obj [vi a.1, vi a.2.1]), pts n2 (.obj [vi b.1, vi b.2.1]), pts n3 (.obj [vi b.1, vi b.2.1, vi a.1, vi a.2.1])]) (On.put (.obj [vi b.1, vi b.2.1, vi a.1, vi a.2.1]) hs5 2 rfl) ?_
  intro H7 hs8
  refine Wp.ret ?_
  refine ⟨Or.inr rfl, [.agg [vi b.1, vi b.2.1, vi a.1, vi a.2.1]], (cast (res_cons (P := pg) (e := [(4, .y (.one (.ptr n3 0)))]) (H := H7) (res_cell (P := pg) (e := [(4, .y (.one (.ptr n3 0)))]) (H := H7) (a := 4) (t := 67) (id := n3) (off := 0) (n := 4) (cs := [vi b.1, vi b.2.1, vi a.1, vi a.2.1]) (cs' := [vi b.1, vi b.2.1, vi a.1, vi a.2.1]) (v := .agg [vi b.1, vi b.2.1, vi a.1, vi a.2.1]) (by kernel_rfl) (by kernel_rfl) (On.at hs8 2 rfl) (by kernel_rfl) (by kernel_rfl) (by kernel_rfl)) res_nil) (by kernel_rfl)), ?_⟩
  exact congrArg (fun z : PR.T => some [Y.agg (enc PR z)]) (show ((b, (a, ())) : PR.T) = pairOf a b by unfold pairOf; rw [if_pos (by omega)])
 ·
  refine Wp.regionSeq [(0, .y (.agg [vi a.1, vi a.2.1]), H4), (1, .y (.agg [vi b.1, vi b.2.1]), H4), (2, xi (ordP a b), H4), (3, xb false, H4)] [(2, .y (.one (.ptr n1 0))), (3, .y (.one (.ptr n2 0))), (4, .y (.one (.ptr n3 0))), (8, xb false)] H4
    (cast (And.intro (ob_load_ptr (P := pg) (A := an) (H := H4) (t := 24) (ty := 0) (id := n1) (off := 0) (n := 2) (cs := [vi a.1, vi a.2.1]) (cs' := [vi a.1, vi a.2.1]) (v := .agg [vi a.1, vi a.2.1]) (On.at hs5 0 rfl) (by kernel_rfl) (by kernel_rfl) (by kernel_rfl) (by kernel_rfl)) (And.intro (ob_load_ptr (P := pg) (A := an) (H := H4) (t := 24) (ty := 0) (id := n2) (off := 0) (n := 2) (cs := [vi b.1, vi b.2.1]) (cs' := [vi b.1, vi b.2.1]) (v := .agg [vi b.1, vi b.2.1]) (On.at hs5 1 rfl) (by kernel_rfl) (by kernel_rfl) (by kernel_rfl) (by kernel_rfl)) (And.intro (ob_pure (P := pg) (A := an) (H := H4) (g := 31) (vals := [.y (.agg [vi a.1, vi a.2.1]), .y (.agg [vi b.1, vi b.2.1])]) (xs0 := [.agg [vi a.1, vi a.2.1], .agg [vi b.1, vi b.2.1]]) (xs1 := [.agg [vi a.1, vi a.2.1], .agg [vi b.1, vi b.2.1]]) (res := [.one (vi (ordP a b))]) (ats := #[]) (ty := 0) (v := xi (ordP a b)) [.tmp 0, .tmp 1] (by kernel_rfl) (by kernel_rfl) (snap_cons (by kernel_rfl) (snap_cons (by kernel_rfl) (snap_nil))) (order_ok a b (by omega) (by omega) (by omega) (by omega)) (by kernel_rfl)) (And.intro (ob_raw (P := pg) (A := an) (vals := [xi (ordP a b), xi 0]) (H := H4) (op := .binOp .gtr 3 (.tmp 0) (.tmp 1) 3) (ty := 0) (r := xb (decide (ILt (0) ((ordP a b))))) (v := xb false) (by kernel_rfl) (congrArg (fun z => xb z) (decide_eq_false (by omega)))) trivial)))) (by kernel_rfl)) (by kernel_rfl) ?_
  refine Wp.condF (by kernel_rfl) ?_
  refine Wp.skip ?_
  refine Wp.regionSeq [(0, .y (.agg [vi a.1, vi a.2.1]), H4), (1, .y (.agg [vi b.1, vi b.2.1]), H4), (3, .tup [], (List.set (α := O) H4 n3 (.obj [vi a.1, vi a.2.1, vi b.1, vi b.2.1])))] [(4, .y (.one (.ptr n3 0)))] (List.set (α := O) H4 n3 (.obj [vi a.1, vi a.2.1, vi b.1, vi b.2.1]))
    (cast (And.intro (ob_load_ptr (P := pg) (A := an) (H := H4) (t := 24) (ty := 0) (id := n1) (off := 0) (n := 2) (cs := [vi a.1, vi a.2.1]) (cs' := [vi a.1, vi a.2.1]) (v := .agg [vi a.1, vi a.2.1]) (On.at hs5 0 rfl) (by kernel_rfl) (by kernel_rfl) (by kernel_rfl) (by kernel_rfl)) (And.intro (ob_load_ptr (P := pg) (A := an) (H := H4) (t := 24) (ty := 0) (id := n2) (off := 0) (n := 2) (cs := [vi b.1, vi b.2.1]) (cs' := [vi b.1, vi b.2.1]) (v := .agg [vi b.1, vi b.2.1]) (On.at hs5 1 rfl) (by kernel_rfl) (by kernel_rfl) (by kernel_rfl) (by kernel_rfl)) (And.intro (ob_store_ptr (P := pg) (A := an) (H := H4) (t := 67) (ty := 0) (id := n3) (off := 0) (cs := [vi 0, vi 0, vi 0, vi 0]) (cs' := [vi a.1, vi a.2.1, vi b.1, vi b.2.1]) (v := .agg [vi a.1, vi a.2.1, vi b.1, vi b.2.1]) (On.at hs5 2 rfl) (by kernel_rfl) (by kernel_rfl) (by kernel_rfl)) trivial))) (by kernel_rfl)) (by kernel_rfl) ?_
  refine Wp.gen (cs := [pts n1 (.obj [vi a.1, vi a.2.1]), pts n2 (.obj [vi b.1, vi b.2.1]), pts n3 (.obj [vi a.1, vi a.2.1, vi b.1, vi b.2.1])]) (On.put (.obj [vi a.1, vi a.2.1, vi b.1, vi b.2.1]) hs5 2 rfl) ?_
  intro H9 hs10
  refine Wp.ret ?_
  refine ⟨Or.inr rfl, [.agg [vi a.1, vi a.2.1, vi b.1, vi b.2.1]], (cast (res_cons (P := pg) (e := [(4, .y (.one (.ptr n3 0)))]) (H := H9) (res_cell (P := pg) (e := [(4, .y (.one (.ptr n3 0)))]) (H := H9) (a := 4) (t := 67) (id := n3) (off := 0) (n := 4) (cs := [vi a.1, vi a.2.1, vi b.1, vi b.2.1]) (cs' := [vi a.1, vi a.2.1, vi b.1, vi b.2.1]) (v := .agg [vi a.1, vi a.2.1, vi b.1, vi b.2.1]) (by kernel_rfl) (by kernel_rfl) (On.at hs10 2 rfl) (by kernel_rfl) (by kernel_rfl) (by kernel_rfl)) res_nil) (by kernel_rfl)), ?_⟩
  exact congrArg (fun z : PR.T => some [Y.agg (enc PR z)]) (show ((a, (b, ())) : PR.T) = pairOf a b by unfold pairOf; rw [if_neg (by omega)])
theorem paired_q (a b : PD.T) (q : PR.T) (hq : q = pairOf a b) (ha0 : ILe 0 a.1) (ha1 : ILt a.1 256) (hb0 : ILe 0 b.1) (hb1 : ILt b.1 256) : PureC pg an 27 [.agg [vi a.1, vi a.2.1], .agg [vi b.1, vi b.2.1]] [.agg [vi q.1.1, vi q.1.2.1, vi q.2.1.1, vi q.2.1.2.1]] := by
  have h := paired_ok a b ha0 ha1 hb0 hb1
  rw [← hq] at h
  exact h
end Go.Proofs.Ytjhgjbagmkiibaa.E
